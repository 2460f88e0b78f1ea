/- Laws of chapter 17 (slots, the last instruction, fields): contracts of the functions, the plain laws, the cards. No condition. (Part 5: YtjobleemmjjocaaDoorV31, CdFa, AmR, CdI, AmUB, YtjobleemmjjocaaDoorMk, YtjobleemmjjocaaDoorV11, CdL, YtjobleemmjjocaaDoorV78, YtjobleemmjjocaaDoorV88, YtjobleemmjjocaaDoorV79, YtjobleemmjjocaaDoorV66, YtjobleemmjjocaaDoorV39, CdJa, CdK, YtjobleemmjjocaaDoorV16, CdM, CdLh, CdMh, YtjobleemmjjocaaDoorT.) -/
import Derived.Carry
import Derived.ChangeSame
import Derived.ChangeOld
import Derived.ChangeCalls
import Derived.WideShapes
import Derived.Test.YtjobleemmjjocaaDoorRows
import Derived.Test.YtjobleemmjjocaaDoorTie
import Derived.Test.YtjobleemmjjocaaDoorCards
import Derived.JoinedOf
import Derived.JoinedAt
import Derived.RowKit
import Derived.RowKit2
import Derived.ReadAgain
import Derived.ChangeAlike
import Derived.Lay
import Derived.Handed
import Derived.LaidSub
import Derived.LaidLaws
import Derived.LaidHandle
import Derived.MakeChecks
import Derived.SevenTiedAt
import Derived.Lib.LaidTab
import Derived.Lib.LaidU8
import Derived.Test.YtjobleemmjjocaaDoorCfzD
set_option linter.unusedVariables false
set_option linter.unusedSimpArgs false
set_option linter.unusedVariables false
noncomputable section
namespace Go.Proofs.YtjobleemmjjocaaDoor
open Go Go.AM
def L31_3 : Nat → (List D) → Int → Option (Bool)
  | 0, _, _ => none
  | n + 1, l3, z45 =>
    lenF l3 fun z46 => (if z45 < z46 then getF l3 z45 fun x47 => ds_t82 x47 fun z48 s49 l50 z51 s52 l53 l54 z55 z56 s57 s58 s59 l60 l61 z62 z63 => lenF l50 fun z64 => (if (20 : Int) < z64 then some true else getF l3 z45 fun x65 => ds_t82 x65 fun z66 s67 l68 z69 s70 l71 l72 z73 z74 s75 s76 s77 l78 l79 z80 z81 => szF s67 fun z82 => (if (1000 : Int) < z82 then some true else letF (IntKind.wrap .i64 (z45 + 1)) fun z83 => L31_3 n l3 z83)) else some false)
mutual
def L31_1 : Nat → (List D) → (List D) → Int → Option (Bool)
  | 0, _, _, _ => none
  | n + 1, l1, l3, z6 =>
    lenF l1 fun z7 => (if z6 < z7 then getF l1 z6 fun x8 => ds_t56 x8 fun s9 z10 z11 l12 => lenF l12 fun z13 => (if (300 : Int) < z13 then some true else getF l1 z6 fun x14 => ds_t56 x14 fun s15 z16 z17 l18 => szF s15 fun z19 => (if (1000 : Int) < z19 then some true else L31_2 n l1 l3 z6 (0 : Int))) else L31_3 n l3 (0 : Int))
def L31_2 : Nat → (List D) → (List D) → Int → Int → Option (Bool)
  | 0, _, _, _, _ => none
  | n + 1, l1, l3, z6, z20 =>
    getF l1 z6 fun x21 => ds_t56 x21 fun s22 z23 z24 l25 => lenF l25 fun z26 => (if z20 < z26 then getF l1 z6 fun x27 => ds_t56 x27 fun s28 z29 z30 l31 => getF l31 z20 fun x32 => ds_t48 x32 fun z33 z34 z35 z36 l37 l38 z39 s40 l41 => bO1 (F32 n z33 z34 z35 z36 l37 l38 z39 s40 l41) fun b42 => (if b42 = true then some true else letF (IntKind.wrap .i64 (z20 + 1)) fun z43 => L31_2 n l1 l3 z6 z43) else letF (IntKind.wrap .i64 (z6 + 1)) fun z44 => L31_1 n l1 l3 z44)
end
def F31 (n : Nat) (l1 : List D) (z2 : Int) (l3 : List D) : Option (Bool) :=
  lenF l1 fun z4 => (if (30 : Int) < z4 then some true else lenF l3 fun z5 => (if (40 : Int) < z5 then some true else L31_1 n l1 l3 (0 : Int)))
set_option maxRecDepth 100000 in
set_option maxHeartbeats 40000000 in
theorem T31 (n : Nat) : ∀ ⦃l1 : List D⦄ ⦃z2 : Int⦄ ⦃l3 : List D⦄ ⦃r1 : Bool⦄, F31 n l1 z2 l3 = some r1 →
    Trip Tryd.prog inv 31 [.d (.agg [.list true 4 l1, .int .i64 z2, .list true 16 l3])] [] (.v (.d (.bool r1))) [] [] := by
  intro l1 z2 l3 r1 h
  unfold F31 at h
  refine Trip.of tab_ok tab_one fol Tryd.func31 rfl (by kernel_rfl) rfl rfl rfl (fun M hM hI => ?_)
  try cbv
  refine seq_go ?_
  try cbv
  refine seq_go ?_
  try cbv
  refine seq_go ?_
  try cbv
  replace h := lenF_inv M h
  obtain ⟨z4, hz, h⟩ := h
  refine ⟨z4, hz, ?_⟩
  clear hz
  try cbv
  refine splitL (fun e => ?_) (fun e => ?_)
  · replace h := ite_t e h
    clear e
    try cbv
    refine seq_go ?_
    try cbv
    obtain rfl := Option.some.inj h
    refine fin_go ?_
    try cbv
    exact ⟨[], rfl, rfl, trivial, trivial, trivial⟩
  · replace h := ite_f (Int.not_lt.2 e) h
    clear e
    try cbv
    replace h := lenF_inv M h
    obtain ⟨z5, hz, h⟩ := h
    refine ⟨z5, hz, ?_⟩
    clear hz
    try cbv
    refine splitL (fun e => ?_) (fun e => ?_)
    · replace h := ite_t e h
      clear e
      try cbv
      refine seq_go ?_
      try cbv
      obtain rfl := Option.some.inj h
      refine fin_go ?_
      try cbv
      exact ⟨[], rfl, rfl, trivial, trivial, trivial⟩
    · replace h := ite_f (Int.not_lt.2 e) h
      clear e
      try cbv
      refine seq_go ?_
      try cbv
      refine seq_go ?_
      try cbv
      refine loop_inv (T := Nat × Int) [1, 2, 3] [.loc 0] 416 (fun t => ⟨[(1, .v (.c (.ptr (.loc 0) 0))), (2, .v (.d (.bool false))), (3, .v (.d (.int .i64 t.2)))], [(.loc 0, .cells [.d (.list true 4 l1), .d (.int .i64 z2), .d (.list true 16 l3)])], 416⟩)
        (fun t => t.1 ≤ n ∧ L31_1 t.1 l1 l3 t.2 = some r1) (fun t => t.1) (n, (0 : Int)) ⟨Nat.le_refl _, h⟩ (by cbv) ?_
      clear h
      rintro ⟨m1, z6⟩ ⟨hm1, h⟩
      replace hm1 : m1 ≤ n := hm1
      cases m1 with
      | zero =>
        replace h : L31_1 0 l1 l3 z6 = some r1 := h
        rw [L31_1] at h
        cases h
      | succ m1 =>
        replace h : L31_1 (m1 + 1) l1 l3 z6 = some r1 := h
        rw [L31_1] at h
        try cbv
        refine seq_go ?_
        try cbv
        refine seq_go ?_
        try cbv
        replace h := lenF_inv M h
        obtain ⟨z7, hz, h⟩ := h
        refine ⟨z7, hz, ?_⟩
        clear hz
        try cbv
        refine splitL (fun e => ?_) (fun e => ?_)
        · replace h := ite_t e h
          clear e
          try cbv
          refine seq_go ?_
          try cbv
          refine seq_go ?_
          try cbv
          refine seq_go ?_
          try cbv
          replace h := getF_inv h
          obtain ⟨x8, ⟨hx0, hx⟩, h⟩ := h
          refine ⟨x8, hx0, hx, ?_⟩
          clear hx0 hx
          replace h := ds_t56_inv h
          obtain ⟨s9, z10, z11, l12, rfl, h⟩ := h
          try cbv
          replace h := lenF_inv M h
          obtain ⟨z13, hz, h⟩ := h
          refine ⟨z13, hz, ?_⟩
          clear hz
          try cbv
          refine splitL (fun e => ?_) (fun e => ?_)
          · replace h := ite_t e h
            clear e
            try cbv
            refine seq_go ?_
            try cbv
            obtain rfl := Option.some.inj h
            refine fin_go ?_
            try cbv
            exact ⟨[], rfl, rfl, trivial, trivial, trivial⟩
          · replace h := ite_f (Int.not_lt.2 e) h
            clear e
            try cbv
            replace h := getF_inv h
            obtain ⟨x14, ⟨hx0, hx⟩, h⟩ := h
            refine ⟨x14, hx0, hx, ?_⟩
            clear hx0 hx
            replace h := ds_t56_inv h
            obtain ⟨s15, z16, z17, l18, rfl, h⟩ := h
            try cbv
            replace h := szF_inv M h
            obtain ⟨z19, hz, h⟩ := h
            refine ⟨z19, hz, ?_⟩
            clear hz
            try cbv
            refine splitL (fun e => ?_) (fun e => ?_)
            · replace h := ite_t e h
              clear e
              try cbv
              refine seq_go ?_
              try cbv
              obtain rfl := Option.some.inj h
              refine fin_go ?_
              try cbv
              exact ⟨[], rfl, rfl, trivial, trivial, trivial⟩
            · replace h := ite_f (Int.not_lt.2 e) h
              clear e
              try cbv
              refine seq_go ?_
              try cbv
              refine loop_inv (T := Nat × Int) [1, 2, 3, 4] [.loc 0] 1184 (fun t => ⟨[(1, .v (.c (.ptr (.loc 0) 0))), (2, .v (.d (.bool false))), (3, .v (.d (.int .i64 z6))), (4, .v (.d (.int .i64 t.2)))], [(.loc 0, .cells [.d (.list true 4 l1), .d (.int .i64 z2), .d (.list true 16 l3)])], 1184⟩)
                (fun t => t.1 ≤ m1 ∧ L31_2 t.1 l1 l3 z6 t.2 = some r1) (fun t => t.1) (m1, (0 : Int)) ⟨Nat.le_refl _, h⟩ (by cbv) ?_
              clear h
              rintro ⟨m2, z20⟩ ⟨hm2, h⟩
              replace hm2 : m2 ≤ m1 := hm2
              cases m2 with
              | zero =>
                replace h : L31_2 0 l1 l3 z6 z20 = some r1 := h
                rw [L31_2] at h
                cases h
              | succ m2 =>
                replace h : L31_2 (m2 + 1) l1 l3 z6 z20 = some r1 := h
                rw [L31_2] at h
                try cbv
                refine seq_go ?_
                try cbv
                refine seq_go ?_
                try cbv
                replace h := getF_inv h
                obtain ⟨x21, ⟨hx0, hx⟩, h⟩ := h
                refine ⟨x21, hx0, hx, ?_⟩
                clear hx0 hx
                replace h := ds_t56_inv h
                obtain ⟨s22, z23, z24, l25, rfl, h⟩ := h
                try cbv
                replace h := lenF_inv M h
                obtain ⟨z26, hz, h⟩ := h
                refine ⟨z26, hz, ?_⟩
                clear hz
                try cbv
                refine splitL (fun e => ?_) (fun e => ?_)
                · replace h := ite_t e h
                  clear e
                  try cbv
                  refine seq_go ?_
                  try cbv
                  refine seq_go ?_
                  try cbv
                  replace h := getF_inv h
                  obtain ⟨x27, ⟨hx0, hx⟩, h⟩ := h
                  refine ⟨x27, hx0, hx, ?_⟩
                  clear hx0 hx
                  replace h := ds_t56_inv h
                  obtain ⟨s28, z29, z30, l31, rfl, h⟩ := h
                  try cbv
                  replace h := getF_inv h
                  obtain ⟨x32, ⟨hx0, hx⟩, h⟩ := h
                  refine ⟨x32, hx0, hx, ?_⟩
                  clear hx0 hx
                  replace h := ds_t48_inv h
                  obtain ⟨z33, z34, z35, z36, l37, l38, z39, s40, l41, rfl, h⟩ := h
                  try cbv
                  replace h := bO1_inv h
                  obtain ⟨b42, hr, h⟩ := h
                  refine call_go rfl rfl ?_
                  try cbv
                  refine call_pure hM hI (T32 _ hr) rfl ?_
                  clear hr
                  try cbv
                  cases b42
                  · replace h := ite_f Bool.false_ne_true h
                    try cbv
                    replace h := letF_inv h
                    obtain ⟨z43, hz, h⟩ := h
                    refine ⟨z43, hz, ?_⟩
                    clear hz
                    try cbv
                    exact loop_next (m2, z43) [1, 2, 3, 4] [.loc 0] 1184 ⟨by omega, h⟩ (Nat.lt_succ_of_le (by omega)) (by cbv)
                  · replace h := ite_t rfl h
                    try cbv
                    refine seq_go ?_
                    try cbv
                    obtain rfl := Option.some.inj h
                    refine fin_go ?_
                    try cbv
                    exact ⟨[], rfl, rfl, trivial, trivial, trivial⟩
                · replace h := ite_f (Int.not_lt.2 e) h
                  clear e
                  try cbv
                  replace h := letF_inv h
                  obtain ⟨z44, hz, h⟩ := h
                  refine ⟨z44, hz, ?_⟩
                  clear hz
                  try cbv
                  exact loop_next (m2, z44) [1, 2, 3] [.loc 0] 416 ⟨by omega, h⟩ (Nat.lt_succ_of_le (by omega)) (by cbv)
        · replace h := ite_f (Int.not_lt.2 e) h
          clear e
          try cbv
          refine seq_go ?_
          try cbv
          refine seq_go ?_
          try cbv
          refine loop_inv (T := Nat × Int) [1, 2, 3, 5] [.loc 0] 608 (fun t => ⟨[(1, .v (.c (.ptr (.loc 0) 0))), (2, .v (.d (.bool false))), (3, .v (.d (.int .i64 z6))), (5, .v (.d (.int .i64 t.2)))], [(.loc 0, .cells [.d (.list true 4 l1), .d (.int .i64 z2), .d (.list true 16 l3)])], 608⟩)
            (fun t => t.1 ≤ m1 ∧ L31_3 t.1 l3 t.2 = some r1) (fun t => t.1) (m1, (0 : Int)) ⟨Nat.le_refl _, h⟩ (by cbv) ?_
          clear h
          rintro ⟨m3, z45⟩ ⟨hm3, h⟩
          replace hm3 : m3 ≤ m1 := hm3
          cases m3 with
          | zero =>
            replace h : L31_3 0 l3 z45 = some r1 := h
            rw [L31_3] at h
            cases h
          | succ m3 =>
            replace h : L31_3 (m3 + 1) l3 z45 = some r1 := h
            rw [L31_3] at h
            try cbv
            refine seq_go ?_
            try cbv
            refine seq_go ?_
            try cbv
            replace h := lenF_inv M h
            obtain ⟨z46, hz, h⟩ := h
            refine ⟨z46, hz, ?_⟩
            clear hz
            try cbv
            refine splitL (fun e => ?_) (fun e => ?_)
            · replace h := ite_t e h
              clear e
              try cbv
              refine seq_go ?_
              try cbv
              refine seq_go ?_
              try cbv
              replace h := getF_inv h
              obtain ⟨x47, ⟨hx0, hx⟩, h⟩ := h
              refine ⟨x47, hx0, hx, ?_⟩
              clear hx0 hx
              replace h := ds_t82_inv h
              obtain ⟨z48, s49, l50, z51, s52, l53, l54, z55, z56, s57, s58, s59, l60, l61, z62, z63, rfl, h⟩ := h
              try cbv
              replace h := lenF_inv M h
              obtain ⟨z64, hz, h⟩ := h
              refine ⟨z64, hz, ?_⟩
              clear hz
              try cbv
              refine splitL (fun e => ?_) (fun e => ?_)
              · replace h := ite_t e h
                clear e
                try cbv
                refine seq_go ?_
                try cbv
                obtain rfl := Option.some.inj h
                refine fin_go ?_
                try cbv
                exact ⟨[], rfl, rfl, trivial, trivial, trivial⟩
              · replace h := ite_f (Int.not_lt.2 e) h
                clear e
                try cbv
                replace h := getF_inv h
                obtain ⟨x65, ⟨hx0, hx⟩, h⟩ := h
                refine ⟨x65, hx0, hx, ?_⟩
                clear hx0 hx
                replace h := ds_t82_inv h
                obtain ⟨z66, s67, l68, z69, s70, l71, l72, z73, z74, s75, s76, s77, l78, l79, z80, z81, rfl, h⟩ := h
                try cbv
                replace h := szF_inv M h
                obtain ⟨z82, hz, h⟩ := h
                refine ⟨z82, hz, ?_⟩
                clear hz
                try cbv
                refine splitL (fun e => ?_) (fun e => ?_)
                · replace h := ite_t e h
                  clear e
                  try cbv
                  refine seq_go ?_
                  try cbv
                  obtain rfl := Option.some.inj h
                  refine fin_go ?_
                  try cbv
                  exact ⟨[], rfl, rfl, trivial, trivial, trivial⟩
                · replace h := ite_f (Int.not_lt.2 e) h
                  clear e
                  try cbv
                  replace h := letF_inv h
                  obtain ⟨z83, hz, h⟩ := h
                  refine ⟨z83, hz, ?_⟩
                  clear hz
                  try cbv
                  exact loop_next (m3, z83) [1, 2, 3, 5] [.loc 0] 608 ⟨by omega, h⟩ (Nat.lt_succ_of_le (by omega)) (by cbv)
            · replace h := ite_f (Int.not_lt.2 e) h
              clear e
              try cbv
              refine seq_go ?_
              try cbv
              obtain rfl := Option.some.inj h
              refine fin_go ?_
              try cbv
              exact ⟨[], rfl, rfl, trivial, trivial, trivial⟩
end Go.Proofs.YtjobleemmjjocaaDoor
end

set_option linter.unusedVariables false
noncomputable section
namespace Go.Proofs.YtjobleemmjjocaaDoor
open Go Go.AM

theorem row3 {z : Int} (h : (Lit.int .i64 z).wf = true) : RowS tab 3 (.int .i64 z) :=
  ⟨.int (x := tyD tab 3) z (by kernel_rfl) rfl h, fun y hy => by
    have : tab 3 = some (tyD tab 3) := by kernel_rfl
    rw [this] at hy; cases hy; rfl⟩
theorem list3 : ∀ (l : List Int), l.length ≤ maxLen → (∀ z ∈ l, (Lit.int .i64 z).wf = true) → ListS tab 3 (l.map (D.int .i64)) := fun l h0 h => ⟨by simpa using h0, fun x hx => by
  obtain ⟨z, hz, rfl⟩ := List.mem_map.1 hx
  exact row3 (h z hz)⟩
theorem list3_nil : ListS tab 3 [] := list3 [] (Nat.zero_le _) (by simp)
def shp (op : Int) : ByteArray × Int × Int × Bool × Bool × Bool × Bool × List D × Bool := (F51 0 op).getD (ByteArray.empty, 0, 0, false, false, false, false, [], false)
theorem shp_ok {op : Int} (h0 : 0 ≤ op) (h1 : op < 256) : (∀ n, F51 n op = some (shp op)) ∧ ListS tab 3 (shp op).2.2.2.2.2.2.2.1 := by
  by_cases hb : 35 ≤ op
  · unfold shp
    rw [shB 0 hb h1]
    exact ⟨fun n => shB n hb h1, list3_nil⟩
  · obtain ⟨k, rfl⟩ : ∃ k : Nat, op = k := ⟨op.toNat, by omega⟩
    have hk : k < 35 := by omega
    clear h0 h1 hb
    revert k

    intro k hk
    match k, hk with
    | 0, _ => exact ⟨sh0, list3_nil⟩
    | 1, _ => exact ⟨sh1, list3_nil⟩
    | 2, _ => exact ⟨sh2, list3_nil⟩
    | 3, _ => exact ⟨sh3, list3 [1, 2, 3] (by decide) (by decide)⟩
    | 4, _ => exact ⟨sh4, list3_nil⟩
    | 5, _ => exact ⟨sh5, list3_nil⟩
    | 6, _ => exact ⟨sh6, list3_nil⟩
    | 7, _ => exact ⟨sh7, list3_nil⟩
    | 8, _ => exact ⟨sh8, list3_nil⟩
    | 9, _ => exact ⟨sh9, list3 [7, 8] (by decide) (by decide)⟩
    | 10, _ => exact ⟨sh10, list3 [9, 10, 11, 12, 13, 14, 15, 16, 17] (by decide) (by decide)⟩
    | 11, _ => exact ⟨sh11, list3_nil⟩
    | 12, _ => exact ⟨sh12, list3_nil⟩
    | 13, _ => exact ⟨sh13, list3_nil⟩
    | 14, _ => exact ⟨sh14, list3_nil⟩
    | 15, _ => exact ⟨sh15, list3_nil⟩
    | 16, _ => exact ⟨sh16, list3_nil⟩
    | 17, _ => exact ⟨sh17, list3_nil⟩
    | 18, _ => exact ⟨sh18, list3_nil⟩
    | 19, _ => exact ⟨sh19, list3 [6, 7, 8, 9, 10, 11] (by decide) (by decide)⟩
    | 20, _ => exact ⟨sh20, list3 [6, 10] (by decide) (by decide)⟩
    | 21, _ => exact ⟨sh21, list3_nil⟩
    | 22, _ => exact ⟨sh22, list3_nil⟩
    | 23, _ => exact ⟨sh23, list3_nil⟩
    | 24, _ => exact ⟨sh24, list3_nil⟩
    | 25, _ => exact ⟨sh25, list3_nil⟩
    | 26, _ => exact ⟨sh26, list3_nil⟩
    | 27, _ => exact ⟨sh27, list3_nil⟩
    | 28, _ => exact ⟨sh28, list3_nil⟩
    | 29, _ => exact ⟨sh29, list3_nil⟩
    | 30, _ => exact ⟨sh30, list3_nil⟩
    | 31, _ => exact ⟨sh31, list3_nil⟩
    | 32, _ => exact ⟨sh32, list3_nil⟩
    | 33, _ => exact ⟨sh33, list3_nil⟩
    | 34, _ => exact ⟨sh34, list3_nil⟩
    | n + 35, h => exact absurd h (by omega)

def okIns (l1 : List D) (z4 op a b c : Int) (l9 l10 : List D) (i : Int) (s12 : ByteArray) (l13 : List D) : Bool :=
  decide (0 ≤ z4) && match l1[z4.toNat]? with
    | some (.agg [_, _, .int _ sl, .list _ _ cd]) => insB l1 sl cd.length (shp op) op a b c l9 l10 i s12 l13
    | _ => false

section
variable {l1 : List D} (hF : ListS tab 56 l1) {op a b c i : Int} (h0 : 0 ≤ op) (h1 : op < 256) {l9 l10 l13 : List D} {s12 : ByteArray} (h9 : ListS tab 3 l9) (h10 : ListS tab 9 l10) (z2 : Int) (l3 : List D) (z4 : Int)
include hF h0 h1 h9 h10
theorem ev33a : Ev (fun n => F33 n l1 z2 l3 z4 op a b c l9 l10 i s12 l13) (rc (okIns l1 z4 op a b c l9 l10 i s12 l13)) := by
  obtain ⟨hs, hk⟩ := shp_ok h0 h1
  by_cases g0 : 0 ≤ z4
  · by_cases g1 : z4 < l1.length
    · obtain ⟨x, rfl⟩ : ∃ x : Nat, z4 = x := ⟨z4.toNat, by omega⟩
      obtain ⟨v, hx, _, hr⟩ := hF.get (i := x) (by omega)
      obtain ⟨nm, pa, sl, cd, rfl, _⟩ := rs56 hr
      simp only [okIns, Int.toNat_natCast, hx, g0, decide_true, Bool.true_and]
      exact ev33 hF rfl hx h9 h10 z2 l3 hk (fun n => hs n)
    · have e : l1[z4.toNat]? = none := List.getElem?_eq_none (by omega)
      refine ⟨0, fun n _ => ?_⟩
      show F33 n _ _ _ _ _ _ _ _ _ _ _ _ _ = _
      simp only [F33, okIns, e, Bool.and_false, hs n, bO9, lenF, if_neg (by omega : ¬ z4 < 0), if_pos (by omega : (l1.length : Int) ≤ z4)]
      cases (shp op).2.2.2.2.2.2.2.2 <;> rfl
  · refine ⟨0, fun n _ => ?_⟩
    show F33 n _ _ _ _ _ _ _ _ _ _ _ _ _ = _
    simp only [F33, okIns, g0, decide_false, Bool.false_and, hs n, bO9, if_pos (by omega : z4 < 0)]
    cases (shp op).2.2.2.2.2.2.2.2 <;> rfl
end

theorem tot32 (z1 z2 z3 z4 : Int) (l5 : List D) {l6 : List D} (h6 : ListS tab 9 l6) (z7 : Int) (s8 : ByteArray) (l9 : List D) : ∃ r, Ev (fun n => F32 n z1 z2 z3 z4 l5 l6 z7 s8 l9) r := by
  have loop : ∀ i, i ≤ l6.length → ∃ r, Ev (fun n => L32_1 n l6 (i : Int)) r := by
    refine down l6.length ⟨false, Ev.succ (by simp [L32_1, lenF, Ev.ret])⟩ (fun i hi ih => ?_)
    obtain ⟨x, hx, hm, hr⟩ := h6.get hi
    obtain ⟨s, rfl, _⟩ := rs9 hr
    obtain ⟨r, h⟩ := ih
    by_cases g : 1000 < (s.size : Int)
    · refine ⟨true, Ev.succ ?_⟩
      simp only [L32_1, lenF, szF, if_pos (ilt hi), getF_nat hx, ds_str, if_pos g]; exact Ev.ret
    · refine ⟨r, Ev.succ ?_⟩
      simpa only [L32_1, lenF, szF, letF, if_pos (ilt hi), getF_nat hx, ds_str, if_neg g, wrap_succ hi h6.1] using h
  obtain ⟨r, h⟩ := loop 0 (Nat.zero_le _)
  simp only [F32, lenF, szF]
  by_cases g1 : 60 < (l6.length : Int)
  · exact ⟨true, by simp only [if_pos g1]; exact Ev.ret⟩
  by_cases g2 : 60 < (l5.length : Int)
  · exact ⟨true, by simp only [if_neg g1, if_pos g2]; exact Ev.ret⟩
  by_cases g3 : 60 < (l9.length : Int)
  · exact ⟨true, by simp only [if_neg g1, if_neg g2, if_pos g3]; exact Ev.ret⟩
  by_cases g4 : 1000 < (s8.size : Int)
  · exact ⟨true, by simp only [if_neg g1, if_neg g2, if_neg g3, if_pos g4]; exact Ev.ret⟩
  exact ⟨r, by simp only [if_neg g1, if_neg g2, if_neg g3, if_neg g4]; exact h⟩

theorem tot31 {l1 : List D} (hF : ListS tab 56 l1) (z2 : Int) {l3 : List D} (hT : ListS tab 82 l3) : ∃ r, Ev (fun n => F31 n l1 z2 l3) r := by
  have loop3 : ∀ i, i ≤ l3.length → ∃ r, Ev (fun n => L31_3 n l3 (i : Int)) r := by
    refine down l3.length ⟨false, Ev.succ (by simp [L31_3, lenF, Ev.ret])⟩ (fun i hi ih => ?_)
    obtain ⟨x, hx, hm, hr⟩ := hT.get hi
    obtain ⟨a0, a1, a2, a3, a4, a5, a6, a7, a8, a9, a10, a11, a12, a13, a14, a15, rfl, _⟩ := rs82 hr
    obtain ⟨r, h⟩ := ih
    by_cases g1 : 20 < (a2.length : Int)
    · refine ⟨true, Ev.succ ?_⟩
      simp only [L31_3, lenF, if_pos (ilt hi), getF_nat hx, ds_t82, if_pos g1]; exact Ev.ret
    by_cases g2 : 1000 < (a1.size : Int)
    · refine ⟨true, Ev.succ ?_⟩
      simp only [L31_3, lenF, szF, if_pos (ilt hi), getF_nat hx, ds_t82, if_neg g1, if_pos g2]; exact Ev.ret
    · refine ⟨r, Ev.succ ?_⟩
      simpa only [L31_3, lenF, szF, letF, if_pos (ilt hi), getF_nat hx, ds_t82, if_neg g1, if_neg g2, wrap_succ hi hT.1] using h
  have loop1 : ∀ i, i ≤ l1.length → ∃ r, Ev (fun n => L31_1 n l1 l3 (i : Int)) r := by
    obtain ⟨r3, h3⟩ := loop3 0 (Nat.zero_le _)
    refine down l1.length ⟨r3, Ev.succ (by simp only [L31_1, lenF, Int.lt_irrefl, if_false]; exact h3)⟩ (fun i hi ih => ?_)
    obtain ⟨x, hx, hm, hr⟩ := hF.get hi
    obtain ⟨s, p, q, cd, rfl, _, _, _, hc⟩ := rs56 hr
    by_cases g1 : 300 < (cd.length : Int)
    · refine ⟨true, Ev.succ ?_⟩
      simp only [L31_1, lenF, if_pos (ilt hi), getF_nat hx, ds_t56, if_pos g1]; exact Ev.ret
    by_cases g2 : 1000 < (s.size : Int)
    · refine ⟨true, Ev.succ ?_⟩
      simp only [L31_1, lenF, szF, if_pos (ilt hi), getF_nat hx, ds_t56, if_neg g1, if_pos g2]; exact Ev.ret
    have loop2 : ∀ j, j ≤ cd.length → ∃ r, Ev (fun n => L31_2 n l1 l3 (i : Int) (j : Int)) r := by
      obtain ⟨r1, h1⟩ := ih
      refine down cd.length ⟨r1, Ev.succ (by simpa only [L31_2, lenF, letF, getF_nat hx, ds_t56, Int.lt_irrefl, if_false, wrap_succ hi hF.1] using h1)⟩ (fun j hj ihj => ?_)
      obtain ⟨y, hy, _, hry⟩ := hc.get hj
      obtain ⟨b0, b1, b2, b3, b4, b5, b6, b7, b8, rfl, _, _, _, _, _, w5, _⟩ := rs48 hry
      obtain ⟨rl, hl⟩ := tot32 b0 b1 b2 b3 b4 w5 b6 b7 b8
      obtain ⟨r, h⟩ := ihj
      cases rl
      · refine ⟨r, Ev.succ ?_⟩
        simp only [L31_2, lenF, letF, getF_nat hx, getF_nat hy, ds_t56, ds_t48, if_pos (ilt hj), wrap_succ hj hc.1]
        exact Ev.bO1 hl (by simpa only [if_neg Bool.false_ne_true] using h)
      · refine ⟨true, Ev.succ ?_⟩
        simp only [L31_2, lenF, letF, getF_nat hx, getF_nat hy, ds_t56, ds_t48, if_pos (ilt hj), wrap_succ hj hc.1]
        exact Ev.bO1 hl (by simp only [if_true]; exact Ev.ret)
    obtain ⟨r, h⟩ := loop2 0 (Nat.zero_le _)
    refine ⟨r, Ev.succ ?_⟩
    simp only [L31_1, lenF, szF, if_pos (ilt hi), getF_nat hx, ds_t56, if_neg g1, if_neg g2]; exact h
  obtain ⟨r, h⟩ := loop1 0 (Nat.zero_le _)
  simp only [F31, lenF]
  by_cases g1 : 30 < (l1.length : Int)
  · exact ⟨true, by simp only [if_pos g1]; exact Ev.ret⟩
  by_cases g2 : 40 < (l3.length : Int)
  · exact ⟨true, by simp only [if_neg g1, if_pos g2]; exact Ev.ret⟩
  exact ⟨r, by simp only [if_neg g1, if_neg g2]; exact h⟩

end Go.Proofs.YtjobleemmjjocaaDoor
end

namespace Go.AM
open Go Go.RowKit Go.ChangeShapes Go.WideShapes

def Shapes (ti : Types) : List TypeId → List D → Prop
  | [], [] => True
  | t :: ts, x :: xs => Shape ti t x.cells ∧ (∀ y, ti t = some y → x.isAgg = rowD y.desc) ∧ Shapes ti ts xs
  | _, _ => False

theorem Shapes.length {ti : Types} : ∀ {ts : List TypeId} {xs : List D}, Shapes ti ts xs → xs.length = ts.length
  | [], [], _ => rfl
  | _ :: _, _ :: _, h => by simp [Shapes.length h.2.2]
  | [], _ :: _, h => h.elim
  | _ :: _, [], h => h.elim

section
variable {H : Type} {enc : TypeId × Value → H} {P : Program} {ti : Types} {T : List TypeId} {w : World}

theorem conv_arg (hti : TIok P ti) (hT : plainB ti T = true) {Z : Zone} (hZ : ∀ b o, ¬ Z b o) {base base' : Nat} {spare : Nat → Bool} {held : Bool} {r : Reach} {t : TypeId} {v : Value} {d : DataW H} {ps : List MemPlace} (ht : t ∈ T)
    (hok : Value.okWide P w r base' t v) (h : DataW.Trod enc P w base spare held t v d ps) : ∃ x : D, Shape ti t x.cells ∧ (∀ y, ti t = some y → x.isAgg = rowD y.desc) ∧ RelD w Z x v := by
  obtain ⟨fuel, h⟩ := h
  obtain ⟨ds, hs, h1, h2, h3⟩ := conv hti hT (Z := Z) hZ fuel t _ _ _ ht h
  have hp := List.all_eq_true.1 hT t ht
  split at hp
  · rename_i y hy
    have hu := (hti t y hy).1
    have single : rowD y.desc = false → v.cells.toList = [v] → ∃ x : D, Shape ti t x.cells ∧ (∀ y, ti t = some y → x.isAgg = rowD y.desc) ∧ RelD w Z x v := by
      intro hr hv
      rw [hv] at h1 h3
      obtain ⟨c, rfl⟩ := List.length_eq_one_iff.1 h1
      have hc := h2 c (by simp)
      have e : c.cells = [c] := by cases c <;> first | rfl | simp [D.isAgg] at hc
      refine ⟨c, by rw [e]; exact hs, fun y' hy' => ?_, h3 0 c v rfl rfl⟩
      rw [hy] at hy'
      obtain rfl : y = y' := by simpa using hy'
      rw [hc, hr]
    split at hp
    · rename_i hd
      rw [hd] at hu
      obtain ⟨b, rfl⟩ := okWide_bool hu hok
      exact single (by rw [hd]; rfl) rfl
    · rename_i k hd
      rw [hd] at hu
      obtain ⟨b, rfl⟩ := okWide_int hu hok
      exact single (by rw [hd]; rfl) rfl
    · rename_i hd
      rw [hd] at hu
      obtain ⟨b, rfl⟩ := okWide_string hu hok
      exact single (by rw [hd]; rfl) rfl
    · rename_i e hd
      rw [hd] at hu
      obtain ⟨a, l, c, rfl⟩ := okWide_slice hu hok
      exact single (by rw [hd]; rfl) rfl
    · rename_i fs hd
      rw [hd] at hu
      obtain ⟨cs, rfl, _⟩ := okWide_struct hu hok
      refine ⟨.agg ds, hs, fun y' hy' => ?_, .agg ds cs (by simpa [Value.cells] using h1.symm) h2 (fun j c u hc hu' => h3 j c u hc (by simpa [Value.cells] using hu'))⟩
      rw [hy] at hy'
      obtain rfl : y = y' := by simpa using hy'
      rw [hd]; rfl
    · simp at hp
  · simp at hp

theorem conv_args (hti : TIok P ti) (hT : plainB ti T = true) {Z : Zone} (hZ : ∀ b o, ¬ Z b o) {base base' : Nat} {spare : Nat → Bool} {held : Bool} {r : Reach} :
    ∀ (ts : List TypeId) (vs : List Value) (ds : List (DataW H)) (ps : List MemPlace), (∀ t ∈ ts, t ∈ T) → DataW.TrodAll enc P w base spare held ts vs ds ps →
      (∀ (j : Nat) t v, ts[j]? = some t → vs[j]? = some v → Value.okWide P w r base' t v) →
      ∃ xs, Shapes ti ts xs ∧ ∀ (j : Nat) x v, xs[j]? = some x → vs[j]? = some v → RelD w Z x v
  | [], vs, ds, ps, _, h, _ => ⟨[], trivial, by simp⟩
  | t :: ts, vs, ds, ps, ht, h, hok => by
    obtain ⟨v, vs1, d, ds1, a, b, rfl, rfl, rfl, h1, h2⟩ := trodAll_cons h
    obtain ⟨x, k1, k2, k3⟩ := conv_arg hti hT hZ (ht t (by simp)) (hok 0 t v rfl rfl) h1
    obtain ⟨xs, k4, k5⟩ := conv_args hti hT hZ ts vs1 ds1 b (fun t ht' => ht t (by simp [ht'])) h2 (fun j t v h1 h2 => hok (j + 1) t v (by simpa using h1) (by simpa using h2))
    refine ⟨x :: xs, ⟨k1, k2, k4⟩, fun j x' v' hx hv => ?_⟩
    match j with
    | 0 => simp at hx hv; subst hx; subst hv; exact k3
    | j + 1 => simp at hx hv; exact k5 j x' v' hx hv

theorem again_all (hl : laidOutB P = true) {W W' : World} (hb : Below W.heap.size W W') : ∀ (ts : List TypeId) (vs : List Value) (ds : List (DataW H)) (ps : List MemPlace),
    (∀ t ∈ ts, P.readableRec t = true ∧ t < P.types.size) → DataW.TrodAll enc P W 0 (fun _ => true) true ts vs ds ps → (∀ x ∈ ps, x.block < W.heap.size) →
    DataW.TrodAll enc P W' 0 (fun b => decide (b < W.heap.size)) true ts vs ds ps
  | [], vs, ds, ps, _, h, _ => by
    obtain ⟨rfl, rfl, rfl⟩ := trodAll_nil h
    exact rfl
  | t :: ts, vs, ds, ps, ht, h, hlt => by
    obtain ⟨v, vs1, d, ds1, a, b, rfl, rfl, rfl, h1, h2⟩ := trodAll_cons h
    have ht1 := ht t (by simp)
    exact ⟨a, b, Below.trod hl ht1.1 ht1.2 h1 hb (fun x hx => hlt x (by simp [hx])), again_all hl hb ts vs1 ds1 b (fun t ht' => ht t (by simp [ht'])) h2 (fun x hx => hlt x (by simp [hx])), rfl⟩

theorem law_calls {I : Inv} (hti : TIok P ti) (hT : plainB ti T = true) {s : ChangeSpec} {fn : Func} {f : FuncId} {ts : List TypeId} {bt : TypeId}
    (hp : fn.params.toList = ts) (hv : s.vars = []) (hr : fn.resultTypes = #[bt]) (hb : P.underlying bt = some .bool) (htT : ∀ t ∈ ts, t ∈ T)
    (hs : ∀ ds : List (DataW H), ds.length = ts.length → (s.fn H ds).results = [.lit (.bool true)] ∧ (s.fn H ds).args = ds ∧ (s.fn H ds).vars = [])
    (hl : laidOutB P = true) (hrec : ∀ t ∈ ts, P.readableRec t = true ∧ t < P.types.size)
    (hc : ∀ xs : List D, Shapes ti ts xs → Trip P I f (xs.map V1.d) [] (.v (.d (.bool true))) [] [])
    {W : World} {base : Nat} {args : Array Value} {ds gs : List (DataW H)} {before : List MemPlace}
    (hI : I.at W fun _ _ => False) (hval : ∀ (j : Nat) t v, fn.params[j]? = some t → args[j]? = some v → Value.okWide P W .any base t v)
    (hW : DataW.Whole enc P fn.params.toList s.vars false W args.toList ds gs before) :
    Calls P f args W fun e W' => ∃ v, e = .returned v ∧ s.post enc P fn false true false false W args v W' := by
  have hW' := hW
  obtain ⟨p, q, hA, hV, rfl, _, _⟩ := hW
  rw [hv] at hV
  obtain ⟨rfl, rfl⟩ : gs = [] ∧ q = [] := by
    cases gs with
    | nil => exact ⟨rfl, hV⟩
    | cons _ _ => exact hV.elim
  rw [hp] at hA
  obtain ⟨hlen, hdl⟩ := trodAll_length hA
  obtain ⟨xs, hsh, hrel⟩ := conv_args hti hT (Z := fun _ _ => False) (fun _ _ h => h) (r := .any) (base' := base) ts args.toList ds p htT hA (fun j t v h1 h2 => hval j t v (by
    rw [← Array.getElem?_toList, hp]; exact h1) (by simpa using h2))
  have hxl := hsh.length
  have hcall := hc xs hsh
  have hheap : ∀ i o, heapOf [] i = some o → False := by
    intro i o h
    cases i <;> simp [heapOf] at h
  have hzone : ∀ (g : Ghost) b o, ¬ zone g (heapOf []) b o := by
    rintro g b o ⟨i, ob, h, _⟩
    exact hheap i ob h
  refine (hcall.calls (w := W) (X := fun _ _ => False) (g := fun _ => undef) (vals := args) (fun _ _ h => h.elim) (hI.mono fun b o hz => hz.elim (hzone _ b o) id) ⟨fun i o h => (hheap i o h).elim, fun i _ _ _ _ h => (hheap i _ h).elim, fun i _ _ _ h => (hheap i _ h).elim⟩ (fun _ => rfl)
    (by simp at hlen; simp; omega) (fun j x v hx hvv => ?_)).mono ?_
  · simp only [List.getElem?_map, Option.map_eq_some_iff] at hx
    obtain ⟨d, hd, rfl⟩ := hx
    exact (hrel j d v hd (by simpa using hvv)).mono (fun b o u hu _ => ⟨hu, fun hz => hz.elim (hzone _ b o) id⟩)
  · rintro e W' ⟨v, g', rfl, hpost⟩
    obtain rfl : v = .bool true := by cases (show RelD _ _ (.bool true) v from hpost.res); rfl
    have hbel : Below W.heap.size W W' := ⟨hpost.frame.os, hpost.frame.tape, hpost.frame.output, hpost.frame.size, fun k hk => hpost.frame.block k hk (fun o => hzone _ k o)⟩
    obtain ⟨s1, s2, s3⟩ := hs (ds ++ []) (by simp [hdl])
    refine ⟨_, rfl, ds, [], p ++ [], [], p, [], hW', ?_, ?_, ?_, hbel.frame _, fun h => by cases h⟩
    · rw [s1, hr]
      exact trodAll_mk1 (shut_bool hb true)
    · rw [s2, hp, List.append_nil]
      exact again_all hl hbel ts args.toList ds p hrec hA (fun x hx => hW'.lt x (by simp [hx]))
    · rw [s3, hv]; rfl
end
end Go.AM

set_option linter.unusedVariables false
noncomputable section
namespace Go.Proofs.YtjobleemmjjocaaDoor
open Go Go.AM

theorem shp_has {op : Int} (h0 : 0 ≤ op) (h1 : op < 256) : ((shp op).2.2.2.2.2.1 = true → op = 3 ∨ op = 27) ∧ ((shp op).2.2.2.2.1 = true → op = 16) := by
  by_cases hb : 35 ≤ op
  · unfold shp
    rw [shB 0 hb h1]
    exact ⟨fun h => (Bool.false_ne_true h).elim, fun h => (Bool.false_ne_true h).elim⟩
  · obtain ⟨k, rfl⟩ : ∃ k : Nat, op = k := ⟨op.toNat, by omega⟩
    have hk : k < 35 := by omega
    have key : ∀ j : Fin 35, ((shp (j.val : Int)).2.2.2.2.2.1 = true → j.val = 3 ∨ j.val = 27) ∧ ((shp (j.val : Int)).2.2.2.2.1 = true → j.val = 16) := by
      intro j
      match j with
      | ⟨0, _⟩ => exact ⟨fun h => (Bool.false_ne_true h).elim, fun h => (Bool.false_ne_true h).elim⟩
      | ⟨1, _⟩ => exact ⟨fun h => (Bool.false_ne_true h).elim, fun h => (Bool.false_ne_true h).elim⟩
      | ⟨2, _⟩ => exact ⟨fun h => (Bool.false_ne_true h).elim, fun h => (Bool.false_ne_true h).elim⟩
      | ⟨3, _⟩ => exact ⟨fun _ => .inl rfl, fun h => (Bool.false_ne_true h).elim⟩
      | ⟨4, _⟩ => exact ⟨fun h => (Bool.false_ne_true h).elim, fun h => (Bool.false_ne_true h).elim⟩
      | ⟨5, _⟩ => exact ⟨fun h => (Bool.false_ne_true h).elim, fun h => (Bool.false_ne_true h).elim⟩
      | ⟨6, _⟩ => exact ⟨fun h => (Bool.false_ne_true h).elim, fun h => (Bool.false_ne_true h).elim⟩
      | ⟨7, _⟩ => exact ⟨fun h => (Bool.false_ne_true h).elim, fun h => (Bool.false_ne_true h).elim⟩
      | ⟨8, _⟩ => exact ⟨fun h => (Bool.false_ne_true h).elim, fun h => (Bool.false_ne_true h).elim⟩
      | ⟨9, _⟩ => exact ⟨fun h => (Bool.false_ne_true h).elim, fun h => (Bool.false_ne_true h).elim⟩
      | ⟨10, _⟩ => exact ⟨fun h => (Bool.false_ne_true h).elim, fun h => (Bool.false_ne_true h).elim⟩
      | ⟨11, _⟩ => exact ⟨fun h => (Bool.false_ne_true h).elim, fun h => (Bool.false_ne_true h).elim⟩
      | ⟨12, _⟩ => exact ⟨fun h => (Bool.false_ne_true h).elim, fun h => (Bool.false_ne_true h).elim⟩
      | ⟨13, _⟩ => exact ⟨fun h => (Bool.false_ne_true h).elim, fun h => (Bool.false_ne_true h).elim⟩
      | ⟨14, _⟩ => exact ⟨fun h => (Bool.false_ne_true h).elim, fun h => (Bool.false_ne_true h).elim⟩
      | ⟨15, _⟩ => exact ⟨fun h => (Bool.false_ne_true h).elim, fun h => (Bool.false_ne_true h).elim⟩
      | ⟨16, _⟩ => exact ⟨fun h => (Bool.false_ne_true h).elim, fun _ => rfl⟩
      | ⟨17, _⟩ => exact ⟨fun h => (Bool.false_ne_true h).elim, fun h => (Bool.false_ne_true h).elim⟩
      | ⟨18, _⟩ => exact ⟨fun h => (Bool.false_ne_true h).elim, fun h => (Bool.false_ne_true h).elim⟩
      | ⟨19, _⟩ => exact ⟨fun h => (Bool.false_ne_true h).elim, fun h => (Bool.false_ne_true h).elim⟩
      | ⟨20, _⟩ => exact ⟨fun h => (Bool.false_ne_true h).elim, fun h => (Bool.false_ne_true h).elim⟩
      | ⟨21, _⟩ => exact ⟨fun h => (Bool.false_ne_true h).elim, fun h => (Bool.false_ne_true h).elim⟩
      | ⟨22, _⟩ => exact ⟨fun h => (Bool.false_ne_true h).elim, fun h => (Bool.false_ne_true h).elim⟩
      | ⟨23, _⟩ => exact ⟨fun h => (Bool.false_ne_true h).elim, fun h => (Bool.false_ne_true h).elim⟩
      | ⟨24, _⟩ => exact ⟨fun h => (Bool.false_ne_true h).elim, fun h => (Bool.false_ne_true h).elim⟩
      | ⟨25, _⟩ => exact ⟨fun h => (Bool.false_ne_true h).elim, fun h => (Bool.false_ne_true h).elim⟩
      | ⟨26, _⟩ => exact ⟨fun h => (Bool.false_ne_true h).elim, fun h => (Bool.false_ne_true h).elim⟩
      | ⟨27, _⟩ => exact ⟨fun _ => .inr rfl, fun h => (Bool.false_ne_true h).elim⟩
      | ⟨28, _⟩ => exact ⟨fun h => (Bool.false_ne_true h).elim, fun h => (Bool.false_ne_true h).elim⟩
      | ⟨29, _⟩ => exact ⟨fun h => (Bool.false_ne_true h).elim, fun h => (Bool.false_ne_true h).elim⟩
      | ⟨30, _⟩ => exact ⟨fun h => (Bool.false_ne_true h).elim, fun h => (Bool.false_ne_true h).elim⟩
      | ⟨31, _⟩ => exact ⟨fun h => (Bool.false_ne_true h).elim, fun h => (Bool.false_ne_true h).elim⟩
      | ⟨32, _⟩ => exact ⟨fun h => (Bool.false_ne_true h).elim, fun h => (Bool.false_ne_true h).elim⟩
      | ⟨33, _⟩ => exact ⟨fun h => (Bool.false_ne_true h).elim, fun h => (Bool.false_ne_true h).elim⟩
      | ⟨34, _⟩ => exact ⟨fun h => (Bool.false_ne_true h).elim, fun h => (Bool.false_ne_true h).elim⟩
      | ⟨n + 35, h⟩ => exact absurd h (by omega)
    have := key ⟨k, hk⟩
    simp only at this
    exact ⟨fun h => by rcases this.1 h with e | e <;> omega, fun h => by have := this.2 h; omega⟩

end Go.Proofs.YtjobleemmjjocaaDoor
end

namespace Go.AM
open Go

theorem Shape.row {ti : Types} {t : TypeId} {cs : List D} {y : TI} (h : Shape ti t cs) (hy : ti t = some y) (h1 : rowD y.desc = true) : cs.length = y.size ∧ ∀ c ∈ cs, c.isAgg = false := by
  cases h with
  | struct ds h hd hl hg hr => rw [hy] at h; cases h; exact ⟨hl, hg⟩
  | bool b h hd => rw [hy] at h; cases h; rw [hd] at h1; cases h1
  | int n h hd => rw [hy] at h; cases h; rw [hd] at h1; cases h1
  | str s h hd => rw [hy] at h; cases h; rw [hd] at h1; cases h1
  | slice rows h hd => rw [hy] at h; cases h; rw [hd] at h1; cases h1
theorem Shape.cell {ti : Types} {t : TypeId} {cs : List D} {y : TI} (h : Shape ti t cs) (hy : ti t = some y) (h1 : rowD y.desc = false) : ∃ c, cs = [c] ∧ c.isAgg = false := by
  cases h with
  | struct ds h hd hl hg hr => rw [hy] at h; cases h; rw [hd] at h1; cases h1
  | bool b h hd => exact ⟨_, rfl, rfl⟩
  | int n h hd => exact ⟨_, rfl, rfl⟩
  | str s h hd => exact ⟨_, rfl, rfl⟩
  | slice rows h hd => exact ⟨_, rfl, rfl⟩
theorem RowS.fits {ti : Types} {e : TypeId} {r : D} {y : TI} (h1 : TIone ti) (h : RowS ti e r) (hy : ti e = some y) : r.fits (rowD y.desc) y.size := by
  have ha := h.2 y hy
  cases hr : rowD y.desc with
  | true =>
    obtain ⟨q1, q2⟩ := h.1.row hy hr
    exact ⟨by rw [ha, hr], q1, q2⟩
  | false =>
    obtain ⟨c, q1, q2⟩ := h.1.cell hy hr
    exact ⟨by rw [ha, hr], by rw [q1, h1 e y hy hr]; rfl, by rw [q1]; simpa using q2⟩
theorem ListS.shape {ti : Types} {t e : TypeId} {x y : TI} {L : List D} (h1 : TIone ti) (h : ListS ti e L) (hx : ti t = some x) (hd : x.desc = .slice e) (hy : ti e = some y) : Shape ti t [.list (rowD y.desc) y.size L] :=
  .slice L hx hd hy h.1 (fun r hr => (h.2 r hr).fits h1 hy) (fun r hr => (h.2 r hr).1)
theorem ListS.nil {ti : Types} {e : TypeId} : ListS ti e [] := ⟨Nat.zero_le _, by simp⟩
theorem ListS.cons {ti : Types} {e : TypeId} {x : D} {L : List D} (hx : RowS ti e x) (h : ListS ti e L) (hl : L.length + 1 ≤ maxLen) : ListS ti e (x :: L) := ⟨by simpa using hl, fun y hy => by
  rcases List.mem_cons.1 hy with rfl | hy
  · exact hx
  · exact h.2 y hy⟩
theorem ListS.one {ti : Types} {e : TypeId} {x : D} (hx : RowS ti e x) : ListS ti e [x] := .cons hx .nil (by simp [maxLen])
theorem ListS.set {ti : Types} {e : TypeId} {L : List D} (h : ListS ti e L) (i : Nat) {x : D} (hx : RowS ti e x) : ListS ti e (L.set i x) := ⟨by simpa using h.1, fun y hy => by
  rcases List.mem_or_eq_of_mem_set hy with hy | rfl
  · exact h.2 y hy
  · exact hx⟩
theorem ListS.take {ti : Types} {e : TypeId} {L : List D} (h : ListS ti e L) (i : Nat) : ListS ti e (L.take i) := ⟨by have := h.1; simp; omega, fun x hx => h.2 x (List.mem_of_mem_take hx)⟩
theorem ListS.drop {ti : Types} {e : TypeId} {L : List D} (h : ListS ti e L) (i : Nat) : ListS ti e (L.drop i) := ⟨by have := h.1; simp; omega, fun x hx => h.2 x (List.mem_of_mem_drop hx)⟩
theorem ListS.mem {ti : Types} {e : TypeId} {L : List D} (h : ListS ti e L) {i : Nat} {x : D} (hx : L[i]? = some x) : RowS ti e x := h.2 x (List.mem_of_getElem? hx)
theorem Ev.bO5 {A1 A2 A3 A4 A5 γ : Type} {A : Nat → Option (A1 × A2 × A3 × A4 × A5)} {a1 : A1} {a2 : A2} {a3 : A3} {a4 : A4} {a5 : A5} {k : Nat → A1 → A2 → A3 → A4 → A5 → Option γ} {r : γ} (ha : Ev A (a1, a2, a3, a4, a5)) (hk : Ev (fun n => k n a1 a2 a3 a4 a5) r) : Ev (fun n => bO5 (A n) (k n)) r := by
  obtain ⟨N, ha⟩ := ha
  obtain ⟨M, hk⟩ := hk
  refine ⟨N + M, fun n hn => ?_⟩
  show Go.AM.bO5 (A n) (k n) = some r
  rw [ha n (by omega)]
  exact hk n (by omega)
theorem Ev.bO9 {A1 A2 A3 A4 A5 A6 A7 A8 A9 γ : Type} {A : Nat → Option (A1 × A2 × A3 × A4 × A5 × A6 × A7 × A8 × A9)} {a1 : A1} {a2 : A2} {a3 : A3} {a4 : A4} {a5 : A5} {a6 : A6} {a7 : A7} {a8 : A8} {a9 : A9} {k : Nat → A1 → A2 → A3 → A4 → A5 → A6 → A7 → A8 → A9 → Option γ} {r : γ} (ha : Ev A (a1, a2, a3, a4, a5, a6, a7, a8, a9)) (hk : Ev (fun n => k n a1 a2 a3 a4 a5 a6 a7 a8 a9) r) : Ev (fun n => bO9 (A n) (k n)) r := by
  obtain ⟨N, ha⟩ := ha
  obtain ⟨M, hk⟩ := hk
  refine ⟨N + M, fun n hn => ?_⟩
  show Go.AM.bO9 (A n) (k n) = some r
  rw [ha n (by omega)]
  exact hk n (by omega)
theorem Ev.bO17 {A1 A2 A3 A4 A5 A6 A7 A8 A9 A10 A11 A12 A13 A14 A15 A16 A17 γ : Type} {A : Nat → Option (A1 × A2 × A3 × A4 × A5 × A6 × A7 × A8 × A9 × A10 × A11 × A12 × A13 × A14 × A15 × A16 × A17)} {a1 : A1} {a2 : A2} {a3 : A3} {a4 : A4} {a5 : A5} {a6 : A6} {a7 : A7} {a8 : A8} {a9 : A9} {a10 : A10} {a11 : A11} {a12 : A12} {a13 : A13} {a14 : A14} {a15 : A15} {a16 : A16} {a17 : A17} {k : Nat → A1 → A2 → A3 → A4 → A5 → A6 → A7 → A8 → A9 → A10 → A11 → A12 → A13 → A14 → A15 → A16 → A17 → Option γ} {r : γ} (ha : Ev A (a1, a2, a3, a4, a5, a6, a7, a8, a9, a10, a11, a12, a13, a14, a15, a16, a17)) (hk : Ev (fun n => k n a1 a2 a3 a4 a5 a6 a7 a8 a9 a10 a11 a12 a13 a14 a15 a16 a17) r) : Ev (fun n => bO17 (A n) (k n)) r := by
  obtain ⟨N, ha⟩ := ha
  obtain ⟨M, hk⟩ := hk
  refine ⟨N + M, fun n hn => ?_⟩
  show Go.AM.bO17 (A n) (k n) = some r
  rw [ha n (by omega)]
  exact hk n (by omega)
theorem Ev.bO18 {A1 A2 A3 A4 A5 A6 A7 A8 A9 A10 A11 A12 A13 A14 A15 A16 A17 A18 γ : Type} {A : Nat → Option (A1 × A2 × A3 × A4 × A5 × A6 × A7 × A8 × A9 × A10 × A11 × A12 × A13 × A14 × A15 × A16 × A17 × A18)} {a1 : A1} {a2 : A2} {a3 : A3} {a4 : A4} {a5 : A5} {a6 : A6} {a7 : A7} {a8 : A8} {a9 : A9} {a10 : A10} {a11 : A11} {a12 : A12} {a13 : A13} {a14 : A14} {a15 : A15} {a16 : A16} {a17 : A17} {a18 : A18} {k : Nat → A1 → A2 → A3 → A4 → A5 → A6 → A7 → A8 → A9 → A10 → A11 → A12 → A13 → A14 → A15 → A16 → A17 → A18 → Option γ} {r : γ} (ha : Ev A (a1, a2, a3, a4, a5, a6, a7, a8, a9, a10, a11, a12, a13, a14, a15, a16, a17, a18)) (hk : Ev (fun n => k n a1 a2 a3 a4 a5 a6 a7 a8 a9 a10 a11 a12 a13 a14 a15 a16 a17 a18) r) : Ev (fun n => bO18 (A n) (k n)) r := by
  obtain ⟨N, ha⟩ := ha
  obtain ⟨M, hk⟩ := hk
  refine ⟨N + M, fun n hn => ?_⟩
  show Go.AM.bO18 (A n) (k n) = some r
  rw [ha n (by omega)]
  exact hk n (by omega)
theorem i64_wf {n : Int} (h1 : -9223372036854775808 ≤ n) (h2 : n ≤ 9223372036854775807) : (Lit.int .i64 n).wf = true := by
  simp [Lit.wf, show IntKind.i64.min = -9223372036854775808 from rfl, show IntKind.i64.max = 9223372036854775807 from rfl]
  omega
end Go.AM

set_option linter.unusedVariables false
noncomputable section
namespace Go.Proofs.YtjobleemmjjocaaDoor
open Go Go.AM
theorem sm3 {a0 : Int} (w0 : (Lit.int .i64 a0).wf = true) : Shape tab 3 [.int .i64 a0] := .int (x := tyD tab 3) a0 (by kernel_rfl) (by kernel_rfl) w0
theorem mk3 {a0 : Int} (w0 : (Lit.int .i64 a0).wf = true) : RowS tab 3 (.int .i64 a0) := ⟨sm3 w0, fun y hy => by rw [show tab 3 = some (tyD tab 3) by kernel_rfl] at hy; cases hy; kernel_rfl⟩
theorem sm9 {a0 : ByteArray} (w0 : a0.size ≤ maxLen) : Shape tab 9 [.str a0] := .str (x := tyD tab 9) a0 (by kernel_rfl) (by kernel_rfl) w0
theorem sm54 {a0 : List D} (w0 : ListS tab 48 a0) : Shape tab 54 [.list true 9 a0] := by
  have e : D.list (rowD (tyD tab 48).desc) (tyD tab 48).size a0 = .list true 9 a0 := by kernel_rfl
  rw [← e]
  exact w0.shape tab_one (x := tyD tab 54) (y := tyD tab 48) (by kernel_rfl) (by kernel_rfl) (by kernel_rfl)
theorem sm56 {a0 : ByteArray} {a1 : Int} {a2 : Int} {a3 : List D} (w0 : a0.size ≤ maxLen) (w1 : (Lit.int .i64 a1).wf = true) (w2 : (Lit.int .i64 a2).wf = true) (w3 : ListS tab 48 a3) : Shape tab 56 [.str a0, .int .i64 a1, .int .i64 a2, .list true 9 a3] := by
  have tt : tab 56 = some (tyD tab 56) := by kernel_rfl
  obtain ⟨fs, hfs, hall⟩ : ∃ fs, (tyD tab 56).desc = .struct fs ∧ (fs.toList.all fun f => [(9, 0), (3, 1), (3, 2), (54, 3)].contains (f.type, f.offset)) = true := ⟨(match (tyD tab 56).desc with | .struct fs => fs | _ => #[]), by kernel_rfl, by kernel_rfl⟩
  refine .struct (x := tyD tab 56) (fs := fs) _ tt hfs (by kernel_rfl) (by simp [D.isAgg]) (fun f hf y hy => ?_)
  have hq := List.all_eq_true.1 hall f hf
  simp only [List.contains_cons, List.contains_nil, Bool.or_false, Bool.or_eq_true, beq_iff_eq, Prod.mk.injEq] at hq
  rcases hq with ⟨e1, e2⟩ | ⟨e1, e2⟩ | ⟨e1, e2⟩ | ⟨e1, e2⟩
  · rw [e1, show tab 9 = some (tyD tab 9) by kernel_rfl] at hy; cases hy; rw [e1, e2, show (tyD tab 9).size = 1 by kernel_rfl]; exact sm9 w0
  · rw [e1, show tab 3 = some (tyD tab 3) by kernel_rfl] at hy; cases hy; rw [e1, e2, show (tyD tab 3).size = 1 by kernel_rfl]; exact sm3 w1
  · rw [e1, show tab 3 = some (tyD tab 3) by kernel_rfl] at hy; cases hy; rw [e1, e2, show (tyD tab 3).size = 1 by kernel_rfl]; exact sm3 w2
  · rw [e1, show tab 54 = some (tyD tab 54) by kernel_rfl] at hy; cases hy; rw [e1, e2, show (tyD tab 54).size = 1 by kernel_rfl]; exact sm54 w3
theorem mk56 {a0 : ByteArray} {a1 : Int} {a2 : Int} {a3 : List D} (w0 : a0.size ≤ maxLen) (w1 : (Lit.int .i64 a1).wf = true) (w2 : (Lit.int .i64 a2).wf = true) (w3 : ListS tab 48 a3) : RowS tab 56 (.agg [.str a0, .int .i64 a1, .int .i64 a2, .list true 9 a3]) := ⟨sm56 w0 w1 w2 w3, fun y hy => by rw [show tab 56 = some (tyD tab 56) by kernel_rfl] at hy; cases hy; kernel_rfl⟩
end Go.Proofs.YtjobleemmjjocaaDoor
end

set_option linter.unusedVariables false
noncomputable section
namespace Go.Proofs.YtjobleemmjjocaaDoor
open Go Go.AM
def L11_1 : Nat → (List D) → Int → (List D) → Int → Int → Int → Int → Int → (List D) → (List D) → Int → ByteArray → (List D) → (List D) → (List D) → Int → Option (Bool)
  | 0, _, _, _, _, _, _, _, _, _, _, _, _, _, _, _, _ => none
  | n + 1, l1, z2, l3, z4, z5, z6, z7, z8, l9, l10, z11, s12, l13, l37, l38, z39 =>
    lenF l38 fun z40 => (if z39 < z40 then needF (0 ≤ z39 ∧ z39.toNat < l38.length) (getN l38 (z39.toNat) fun x41 => ds_i64 x41 fun z42 => (if z42 < (0 : Int) then some false else needF (0 ≤ z39 ∧ z39.toNat < l38.length) (getN l38 (z39.toNat) fun x43 => ds_i64 x43 fun z44 => getF l1 z4 fun x45 => ds_t56 x45 fun s46 z47 z48 l49 => lenF l49 fun z50 => (if z50 < z44 then some false else letF (IntKind.wrap .i64 (z39 + 1)) fun z51 => L11_1 n l1 z2 l3 z4 z5 z6 z7 z8 l9 l10 z11 s12 l13 l37 l38 z51)))) else bO1 (F33 n l37 z2 l3 z4 z5 z6 z7 z8 l9 l10 z11 s12 l13) fun z52 => (if z52 = (0 : Int) then bO1 (F35 n) fun b53 => some b53 else some false))
def F11 (n : Nat) (l1 : List D) (z2 : Int) (l3 : List D) (z4 : Int) (z5 : Int) (z6 : Int) (z7 : Int) (z8 : Int) (l9 : List D) (l10 : List D) (z11 : Int) (s12 : ByteArray) (l13 : List D) (z14 : Int) : Option (Bool) :=
  bO1 (F31 n l1 z2 l3) fun b15 => (if b15 = true then bO1 (F35 n) fun b18 => some b18 else bO1 (F32 n z5 z6 z7 z8 l9 l10 z11 s12 l13) fun b16 => (if b16 = true then bO1 (F35 n) fun b19 => some b19 else bO1 (F33 n l1 z2 l3 z4 z5 z6 z7 z8 l9 l10 z11 s12 l13) fun z17 => (if z17 = (0 : Int) then appF 56 ([] : List D) l1 fun l21 => needF (0 ≤ z4 ∧ z4.toNat < l21.length) (getN l21 (z4.toNat) fun x22 => ds_t56 x22 fun s23 z24 z25 l26 => (if (1000 : Int) < z25 then bO1 (F35 n) fun b27 => some b27 else letF (IntKind.wrap .u64 z14) fun z28 => needF ((21 : Int) ≠ 0) (letF (Int.tmod z28 21) fun z29 => letF (IntKind.wrap .i64 z29) fun z30 => letF (IntKind.wrap .i64 (z25 + z30)) fun z31 => needF (0 ≤ z4 ∧ z4.toNat < l21.length) (getN l21 (z4.toNat) fun x32 => ds_t56 x32 fun s33 z34 z35 l36 => setF l21 (z4.toNat) (.agg [.str s33, .int .i64 z34, .int .i64 z31, .list true 9 l36]) fun l37 => bO1 (F36 n z5 z6 z7 z8 l9 l10 z11 s12 l13) fun l38 => L11_1 n l1 z2 l3 z4 z5 z6 z7 z8 l9 l10 z11 s12 l13 l37 l38 (0 : Int))))) else bO1 (F35 n) fun b20 => some b20)))
set_option maxRecDepth 100000 in
set_option maxHeartbeats 40000000 in
theorem T11 (n : Nat) : ∀ ⦃l1 : List D⦄ ⦃z2 : Int⦄ ⦃l3 : List D⦄ ⦃z4 : Int⦄ ⦃z5 : Int⦄ ⦃z6 : Int⦄ ⦃z7 : Int⦄ ⦃z8 : Int⦄ ⦃l9 : List D⦄ ⦃l10 : List D⦄ ⦃z11 : Int⦄ ⦃s12 : ByteArray⦄ ⦃l13 : List D⦄ ⦃z14 : Int⦄ ⦃r1 : Bool⦄, F11 n l1 z2 l3 z4 z5 z6 z7 z8 l9 l10 z11 s12 l13 z14 = some r1 →
    Trip Tryd.prog inv 11 [.d (.agg [.list true 4 l1, .int .i64 z2, .list true 16 l3]), .d (.int .i64 z4), .d (.agg [.int .u8 z5, .int .i64 z6, .int .i64 z7, .int .i64 z8, .list false 1 l9, .list false 1 l10, .int .i64 z11, .str s12, .list false 1 l13]), .d (.int .i64 z14)] [] (.v (.d (.bool r1))) [] [] := by
  intro l1 z2 l3 z4 z5 z6 z7 z8 l9 l10 z11 s12 l13 z14 r1 h
  unfold F11 at h
  refine Trip.of tab_ok tab_one fol Tryd.func11 rfl (by kernel_rfl) rfl rfl rfl (fun M hM hI => ?_)
  try cbv
  refine seq_go ?_
  try cbv
  refine seq_go ?_
  try cbv
  refine seq_go ?_
  try cbv
  replace h := bO1_inv h
  obtain ⟨b15, hr, h⟩ := h
  refine call_go rfl rfl ?_
  try cbv
  refine call_pure hM hI (T31 _ hr) rfl ?_
  clear hr
  try cbv
  cases b15
  · replace h := ite_f Bool.false_ne_true h
    try cbv
    replace h := bO1_inv h
    obtain ⟨b16, hr, h⟩ := h
    refine call_go rfl rfl ?_
    try cbv
    refine call_pure hM hI (T32 _ hr) rfl ?_
    clear hr
    try cbv
    cases b16
    · replace h := ite_f Bool.false_ne_true h
      try cbv
      replace h := bO1_inv h
      obtain ⟨z17, hr, h⟩ := h
      refine call_go rfl rfl ?_
      try cbv
      refine call_pure hM hI (T33 _ hr) rfl ?_
      clear hr
      try cbv
      refine splitI (fun e => ?_) (fun e => ?_)
      · replace h := ite_t e h
        clear e
        try cbv
        refine seq_go ?_
        try cbv
        refine seq_go ?_
        try cbv
        refine ⟨true, ?_⟩
        try cbv
        refine ⟨[], ?_⟩
        try cbv
        refine ⟨[], rfl, ?_⟩
        try cbv
        refine op_pl ?_
        try cbv
        replace h := appF_inv h
        obtain ⟨l21, hb, hz, h⟩ := h
        refine ⟨true, ?_⟩
        try cbv
        refine ⟨false, ?_⟩
        try cbv
        refine ⟨(M.lock_iff _).2 hb, l21, hz, ?_⟩
        clear hb hz
        try cbv
        refine seq_go ?_
        try cbv
        replace h := needF_inv h
        obtain ⟨hn, h⟩ := h
        refine ⟨(M.lock_iff _).2 hn, ?_⟩
        clear hn
        try cbv
        replace h := getN_inv h
        obtain ⟨x22, hx, h⟩ := h
        replace h := ds_t56_inv h
        obtain ⟨s23, z24, z25, l26, rfl, h⟩ := h
        refine ⟨_, hx, ?_⟩
        clear hx
        try cbv
        refine seq_go ?_
        try cbv
        refine seq_go ?_
        try cbv
        refine splitL (fun e => ?_) (fun e => ?_)
        · replace h := ite_t e h
          clear e
          try cbv
          refine seq_go ?_
          try cbv
          replace h := bO1_inv h
          obtain ⟨b27, hr, h⟩ := h
          refine call_go rfl rfl ?_
          try cbv
          refine call_pure hM hI (T35 _ hr) rfl ?_
          clear hr
          try cbv
          obtain rfl := Option.some.inj h
          refine fin_go ?_
          try cbv
          exact ⟨[], rfl, rfl, trivial, trivial, trivial⟩
        · replace h := ite_f (Int.not_lt.2 e) h
          clear e
          try cbv
          refine seq_go ?_
          try cbv
          replace h := letF_inv h
          obtain ⟨z28, hz, h⟩ := h
          refine ⟨z28, hz, ?_⟩
          clear hz
          try cbv
          replace h := needF_inv h
          obtain ⟨hn, h⟩ := h
          replace h := letF_inv h
          obtain ⟨z29, hz, h⟩ := h
          refine ⟨z29, hn, hz, ?_⟩
          clear hn hz
          try cbv
          replace h := letF_inv h
          obtain ⟨z30, hz, h⟩ := h
          refine ⟨z30, hz, ?_⟩
          clear hz
          try cbv
          replace h := letF_inv h
          obtain ⟨z31, hz, h⟩ := h
          refine ⟨z31, hz, ?_⟩
          clear hz
          try cbv
          replace h := needF_inv h
          obtain ⟨hn, h⟩ := h
          refine ⟨(M.lock_iff _).2 hn, ?_⟩
          clear hn
          try cbv
          replace h := getN_inv h
          obtain ⟨x32, hx, h⟩ := h
          replace h := ds_t56_inv h
          obtain ⟨s33, z34, z35, l36, rfl, h⟩ := h
          refine ⟨_, hx, ?_⟩
          clear hx
          try cbv
          replace h := setF_inv h
          obtain ⟨l37, hz, h⟩ := h
          refine ⟨l37, hz, ?_⟩
          clear hz
          try cbv
          refine seq_go ?_
          try cbv
          replace h := bO1_inv h
          obtain ⟨l38, hr, h⟩ := h
          refine call_go rfl rfl ?_
          try cbv
          refine call_with hM hI [] (T36 _ hr) rfl (by simp) trivial trivial (by simp) ?_
          clear hr
          try cbv
          refine seq_go ?_
          try cbv
          refine seq_go ?_
          try cbv
          refine loop_invG (T := Nat × Int) [] [] [1, 4, 6, 8, 9, 11, 12] [.loc 0, .loc 32, .loc 544, .loc 704, .loc 1504] 1600 (fun t => ⟨[(1, .v (.d (.int .i64 z4))), (4, .v (.c (.ptr (.loc 0) 0))), (6, .v (.c (.ptr (.loc 32) 0))), (8, .v (.d (.bool false))), (9, .v (.c (.ptr (.loc 544) 0))), (11, .v (.c (.ow (.loc 1504)))), (12, .v (.d (.int .i64 t.2)))], [(.loc 0, .cells [.d (.list true 4 l1), .d (.int .i64 z2), .d (.list true 16 l3)]), (.loc 32, .cells [.d (.int .u8 z5), .d (.int .i64 z6), .d (.int .i64 z7), .d (.int .i64 z8), .d (.list false 1 l9), .d (.list false 1 l10), .d (.int .i64 z11), .d (.str s12), .d (.list false 1 l13)]), (.loc 544, .cells [.ow (.loc 704), .d (.int .i64 z2), .d (.list true 16 l3)]), (.loc 704, .tree .flat true 4 l37 none), (.loc 1504, .tree .row false 1 l38 none)], 1600⟩)
            (fun t => t.1 ≤ n ∧ L11_1 t.1 l1 z2 l3 z4 z5 z6 z7 z8 l9 l10 z11 s12 l13 l37 l38 t.2 = some r1) (fun t => t.1) (n, (0 : Int)) ⟨Nat.le_refl _, h⟩ (by cbv) ?_
          clear h
          rintro ⟨m1, z39⟩ ⟨hm1, h⟩
          replace hm1 : m1 ≤ n := hm1
          cases m1 with
          | zero =>
            replace h : L11_1 0 l1 z2 l3 z4 z5 z6 z7 z8 l9 l10 z11 s12 l13 l37 l38 z39 = some r1 := h
            rw [L11_1] at h
            cases h
          | succ m1 =>
            replace h : L11_1 (m1 + 1) l1 z2 l3 z4 z5 z6 z7 z8 l9 l10 z11 s12 l13 l37 l38 z39 = some r1 := h
            rw [L11_1] at h
            try cbv
            refine seq_go ?_
            try cbv
            refine seq_go ?_
            try cbv
            replace h := lenF_inv M h
            obtain ⟨z40, hz, h⟩ := h
            refine ⟨false, ?_⟩
            try cbv
            refine ⟨z40, hz, ?_⟩
            clear hz
            try cbv
            refine splitL (fun e => ?_) (fun e => ?_)
            · replace h := ite_t e h
              clear e
              try cbv
              refine seq_go ?_
              try cbv
              refine seq_go ?_
              try cbv
              replace h := needF_inv h
              obtain ⟨hn, h⟩ := h
              refine ⟨(M.lock_iff _).2 hn, ?_⟩
              clear hn
              try cbv
              refine ⟨[], ?_⟩
              try cbv
              replace h := getN_inv h
              obtain ⟨x41, hx, h⟩ := h
              replace h := ds_i64_inv h
              obtain ⟨z42, rfl, h⟩ := h
              refine ⟨_, hx, ?_⟩
              clear hx
              try cbv
              refine ⟨true, ?_⟩
              try cbv
              refine splitL (fun e => ?_) (fun e => ?_)
              · replace h := ite_t e h
                clear e
                try cbv
                refine drawn ?_ ?_
                · show _ = true
                  kernel_rfl
                try cbv
                refine seq_go ?_
                try cbv
                obtain rfl := Option.some.inj h
                refine fin_go ?_
                try cbv
                exact ⟨[], rfl, rfl, trivial, trivial, trivial⟩
              · replace h := ite_f (Int.not_lt.2 e) h
                clear e
                try cbv
                replace h := needF_inv h
                obtain ⟨hn, h⟩ := h
                refine ⟨(M.lock_iff _).2 hn, ?_⟩
                clear hn
                try cbv
                refine ⟨[], ?_⟩
                try cbv
                replace h := getN_inv h
                obtain ⟨x43, hx, h⟩ := h
                replace h := ds_i64_inv h
                obtain ⟨z44, rfl, h⟩ := h
                refine ⟨_, hx, ?_⟩
                clear hx
                try cbv
                refine ⟨true, ?_⟩
                try cbv
                replace h := getF_inv h
                obtain ⟨x45, ⟨hx0, hx⟩, h⟩ := h
                refine ⟨x45, hx0, hx, ?_⟩
                clear hx0 hx
                replace h := ds_t56_inv h
                obtain ⟨s46, z47, z48, l49, rfl, h⟩ := h
                try cbv
                replace h := lenF_inv M h
                obtain ⟨z50, hz, h⟩ := h
                refine ⟨z50, hz, ?_⟩
                clear hz
                try cbv
                refine splitL (fun e => ?_) (fun e => ?_)
                · replace h := ite_t e h
                  clear e
                  try cbv
                  refine drawn ?_ ?_
                  · show _ = true
                    kernel_rfl
                  try cbv
                  refine seq_go ?_
                  try cbv
                  obtain rfl := Option.some.inj h
                  refine fin_go ?_
                  try cbv
                  exact ⟨[], rfl, rfl, trivial, trivial, trivial⟩
                · replace h := ite_f (Int.not_lt.2 e) h
                  clear e
                  try cbv
                  refine drawn ?_ ?_
                  · show _ = true
                    kernel_rfl
                  try cbv
                  replace h := letF_inv h
                  obtain ⟨z51, hz, h⟩ := h
                  refine ⟨z51, hz, ?_⟩
                  clear hz
                  try cbv
                  refine loop_nextG (m1, z51) [] [] [1, 4, 6, 8, 9, 11, 12] [.loc 0, .loc 32, .loc 544, .loc 704, .loc 1504] 1600 ⟨by omega, h⟩ (Nat.lt_succ_of_le (by omega)) ?_
                  try cbv
            · replace h := ite_f (Int.not_lt.2 e) h
              clear e
              try cbv
              refine seq_go ?_
              try cbv
              replace h := bO1_inv h
              obtain ⟨z52, hr, h⟩ := h
              refine call_gs [.freeze (.loc 704)] rfl rfl ?_
              try cbv
              first | refine ⟨by first | rfl | trivial, ?_⟩ | skip
              refine callfv_with hM hI [] rfl rfl (T33 _ hr) rfl (by simp) trivial trivial (by simp) ?_
              clear hr
              try cbv
              refine splitI (fun e => ?_) (fun e => ?_)
              · replace h := ite_t e h
                clear e
                try cbv
                replace h := bO1_inv h
                obtain ⟨b53, hr, h⟩ := h
                refine call_go rfl rfl ?_
                try cbv
                refine call_pure hM hI (T35 _ hr) rfl ?_
                clear hr
                try cbv
                obtain rfl := Option.some.inj h
                refine fin_go ?_
                try cbv
                exact ⟨[], rfl, rfl, trivial, trivial, trivial⟩
              · replace h := ite_f e h
                clear e
                try cbv
                obtain rfl := Option.some.inj h
                refine fin_go ?_
                try cbv
                exact ⟨[], rfl, rfl, trivial, trivial, trivial⟩
      · replace h := ite_f e h
        clear e
        try cbv
        refine seq_go ?_
        try cbv
        replace h := bO1_inv h
        obtain ⟨b20, hr, h⟩ := h
        refine call_go rfl rfl ?_
        try cbv
        refine call_pure hM hI (T35 _ hr) rfl ?_
        clear hr
        try cbv
        obtain rfl := Option.some.inj h
        refine fin_go ?_
        try cbv
        exact ⟨[], rfl, rfl, trivial, trivial, trivial⟩
    · replace h := ite_t rfl h
      try cbv
      refine seq_go ?_
      try cbv
      replace h := bO1_inv h
      obtain ⟨b19, hr, h⟩ := h
      refine call_go rfl rfl ?_
      try cbv
      refine call_pure hM hI (T35 _ hr) rfl ?_
      clear hr
      try cbv
      obtain rfl := Option.some.inj h
      refine fin_go ?_
      try cbv
      exact ⟨[], rfl, rfl, trivial, trivial, trivial⟩
  · replace h := ite_t rfl h
    try cbv
    refine seq_go ?_
    try cbv
    replace h := bO1_inv h
    obtain ⟨b18, hr, h⟩ := h
    refine call_go rfl rfl ?_
    try cbv
    refine call_pure hM hI (T35 _ hr) rfl ?_
    clear hr
    try cbv
    obtain rfl := Option.some.inj h
    refine fin_go ?_
    try cbv
    exact ⟨[], rfl, rfl, trivial, trivial, trivial⟩
end Go.Proofs.YtjobleemmjjocaaDoor
end

set_option linter.unusedVariables false
noncomputable section
namespace Go.Proofs.YtjobleemmjjocaaDoor
open Go Go.AM

def jmp (op a : Int) (l9 : List D) : List D := if op = 14 ∨ op = 15 then [.int .i64 a] else if op = 16 then l9 else []
theorem scal3 {l : List D} (h : ListS tab 3 l) : scalB l = true := by
  rw [scalB, List.all_eq_true]
  intro x hx
  obtain ⟨a, rfl, _⟩ := rs3 (h.2 x hx)
  rfl
theorem e36 (n : Nat) (op a b c : Int) {l9 : List D} (h9 : ListS tab 3 l9) (hl : l9.length * 8 ≤ 140737488355328) (l10 : List D) (i : Int) (s12 : ByteArray) (l13 : List D) : F36 n op a b c l9 l10 i s12 l13 = some (jmp op a l9) := by
  unfold F36 jmp
  by_cases c1 : op = 14
  · simp [c1, letL]
  by_cases c2 : op = 15
  · simp [c2, letL]
  by_cases c3 : op = 16
  · subst c3
    have e := e63 n l9 ⟨h9.1, hl⟩ (scal3 h9)
    simp [e, bO1]
  · simp [c1, c2, c3]
theorem shp14 : shp 14 = (k_jump, 2, 0, false, false, false, false, [], true) := by unfold shp; rw [sh14]; rfl
theorem shp15 : shp 15 = (k_branch, 2, 0, false, false, false, false, [], true) := by unfold shp; rw [sh15]; rfl
theorem ok_jmp {l1 : List D} {sl en op a b c i : Int} {l9 l10 l13 : List D} {s12 : ByteArray} (h : insB l1 sl en (shp op) op a b c l9 l10 i s12 l13 = true) : l9.length ≤ 6 ∧ (jmp op a l9).all (inB en) = true := by
  have hl : l9.length ≤ 6 ∧ l9.all (inB en) = true := by
    unfold insB at h
    simp only [Bool.and_eq_true, decide_eq_true_eq] at h
    exact ⟨by omega, h.1.1.2⟩
  refine ⟨hl.1, ?_⟩
  unfold jmp
  by_cases c1 : op = 14
  · subst c1
    rw [shp14] at h
    unfold insB at h
    simp only [Bool.and_eq_true, decide_eq_true_eq] at h
    have hf := h.1.2
    simp [fitsB] at hf
    simp [inB, hf]
  by_cases c2 : op = 15
  · subst c2
    rw [shp15] at h
    unfold insB at h
    simp only [Bool.and_eq_true, decide_eq_true_eq] at h
    have hf := h.1.2
    simp [fitsB] at hf
    simp [inB, hf]
  by_cases c3 : op = 16
  · simp only [c3, if_true]; exact hl.2
  · simp [c1, c2, c3]

theorem fits_wide {l1 l1' : List D} {sl sl' en : Int} (hl : l1'.length = l1.length) (hp : ∀ a n, parIs l1' a n = parIs l1 a n) (hs : sl ≤ sl') {kd : List D} {op a ask n : Int} (h : fitsB l1 sl en kd op a ask n = true) : fitsB l1' sl' en kd op a ask n = true := by
  unfold fitsB at h ⊢
  rw [hl, hp]
  by_cases c0 : ask = 0
  · simpa only [if_pos c0] using h
  simp only [if_neg c0] at h ⊢
  by_cases c1 : ask = 1
  · simp only [if_pos c1, Bool.and_eq_true, decide_eq_true_eq] at h ⊢
    omega
  simpa only [if_neg c1] using h
theorem ins_wide {l1 l1' : List D} {sl sl' en : Int} (hl : l1'.length = l1.length) (hp : ∀ a n, parIs l1' a n = parIs l1 a n) (hs : sl ≤ sl') {s : ByteArray × Int × Int × Bool × Bool × Bool × Bool × List D × Bool} {op a b c i : Int} {l9 l10 l13 : List D} {s12 : ByteArray}
    (h : insB l1 sl en s op a b c l9 l10 i s12 l13 = true) : insB l1' sl' en s op a b c l9 l10 i s12 l13 = true := by
  unfold insB at h ⊢
  simp only [Bool.and_eq_true] at h ⊢
  exact ⟨⟨h.1.1, fits_wide hl hp hs h.1.2⟩, fits_wide hl hp hs h.2⟩

theorem code_slots_law {l1 : List D} (hF : ListS tab 56 l1) (h30 : True) (z2 : Int) {l3 : List D} (hT : ListS tab 82 l3) {op a b c i : Int} (h0 : 0 ≤ op) (h1 : op < 256) {l9 l10 l13 : List D} {s12 : ByteArray} (h9 : ListS tab 3 l9) (h10 : ListS tab 9 l10) (z4 z14 : Int)
    (t31 : ∃ r, Ev (fun n => F31 n l1 z2 l3) r ∧ (r = false → l1.length ≤ 30)) : Ev (fun n => F11 n l1 z2 l3 z4 op a b c l9 l10 i s12 l13 z14) true := by
  obtain ⟨r, hr, hr2⟩ := t31
  obtain ⟨r', hr'⟩ := tot32 op a b c l9 h10 i s12 l13
  have yes : Ev (fun n => bO1 (F35 n) fun b => some b) true := Ev.bO1 ev35 Ev.ret
  unfold F11
  refine Ev.bO1 hr ?_
  cases r
  rotate_left
  · simp only [if_true]; exact yes
  have hlen := hr2 rfl
  simp only [Bool.false_eq_true, if_false]
  refine Ev.bO1 hr' ?_
  cases r'
  rotate_left
  · simp only [if_true]; exact yes
  simp only [Bool.false_eq_true, if_false]
  refine Ev.bO1 (ev33a hF h0 h1 h9 h10 z2 l3 z4) ?_
  cases hok : okIns l1 z4 op a b c l9 l10 i s12 l13
  · simp only [rc, Bool.false_eq_true, if_false, show ¬ (170 : Int) = 0 by decide]; exact yes
  simp only [rc, if_true]
  -- the function
  have hok' := hok
  unfold okIns at hok'
  rw [Bool.and_eq_true, decide_eq_true_eq] at hok'
  obtain ⟨g0, hok'⟩ := hok'
  obtain ⟨x, rfl⟩ : ∃ x : Nat, z4 = x := ⟨z4.toNat, by omega⟩
  simp only [Int.toNat_natCast] at hok'
  cases hx : l1[x]? with
  | none => rw [hx] at hok'; cases hok'
  | some v =>
  have hxl := (List.getElem?_eq_some_iff.1 hx).1
  obtain ⟨nm, pa, sl, cd, rfl, w0, w1, w2, w3⟩ := rs56 (hF.mem hx)
  rw [hx] at hok'
  have hins : insB l1 sl cd.length (shp op) op a b c l9 l10 i s12 l13 = true := hok'
  obtain ⟨hl9, hj⟩ := ok_jmp hins
  have hb : ([] : List D).length + l1.length ≤ maxLen ∧ (([] : List D).length + l1.length) * 56 ≤ 140737488355328 := by simp [maxLen]; omega
  have hn : 0 ≤ (x : Int) ∧ ((x : Int)).toNat < l1.length := ⟨by omega, by simpa using hxl⟩
  have hg : ∀ {γ : Type} (k : D → Option γ), getN l1 ((x : Int)).toNat k = k (.agg [.str nm, .int .i64 pa, .int .i64 sl, .list true 9 cd]) := fun k => by simp only [getN, Int.toNat_natCast, hx]
  simp only [appF, if_pos hb, List.nil_append, needF, if_pos hn, hg, ds_t56]
  by_cases c1 : 1000 < sl
  · simp only [if_pos c1]; exact yes
  simp only [if_neg c1, letF, if_pos (show (21 : Int) ≠ 0 by decide)]
  -- how many more
  have m0 : 0 ≤ IntKind.u64.wrap z14 := by rw [IntKind.wrap_u64]; omega
  have m1 : 0 ≤ Int.tmod (IntKind.u64.wrap z14) 21 := Int.tmod_nonneg _ m0
  have m2 : Int.tmod (IntKind.u64.wrap z14) 21 < 21 := Int.tmod_lt_of_pos _ (by omega)
  have w21 : IntKind.i64.wrap (Int.tmod (IntKind.u64.wrap z14) 21) = Int.tmod (IntKind.u64.wrap z14) 21 := IntWalk.i64_in _ (by omega)
  have hsl := i64_range w2
  rw [w21]
  generalize hm : Int.tmod (IntKind.u64.wrap z14) 21 = m at m1 m2
  have wsl : IntKind.i64.wrap (sl + m) = sl + m := IntWalk.i64_in _ (by omega)
  simp only [wsl, setF, Int.toNat_natCast, e36 _ op a b c h9 (show l9.length * 8 ≤ 140737488355328 by omega), bO1]
  have hwf : (Lit.int .i64 (sl + m)).wf = true := i64_wf (by omega) (by omega)
  have hF' : ListS tab 56 (l1.set x (.agg [.str nm, .int .i64 pa, .int .i64 (sl + m), .list true 9 cd])) := hF.set x (mk56 w0 w1 hwf w3)
  have hok2 : okIns (l1.set x (.agg [.str nm, .int .i64 pa, .int .i64 (sl + m), .list true 9 cd])) (x : Int) op a b c l9 l10 i s12 l13 = true := by
    unfold okIns
    rw [Int.toNat_natCast, List.getElem?_set_self hxl, Bool.and_eq_true, decide_eq_true_eq]
    refine ⟨by omega, ?_⟩
    refine ins_wide (List.length_set ..) (fun a n => ?_) (by omega) hins
    unfold parIs
    by_cases ha : a.toNat = x
    · rw [ha, List.getElem?_set_self hxl, hx]
    · rw [List.getElem?_set_ne (fun h => ha h.symm)]
  generalize hJ : jmp op a l9 = J at hj
  have hJl : J.length ≤ maxLen := by
    rw [← hJ]; unfold jmp
    split
    · simp [maxLen]
    · split
      · exact h9.1
      · simp
  have loop : ∀ k, k ≤ J.length → Ev (fun n => L11_1 n l1 z2 l3 (x : Int) op a b c l9 l10 i s12 l13 (l1.set x (.agg [.str nm, .int .i64 pa, .int .i64 (sl + m), .list true 9 cd])) J (k : Int)) true := by
    refine down J.length (Ev.succ ?_) (fun k hk ih => ?_)
    · simp only [L11_1, lenF, Int.lt_irrefl, if_false]
      refine Ev.bO1 (ev33a hF' h0 h1 h9 h10 z2 l3 x) ?_
      simp only [hok2, rc, if_true]
      exact yes
    · have hy := List.all_eq_true.1 hj J[k] (List.getElem_mem hk)
      have hy2 : J[k]? = some J[k] := List.getElem?_eq_getElem hk
      generalize J[k] = y at hy hy2
      have : ∃ z, y = .int .i64 z ∧ 0 ≤ z ∧ z ≤ cd.length := by
        unfold inB at hy
        split at hy
        · simp only [Bool.and_eq_true, decide_eq_true_eq] at hy
          exact ⟨_, rfl, hy.1, hy.2⟩
        · cases hy
      obtain ⟨z, rfl, q1, q2⟩ := this
      have gk : ∀ {γ : Type} (f : D → Option γ), getN J ((k : Int)).toNat f = f (.int .i64 z) := fun f => by simp only [getN, Int.toNat_natCast, hy2]
      refine Ev.succ ?_
      simp only [L11_1, lenF, if_pos (ilt hk), needF, if_pos (show 0 ≤ (k : Int) ∧ ((k : Int)).toNat < J.length from ⟨by omega, by simpa using hk⟩), gk, ds_i64, if_neg (show ¬ z < 0 by omega), getF_nat hx, ds_t56, if_neg (show ¬ (cd.length : Int) < z by omega), letF, wrap_succ hk hJl]
      exact ih
  exact loop 0 (Nat.zero_le _)
end Go.Proofs.YtjobleemmjjocaaDoor
end

set_option linter.unusedVariables false
noncomputable section
namespace Go.Proofs.YtjobleemmjjocaaDoor
open Go Go.AM
def F78 (n : Nat) (z1 : Int) (s2 : ByteArray) (l3 : List D) (z4 : Int) (s5 : ByteArray) (l6 : List D) (l7 : List D) (z8 : Int) (z9 : Int) (s10 : ByteArray) (s11 : ByteArray) (s12 : ByteArray) (l13 : List D) (l14 : List D) (z15 : Int) (z16 : Int) (z17 : Int) (s18 : ByteArray) (l19 : List D) (z20 : Int) (s21 : ByteArray) (l22 : List D) (l23 : List D) (z24 : Int) (z25 : Int) (s26 : ByteArray) (s27 : ByteArray) (s28 : ByteArray) (l29 : List D) (l30 : List D) (z31 : Int) (z32 : Int) : Option (Bool × Int × ByteArray × List D × Int × ByteArray × List D × List D × Int × Int × ByteArray × ByteArray × ByteArray × List D × List D × Int × Int) :=
  (if s2 = s18 then some (true, z17, s18, l19, z20, s21, l22, l23, z24, z25, s26, s27, s28, l29, l30, z31, z32) else some (false, z17, s18, l19, z20, s21, l22, l23, z24, z25, s26, s27, s28, l29, l30, z31, z32))
set_option maxRecDepth 100000 in
set_option maxHeartbeats 40000000 in
theorem T78 (n : Nat) : ∀ ⦃z1 : Int⦄ ⦃s2 : ByteArray⦄ ⦃l3 : List D⦄ ⦃z4 : Int⦄ ⦃s5 : ByteArray⦄ ⦃l6 : List D⦄ ⦃l7 : List D⦄ ⦃z8 : Int⦄ ⦃z9 : Int⦄ ⦃s10 : ByteArray⦄ ⦃s11 : ByteArray⦄ ⦃s12 : ByteArray⦄ ⦃l13 : List D⦄ ⦃l14 : List D⦄ ⦃z15 : Int⦄ ⦃z16 : Int⦄ ⦃z17 : Int⦄ ⦃s18 : ByteArray⦄ ⦃l19 : List D⦄ ⦃z20 : Int⦄ ⦃s21 : ByteArray⦄ ⦃l22 : List D⦄ ⦃l23 : List D⦄ ⦃z24 : Int⦄ ⦃z25 : Int⦄ ⦃s26 : ByteArray⦄ ⦃s27 : ByteArray⦄ ⦃s28 : ByteArray⦄ ⦃l29 : List D⦄ ⦃l30 : List D⦄ ⦃z31 : Int⦄ ⦃z32 : Int⦄ ⦃r1 : Bool⦄ ⦃r2 : Int⦄ ⦃r3 : ByteArray⦄ ⦃r4 : List D⦄ ⦃r5 : Int⦄ ⦃r6 : ByteArray⦄ ⦃r7 : List D⦄ ⦃r8 : List D⦄ ⦃r9 : Int⦄ ⦃r10 : Int⦄ ⦃r11 : ByteArray⦄ ⦃r12 : ByteArray⦄ ⦃r13 : ByteArray⦄ ⦃r14 : List D⦄ ⦃r15 : List D⦄ ⦃r16 : Int⦄ ⦃r17 : Int⦄, F78 n z1 s2 l3 z4 s5 l6 l7 z8 z9 s10 s11 s12 l13 l14 z15 z16 z17 s18 l19 z20 s21 l22 l23 z24 z25 s26 s27 s28 l29 l30 z31 z32 = some (r1, r2, r3, r4, r5, r6, r7, r8, r9, r10, r11, r12, r13, r14, r15, r16, r17) →
    Trip Tryd.prog inv 78 [.d (.agg [.int .u8 z1, .str s2, .list true 4 l3, .int .u8 z4, .str s5, .list true 3 l6, .list true 15 l7, .int .u8 z8, .int .i64 z9, .str s10, .str s11, .str s12, .list false 1 l13, .list true 8 l14, .int .i64 z15, .int .i64 z16]), .c (.ptr (.ext 0) 0)] [.cells [.d (.int .u8 z17), .d (.str s18), .d (.list true 4 l19), .d (.int .u8 z20), .d (.str s21), .d (.list true 3 l22), .d (.list true 15 l23), .d (.int .u8 z24), .d (.int .i64 z25), .d (.str s26), .d (.str s27), .d (.str s28), .d (.list false 1 l29), .d (.list true 8 l30), .d (.int .i64 z31), .d (.int .i64 z32)]] (.v (.d (.bool r1))) [.cells [.d (.int .u8 r2), .d (.str r3), .d (.list true 4 r4), .d (.int .u8 r5), .d (.str r6), .d (.list true 3 r7), .d (.list true 15 r8), .d (.int .u8 r9), .d (.int .i64 r10), .d (.str r11), .d (.str r12), .d (.str r13), .d (.list false 1 r14), .d (.list true 8 r15), .d (.int .i64 r16), .d (.int .i64 r17)]] [] := by
  intro z1 s2 l3 z4 s5 l6 l7 z8 z9 s10 s11 s12 l13 l14 z15 z16 z17 s18 l19 z20 s21 l22 l23 z24 z25 s26 s27 s28 l29 l30 z31 z32 r1 r2 r3 r4 r5 r6 r7 r8 r9 r10 r11 r12 r13 r14 r15 r16 r17 h
  unfold F78 at h
  refine Trip.of tab_ok tab_one fol Tryd.func78 rfl (by kernel_rfl) rfl rfl rfl (fun M hM hI => ?_)
  try cbv
  refine seq_go ?_
  try cbv
  refine seq_go ?_
  try cbv
  refine splitS (fun e => ?_) (fun e => ?_)
  · replace h := ite_t (bytes_eq.1 e) h
    clear e
    try cbv
    obtain ⟨rfl, rfl, rfl, rfl, rfl, rfl, rfl, rfl, rfl, rfl, rfl, rfl, rfl, rfl, rfl, rfl, rfl⟩ := inj17 h
    refine fin_go ?_
    try cbv
    exact ⟨[], rfl, rfl, ⟨rfl, trivial⟩, trivial, trivial⟩
  · replace h := ite_f (bytes_ne.1 e) h
    clear e
    try cbv
    obtain ⟨rfl, rfl, rfl, rfl, rfl, rfl, rfl, rfl, rfl, rfl, rfl, rfl, rfl, rfl, rfl, rfl, rfl⟩ := inj17 h
    refine fin_go ?_
    try cbv
    exact ⟨[], rfl, rfl, ⟨rfl, trivial⟩, trivial, trivial⟩
end Go.Proofs.YtjobleemmjjocaaDoor
end

set_option linter.unusedVariables false
noncomputable section
namespace Go.Proofs.YtjobleemmjjocaaDoor
open Go Go.AM
def L88_1 : Nat → (List D) → Int → Int → Int → ByteArray → (List D) → Int → ByteArray → (List D) → (List D) → Int → Int → ByteArray → ByteArray → ByteArray → (List D) → (List D) → Int → Int → Option (Int × Int × ByteArray × List D × Int × ByteArray × List D × List D × Int × Int × ByteArray × ByteArray × ByteArray × List D × List D × Int × Int)
  | 0, _, _, _, _, _, _, _, _, _, _, _, _, _, _, _, _, _, _, _ => none
  | n + 1, l1, z18, z19, z20, s21, l22, z23, s24, l25, l26, z27, z28, s29, s30, s31, l32, l33, z34, z35 =>
    (if z19 < z18 then getF l1 z19 fun x36 => ds_t82 x36 fun z37 s38 l39 z40 s41 l42 l43 z44 z45 s46 s47 s48 l49 l50 z51 z52 => bO17 (F78 n z37 s38 l39 z40 s41 l42 l43 z44 z45 s46 s47 s48 l49 l50 z51 z52 z20 s21 l22 z23 s24 l25 l26 z27 z28 s29 s30 s31 l32 l33 z34 z35) fun b53 z54 s55 l56 z57 s58 l59 l60 z61 z62 s63 s64 s65 l66 l67 z68 z69 => (if b53 = true then some (z19, z54, s55, l56, z57, s58, l59, l60, z61, z62, s63, s64, s65, l66, l67, z68, z69) else letF (IntKind.wrap .i64 (z19 + 1)) fun z70 => L88_1 n l1 z18 z70 z54 s55 l56 z57 s58 l59 l60 z61 z62 s63 s64 s65 l66 l67 z68 z69) else some ((-1 : Int), z20, s21, l22, z23, s24, l25, l26, z27, z28, s29, s30, s31, l32, l33, z34, z35))
def F88 (n : Nat) (l1 : List D) (z2 : Int) (s3 : ByteArray) (l4 : List D) (z5 : Int) (s6 : ByteArray) (l7 : List D) (l8 : List D) (z9 : Int) (z10 : Int) (s11 : ByteArray) (s12 : ByteArray) (s13 : ByteArray) (l14 : List D) (l15 : List D) (z16 : Int) (z17 : Int) : Option (Int × Int × ByteArray × List D × Int × ByteArray × List D × List D × Int × Int × ByteArray × ByteArray × ByteArray × List D × List D × Int × Int) :=
  lenF l1 fun z18 => L88_1 n l1 z18 (0 : Int) z2 s3 l4 z5 s6 l7 l8 z9 z10 s11 s12 s13 l14 l15 z16 z17
set_option maxRecDepth 100000 in
set_option maxHeartbeats 40000000 in
theorem T88 (n : Nat) : ∀ ⦃l1 : List D⦄ ⦃z2 : Int⦄ ⦃s3 : ByteArray⦄ ⦃l4 : List D⦄ ⦃z5 : Int⦄ ⦃s6 : ByteArray⦄ ⦃l7 : List D⦄ ⦃l8 : List D⦄ ⦃z9 : Int⦄ ⦃z10 : Int⦄ ⦃s11 : ByteArray⦄ ⦃s12 : ByteArray⦄ ⦃s13 : ByteArray⦄ ⦃l14 : List D⦄ ⦃l15 : List D⦄ ⦃z16 : Int⦄ ⦃z17 : Int⦄ ⦃r1 : Int⦄ ⦃r2 : Int⦄ ⦃r3 : ByteArray⦄ ⦃r4 : List D⦄ ⦃r5 : Int⦄ ⦃r6 : ByteArray⦄ ⦃r7 : List D⦄ ⦃r8 : List D⦄ ⦃r9 : Int⦄ ⦃r10 : Int⦄ ⦃r11 : ByteArray⦄ ⦃r12 : ByteArray⦄ ⦃r13 : ByteArray⦄ ⦃r14 : List D⦄ ⦃r15 : List D⦄ ⦃r16 : Int⦄ ⦃r17 : Int⦄, F88 n l1 z2 s3 l4 z5 s6 l7 l8 z9 z10 s11 s12 s13 l14 l15 z16 z17 = some (r1, r2, r3, r4, r5, r6, r7, r8, r9, r10, r11, r12, r13, r14, r15, r16, r17) →
    Trip Tryd.prog inv 88 [.d (.list true 16 l1), .c (.fn 78 [.ext 0])] [.cells [.d (.int .u8 z2), .d (.str s3), .d (.list true 4 l4), .d (.int .u8 z5), .d (.str s6), .d (.list true 3 l7), .d (.list true 15 l8), .d (.int .u8 z9), .d (.int .i64 z10), .d (.str s11), .d (.str s12), .d (.str s13), .d (.list false 1 l14), .d (.list true 8 l15), .d (.int .i64 z16), .d (.int .i64 z17)]] (.v (.d (.int .i64 r1))) [.cells [.d (.int .u8 r2), .d (.str r3), .d (.list true 4 r4), .d (.int .u8 r5), .d (.str r6), .d (.list true 3 r7), .d (.list true 15 r8), .d (.int .u8 r9), .d (.int .i64 r10), .d (.str r11), .d (.str r12), .d (.str r13), .d (.list false 1 r14), .d (.list true 8 r15), .d (.int .i64 r16), .d (.int .i64 r17)]] [] := by
  intro l1 z2 s3 l4 z5 s6 l7 l8 z9 z10 s11 s12 s13 l14 l15 z16 z17 r1 r2 r3 r4 r5 r6 r7 r8 r9 r10 r11 r12 r13 r14 r15 r16 r17 h
  unfold F88 at h
  refine Trip.of tab_ok tab_one fol Tryd.func88 rfl (by kernel_rfl) rfl rfl rfl (fun M hM hI => ?_)
  try cbv
  refine seq_go ?_
  try cbv
  refine seq_go ?_
  try cbv
  refine seq_go ?_
  try cbv
  replace h := lenF_inv M h
  obtain ⟨z18, hz, h⟩ := h
  refine ⟨z18, hz, ?_⟩
  clear hz
  try cbv
  refine loop_inv (T := Nat × Int × Int × ByteArray × List D × Int × ByteArray × List D × List D × Int × Int × ByteArray × ByteArray × ByteArray × List D × List D × Int × Int) [0, 1, 4, 7, 8] [.ext 0] 128 (fun t => ⟨[(0, .v (.d (.list true 16 l1))), (1, .v (.c (.fn 78 [.ext 0]))), (4, .v (.d (.int .i64 0))), (7, .v (.d (.int .i64 z18))), (8, .v (.d (.int .i64 t.2.1)))], [(.ext 0, .cells [.d (.int .u8 t.2.2.1), .d (.str t.2.2.2.1), .d (.list true 4 t.2.2.2.2.1), .d (.int .u8 t.2.2.2.2.2.1), .d (.str t.2.2.2.2.2.2.1), .d (.list true 3 t.2.2.2.2.2.2.2.1), .d (.list true 15 t.2.2.2.2.2.2.2.2.1), .d (.int .u8 t.2.2.2.2.2.2.2.2.2.1), .d (.int .i64 t.2.2.2.2.2.2.2.2.2.2.1), .d (.str t.2.2.2.2.2.2.2.2.2.2.2.1), .d (.str t.2.2.2.2.2.2.2.2.2.2.2.2.1), .d (.str t.2.2.2.2.2.2.2.2.2.2.2.2.2.1), .d (.list false 1 t.2.2.2.2.2.2.2.2.2.2.2.2.2.2.1), .d (.list true 8 t.2.2.2.2.2.2.2.2.2.2.2.2.2.2.2.1), .d (.int .i64 t.2.2.2.2.2.2.2.2.2.2.2.2.2.2.2.2.1), .d (.int .i64 t.2.2.2.2.2.2.2.2.2.2.2.2.2.2.2.2.2)])], 128⟩)
    (fun t => t.1 ≤ n ∧ L88_1 t.1 l1 z18 t.2.1 t.2.2.1 t.2.2.2.1 t.2.2.2.2.1 t.2.2.2.2.2.1 t.2.2.2.2.2.2.1 t.2.2.2.2.2.2.2.1 t.2.2.2.2.2.2.2.2.1 t.2.2.2.2.2.2.2.2.2.1 t.2.2.2.2.2.2.2.2.2.2.1 t.2.2.2.2.2.2.2.2.2.2.2.1 t.2.2.2.2.2.2.2.2.2.2.2.2.1 t.2.2.2.2.2.2.2.2.2.2.2.2.2.1 t.2.2.2.2.2.2.2.2.2.2.2.2.2.2.1 t.2.2.2.2.2.2.2.2.2.2.2.2.2.2.2.1 t.2.2.2.2.2.2.2.2.2.2.2.2.2.2.2.2.1 t.2.2.2.2.2.2.2.2.2.2.2.2.2.2.2.2.2 = some (r1, r2, r3, r4, r5, r6, r7, r8, r9, r10, r11, r12, r13, r14, r15, r16, r17)) (fun t => t.1) (n, ((0 : Int), z2, s3, l4, z5, s6, l7, l8, z9, z10, s11, s12, s13, l14, l15, z16, z17)) ⟨Nat.le_refl _, h⟩ (by cbv) ?_
  clear h
  rintro ⟨m1, z19, z20, s21, l22, z23, s24, l25, l26, z27, z28, s29, s30, s31, l32, l33, z34, z35⟩ ⟨hm1, h⟩
  replace hm1 : m1 ≤ n := hm1
  cases m1 with
  | zero =>
    replace h : L88_1 0 l1 z18 z19 z20 s21 l22 z23 s24 l25 l26 z27 z28 s29 s30 s31 l32 l33 z34 z35 = some (r1, r2, r3, r4, r5, r6, r7, r8, r9, r10, r11, r12, r13, r14, r15, r16, r17) := h
    rw [L88_1] at h
    cases h
  | succ m1 =>
    replace h : L88_1 (m1 + 1) l1 z18 z19 z20 s21 l22 z23 s24 l25 l26 z27 z28 s29 s30 s31 l32 l33 z34 z35 = some (r1, r2, r3, r4, r5, r6, r7, r8, r9, r10, r11, r12, r13, r14, r15, r16, r17) := h
    rw [L88_1] at h
    try cbv
    refine seq_go ?_
    try cbv
    refine splitL (fun e => ?_) (fun e => ?_)
    · replace h := ite_t e h
      clear e
      try cbv
      refine seq_go ?_
      try cbv
      refine seq_go ?_
      try cbv
      refine seq_go ?_
      try cbv
      refine seq_go ?_
      try cbv
      replace h := getF_inv h
      obtain ⟨x36, ⟨hx0, hx⟩, h⟩ := h
      refine ⟨x36, hx0, hx, ?_⟩
      clear hx0 hx
      replace h := ds_t82_inv h
      obtain ⟨z37, s38, l39, z40, s41, l42, l43, z44, z45, s46, s47, s48, l49, l50, z51, z52, rfl, h⟩ := h
      try cbv
      replace h := bO17_inv h
      obtain ⟨b53, z54, s55, l56, z57, s58, l59, l60, z61, z62, s63, s64, s65, l66, l67, z68, z69, hr, h⟩ := h
      refine call_go rfl rfl ?_
      try cbv
      refine call_with hM hI [.ext 0] (T78 _ hr) rfl (by simp) ⟨rfl, trivial⟩ ⟨trivial, trivial⟩ (by simp) ?_
      clear hr
      try cbv
      cases b53
      · replace h := ite_f Bool.false_ne_true h
        try cbv
        replace h := letF_inv h
        obtain ⟨z70, hz, h⟩ := h
        refine ⟨z70, hz, ?_⟩
        clear hz
        try cbv
        exact loop_next (m1, (z70, z54, s55, l56, z57, s58, l59, l60, z61, z62, s63, s64, s65, l66, l67, z68, z69)) [0, 1, 4, 7, 8] [.ext 0] 128 ⟨by omega, h⟩ (Nat.lt_succ_of_le (by omega)) (by cbv)
      · replace h := ite_t rfl h
        try cbv
        refine seq_go ?_
        try cbv
        obtain ⟨rfl, rfl, rfl, rfl, rfl, rfl, rfl, rfl, rfl, rfl, rfl, rfl, rfl, rfl, rfl, rfl, rfl⟩ := inj17 h
        refine fin_go ?_
        try cbv
        exact ⟨[], rfl, rfl, ⟨rfl, trivial⟩, trivial, trivial⟩
    · replace h := ite_f (Int.not_lt.2 e) h
      clear e
      try cbv
      refine seq_go ?_
      try cbv
      refine seq_go ?_
      try cbv
      obtain ⟨rfl, rfl, rfl, rfl, rfl, rfl, rfl, rfl, rfl, rfl, rfl, rfl, rfl, rfl, rfl, rfl, rfl⟩ := inj17 h
      refine fin_go ?_
      try cbv
      exact ⟨[], rfl, rfl, ⟨rfl, trivial⟩, trivial, trivial⟩
end Go.Proofs.YtjobleemmjjocaaDoor
end

set_option linter.unusedVariables false
noncomputable section
namespace Go.Proofs.YtjobleemmjjocaaDoor
open Go Go.AM
def F79 (n : Nat) (l1 : List D) (z2 : Int) (s3 : ByteArray) (l4 : List D) (z5 : Int) (s6 : ByteArray) (l7 : List D) (l8 : List D) (z9 : Int) (z10 : Int) (s11 : ByteArray) (s12 : ByteArray) (s13 : ByteArray) (l14 : List D) (l15 : List D) (z16 : Int) (z17 : Int) : Option (Bool × Int × ByteArray × List D × Int × ByteArray × List D × List D × Int × Int × ByteArray × ByteArray × ByteArray × List D × List D × Int × Int) :=
  bO17 (F88 n l1 z2 s3 l4 z5 s6 l7 l8 z9 z10 s11 s12 s13 l14 l15 z16 z17) fun z18 z19 s20 l21 z22 s23 l24 l25 z26 z27 s28 s29 s30 l31 l32 z33 z34 => (if (0 : Int) ≤ z18 then some (true, z19, s20, l21, z22, s23, l24, l25, z26, z27, s28, s29, s30, l31, l32, z33, z34) else some (false, z19, s20, l21, z22, s23, l24, l25, z26, z27, s28, s29, s30, l31, l32, z33, z34))
set_option maxRecDepth 100000 in
set_option maxHeartbeats 40000000 in
theorem T79 (n : Nat) : ∀ ⦃l1 : List D⦄ ⦃z2 : Int⦄ ⦃s3 : ByteArray⦄ ⦃l4 : List D⦄ ⦃z5 : Int⦄ ⦃s6 : ByteArray⦄ ⦃l7 : List D⦄ ⦃l8 : List D⦄ ⦃z9 : Int⦄ ⦃z10 : Int⦄ ⦃s11 : ByteArray⦄ ⦃s12 : ByteArray⦄ ⦃s13 : ByteArray⦄ ⦃l14 : List D⦄ ⦃l15 : List D⦄ ⦃z16 : Int⦄ ⦃z17 : Int⦄ ⦃r1 : Bool⦄ ⦃r2 : Int⦄ ⦃r3 : ByteArray⦄ ⦃r4 : List D⦄ ⦃r5 : Int⦄ ⦃r6 : ByteArray⦄ ⦃r7 : List D⦄ ⦃r8 : List D⦄ ⦃r9 : Int⦄ ⦃r10 : Int⦄ ⦃r11 : ByteArray⦄ ⦃r12 : ByteArray⦄ ⦃r13 : ByteArray⦄ ⦃r14 : List D⦄ ⦃r15 : List D⦄ ⦃r16 : Int⦄ ⦃r17 : Int⦄, F79 n l1 z2 s3 l4 z5 s6 l7 l8 z9 z10 s11 s12 s13 l14 l15 z16 z17 = some (r1, r2, r3, r4, r5, r6, r7, r8, r9, r10, r11, r12, r13, r14, r15, r16, r17) →
    Trip Tryd.prog inv 79 [.d (.list true 16 l1), .c (.fn 78 [.ext 0])] [.cells [.d (.int .u8 z2), .d (.str s3), .d (.list true 4 l4), .d (.int .u8 z5), .d (.str s6), .d (.list true 3 l7), .d (.list true 15 l8), .d (.int .u8 z9), .d (.int .i64 z10), .d (.str s11), .d (.str s12), .d (.str s13), .d (.list false 1 l14), .d (.list true 8 l15), .d (.int .i64 z16), .d (.int .i64 z17)]] (.v (.d (.bool r1))) [.cells [.d (.int .u8 r2), .d (.str r3), .d (.list true 4 r4), .d (.int .u8 r5), .d (.str r6), .d (.list true 3 r7), .d (.list true 15 r8), .d (.int .u8 r9), .d (.int .i64 r10), .d (.str r11), .d (.str r12), .d (.str r13), .d (.list false 1 r14), .d (.list true 8 r15), .d (.int .i64 r16), .d (.int .i64 r17)]] [] := by
  intro l1 z2 s3 l4 z5 s6 l7 l8 z9 z10 s11 s12 s13 l14 l15 z16 z17 r1 r2 r3 r4 r5 r6 r7 r8 r9 r10 r11 r12 r13 r14 r15 r16 r17 h
  unfold F79 at h
  refine Trip.of tab_ok tab_one fol Tryd.func79 rfl (by kernel_rfl) rfl rfl rfl (fun M hM hI => ?_)
  try cbv
  refine seq_go ?_
  try cbv
  refine seq_go ?_
  try cbv
  replace h := bO17_inv h
  obtain ⟨z18, z19, s20, l21, z22, s23, l24, l25, z26, z27, s28, s29, s30, l31, l32, z33, z34, hr, h⟩ := h
  refine call_go rfl rfl ?_
  try cbv
  refine call_with hM hI [.ext 0] (T88 _ hr) rfl (by simp) ⟨rfl, trivial⟩ ⟨trivial, trivial⟩ (by simp) ?_
  clear hr
  try cbv
  refine splitLe (fun e => ?_) (fun e => ?_)
  · replace h := ite_t e h
    clear e
    try cbv
    obtain ⟨rfl, rfl, rfl, rfl, rfl, rfl, rfl, rfl, rfl, rfl, rfl, rfl, rfl, rfl, rfl, rfl, rfl⟩ := inj17 h
    refine fin_go ?_
    try cbv
    exact ⟨[], rfl, rfl, ⟨rfl, trivial⟩, trivial, trivial⟩
  · replace h := ite_f (Int.not_le.2 e) h
    clear e
    try cbv
    obtain ⟨rfl, rfl, rfl, rfl, rfl, rfl, rfl, rfl, rfl, rfl, rfl, rfl, rfl, rfl, rfl, rfl, rfl⟩ := inj17 h
    refine fin_go ?_
    try cbv
    exact ⟨[], rfl, rfl, ⟨rfl, trivial⟩, trivial, trivial⟩
end Go.Proofs.YtjobleemmjjocaaDoor
end

set_option linter.unusedVariables false
noncomputable section
namespace Go.Proofs.YtjobleemmjjocaaDoor
open Go Go.AM
def L66_1 : Nat → (List D) → Int → Int → Option (Bool)
  | 0, _, _, _ => none
  | n + 1, l1, z3, z4 =>
    (if z4 < z3 then getF l1 z4 fun x5 => ds_t82 x5 fun z6 s7 l8 z9 s10 l11 l12 z13 z14 s15 s16 s17 l18 l19 z20 z21 => (if z6 = (1 : Int) then lenF l8 fun z22 => (if (6 : Int) < z22 then some false else sliceF l1 (0 : Int) z4 fun l23 => bO17 (F79 n l23 z6 s7 l8 z9 s10 l11 l12 z13 z14 s15 s16 s17 l18 l19 z20 z21) fun b24 z25 s26 l27 z28 s29 l30 l31 z32 z33 s34 s35 s36 l37 l38 z39 z40 => (if b24 = true then some false else letF (IntKind.wrap .i64 (z4 + 1)) fun z60 => L66_1 n l1 z3 z60)) else (if z6 = (2 : Int) then lenF l8 fun z41 => (if (6 : Int) < z41 then some false else sliceF l1 (0 : Int) z4 fun l42 => bO17 (F79 n l42 z6 s7 l8 z9 s10 l11 l12 z13 z14 s15 s16 s17 l18 l19 z20 z21) fun b43 z44 s45 l46 z47 s48 l49 l50 z51 z52 s53 s54 s55 l56 l57 z58 z59 => (if b43 = true then some false else letF (IntKind.wrap .i64 (z4 + 1)) fun z61 => L66_1 n l1 z3 z61)) else some false)) else some true)
def F66 (n : Nat) (l1 : List D) : Option (Bool) :=
  lenF l1 fun z2 => (if (30 : Int) < z2 then some false else lenF l1 fun z3 => L66_1 n l1 z3 (0 : Int))
set_option maxRecDepth 100000 in
set_option maxHeartbeats 40000000 in
theorem T66 (n : Nat) : ∀ ⦃l1 : List D⦄ ⦃r1 : Bool⦄, F66 n l1 = some r1 →
    Trip Tryd.prog inv 66 [.d (.list true 16 l1)] [] (.v (.d (.bool r1))) [] [] := by
  intro l1 r1 h
  unfold F66 at h
  refine Trip.of tab_ok tab_one fol Tryd.func66 rfl (by kernel_rfl) rfl rfl rfl (fun M hM hI => ?_)
  try cbv
  refine seq_go ?_
  try cbv
  refine seq_go ?_
  try cbv
  refine seq_go ?_
  try cbv
  replace h := lenF_inv M h
  obtain ⟨z2, hz, h⟩ := h
  refine ⟨z2, hz, ?_⟩
  clear hz
  try cbv
  refine splitL (fun e => ?_) (fun e => ?_)
  · replace h := ite_t e h
    clear e
    try cbv
    refine seq_go ?_
    try cbv
    obtain rfl := Option.some.inj h
    refine fin_go ?_
    try cbv
    exact ⟨[], rfl, rfl, trivial, trivial, trivial⟩
  · replace h := ite_f (Int.not_lt.2 e) h
    clear e
    try cbv
    refine seq_go ?_
    try cbv
    refine seq_go ?_
    try cbv
    replace h := lenF_inv M h
    obtain ⟨z3, hz, h⟩ := h
    refine ⟨z3, hz, ?_⟩
    clear hz
    try cbv
    refine loop_inv (T := Nat × Int) [0, 2, 9, 10, 11] [] 224 (fun t => ⟨[(0, .v (.d (.list true 16 l1))), (2, .v (.d (.bool false))), (9, .v (.d (.list true 16 l1))), (10, .v (.d (.int .i64 z3))), (11, .v (.d (.int .i64 t.2)))], [], 224⟩)
      (fun t => t.1 ≤ n ∧ L66_1 t.1 l1 z3 t.2 = some r1) (fun t => t.1) (n, (0 : Int)) ⟨Nat.le_refl _, h⟩ (by cbv) ?_
    clear h
    rintro ⟨m1, z4⟩ ⟨hm1, h⟩
    replace hm1 : m1 ≤ n := hm1
    cases m1 with
    | zero =>
      replace h : L66_1 0 l1 z3 z4 = some r1 := h
      rw [L66_1] at h
      cases h
    | succ m1 =>
      replace h : L66_1 (m1 + 1) l1 z3 z4 = some r1 := h
      rw [L66_1] at h
      try cbv
      refine seq_go ?_
      try cbv
      refine splitL (fun e => ?_) (fun e => ?_)
      · replace h := ite_t e h
        clear e
        try cbv
        refine seq_go ?_
        try cbv
        refine seq_go ?_
        try cbv
        refine seq_go ?_
        try cbv
        replace h := getF_inv h
        obtain ⟨x5, ⟨hx0, hx⟩, h⟩ := h
        refine ⟨x5, hx0, hx, ?_⟩
        clear hx0 hx
        replace h := ds_t82_inv h
        obtain ⟨z6, s7, l8, z9, s10, l11, l12, z13, z14, s15, s16, s17, l18, l19, z20, z21, rfl, h⟩ := h
        try cbv
        refine seq_go ?_
        try cbv
        refine seq_go ?_
        try cbv
        refine splitI (fun e => ?_) (fun e => ?_)
        · replace h := ite_t e h
          clear e
          try cbv
          replace h := lenF_inv M h
          obtain ⟨z22, hz, h⟩ := h
          refine ⟨z22, hz, ?_⟩
          clear hz
          try cbv
          refine splitL (fun e => ?_) (fun e => ?_)
          · replace h := ite_t e h
            clear e
            try cbv
            refine seq_go ?_
            try cbv
            obtain rfl := Option.some.inj h
            refine fin_go ?_
            try cbv
            exact ⟨[], rfl, rfl, trivial, trivial, trivial⟩
          · replace h := ite_f (Int.not_lt.2 e) h
            clear e
            try cbv
            replace h := sliceF_inv M h
            obtain ⟨l23, hb, hz, h⟩ := h
            refine ⟨l23, hb, hz, ?_⟩
            clear hb hz
            try cbv
            replace h := bO17_inv h
            obtain ⟨b24, z25, s26, l27, z28, s29, l30, l31, z32, z33, s34, s35, s36, l37, l38, z39, z40, hr, h⟩ := h
            refine call_go rfl rfl ?_
            try cbv
            refine call_with hM hI [.loc 352] (T79 _ hr) rfl (by simp) ⟨rfl, trivial⟩ ⟨trivial, trivial⟩ (by simp) ?_
            clear hr
            try cbv
            cases b24
            · replace h := ite_f Bool.false_ne_true h
              try cbv
              replace h := letF_inv h
              obtain ⟨z60, hz, h⟩ := h
              refine ⟨z60, hz, ?_⟩
              clear hz
              try cbv
              exact loop_next (m1, z60) [0, 2, 9, 10, 11] [] 224 ⟨by omega, h⟩ (Nat.lt_succ_of_le (by omega)) (by cbv)
            · replace h := ite_t rfl h
              try cbv
              refine seq_go ?_
              try cbv
              obtain rfl := Option.some.inj h
              refine fin_go ?_
              try cbv
              exact ⟨[], rfl, rfl, trivial, trivial, trivial⟩
        · replace h := ite_f e h
          clear e
          try cbv
          refine splitI (fun e => ?_) (fun e => ?_)
          · replace h := ite_t e h
            clear e
            try cbv
            replace h := lenF_inv M h
            obtain ⟨z41, hz, h⟩ := h
            refine ⟨z41, hz, ?_⟩
            clear hz
            try cbv
            refine splitL (fun e => ?_) (fun e => ?_)
            · replace h := ite_t e h
              clear e
              try cbv
              refine seq_go ?_
              try cbv
              obtain rfl := Option.some.inj h
              refine fin_go ?_
              try cbv
              exact ⟨[], rfl, rfl, trivial, trivial, trivial⟩
            · replace h := ite_f (Int.not_lt.2 e) h
              clear e
              try cbv
              replace h := sliceF_inv M h
              obtain ⟨l42, hb, hz, h⟩ := h
              refine ⟨l42, hb, hz, ?_⟩
              clear hb hz
              try cbv
              replace h := bO17_inv h
              obtain ⟨b43, z44, s45, l46, z47, s48, l49, l50, z51, z52, s53, s54, s55, l56, l57, z58, z59, hr, h⟩ := h
              refine call_go rfl rfl ?_
              try cbv
              refine call_with hM hI [.loc 352] (T79 _ hr) rfl (by simp) ⟨rfl, trivial⟩ ⟨trivial, trivial⟩ (by simp) ?_
              clear hr
              try cbv
              cases b43
              · replace h := ite_f Bool.false_ne_true h
                try cbv
                replace h := letF_inv h
                obtain ⟨z61, hz, h⟩ := h
                refine ⟨z61, hz, ?_⟩
                clear hz
                try cbv
                exact loop_next (m1, z61) [0, 2, 9, 10, 11] [] 224 ⟨by omega, h⟩ (Nat.lt_succ_of_le (by omega)) (by cbv)
              · replace h := ite_t rfl h
                try cbv
                refine seq_go ?_
                try cbv
                obtain rfl := Option.some.inj h
                refine fin_go ?_
                try cbv
                exact ⟨[], rfl, rfl, trivial, trivial, trivial⟩
          · replace h := ite_f e h
            clear e
            try cbv
            refine seq_go ?_
            try cbv
            obtain rfl := Option.some.inj h
            refine fin_go ?_
            try cbv
            exact ⟨[], rfl, rfl, trivial, trivial, trivial⟩
      · replace h := ite_f (Int.not_lt.2 e) h
        clear e
        try cbv
        refine seq_go ?_
        try cbv
        refine seq_go ?_
        try cbv
        obtain rfl := Option.some.inj h
        refine fin_go ?_
        try cbv
        exact ⟨[], rfl, rfl, trivial, trivial, trivial⟩
end Go.Proofs.YtjobleemmjjocaaDoor
end

set_option linter.unusedVariables false
noncomputable section
namespace Go.Proofs.YtjobleemmjjocaaDoor
open Go Go.AM
mutual
def L39_1 : Nat → (List D) → Int → (List D) → Int → Int → Option (Int)
  | 0, _, _, _, _, _ => none
  | n + 1, l1, z2, l3, z12, z13 =>
    (if z13 < z12 then getF l1 z13 fun x14 => ds_t56 x14 fun s15 z16 z17 l18 => bO1 (F53 n s15) fun b19 => (if b19 = true then (if z16 < (0 : Int) then some (170 : Int) else (if z17 < z16 then some (170 : Int) else (if (60 : Int) < z17 then some (170 : Int) else lenF l18 fun z20 => (if (4000 : Int) < z20 then some (170 : Int) else lenF l18 fun z21 => L39_2 n l1 z2 l3 z12 z13 l18 z21 (0 : Int))))) else some (170 : Int)) else some (0 : Int))
def L39_2 : Nat → (List D) → Int → (List D) → Int → Int → (List D) → Int → Int → Option (Int)
  | 0, _, _, _, _, _, _, _, _ => none
  | n + 1, l1, z2, l3, z12, z13, l18, z21, z22 =>
    (if z22 < z21 then getF l18 z22 fun x23 => ds_t48 x23 fun z24 z25 z26 z27 l28 l29 z30 s31 l32 => bO1 (F33 n l1 z2 l3 z13 z24 z25 z26 z27 l28 l29 z30 s31 l32) fun z33 => (if z33 = (0 : Int) then letF (IntKind.wrap .i64 (z22 + 1)) fun z34 => L39_2 n l1 z2 l3 z12 z13 l18 z21 z34 else some z33) else letF (IntKind.wrap .i64 (z13 + 1)) fun z35 => L39_1 n l1 z2 l3 z12 z35)
end
def F39 (n : Nat) (l1 : List D) (z2 : Int) (l3 : List D) : Option (Int) :=
  lenF l1 fun z4 => (if (200 : Int) < z4 then some (170 : Int) else (if z2 < (0 : Int) then some (170 : Int) else lenF l1 fun z5 => (if z5 ≤ z2 then some (170 : Int) else getF l1 z2 fun x6 => ds_t56 x6 fun s7 z8 z9 l10 => (if z8 = (0 : Int) then bO1 (F66 n l3) fun b11 => (if b11 = true then lenF l1 fun z12 => L39_1 n l1 z2 l3 z12 (0 : Int) else some (170 : Int)) else some (170 : Int)))))
set_option maxRecDepth 100000 in
set_option maxHeartbeats 40000000 in
theorem T39 (n : Nat) : ∀ ⦃l1 : List D⦄ ⦃z2 : Int⦄ ⦃l3 : List D⦄ ⦃r1 : Int⦄, F39 n l1 z2 l3 = some r1 →
    Trip Tryd.prog inv 39 [.d (.agg [.list true 4 l1, .int .i64 z2, .list true 16 l3])] [] (.v (.d (.int .i64 r1))) [] [] := by
  intro l1 z2 l3 r1 h
  unfold F39 at h
  refine Trip.of tab_ok tab_one fol Tryd.func39 rfl (by kernel_rfl) rfl rfl rfl (fun M hM hI => ?_)
  try cbv
  refine seq_go ?_
  try cbv
  refine seq_go ?_
  try cbv
  refine seq_go ?_
  try cbv
  replace h := lenF_inv M h
  obtain ⟨z4, hz, h⟩ := h
  refine ⟨z4, hz, ?_⟩
  clear hz
  try cbv
  refine splitL (fun e => ?_) (fun e => ?_)
  · replace h := ite_t e h
    clear e
    try cbv
    refine seq_go ?_
    try cbv
    obtain rfl := Option.some.inj h
    refine fin_go ?_
    try cbv
    exact ⟨[], rfl, rfl, trivial, trivial, trivial⟩
  · replace h := ite_f (Int.not_lt.2 e) h
    clear e
    try cbv
    refine splitL (fun e => ?_) (fun e => ?_)
    · replace h := ite_t e h
      clear e
      try cbv
      refine seq_go ?_
      try cbv
      obtain rfl := Option.some.inj h
      refine fin_go ?_
      try cbv
      exact ⟨[], rfl, rfl, trivial, trivial, trivial⟩
    · replace h := ite_f (Int.not_lt.2 e) h
      clear e
      try cbv
      replace h := lenF_inv M h
      obtain ⟨z5, hz, h⟩ := h
      refine ⟨z5, hz, ?_⟩
      clear hz
      try cbv
      refine splitLe (fun e => ?_) (fun e => ?_)
      · replace h := ite_t e h
        clear e
        try cbv
        refine seq_go ?_
        try cbv
        obtain rfl := Option.some.inj h
        refine fin_go ?_
        try cbv
        exact ⟨[], rfl, rfl, trivial, trivial, trivial⟩
      · replace h := ite_f (Int.not_le.2 e) h
        clear e
        try cbv
        replace h := getF_inv h
        obtain ⟨x6, ⟨hx0, hx⟩, h⟩ := h
        refine ⟨x6, hx0, hx, ?_⟩
        clear hx0 hx
        replace h := ds_t56_inv h
        obtain ⟨s7, z8, z9, l10, rfl, h⟩ := h
        try cbv
        refine splitI (fun e => ?_) (fun e => ?_)
        · replace h := ite_t e h
          clear e
          try cbv
          replace h := bO1_inv h
          obtain ⟨b11, hr, h⟩ := h
          refine call_go rfl rfl ?_
          try cbv
          refine call_pure hM hI (T66 _ hr) rfl ?_
          clear hr
          try cbv
          cases b11
          · replace h := ite_f Bool.false_ne_true h
            try cbv
            refine ⟨true, rfl, ?_⟩
            try cbv
            refine seq_go ?_
            try cbv
            obtain rfl := Option.some.inj h
            refine fin_go ?_
            try cbv
            exact ⟨[], rfl, rfl, trivial, trivial, trivial⟩
          · replace h := ite_t rfl h
            try cbv
            refine ⟨false, rfl, ?_⟩
            try cbv
            refine seq_go ?_
            try cbv
            refine seq_go ?_
            try cbv
            replace h := lenF_inv M h
            obtain ⟨z12, hz, h⟩ := h
            refine ⟨z12, hz, ?_⟩
            clear hz
            try cbv
            refine loop_inv (T := Nat × Int) [1, 2, 42, 43, 44] [.loc 0] 1248 (fun t => ⟨[(1, .v (.c (.ptr (.loc 0) 0))), (2, .v (.d (.int .i64 0))), (42, .v (.d (.list true 4 l1))), (43, .v (.d (.int .i64 z12))), (44, .v (.d (.int .i64 t.2)))], [(.loc 0, .cells [.d (.list true 4 l1), .d (.int .i64 z2), .d (.list true 16 l3)])], 1248⟩)
              (fun t => t.1 ≤ n ∧ L39_1 t.1 l1 z2 l3 z12 t.2 = some r1) (fun t => t.1) (n, (0 : Int)) ⟨Nat.le_refl _, h⟩ (by cbv) ?_
            clear h
            rintro ⟨m1, z13⟩ ⟨hm1, h⟩
            replace hm1 : m1 ≤ n := hm1
            cases m1 with
            | zero =>
              replace h : L39_1 0 l1 z2 l3 z12 z13 = some r1 := h
              rw [L39_1] at h
              cases h
            | succ m1 =>
              replace h : L39_1 (m1 + 1) l1 z2 l3 z12 z13 = some r1 := h
              rw [L39_1] at h
              try cbv
              refine seq_go ?_
              try cbv
              refine splitL (fun e => ?_) (fun e => ?_)
              · replace h := ite_t e h
                clear e
                try cbv
                refine seq_go ?_
                try cbv
                refine seq_go ?_
                try cbv
                refine seq_go ?_
                try cbv
                replace h := getF_inv h
                obtain ⟨x14, ⟨hx0, hx⟩, h⟩ := h
                refine ⟨x14, hx0, hx, ?_⟩
                clear hx0 hx
                replace h := ds_t56_inv h
                obtain ⟨s15, z16, z17, l18, rfl, h⟩ := h
                try cbv
                refine seq_go ?_
                try cbv
                refine seq_go ?_
                try cbv
                replace h := bO1_inv h
                obtain ⟨b19, hr, h⟩ := h
                refine call_go rfl rfl ?_
                try cbv
                refine call_pure hM hI (T53 _ hr) rfl ?_
                clear hr
                try cbv
                cases b19
                · replace h := ite_f Bool.false_ne_true h
                  try cbv
                  refine ⟨true, rfl, ?_⟩
                  try cbv
                  refine seq_go ?_
                  try cbv
                  obtain rfl := Option.some.inj h
                  refine fin_go ?_
                  try cbv
                  exact ⟨[], rfl, rfl, trivial, trivial, trivial⟩
                · replace h := ite_t rfl h
                  try cbv
                  refine ⟨false, rfl, ?_⟩
                  try cbv
                  refine splitL (fun e => ?_) (fun e => ?_)
                  · replace h := ite_t e h
                    clear e
                    try cbv
                    refine seq_go ?_
                    try cbv
                    obtain rfl := Option.some.inj h
                    refine fin_go ?_
                    try cbv
                    exact ⟨[], rfl, rfl, trivial, trivial, trivial⟩
                  · replace h := ite_f (Int.not_lt.2 e) h
                    clear e
                    try cbv
                    refine splitL (fun e => ?_) (fun e => ?_)
                    · replace h := ite_t e h
                      clear e
                      try cbv
                      refine seq_go ?_
                      try cbv
                      obtain rfl := Option.some.inj h
                      refine fin_go ?_
                      try cbv
                      exact ⟨[], rfl, rfl, trivial, trivial, trivial⟩
                    · replace h := ite_f (Int.not_lt.2 e) h
                      clear e
                      try cbv
                      refine splitL (fun e => ?_) (fun e => ?_)
                      · replace h := ite_t e h
                        clear e
                        try cbv
                        refine seq_go ?_
                        try cbv
                        obtain rfl := Option.some.inj h
                        refine fin_go ?_
                        try cbv
                        exact ⟨[], rfl, rfl, trivial, trivial, trivial⟩
                      · replace h := ite_f (Int.not_lt.2 e) h
                        clear e
                        try cbv
                        replace h := lenF_inv M h
                        obtain ⟨z20, hz, h⟩ := h
                        refine ⟨z20, hz, ?_⟩
                        clear hz
                        try cbv
                        refine splitL (fun e => ?_) (fun e => ?_)
                        · replace h := ite_t e h
                          clear e
                          try cbv
                          refine seq_go ?_
                          try cbv
                          obtain rfl := Option.some.inj h
                          refine fin_go ?_
                          try cbv
                          exact ⟨[], rfl, rfl, trivial, trivial, trivial⟩
                        · replace h := ite_f (Int.not_lt.2 e) h
                          clear e
                          try cbv
                          refine seq_go ?_
                          try cbv
                          replace h := lenF_inv M h
                          obtain ⟨z21, hz, h⟩ := h
                          refine ⟨z21, hz, ?_⟩
                          clear hz
                          try cbv
                          refine loop_inv (T := Nat × Int) [1, 2, 3, 42, 43, 44, 77, 78, 79] [.loc 0] 2464 (fun t => ⟨[(1, .v (.c (.ptr (.loc 0) 0))), (2, .v (.d (.int .i64 0))), (3, .v (.d (.int .i64 z13))), (42, .v (.d (.list true 4 l1))), (43, .v (.d (.int .i64 z12))), (44, .v (.d (.int .i64 z13))), (77, .v (.d (.list true 9 l18))), (78, .v (.d (.int .i64 z21))), (79, .v (.d (.int .i64 t.2)))], [(.loc 0, .cells [.d (.list true 4 l1), .d (.int .i64 z2), .d (.list true 16 l3)])], 2464⟩)
                            (fun t => t.1 ≤ m1 ∧ L39_2 t.1 l1 z2 l3 z12 z13 l18 z21 t.2 = some r1) (fun t => t.1) (m1, (0 : Int)) ⟨Nat.le_refl _, h⟩ (by cbv) ?_
                          clear h
                          rintro ⟨m2, z22⟩ ⟨hm2, h⟩
                          replace hm2 : m2 ≤ m1 := hm2
                          cases m2 with
                          | zero =>
                            replace h : L39_2 0 l1 z2 l3 z12 z13 l18 z21 z22 = some r1 := h
                            rw [L39_2] at h
                            cases h
                          | succ m2 =>
                            replace h : L39_2 (m2 + 1) l1 z2 l3 z12 z13 l18 z21 z22 = some r1 := h
                            rw [L39_2] at h
                            try cbv
                            refine seq_go ?_
                            try cbv
                            refine splitL (fun e => ?_) (fun e => ?_)
                            · replace h := ite_t e h
                              clear e
                              try cbv
                              refine seq_go ?_
                              try cbv
                              refine seq_go ?_
                              try cbv
                              refine seq_go ?_
                              try cbv
                              replace h := getF_inv h
                              obtain ⟨x23, ⟨hx0, hx⟩, h⟩ := h
                              refine ⟨x23, hx0, hx, ?_⟩
                              clear hx0 hx
                              replace h := ds_t48_inv h
                              obtain ⟨z24, z25, z26, z27, l28, l29, z30, s31, l32, rfl, h⟩ := h
                              try cbv
                              refine seq_go ?_
                              try cbv
                              replace h := bO1_inv h
                              obtain ⟨z33, hr, h⟩ := h
                              refine call_go rfl rfl ?_
                              try cbv
                              refine call_pure hM hI (T33 _ hr) rfl ?_
                              clear hr
                              try cbv
                              refine seq_go ?_
                              try cbv
                              refine splitI (fun e => ?_) (fun e => ?_)
                              · replace h := ite_t e h
                                clear e
                                try cbv
                                replace h := letF_inv h
                                obtain ⟨z34, hz, h⟩ := h
                                refine ⟨z34, hz, ?_⟩
                                clear hz
                                try cbv
                                exact loop_next (m2, z34) [1, 2, 3, 42, 43, 44, 77, 78, 79] [.loc 0] 2464 ⟨by omega, h⟩ (Nat.lt_succ_of_le (by omega)) (by cbv)
                              · replace h := ite_f e h
                                clear e
                                try cbv
                                refine seq_go ?_
                                try cbv
                                obtain rfl := Option.some.inj h
                                refine fin_go ?_
                                try cbv
                                exact ⟨[], rfl, rfl, trivial, trivial, trivial⟩
                            · replace h := ite_f (Int.not_lt.2 e) h
                              clear e
                              try cbv
                              refine seq_go ?_
                              try cbv
                              replace h := letF_inv h
                              obtain ⟨z35, hz, h⟩ := h
                              refine ⟨z35, hz, ?_⟩
                              clear hz
                              try cbv
                              exact loop_next (m2, z35) [1, 2, 42, 43, 44] [.loc 0] 1248 ⟨by omega, h⟩ (Nat.lt_succ_of_le (by omega)) (by cbv)
              · replace h := ite_f (Int.not_lt.2 e) h
                clear e
                try cbv
                refine seq_go ?_
                try cbv
                refine seq_go ?_
                try cbv
                obtain rfl := Option.some.inj h
                refine fin_go ?_
                try cbv
                exact ⟨[], rfl, rfl, trivial, trivial, trivial⟩
        · replace h := ite_f e h
          clear e
          try cbv
          refine seq_go ?_
          try cbv
          obtain rfl := Option.some.inj h
          refine fin_go ?_
          try cbv
          exact ⟨[], rfl, rfl, trivial, trivial, trivial⟩
end Go.Proofs.YtjobleemmjjocaaDoor
end

set_option linter.unusedVariables false
noncomputable section
namespace Go.Proofs.YtjobleemmjjocaaDoor
open Go Go.AM

def nameIs (s : ByteArray) : D → Bool
  | .agg (_ :: .str t :: _) => decide (t = s)
  | _ => false
theorem take_listS {L : List D} {t : TypeId} (h : ListS tab t L) (i : Nat) : ListS tab t (L.take i) := ⟨by have := h.1; simp; omega, fun x hx => h.2 x (List.mem_of_mem_take hx)⟩

theorem ev88 {M : List D} (hM : ListS tab 82 M) (z2 : Int) (s3 : ByteArray) (l4 : List D) (z5 : Int) (s6 : ByteArray) (l7 : List D) (l8 : List D) (z9 : Int) (z10 : Int) (s11 : ByteArray) (s12 : ByteArray) (s13 : ByteArray) (l14 : List D) (l15 : List D) (z16 : Int) (z17 : Int) :
    ∃ r, Ev (fun n => F88 n M z2 s3 l4 z5 s6 l7 l8 z9 z10 s11 s12 s13 l14 l15 z16 z17) (r, z2, s3, l4, z5, s6, l7, l8, z9, z10, s11, s12, s13, l14, l15, z16, z17) ∧ decide (0 ≤ r) = M.any (nameIs s3) := by
  have loop : ∀ i, i ≤ M.length → ∃ r, Ev (fun n => L88_1 n M (M.length : Int) (i : Int) z2 s3 l4 z5 s6 l7 l8 z9 z10 s11 s12 s13 l14 l15 z16 z17) (r, z2, s3, l4, z5, s6, l7, l8, z9, z10, s11, s12, s13, l14, l15, z16, z17) ∧ decide (0 ≤ r) = (M.drop i).any (nameIs s3) := by
    refine down M.length ⟨-1, Ev.succ (by simp [L88_1, Ev.ret]), by simp⟩ (fun i hi ih => ?_)
    obtain ⟨x, hx, hm, hr⟩ := hM.get hi
    obtain ⟨a0, a1, a2, a3, a4, a5, a6, a7, a8, a9, a10, a11, a12, a13, a14, a15, rfl, _⟩ := rs82 hr
    obtain ⟨r, h1, h2⟩ := ih
    rw [any_drop hx]
    by_cases h : a1 = s3
    · refine ⟨i, Ev.succ ?_, by simp [nameIs, h]⟩
      simp only [L88_1, if_pos (ilt hi), getF_nat hx, ds_t82, F78, if_pos h, bO17, if_true]; exact Ev.ret
    · refine ⟨r, Ev.succ ?_, by simpa [nameIs, h] using h2⟩
      simpa only [L88_1, letF, if_pos (ilt hi), getF_nat hx, ds_t82, F78, if_neg h, bO17, if_neg Bool.false_ne_true, wrap_succ hi hM.1] using h1
  obtain ⟨r, h1, h2⟩ := loop 0 (Nat.zero_le _)
  exact ⟨r, by simp only [F88, lenF]; exact h1, by simpa using h2⟩
theorem ev79 {M : List D} (hM : ListS tab 82 M) (z2 : Int) (s3 : ByteArray) (l4 : List D) (z5 : Int) (s6 : ByteArray) (l7 : List D) (l8 : List D) (z9 : Int) (z10 : Int) (s11 : ByteArray) (s12 : ByteArray) (s13 : ByteArray) (l14 : List D) (l15 : List D) (z16 : Int) (z17 : Int) :
    Ev (fun n => F79 n M z2 s3 l4 z5 s6 l7 l8 z9 z10 s11 s12 s13 l14 l15 z16 z17) (M.any (nameIs s3), z2, s3, l4, z5, s6, l7, l8, z9, z10, s11, s12, s13, l14, l15, z16, z17) := by
  obtain ⟨r, ⟨N, h1⟩, h2⟩ := ev88 hM z2 s3 l4 z5 s6 l7 l8 z9 z10 s11 s12 s13 l14 l15 z16 z17
  refine ⟨N, fun n hn => ?_⟩
  replace h1 : F88 n M z2 s3 l4 z5 s6 l7 l8 z9 z10 s11 s12 s13 l14 l15 z16 z17 = _ := h1 n hn
  show F79 n M z2 s3 l4 z5 s6 l7 l8 z9 z10 s11 s12 s13 l14 l15 z16 z17 = _
  unfold F79
  rw [h1, ← h2]
  by_cases h : 0 ≤ r <;> simp [bO17, h]
theorem Ev.bO17 {A1 A2 A3 A4 A5 A6 A7 A8 A9 A10 A11 A12 A13 A14 A15 A16 A17 γ : Type} {A : Nat → Option (A1 × A2 × A3 × A4 × A5 × A6 × A7 × A8 × A9 × A10 × A11 × A12 × A13 × A14 × A15 × A16 × A17)} {p : A1 × A2 × A3 × A4 × A5 × A6 × A7 × A8 × A9 × A10 × A11 × A12 × A13 × A14 × A15 × A16 × A17} {k : Nat → A1 → A2 → A3 → A4 → A5 → A6 → A7 → A8 → A9 → A10 → A11 → A12 → A13 → A14 → A15 → A16 → A17 → Option γ} {r : γ} (ha : Ev A p)
    (hk : Ev (fun n => k n p.1 p.2.1 p.2.2.1 p.2.2.2.1 p.2.2.2.2.1 p.2.2.2.2.2.1 p.2.2.2.2.2.2.1 p.2.2.2.2.2.2.2.1 p.2.2.2.2.2.2.2.2.1 p.2.2.2.2.2.2.2.2.2.1 p.2.2.2.2.2.2.2.2.2.2.1 p.2.2.2.2.2.2.2.2.2.2.2.1 p.2.2.2.2.2.2.2.2.2.2.2.2.1 p.2.2.2.2.2.2.2.2.2.2.2.2.2.1 p.2.2.2.2.2.2.2.2.2.2.2.2.2.2.1 p.2.2.2.2.2.2.2.2.2.2.2.2.2.2.2.1 p.2.2.2.2.2.2.2.2.2.2.2.2.2.2.2.2) r) : Ev (fun n => AM.bO17 (A n) (k n)) r := by
  obtain ⟨N, ha⟩ := ha
  obtain ⟨M, hk⟩ := hk
  exact ⟨N + M, fun n hn => by simp only [ha n (by omega)]; exact hk n (by omega)⟩

theorem totTypes {l3 : List D} (hT : ListS tab 82 l3) : ∃ r, Ev (fun n => F66 n l3) r := by
  have loop : ∀ i, i ≤ l3.length → ∃ r, Ev (fun n => L66_1 n l3 (l3.length : Int) (i : Int)) r := by
    refine down l3.length ⟨true, Ev.succ (by simp [L66_1, Ev.ret])⟩ (fun i hi ih => ?_)
    obtain ⟨x, hx, hm, hr⟩ := hT.get hi
    obtain ⟨a0, a1, a2, a3, a4, a5, a6, a7, a8, a9, a10, a11, a12, a13, a14, a15, rfl, _⟩ := rs82 hr
    obtain ⟨r, h1⟩ := ih
    have e79 := ev79 (take_listS hT i) a0 a1 a2 a3 a4 a5 a6 a7 a8 a9 a10 a11 a12 a13 a14 a15
    have slice : ∀ {γ : Type} (k : List D → Option γ), sliceF l3 (0 : Int) (i : Int) k = k (l3.take i) := fun k => by
      unfold sliceF
      rw [if_pos ⟨Int.le_refl _, by omega, by omega⟩]
      simp
    have fwd : Ev (fun n => AM.bO17 (F79 n (l3.take i) a0 a1 a2 a3 a4 a5 a6 a7 a8 a9 a10 a11 a12 a13 a14 a15) fun b24 z25 s26 l27 z28 s29 l30 l31 z32 z33 s34 s35 s36 l37 l38 z39 z40 => (if b24 = true then some false else letF (IntKind.wrap .i64 ((i : Int) + 1)) fun z41 => L66_1 n l3 (l3.length : Int) z41)) (!(l3.take i).any (nameIs a1) && r) := by
      refine Ev.bO17 e79 ?_
      cases (l3.take i).any (nameIs a1)
      · simpa only [if_neg Bool.false_ne_true, letF, wrap_succ hi hT.1, Bool.not_false, Bool.true_and] using h1
      · simp only [if_true, Bool.not_true, Bool.false_and]; exact Ev.ret
    by_cases k1 : a0 = 1
    · by_cases g : 6 < (a2.length : Int)
      · refine ⟨false, Ev.succ ?_⟩
        simp only [L66_1, lenF, if_pos (ilt hi), getF_nat hx, ds_t82, if_pos k1, if_pos g]; exact Ev.ret
      · refine ⟨!(l3.take i).any (nameIs a1) && r, Ev.succ ?_⟩
        simp only [L66_1, lenF, if_pos (ilt hi), getF_nat hx, ds_t82, if_pos k1, if_neg g, slice]; exact fwd
    · by_cases k2 : a0 = 2
      · by_cases g : 6 < (a2.length : Int)
        · refine ⟨false, Ev.succ ?_⟩
          simp only [L66_1, lenF, if_pos (ilt hi), getF_nat hx, ds_t82, if_neg k1, if_pos k2, if_pos g]; exact Ev.ret
        · refine ⟨!(l3.take i).any (nameIs a1) && r, Ev.succ ?_⟩
          simp only [L66_1, lenF, if_pos (ilt hi), getF_nat hx, ds_t82, if_neg k1, if_pos k2, if_neg g, slice]; exact fwd
      · refine ⟨false, Ev.succ ?_⟩
        simp only [L66_1, lenF, if_pos (ilt hi), getF_nat hx, ds_t82, if_neg k1, if_neg k2]; exact Ev.ret
  obtain ⟨r, h1⟩ := loop 0 (Nat.zero_le _)
  by_cases g : 30 < (l3.length : Int)
  · exact ⟨false, by simp only [F66, lenF, if_pos g]; exact Ev.ret⟩
  · exact ⟨r, by simp only [F66, lenF, if_neg g]; exact h1⟩

def hdB : D → Bool
  | .agg [.str s, .int _ p, .int _ sl, .list _ _ cd] => okName s && !decide (p < 0) && !decide (sl < p) && !decide (60 < sl) && !decide (4000 < (cd.length : Int))
  | _ => false
def okI (l1 : List D) (k : Nat) : D → Bool
  | .agg [.int _ op, .int _ a, .int _ b, .int _ c, .list _ _ l9, .list _ _ l10, .int _ i, .str s12, .list _ _ l13] => okIns l1 k op a b c l9 l10 i s12 l13
  | _ => false
def codeOf : D → List D
  | .agg [_, _, _, .list _ _ cd] => cd
  | _ => []
def fnsB (l1 : List D) : Nat → List D → Bool
  | _, [] => true
  | k, x :: r => hdB x && (codeOf x).all (okI l1 k) && fnsB l1 (k + 1) r
theorem fnsB_drop (l1 : List D) {L : List D} {i : Nat} {x : D} (h : L[i]? = some x) : fnsB l1 i (L.drop i) = (hdB x && (codeOf x).all (okI l1 i) && fnsB l1 (i + 1) (L.drop (i + 1))) := by
  obtain ⟨hi, rfl⟩ := List.getElem?_eq_some_iff.1 h
  rw [List.drop_eq_getElem_cons hi]
  rfl

theorem rc_true : rc true = 0 := rfl
theorem rc_false : rc false = 170 := rfl
theorem ev39fns {l1 : List D} (hF : ListS tab 56 l1) (z2 : Int) (l3 : List D) : ∀ i, i ≤ l1.length → Ev (fun n => L39_1 n l1 z2 l3 (l1.length : Int) (i : Int)) (rc (fnsB l1 i (l1.drop i))) := by
  refine down l1.length (Ev.succ (by simp [L39_1, Ev.ret, fnsB, rc])) (fun i hi ih => ?_)
  obtain ⟨x, hx, hm, hr⟩ := hF.get hi
  obtain ⟨s, p, sl, cd, rfl, _, _, _, hc⟩ := rs56 hr
  rw [fnsB_drop l1 hx]
  have loop : ∀ j, j ≤ cd.length → Ev (fun n => L39_2 n l1 z2 l3 (l1.length : Int) (i : Int) cd (cd.length : Int) (j : Int)) (rc ((cd.drop j).all (okI l1 i) && fnsB l1 (i + 1) (l1.drop (i + 1)))) := by
    refine down cd.length (Ev.succ ?_) (fun j hj ihj => Ev.succ ?_)
    · simpa only [L39_2, Int.lt_irrefl, if_false, letF, wrap_succ hi hF.1, List.drop_length, List.all_nil, Bool.true_and] using ih
    · obtain ⟨y, hy, _, hry⟩ := hc.get hj
      obtain ⟨b0, b1, b2, b3, b4, b5, b6, b7, b8, rfl, w0, _, _, _, w4, w5, _⟩ := rs48 hry
      rw [all_drop hy]
      have e := ev33a hF (u8_range w0).1 (u8_range w0).2 w4 w5 (a := b1) (b := b2) (c := b3) (i := b6) (s12 := b7) (l13 := b8) z2 l3 (i : Int)
      have e2 : okI l1 i (.agg [.int .u8 b0, .int .i64 b1, .int .i64 b2, .int .i64 b3, .list false 1 b4, .list false 1 b5, .int .i64 b6, .str b7, .list false 1 b8]) = okIns l1 i b0 b1 b2 b3 b4 b5 b6 b7 b8 := rfl
      rw [e2]
      simp only [L39_2, letF, if_pos (ilt hj), getF_nat hy, ds_t48, wrap_succ hj hc.1]
      refine Ev.bO1 e ?_
      cases okIns l1 i b0 b1 b2 b3 b4 b5 b6 b7 b8
      · simp only [rc_false, if_neg (show ¬ (170 : Int) = 0 by decide), Bool.false_and]; exact Ev.ret
      · simpa only [rc_true, if_true, Bool.true_and] using ihj
  have l0 := loop 0 (Nat.zero_le _)
  rw [List.drop_zero] at l0
  refine Ev.succ ?_
  simp only [L39_1, lenF, if_pos (ilt hi), getF_nat hx, ds_t56, e53, bO1, hdB, codeOf]
  cases okName s
  · simp only [if_neg Bool.false_ne_true, Bool.false_and, rc_false]; exact Ev.ret
  by_cases g1 : p < 0
  · simp only [if_true, if_pos g1, g1, decide_true, Bool.not_true, Bool.and_false, Bool.false_and, rc_false]; exact Ev.ret
  by_cases g2 : sl < p
  · simp only [if_true, if_neg g1, if_pos g2, g2, decide_true, Bool.not_true, Bool.and_false, Bool.false_and, rc_false]; exact Ev.ret
  by_cases g3 : 60 < sl
  · simp only [if_true, if_neg g1, if_neg g2, if_pos g3, g3, decide_true, Bool.not_true, Bool.and_false, Bool.false_and, rc_false]; exact Ev.ret
  by_cases g4 : 4000 < (cd.length : Int)
  · simp only [if_true, if_neg g1, if_neg g2, if_neg g3, if_pos g4, g4, decide_true, Bool.not_true, Bool.and_false, Bool.false_and, rc_false]; exact Ev.ret
  simp only [if_true, if_neg g1, if_neg g2, if_neg g3, if_neg g4, g1, g2, g3, g4, decide_false, Bool.not_false, Bool.true_and]; exact l0

def par0 : Option D → Bool
  | some (.agg [_, .int _ p, _, _]) => decide (p = 0)
  | _ => false
def mayB (l1 : List D) (z2 : Int) (T : Bool) : Bool := !decide (200 < (l1.length : Int)) && !decide (z2 < 0) && !decide ((l1.length : Int) ≤ z2) &&
  par0 l1[z2.toNat]? && T && fnsB l1 0 l1

theorem ev39 {l1 : List D} (hF : ListS tab 56 l1) (z2 : Int) {l3 : List D} {T : Bool} (hT : Ev (fun n => F66 n l3) T) : Ev (fun n => F39 n l1 z2 l3) (rc (mayB l1 z2 T)) := by
  simp only [F39, lenF]
  unfold mayB
  by_cases g1 : 200 < (l1.length : Int)
  · simp only [if_pos g1, g1, decide_true, Bool.not_true, Bool.false_and, rc_false]; exact Ev.ret
  by_cases g2 : z2 < 0
  · simp only [if_neg g1, if_pos g2, g2, decide_true, Bool.not_true, Bool.and_false, Bool.false_and, rc_false]; exact Ev.ret
  by_cases g3 : (l1.length : Int) ≤ z2
  · simp only [if_neg g1, if_neg g2, if_pos g3, g3, decide_true, Bool.not_true, Bool.and_false, Bool.false_and, rc_false]; exact Ev.ret
  obtain ⟨k, rfl⟩ : ∃ k : Nat, z2 = k := ⟨z2.toNat, by omega⟩
  obtain ⟨x, hx, hm, hr⟩ := hF.get (i := k) (by omega)
  obtain ⟨s, p, sl, cd, rfl, _⟩ := rs56 hr
  simp only [if_neg g1, if_neg g2, if_neg g3, getF_nat hx, ds_t56, Int.toNat_natCast, hx, par0, g1, g2, g3, decide_false, Bool.not_false, Bool.true_and]
  by_cases g4 : p = 0
  rotate_left
  · simp only [if_neg g4, g4, decide_false, Bool.false_and, rc_false]; exact Ev.ret
  simp only [if_pos g4, g4, decide_true, Bool.true_and]
  refine Ev.bO1 hT ?_
  cases T
  · simp only [if_neg Bool.false_ne_true, Bool.false_and, rc_false]; exact Ev.ret
  · simp only [if_true, Bool.true_and]
    have := ev39fns hF (k : Int) l3 0 (Nat.zero_le _)
    rw [List.drop_zero] at this
    exact this
end Go.Proofs.YtjobleemmjjocaaDoor
end

set_option linter.unusedVariables false
noncomputable section
namespace Go.Proofs.YtjobleemmjjocaaDoor
open Go Go.AM

theorem tot31b {l1 : List D} (hF : ListS tab 56 l1) (z2 : Int) {l3 : List D} (hT : ListS tab 82 l3) : ∃ r, Ev (fun n => F31 n l1 z2 l3) r ∧ (r = false → l1.length ≤ 30 ∧ ∀ x ∈ l1, (codeOf x).length ≤ 300) := by
  have loop3 : ∀ i, i ≤ l3.length → ∃ r, Ev (fun n => L31_3 n l3 (i : Int)) r := by
    refine down l3.length ⟨false, Ev.succ (by simp [L31_3, lenF, Ev.ret])⟩ (fun i hi ih => ?_)
    obtain ⟨x, hx, hm, hr⟩ := hT.get hi
    obtain ⟨a0, a1, a2, a3, a4, a5, a6, a7, a8, a9, a10, a11, a12, a13, a14, a15, rfl, _⟩ := rs82 hr
    obtain ⟨r, h⟩ := ih
    by_cases g1 : 20 < (a2.length : Int)
    · refine ⟨true, Ev.succ ?_⟩
      simp only [L31_3, lenF, if_pos (ilt hi), getF_nat hx, ds_t82, if_pos g1]; exact Ev.ret
    by_cases g2 : 1000 < (a1.size : Int)
    · refine ⟨true, Ev.succ ?_⟩
      simp only [L31_3, lenF, szF, if_pos (ilt hi), getF_nat hx, ds_t82, if_neg g1, if_pos g2]; exact Ev.ret
    · refine ⟨r, Ev.succ ?_⟩
      simpa only [L31_3, lenF, szF, letF, if_pos (ilt hi), getF_nat hx, ds_t82, if_neg g1, if_neg g2, wrap_succ hi hT.1] using h
  have loop1 : ∀ i, i ≤ l1.length → ∃ r, Ev (fun n => L31_1 n l1 l3 (i : Int)) r ∧ (r = false → ∀ x ∈ l1.drop i, (codeOf x).length ≤ 300) := by
    obtain ⟨r3, h3⟩ := loop3 0 (Nat.zero_le _)
    refine down l1.length ⟨r3, Ev.succ (by simp only [L31_1, lenF, Int.lt_irrefl, if_false]; exact h3), fun _ => by simp⟩ (fun i hi ih => ?_)
    obtain ⟨x, hx, hm, hr⟩ := hF.get hi
    obtain ⟨s, p, q, cd, rfl, _, _, _, hc⟩ := rs56 hr
    by_cases g1 : 300 < (cd.length : Int)
    · refine ⟨true, Ev.succ ?_, fun h => by cases h⟩
      simp only [L31_1, lenF, if_pos (ilt hi), getF_nat hx, ds_t56, if_pos g1]; exact Ev.ret
    by_cases g2 : 1000 < (s.size : Int)
    · refine ⟨true, Ev.succ ?_, fun h => by cases h⟩
      simp only [L31_1, lenF, szF, if_pos (ilt hi), getF_nat hx, ds_t56, if_neg g1, if_pos g2]; exact Ev.ret
    obtain ⟨r1, h1, k1⟩ := ih
    have kk : r1 = false → ∀ x ∈ l1.drop i, (codeOf x).length ≤ 300 := fun e x hx' => by
      obtain ⟨hi', e2⟩ := List.getElem?_eq_some_iff.1 hx
      rw [List.drop_eq_getElem_cons hi', e2] at hx'
      rcases List.mem_cons.1 hx' with rfl | hx'
      · show cd.length ≤ 300; omega
      · exact k1 e x hx'
    have loop2 : ∀ j, j ≤ cd.length → ∃ r, Ev (fun n => L31_2 n l1 l3 (i : Int) (j : Int)) r ∧ (r = false → r1 = false) := by
      refine down cd.length ⟨r1, Ev.succ (by simpa only [L31_2, lenF, letF, getF_nat hx, ds_t56, Int.lt_irrefl, if_false, wrap_succ hi hF.1] using h1), id⟩ (fun j hj ihj => ?_)
      obtain ⟨y, hy, _, hry⟩ := hc.get hj
      obtain ⟨b0, b1, b2, b3, b4, b5, b6, b7, b8, rfl, _, _, _, _, _, w5, _⟩ := rs48 hry
      obtain ⟨rl, hl⟩ := tot32 b0 b1 b2 b3 b4 w5 b6 b7 b8
      obtain ⟨r, h, k⟩ := ihj
      cases rl
      · refine ⟨r, Ev.succ ?_, k⟩
        simp only [L31_2, lenF, letF, getF_nat hx, getF_nat hy, ds_t56, ds_t48, if_pos (ilt hj), wrap_succ hj hc.1]
        exact Ev.bO1 hl (by simpa only [if_neg Bool.false_ne_true] using h)
      · refine ⟨true, Ev.succ ?_, fun h => by cases h⟩
        simp only [L31_2, lenF, letF, getF_nat hx, getF_nat hy, ds_t56, ds_t48, if_pos (ilt hj), wrap_succ hj hc.1]
        exact Ev.bO1 hl (by simp only [if_true]; exact Ev.ret)
    obtain ⟨r, h, k⟩ := loop2 0 (Nat.zero_le _)
    refine ⟨r, Ev.succ ?_, fun e => kk (k e)⟩
    simp only [L31_1, lenF, szF, if_pos (ilt hi), getF_nat hx, ds_t56, if_neg g1, if_neg g2]; exact h
  obtain ⟨r, h, k⟩ := loop1 0 (Nat.zero_le _)
  simp only [F31, lenF]
  by_cases g1 : 30 < (l1.length : Int)
  · exact ⟨true, by simp only [if_pos g1]; exact Ev.ret, fun h => by cases h⟩
  by_cases g2 : 40 < (l3.length : Int)
  · exact ⟨true, by simp only [if_neg g1, if_pos g2]; exact Ev.ret, fun h => by cases h⟩
  exact ⟨r, by simp only [if_neg g1, if_neg g2]; exact h, fun e => ⟨by omega, by simpa using k e⟩⟩

end Go.Proofs.YtjobleemmjjocaaDoor
end

set_option linter.unusedVariables false
noncomputable section
namespace Go.Proofs.YtjobleemmjjocaaDoor
open Go Go.AM
mutual
def L16_1 : Nat → (List D) → Int → (List D) → Int → ByteArray → Int → Int → (List D) → Int → Int → Option (Bool)
  | 0, _, _, _, _, _, _, _, _, _, _ => none
  | n + 1, l1, z2, l3, z15, s17, z18, z19, l20, z21, z23 =>
    (if z23 < z21 then getF l20 z23 fun x24 => ds_t48 x24 fun z25 z26 z27 z28 l29 l30 z31 s32 l33 => bO1 (F36 n z25 z26 z27 z28 l29 l30 z31 s32 l33) fun l34 => L16_2 n l1 z2 l3 z15 s17 z18 z19 l20 z21 z23 l34 (0 : Int) else appF 56 ([] : List D) l1 fun l42 => letF (IntKind.wrap .i64 (z21 - 1)) fun z43 => sliceF l20 (0 : Int) z43 fun l44 => needF (0 ≤ z15 ∧ z15.toNat < l42.length) (getN l42 (z15.toNat) fun x45 => ds_t56 x45 fun s46 z47 z48 l49 => setF l42 (z15.toNat) (.agg [.str s17, .int .i64 z18, .int .i64 z19, .list true 9 l44]) fun l50 => bO1 (F39 n l50 z2 l3) fun z51 => (if z51 = (0 : Int) then bO1 (F35 n) fun b52 => some b52 else some false)))
def L16_2 : Nat → (List D) → Int → (List D) → Int → ByteArray → Int → Int → (List D) → Int → Int → (List D) → Int → Option (Bool)
  | 0, _, _, _, _, _, _, _, _, _, _, _, _ => none
  | n + 1, l1, z2, l3, z15, s17, z18, z19, l20, z21, z23, l34, z35 =>
    lenF l34 fun z36 => (if z35 < z36 then needF (0 ≤ z35 ∧ z35.toNat < l34.length) (getN l34 (z35.toNat) fun x37 => ds_i64 x37 fun z38 => (if z38 = z21 then bO1 (F35 n) fun b39 => some b39 else letF (IntKind.wrap .i64 (z35 + 1)) fun z40 => L16_2 n l1 z2 l3 z15 s17 z18 z19 l20 z21 z23 l34 z40)) else letF (IntKind.wrap .i64 (z23 + 1)) fun z41 => L16_1 n l1 z2 l3 z15 s17 z18 z19 l20 z21 z41)
end
def F16 (n : Nat) (l1 : List D) (z2 : Int) (l3 : List D) (z4 : Int) : Option (Bool) :=
  bO1 (F31 n l1 z2 l3) fun b5 => (if b5 = true then bO1 (F35 n) fun b8 => some b8 else lenF l1 fun z6 => (if z6 = (0 : Int) then bO1 (F35 n) fun b9 => some b9 else bO1 (F39 n l1 z2 l3) fun z7 => (if z7 = (0 : Int) then letF (IntKind.wrap .u64 z4) fun z11 => lenF l1 fun z12 => letF (IntKind.wrap .u64 z12) fun z13 => needF ((z13 : Int) ≠ 0) (letF (Int.tmod z11 z13) fun z14 => letF (IntKind.wrap .i64 z14) fun z15 => getF l1 z15 fun x16 => ds_t56 x16 fun s17 z18 z19 l20 => lenF l20 fun z21 => (if z21 = (0 : Int) then bO1 (F35 n) fun b22 => some b22 else L16_1 n l1 z2 l3 z15 s17 z18 z19 l20 z21 (0 : Int))) else bO1 (F35 n) fun b10 => some b10)))
set_option maxRecDepth 100000 in
set_option maxHeartbeats 40000000 in
theorem T16 (n : Nat) : ∀ ⦃l1 : List D⦄ ⦃z2 : Int⦄ ⦃l3 : List D⦄ ⦃z4 : Int⦄ ⦃r1 : Bool⦄, F16 n l1 z2 l3 z4 = some r1 →
    Trip Tryd.prog inv 16 [.d (.agg [.list true 4 l1, .int .i64 z2, .list true 16 l3]), .d (.int .i64 z4)] [] (.v (.d (.bool r1))) [] [] := by
  intro l1 z2 l3 z4 r1 h
  unfold F16 at h
  refine Trip.of tab_ok tab_one fol Tryd.func16 rfl (by kernel_rfl) rfl rfl rfl (fun M hM hI => ?_)
  try cbv
  refine seq_go ?_
  try cbv
  refine seq_go ?_
  try cbv
  refine seq_go ?_
  try cbv
  replace h := bO1_inv h
  obtain ⟨b5, hr, h⟩ := h
  refine call_go rfl rfl ?_
  try cbv
  refine call_pure hM hI (T31 _ hr) rfl ?_
  clear hr
  try cbv
  cases b5
  · replace h := ite_f Bool.false_ne_true h
    try cbv
    replace h := lenF_inv M h
    obtain ⟨z6, hz, h⟩ := h
    refine ⟨z6, hz, ?_⟩
    clear hz
    try cbv
    refine splitI (fun e => ?_) (fun e => ?_)
    · replace h := ite_t e h
      clear e
      try cbv
      refine seq_go ?_
      try cbv
      replace h := bO1_inv h
      obtain ⟨b9, hr, h⟩ := h
      refine call_go rfl rfl ?_
      try cbv
      refine call_pure hM hI (T35 _ hr) rfl ?_
      clear hr
      try cbv
      obtain rfl := Option.some.inj h
      refine fin_go ?_
      try cbv
      exact ⟨[], rfl, rfl, trivial, trivial, trivial⟩
    · replace h := ite_f e h
      clear e
      try cbv
      replace h := bO1_inv h
      obtain ⟨z7, hr, h⟩ := h
      refine call_go rfl rfl ?_
      try cbv
      refine call_pure hM hI (T39 _ hr) rfl ?_
      clear hr
      try cbv
      refine splitI (fun e => ?_) (fun e => ?_)
      · replace h := ite_t e h
        clear e
        try cbv
        refine seq_go ?_
        try cbv
        replace h := letF_inv h
        obtain ⟨z11, hz, h⟩ := h
        refine ⟨z11, hz, ?_⟩
        clear hz
        try cbv
        replace h := lenF_inv M h
        obtain ⟨z12, hz, h⟩ := h
        refine ⟨z12, hz, ?_⟩
        clear hz
        try cbv
        replace h := letF_inv h
        obtain ⟨z13, hz, h⟩ := h
        refine ⟨z13, hz, ?_⟩
        clear hz
        try cbv
        replace h := needF_inv h
        obtain ⟨hn, h⟩ := h
        replace h := letF_inv h
        obtain ⟨z14, hz, h⟩ := h
        refine ⟨z14, hn, hz, ?_⟩
        clear hn hz
        try cbv
        replace h := letF_inv h
        obtain ⟨z15, hz, h⟩ := h
        refine ⟨z15, hz, ?_⟩
        clear hz
        try cbv
        refine seq_go ?_
        try cbv
        replace h := getF_inv h
        obtain ⟨x16, ⟨hx0, hx⟩, h⟩ := h
        refine ⟨x16, hx0, hx, ?_⟩
        clear hx0 hx
        replace h := ds_t56_inv h
        obtain ⟨s17, z18, z19, l20, rfl, h⟩ := h
        try cbv
        refine seq_go ?_
        try cbv
        replace h := lenF_inv M h
        obtain ⟨z21, hz, h⟩ := h
        refine ⟨z21, hz, ?_⟩
        clear hz
        try cbv
        refine seq_go ?_
        try cbv
        refine seq_go ?_
        try cbv
        refine splitI (fun e => ?_) (fun e => ?_)
        · replace h := ite_t e h
          clear e
          try cbv
          refine seq_go ?_
          try cbv
          replace h := bO1_inv h
          obtain ⟨b22, hr, h⟩ := h
          refine call_go rfl rfl ?_
          try cbv
          refine call_pure hM hI (T35 _ hr) rfl ?_
          clear hr
          try cbv
          obtain rfl := Option.some.inj h
          refine fin_go ?_
          try cbv
          exact ⟨[], rfl, rfl, trivial, trivial, trivial⟩
        · replace h := ite_f e h
          clear e
          try cbv
          refine seq_go ?_
          try cbv
          refine seq_go ?_
          try cbv
          refine loop_inv (T := Nat × Int) [1, 2, 4, 5, 6, 7] [.loc 0, .loc 928] 1216 (fun t => ⟨[(1, .v (.d (.int .i64 z15))), (2, .v (.c (.ptr (.loc 0) 0))), (4, .v (.d (.bool false))), (5, .v (.c (.ptr (.loc 928) 0))), (6, .v (.d (.int .i64 z21))), (7, .v (.d (.int .i64 t.2)))], [(.loc 0, .cells [.d (.list true 4 l1), .d (.int .i64 z2), .d (.list true 16 l3)]), (.loc 928, .cells [.d (.str s17), .d (.int .i64 z18), .d (.int .i64 z19), .d (.list true 9 l20)])], 1216⟩)
            (fun t => t.1 ≤ n ∧ L16_1 t.1 l1 z2 l3 z15 s17 z18 z19 l20 z21 t.2 = some r1) (fun t => t.1) (n, (0 : Int)) ⟨Nat.le_refl _, h⟩ (by cbv) ?_
          clear h
          rintro ⟨m1, z23⟩ ⟨hm1, h⟩
          replace hm1 : m1 ≤ n := hm1
          cases m1 with
          | zero =>
            replace h : L16_1 0 l1 z2 l3 z15 s17 z18 z19 l20 z21 z23 = some r1 := h
            rw [L16_1] at h
            cases h
          | succ m1 =>
            replace h : L16_1 (m1 + 1) l1 z2 l3 z15 s17 z18 z19 l20 z21 z23 = some r1 := h
            rw [L16_1] at h
            try cbv
            refine seq_go ?_
            try cbv
            refine seq_go ?_
            try cbv
            refine splitL (fun e => ?_) (fun e => ?_)
            · replace h := ite_t e h
              clear e
              try cbv
              refine seq_go ?_
              try cbv
              refine seq_go ?_
              try cbv
              replace h := getF_inv h
              obtain ⟨x24, ⟨hx0, hx⟩, h⟩ := h
              refine ⟨x24, hx0, hx, ?_⟩
              clear hx0 hx
              replace h := ds_t48_inv h
              obtain ⟨z25, z26, z27, z28, l29, l30, z31, s32, l33, rfl, h⟩ := h
              try cbv
              replace h := bO1_inv h
              obtain ⟨l34, hr, h⟩ := h
              refine call_go rfl rfl ?_
              try cbv
              refine call_with hM hI [] (T36 _ hr) rfl (by simp) trivial trivial (by simp) ?_
              clear hr
              try cbv
              refine seq_go ?_
              try cbv
              refine loop_invG (T := Nat × Int) [] [] [1, 2, 4, 5, 6, 7, 8, 9] [.loc 0, .loc 928, .loc 1472] 1568 (fun t => ⟨[(1, .v (.d (.int .i64 z15))), (2, .v (.c (.ptr (.loc 0) 0))), (4, .v (.d (.bool false))), (5, .v (.c (.ptr (.loc 928) 0))), (6, .v (.d (.int .i64 z21))), (7, .v (.d (.int .i64 z23))), (8, .v (.c (.ow (.loc 1472)))), (9, .v (.d (.int .i64 t.2)))], [(.loc 0, .cells [.d (.list true 4 l1), .d (.int .i64 z2), .d (.list true 16 l3)]), (.loc 928, .cells [.d (.str s17), .d (.int .i64 z18), .d (.int .i64 z19), .d (.list true 9 l20)]), (.loc 1472, .tree .row false 1 l34 none)], 1568⟩)
                (fun t => t.1 ≤ m1 ∧ L16_2 t.1 l1 z2 l3 z15 s17 z18 z19 l20 z21 z23 l34 t.2 = some r1) (fun t => t.1) (m1, (0 : Int)) ⟨Nat.le_refl _, h⟩ (by cbv) ?_
              clear h
              rintro ⟨m2, z35⟩ ⟨hm2, h⟩
              replace hm2 : m2 ≤ m1 := hm2
              cases m2 with
              | zero =>
                replace h : L16_2 0 l1 z2 l3 z15 s17 z18 z19 l20 z21 z23 l34 z35 = some r1 := h
                rw [L16_2] at h
                cases h
              | succ m2 =>
                replace h : L16_2 (m2 + 1) l1 z2 l3 z15 s17 z18 z19 l20 z21 z23 l34 z35 = some r1 := h
                rw [L16_2] at h
                try cbv
                refine seq_go ?_
                try cbv
                refine seq_go ?_
                try cbv
                replace h := lenF_inv M h
                obtain ⟨z36, hz, h⟩ := h
                refine ⟨false, ?_⟩
                try cbv
                refine ⟨z36, hz, ?_⟩
                clear hz
                try cbv
                refine splitL (fun e => ?_) (fun e => ?_)
                · replace h := ite_t e h
                  clear e
                  try cbv
                  refine seq_go ?_
                  try cbv
                  refine seq_go ?_
                  try cbv
                  replace h := needF_inv h
                  obtain ⟨hn, h⟩ := h
                  refine ⟨(M.lock_iff _).2 hn, ?_⟩
                  clear hn
                  try cbv
                  refine ⟨[], ?_⟩
                  try cbv
                  replace h := getN_inv h
                  obtain ⟨x37, hx, h⟩ := h
                  replace h := ds_i64_inv h
                  obtain ⟨z38, rfl, h⟩ := h
                  refine ⟨_, hx, ?_⟩
                  clear hx
                  try cbv
                  refine ⟨true, ?_⟩
                  try cbv
                  refine splitI (fun e => ?_) (fun e => ?_)
                  · replace h := ite_t e h
                    clear e
                    try cbv
                    refine seq_go ?_
                    try cbv
                    replace h := bO1_inv h
                    obtain ⟨b39, hr, h⟩ := h
                    refine call_go rfl rfl ?_
                    try cbv
                    refine call_pure hM hI (T35 _ hr) rfl ?_
                    clear hr
                    try cbv
                    obtain rfl := Option.some.inj h
                    refine fin_go ?_
                    try cbv
                    exact ⟨[], rfl, rfl, trivial, trivial, trivial⟩
                  · replace h := ite_f e h
                    clear e
                    try cbv
                    replace h := letF_inv h
                    obtain ⟨z40, hz, h⟩ := h
                    refine ⟨z40, hz, ?_⟩
                    clear hz
                    try cbv
                    refine loop_nextG (m2, z40) [] [] [1, 2, 4, 5, 6, 7, 8, 9] [.loc 0, .loc 928, .loc 1472] 1568 ⟨by omega, h⟩ (Nat.lt_succ_of_le (by omega)) ?_
                    try cbv
                · replace h := ite_f (Int.not_lt.2 e) h
                  clear e
                  try cbv
                  replace h := letF_inv h
                  obtain ⟨z41, hz, h⟩ := h
                  refine ⟨z41, hz, ?_⟩
                  clear hz
                  try cbv
                  exact loop_next (m2, z41) [1, 2, 4, 5, 6, 7] [.loc 0, .loc 928] 1216 ⟨by omega, h⟩ (Nat.lt_succ_of_le (by omega)) (by cbv)
            · replace h := ite_f (Int.not_lt.2 e) h
              clear e
              try cbv
              refine seq_go ?_
              try cbv
              refine seq_go ?_
              try cbv
              refine ⟨true, ?_⟩
              try cbv
              refine ⟨[], ?_⟩
              try cbv
              refine ⟨[], rfl, ?_⟩
              try cbv
              refine op_pl ?_
              try cbv
              replace h := appF_inv h
              obtain ⟨l42, hb, hz, h⟩ := h
              refine ⟨true, ?_⟩
              try cbv
              refine ⟨false, ?_⟩
              try cbv
              refine ⟨(M.lock_iff _).2 hb, l42, hz, ?_⟩
              clear hb hz
              try cbv
              refine seq_go ?_
              try cbv
              replace h := letF_inv h
              obtain ⟨z43, hz, h⟩ := h
              refine ⟨z43, hz, ?_⟩
              clear hz
              try cbv
              replace h := sliceF_inv M h
              obtain ⟨l44, hb, hz, h⟩ := h
              refine ⟨l44, hb, hz, ?_⟩
              clear hb hz
              try cbv
              refine seq_go ?_
              try cbv
              replace h := needF_inv h
              obtain ⟨hn, h⟩ := h
              refine ⟨(M.lock_iff _).2 hn, ?_⟩
              clear hn
              try cbv
              replace h := getN_inv h
              obtain ⟨x45, hx, h⟩ := h
              replace h := ds_t56_inv h
              obtain ⟨s46, z47, z48, l49, rfl, h⟩ := h
              refine ⟨_, hx, ?_⟩
              clear hx
              try cbv
              replace h := setF_inv h
              obtain ⟨l50, hz, h⟩ := h
              refine ⟨l50, hz, ?_⟩
              clear hz
              try cbv
              refine seq_go ?_
              try cbv
              replace h := bO1_inv h
              obtain ⟨z51, hr, h⟩ := h
              refine call_gs [.freeze (.loc 1504)] rfl rfl ?_
              try cbv
              first | refine ⟨by first | rfl | trivial, ?_⟩ | skip
              refine callfv_with hM hI [] rfl rfl (T39 _ hr) rfl (by simp) trivial trivial (by simp) ?_
              clear hr
              try cbv
              refine splitI (fun e => ?_) (fun e => ?_)
              · replace h := ite_t e h
                clear e
                try cbv
                replace h := bO1_inv h
                obtain ⟨b52, hr, h⟩ := h
                refine call_go rfl rfl ?_
                try cbv
                refine call_pure hM hI (T35 _ hr) rfl ?_
                clear hr
                try cbv
                obtain rfl := Option.some.inj h
                refine fin_go ?_
                try cbv
                exact ⟨[], rfl, rfl, trivial, trivial, trivial⟩
              · replace h := ite_f e h
                clear e
                try cbv
                obtain rfl := Option.some.inj h
                refine fin_go ?_
                try cbv
                exact ⟨[], rfl, rfl, trivial, trivial, trivial⟩
      · replace h := ite_f e h
        clear e
        try cbv
        refine seq_go ?_
        try cbv
        replace h := bO1_inv h
        obtain ⟨b10, hr, h⟩ := h
        refine call_go rfl rfl ?_
        try cbv
        refine call_pure hM hI (T35 _ hr) rfl ?_
        clear hr
        try cbv
        obtain rfl := Option.some.inj h
        refine fin_go ?_
        try cbv
        exact ⟨[], rfl, rfl, trivial, trivial, trivial⟩
  · replace h := ite_t rfl h
    try cbv
    refine seq_go ?_
    try cbv
    replace h := bO1_inv h
    obtain ⟨b8, hr, h⟩ := h
    refine call_go rfl rfl ?_
    try cbv
    refine call_pure hM hI (T35 _ hr) rfl ?_
    clear hr
    try cbv
    obtain rfl := Option.some.inj h
    refine fin_go ?_
    try cbv
    exact ⟨[], rfl, rfl, trivial, trivial, trivial⟩
end Go.Proofs.YtjobleemmjjocaaDoor
end

set_option linter.unusedVariables false
noncomputable section
namespace Go.Proofs.YtjobleemmjjocaaDoor
open Go Go.AM

theorem code_slots_trip : ∀ xs : List D, Shapes tab [45, 3, 48, 3] xs → Trip Tryd.prog inv 11 (xs.map V1.d) [] (.v (.d (.bool true))) [] [] := by
  intro xs h
  match xs, h with
  | [u, f, x, m], ⟨u1, u2, f1, f2, x1, x2, m1, m2, _⟩ =>
    obtain ⟨l1, z2, l3, rfl, hF, _, hT⟩ := rs45 ⟨u1, u2⟩
    obtain ⟨z4, rfl, _⟩ := rs3 ⟨f1, f2⟩
    obtain ⟨op, a, b, c, l9, l10, i, s12, l13, rfl, w0, _, _, _, h9, h10, _⟩ := rs48 ⟨x1, x2⟩
    obtain ⟨z14, rfl, _⟩ := rs3 (x := m) ⟨m1, m2⟩
    obtain ⟨r, hr, hr2⟩ := tot31b hF z2 hT
    obtain ⟨n, hn⟩ := (code_slots_law hF trivial z2 hT (u8_range w0).1 (u8_range w0).2 h9 h10 z4 z14 ⟨r, hr, fun e => (hr2 e).1⟩ (a := a) (b := b) (c := c) (i := i) (s12 := s12) (l13 := l13)).run
    exact T11 n hn

def kindBad (k : Nat) : Bool := (decide ((shp (k : Int)).2.1 = 2) && !(decide (k = 14) || decide (k = 15))) || decide ((shp (k : Int)).2.2.1 = 2)
theorem shp_kind {op : Int} (h0 : 0 ≤ op) (h1 : op < 256) : ((shp op).2.1 = 2 → op = 14 ∨ op = 15) ∧ (shp op).2.2.1 ≠ 2 := by
  by_cases hb : 35 ≤ op
  · unfold shp
    rw [shB 0 hb h1]
    exact ⟨fun h => absurd h (by decide), by decide⟩
  · obtain ⟨k, rfl⟩ : ∃ k : Nat, op = k := ⟨op.toNat, by omega⟩
    have hk : k < 35 := by omega
    have key : ∀ j : Fin 35, kindBad j.val = false := by
      intro j
      match j with
      | ⟨0, _⟩ => exact (by kernel_rfl : kindBad 0 = false)
      | ⟨1, _⟩ => exact (by kernel_rfl : kindBad 1 = false)
      | ⟨2, _⟩ => exact (by kernel_rfl : kindBad 2 = false)
      | ⟨3, _⟩ => exact (by kernel_rfl : kindBad 3 = false)
      | ⟨4, _⟩ => exact (by kernel_rfl : kindBad 4 = false)
      | ⟨5, _⟩ => exact (by kernel_rfl : kindBad 5 = false)
      | ⟨6, _⟩ => exact (by kernel_rfl : kindBad 6 = false)
      | ⟨7, _⟩ => exact (by kernel_rfl : kindBad 7 = false)
      | ⟨8, _⟩ => exact (by kernel_rfl : kindBad 8 = false)
      | ⟨9, _⟩ => exact (by kernel_rfl : kindBad 9 = false)
      | ⟨10, _⟩ => exact (by kernel_rfl : kindBad 10 = false)
      | ⟨11, _⟩ => exact (by kernel_rfl : kindBad 11 = false)
      | ⟨12, _⟩ => exact (by kernel_rfl : kindBad 12 = false)
      | ⟨13, _⟩ => exact (by kernel_rfl : kindBad 13 = false)
      | ⟨14, _⟩ => exact (by kernel_rfl : kindBad 14 = false)
      | ⟨15, _⟩ => exact (by kernel_rfl : kindBad 15 = false)
      | ⟨16, _⟩ => exact (by kernel_rfl : kindBad 16 = false)
      | ⟨17, _⟩ => exact (by kernel_rfl : kindBad 17 = false)
      | ⟨18, _⟩ => exact (by kernel_rfl : kindBad 18 = false)
      | ⟨19, _⟩ => exact (by kernel_rfl : kindBad 19 = false)
      | ⟨20, _⟩ => exact (by kernel_rfl : kindBad 20 = false)
      | ⟨21, _⟩ => exact (by kernel_rfl : kindBad 21 = false)
      | ⟨22, _⟩ => exact (by kernel_rfl : kindBad 22 = false)
      | ⟨23, _⟩ => exact (by kernel_rfl : kindBad 23 = false)
      | ⟨24, _⟩ => exact (by kernel_rfl : kindBad 24 = false)
      | ⟨25, _⟩ => exact (by kernel_rfl : kindBad 25 = false)
      | ⟨26, _⟩ => exact (by kernel_rfl : kindBad 26 = false)
      | ⟨27, _⟩ => exact (by kernel_rfl : kindBad 27 = false)
      | ⟨28, _⟩ => exact (by kernel_rfl : kindBad 28 = false)
      | ⟨29, _⟩ => exact (by kernel_rfl : kindBad 29 = false)
      | ⟨30, _⟩ => exact (by kernel_rfl : kindBad 30 = false)
      | ⟨31, _⟩ => exact (by kernel_rfl : kindBad 31 = false)
      | ⟨32, _⟩ => exact (by kernel_rfl : kindBad 32 = false)
      | ⟨33, _⟩ => exact (by kernel_rfl : kindBad 33 = false)
      | ⟨34, _⟩ => exact (by kernel_rfl : kindBad 34 = false)
      | ⟨n + 35, h⟩ => exact absurd h (by omega)
    have := key ⟨k, hk⟩
    simp only [kindBad, Bool.or_eq_false_iff, Bool.and_eq_false_iff, decide_eq_false_iff_not, Bool.not_eq_false', Bool.or_eq_true, decide_eq_true_eq] at this
    exact ⟨fun h => by rcases this.1 with q | q | q <;> first | exact absurd h q | omega, this.2⟩

theorem inB_less {en : Int} {y : D} (h : inB en y = true) (hn : ∀ z, y = .int .i64 z → z ≠ en) : inB (en - 1) y = true := by
  unfold inB at h ⊢
  split at h
  · rename_i z
    have := hn z rfl
    simp only [Bool.and_eq_true, decide_eq_true_eq] at h ⊢
    omega
  · cases h
theorem ins_short {l1 l1' : List D} (hl : l1'.length = l1.length) (hp : ∀ a n, parIs l1' a n = parIs l1 a n) {sl en op a b c i : Int} (h0 : 0 ≤ op) (h1 : op < 256) {l9 l10 l13 : List D} {s12 : ByteArray}
    (h : insB l1 sl en (shp op) op a b c l9 l10 i s12 l13 = true) (hj : ∀ z, D.int .i64 z ∈ jmp op a l9 → z ≠ en) : insB l1' sl (en - 1) (shp op) op a b c l9 l10 i s12 l13 = true := by
  obtain ⟨k1, k2⟩ := shp_kind h0 h1
  obtain ⟨_, k3⟩ := shp_has h0 h1
  have fits : ∀ {ask n : Int}, (ask = 2 → n ≠ en) → fitsB l1 sl en (shp op).2.2.2.2.2.2.2.1 op a ask n = true → fitsB l1' sl (en - 1) (shp op).2.2.2.2.2.2.2.1 op a ask n = true := by
    intro ask n hne h
    unfold fitsB at h ⊢
    rw [hl, hp]
    by_cases c0 : ask = 0
    · simpa only [if_pos c0] using h
    simp only [if_neg c0] at h ⊢
    by_cases c1 : ask = 1
    · simpa only [if_pos c1] using h
    simp only [if_neg c1] at h ⊢
    by_cases c2 : ask = 2
    · have := hne c2
      simp only [if_pos c2, Bool.and_eq_true, decide_eq_true_eq] at h ⊢
      omega
    simpa only [if_neg c2] using h
  unfold insB at h ⊢
  simp only [Bool.and_eq_true] at h ⊢
  obtain ⟨⟨⟨⟨⟨⟨q1, q2⟩, q3⟩, q4⟩, q5⟩, q6⟩, q7⟩ := h
  refine ⟨⟨⟨⟨⟨⟨q1, q2⟩, q3⟩, q4⟩, ?_⟩, fits (fun e => ?_) q6⟩, fits (fun e => absurd e k2) q7⟩
  · rw [List.all_eq_true] at q5 ⊢
    intro y hy
    refine inB_less (q5 y hy) fun z hz => hj z ?_
    cases hs : (shp op).2.2.2.2.1 with
    | true =>
      have h16 := k3 hs
      subst h16
      simp only [jmp, show ¬ ((16 : Int) = 14 ∨ (16 : Int) = 15) by decide, if_false, if_true]
      rw [← hz]; exact hy
    | false =>
      rw [hs, Bool.or_false] at q3
      unfold nilB at q3
      simp only [decide_eq_true_eq] at q3
      have : l9 = [] := List.eq_nil_of_length_eq_zero (by omega)
      rw [this] at hy
      cases hy
  · have := k1 e
    refine hj a ?_
    simp only [jmp, if_pos this, List.mem_singleton]

theorem fnsB_iff (l1 : List D) : ∀ (L : List D) (i : Nat), fnsB l1 i L = true ↔ ∀ (j : Nat) x, L[j]? = some x → hdB x = true ∧ (codeOf x).all (okI l1 (i + j)) = true
  | [], i => by simp [fnsB]
  | y :: L, i => by
    simp only [fnsB, Bool.and_eq_true, fnsB_iff l1 L (i + 1)]
    constructor
    · rintro ⟨⟨a, b⟩, c⟩ j x hx
      match j with
      | 0 => simp at hx; subst hx; exact ⟨a, b⟩
      | j + 1 =>
        have := c j x (by simpa using hx)
        rw [show i + (j + 1) = i + 1 + j by omega]
        exact this
    · intro h
      refine ⟨h 0 y rfl, fun j x hx => ?_⟩
      have := h (j + 1) x (by simpa using hx)
      rw [show i + (j + 1) = i + 1 + j by omega] at this
      exact this

theorem code_shorter_law {l1 : List D} (hF : ListS tab 56 l1) (z2 : Int) {l3 : List D} (hT : ListS tab 82 l3) (z4 : Int) : Ev (fun n => F16 n l1 z2 l3 z4) true := by
  obtain ⟨r, hr, hr2⟩ := tot31b hF z2 hT
  obtain ⟨T, hTy⟩ := totTypes hT
  have yes : Ev (fun n => bO1 (F35 n) fun b => some b) true := Ev.bO1 ev35 Ev.ret
  unfold F16
  refine Ev.bO1 hr ?_
  cases r
  rotate_left
  · simp only [if_true]; exact yes
  obtain ⟨h30, h300⟩ := hr2 rfl
  simp only [Bool.false_eq_true, if_false, lenF]
  by_cases c0 : l1.length = 0
  · simp only [if_pos (show (l1.length : Int) = 0 by omega)]; exact yes
  simp only [if_neg (show ¬ (l1.length : Int) = 0 by omega)]
  refine Ev.bO1 (ev39 hF z2 hTy) ?_
  cases hmay : mayB l1 z2 T
  · simp only [rc, Bool.false_eq_true, if_false, show ¬ (170 : Int) = 0 by decide]; exact yes
  simp only [rc, if_true, letF]
  have wl : IntKind.u64.wrap (l1.length : Int) = (l1.length : Int) := IntWalk.u64_in _ (by omega)
  have m0 : 0 ≤ IntKind.u64.wrap z4 := by rw [IntKind.wrap_u64]; omega
  have m1 : 0 ≤ Int.tmod (IntKind.u64.wrap z4) (l1.length : Int) := Int.tmod_nonneg _ m0
  have m2 : Int.tmod (IntKind.u64.wrap z4) (l1.length : Int) < (l1.length : Int) := Int.tmod_lt_of_pos _ (by omega)
  simp only [wl, needF, if_pos (show (l1.length : Int) ≠ 0 by omega)]
  rw [show IntKind.i64.wrap (Int.tmod (IntKind.u64.wrap z4) (l1.length : Int)) = Int.tmod (IntKind.u64.wrap z4) (l1.length : Int) from IntWalk.i64_in _ (by omega)]
  generalize Int.tmod (IntKind.u64.wrap z4) (l1.length : Int) = m at m1 m2
  obtain ⟨x, rfl⟩ : ∃ x : Nat, m = x := ⟨m.toNat, by omega⟩
  obtain ⟨v, hx, hm, hrow⟩ := hF.get (i := x) (by omega)
  have hxl := (List.getElem?_eq_some_iff.1 hx).1
  obtain ⟨nm, pa, sl, cd, rfl, w0, w1, w2, w3⟩ := rs56 hrow
  simp only [getF_nat hx, ds_t56]
  by_cases cn : cd.length = 0
  · simp only [if_pos (show (cd.length : Int) = 0 by omega)]; exact yes
  simp only [if_neg (show ¬ (cd.length : Int) = 0 by omega)]
  have hc300 : cd.length ≤ 300 := h300 _ hm
  -- the unit as it is
  have hmay' := hmay
  unfold mayB at hmay'
  simp only [Bool.and_eq_true] at hmay'
  obtain ⟨⟨⟨⟨⟨p1, p2⟩, p3⟩, p4⟩, p5⟩, p6⟩ := hmay'
  rw [fnsB_iff] at p6
  have hmine := (p6 x _ hx).2
  rw [Nat.zero_add] at hmine
  have hmine : cd.all (okI l1 x) = true := hmine
  rw [List.all_eq_true] at hmine
  -- its instructions
  have ins : ∀ {k : Nat} {y : D}, cd[k]? = some y → ∃ op a b c l9 l10 i s12 l13, y = .agg [.int .u8 op, .int .i64 a, .int .i64 b, .int .i64 c, .list false 1 l9, .list false 1 l10, .int .i64 i, .str s12, .list false 1 l13] ∧ 0 ≤ op ∧ op < 256 ∧ ListS tab 3 l9 ∧
      l9.length ≤ 6 ∧ insB l1 sl cd.length (shp op) op a b c l9 l10 i s12 l13 = true := by
    intro k y hy
    have hmem := List.mem_of_getElem? hy
    obtain ⟨op, a, b, c, l9, l10, i, s12, l13, rfl, v0, _, _, _, h9, h10, _⟩ := rs48 (w3.2 y hmem)
    have := hmine _ hmem
    unfold okI okIns at this
    simp only [Int.toNat_natCast, hx, Bool.and_eq_true] at this
    exact ⟨op, a, b, c, l9, l10, i, s12, l13, rfl, (u8_range v0).1, (u8_range v0).2, h9, (ok_jmp this.2).1, this.2⟩
  let jOf : D → List D := fun y => match y with
    | .agg [.int _ op, .int _ a, _, _, .list _ _ l9, _, _, _, _] => jmp op a l9
    | _ => []
  -- the shorter one
  have fin : (∀ (k : Nat) y, cd[k]? = some y → ∀ z, D.int .i64 z ∈ jOf y → z ≠ (cd.length : Int)) → Ev (fun n => L16_1 n l1 z2 l3 (x : Int) nm pa sl cd (cd.length : Int) (cd.length : Int)) true := by
    intro hno
    have hb : ([] : List D).length + l1.length ≤ maxLen ∧ (([] : List D).length + l1.length) * 56 ≤ 140737488355328 := by simp [maxLen]; omega
    have w1' : IntKind.i64.wrap ((cd.length : Int) - 1) = (cd.length : Int) - 1 := IntWalk.i64_in _ (by omega)
    have hcut : (0 : Int) ≤ 0 ∧ (0 : Int) ≤ (cd.length : Int) - 1 ∧ (cd.length : Int) - 1 ≤ (cd.length : Int) := by omega
    have hcut2 : (cd.take ((cd.length : Int) - 1).toNat).drop (0 : Int).toNat = cd.take (cd.length - 1) := by
      rw [show (0 : Int).toNat = 0 from rfl, List.drop_zero]
      congr 1
      omega
    have hset : ∀ {γ : Type} (k : D → Option γ), getN l1 x k = k (.agg [.str nm, .int .i64 pa, .int .i64 sl, .list true 9 cd]) := fun k => by simp only [getN, hx]
    refine Ev.succ ?_
    simp only [L16_1, Int.lt_irrefl, if_false, appF, if_pos hb, List.nil_append, letF, w1']
    refine Ev.congr (A := fun n => bO1 (F39 n (l1.set x (.agg [.str nm, .int .i64 pa, .int .i64 sl, .list true 9 (cd.take (cd.length - 1))])) z2 l3) fun z51 => (if z51 = (0 : Int) then bO1 (F35 n) fun b52 => some b52 else some false)) ?_ (fun n => ?_)
    rotate_left
    · simp only [sliceF, if_pos hcut, hcut2, needF, Int.toNat_natCast, if_pos (show 0 ≤ (x : Int) ∧ x < l1.length from ⟨by omega, hxl⟩), hset, ds_t56, setF, Int.toNat_natCast]
    have hF' : ListS tab 56 (l1.set x (.agg [.str nm, .int .i64 pa, .int .i64 sl, .list true 9 (cd.take (cd.length - 1))])) := hF.set x (mk56 w0 w1 w2 (w3.take _))
    refine Ev.bO1 (ev39 hF' z2 hTy) ?_
    generalize hl' : l1.set x (.agg [.str nm, .int .i64 pa, .int .i64 sl, .list true 9 (cd.take (cd.length - 1))]) = l' at hF'
    have ll : l'.length = l1.length := by rw [← hl']; simp
    have gx : l'[x]? = some (.agg [.str nm, .int .i64 pa, .int .i64 sl, .list true 9 (cd.take (cd.length - 1))]) := by rw [← hl', List.getElem?_set_self hxl]
    have go : ∀ j, j ≠ x → l'[j]? = l1[j]? := fun j hj => by rw [← hl', List.getElem?_set_ne (fun h => hj h.symm)]
    have hpar : ∀ a n, parIs l' a n = parIs l1 a n := by
      intro a n
      unfold parIs
      by_cases ha : a.toNat = x
      · rw [ha, gx, hx]
      · rw [go _ ha]
    have hmay2 : mayB l' z2 T = true := by
      unfold mayB
      simp only [Bool.and_eq_true]
      refine ⟨⟨⟨⟨⟨by rw [ll]; exact p1, p2⟩, by rw [ll]; exact p3⟩, ?_⟩, p5⟩, ?_⟩
      · by_cases ha : z2.toNat = x
        · rw [ha, hx] at p4
          rw [ha, gx]; exact p4
        · rw [go _ ha]; exact p4
      · rw [fnsB_iff]
        intro j y hy
        rw [Nat.zero_add]
        by_cases hj : j = x
        · subst hj
          rw [gx] at hy
          cases hy
          obtain ⟨q1, _⟩ := p6 j _ hx
          refine ⟨?_, ?_⟩
          · unfold hdB at q1 ⊢
            simp only [Bool.and_eq_true, Bool.not_eq_true', decide_eq_false_iff_not] at q1 ⊢
            exact ⟨q1.1, by rw [List.length_take]; omega⟩
          · show (cd.take (cd.length - 1)).all (okI l' j) = true
            rw [List.all_eq_true]
            intro y hy
            obtain ⟨k, hk⟩ := List.mem_iff_getElem?.1 hy
            rw [List.getElem?_take] at hk
            split at hk
            · obtain ⟨op, a, b, c, l9, l10, i, s12, l13, rfl, v0, v1, h9, h6, hins⟩ := ins hk
              unfold okI okIns
              simp only [Int.toNat_natCast, gx, Bool.and_eq_true, decide_eq_true_eq]
              refine ⟨by omega, ?_⟩
              have := ins_short ll hpar v0 v1 hins (fun z hz => hno k _ hk z hz)
              rw [show ((List.take (cd.length - 1) cd).length : Int) = (cd.length : Int) - 1 by rw [List.length_take]; omega]
              exact this
            · cases hk
        · rw [go _ hj] at hy
          obtain ⟨q1, q2⟩ := p6 j _ hy
          rw [Nat.zero_add] at q2
          refine ⟨q1, ?_⟩
          rw [List.all_eq_true] at q2 ⊢
          intro y' hy'
          have := q2 y' hy'
          unfold okI at this ⊢
          split at this
          · unfold okIns at this ⊢
            simp only [Int.toNat_natCast, go _ hj, Bool.and_eq_true] at this ⊢
            refine ⟨this.1, ?_⟩
            have h2 := this.2
            split at h2
            · exact ins_wide ll hpar (Int.le_refl _) h2
            · cases h2
          · cases this
    simp only [hmay2, rc, if_true]
    exact yes
  have outer : ∀ k, k ≤ cd.length → (∀ (q : Nat) y, q < k → cd[q]? = some y → ∀ z, D.int .i64 z ∈ jOf y → z ≠ (cd.length : Int)) → Ev (fun n => L16_1 n l1 z2 l3 (x : Int) nm pa sl cd (cd.length : Int) (k : Int)) true := by
    refine down cd.length (fun h => fin fun k y hy => h k y (List.getElem?_eq_some_iff.1 hy).1 hy) (fun k hk ih h => ?_)
    have hy : cd[k]? = some cd[k] := List.getElem?_eq_getElem hk
    obtain ⟨op, a, b, c, l9, l10, i, s12, l13, e, v0, v1, h9, h6, hins⟩ := ins hy
    rw [e] at hy
    refine Ev.succ ?_
    simp only [L16_1, if_pos (ilt hk), getF_nat hy, ds_t48, e36 _ op a b c h9 (show l9.length * 8 ≤ 140737488355328 by omega), bO1]
    generalize hJ : jmp op a l9 = J
    have hJa := (ok_jmp hins).2
    rw [hJ] at hJa
    have hJl : J.length ≤ maxLen := by
      rw [← hJ]; unfold jmp
      split
      · simp [maxLen]
      · split
        · exact h9.1
        · simp
    have inner : ∀ q, q ≤ J.length → (∀ (p : Nat) z, p < q → J[p]? = some (.int .i64 z) → z ≠ (cd.length : Int)) → Ev (fun n => L16_2 n l1 z2 l3 (x : Int) nm pa sl cd (cd.length : Int) (k : Int) J (q : Int)) true := by
      refine down J.length (fun hq => Ev.succ ?_) (fun q hq ihq hno => ?_)
      · simp only [L16_2, lenF, Int.lt_irrefl, if_false, letF, wrap_succ hk (by simp [maxLen]; omega)]
        refine ih fun p y hp hy' z hz => ?_
        by_cases hpk : p = k
        · subst hpk
          rw [hy] at hy'
          cases hy'
          have hz : D.int .i64 z ∈ jmp op a l9 := hz
          rw [hJ] at hz
          obtain ⟨p, hp⟩ := List.mem_iff_getElem?.1 hz
          exact hq p z (List.getElem?_eq_some_iff.1 hp).1 hp
        · exact h p y (by omega) hy' z hz
      · have hj := List.all_eq_true.1 hJa J[q] (List.getElem_mem hq)
        have hj2 : J[q]? = some J[q] := List.getElem?_eq_getElem hq
        generalize J[q] = y at hj hj2
        have : ∃ z, y = .int .i64 z := by
          unfold inB at hj
          split at hj
          · exact ⟨_, rfl⟩
          · cases hj
        obtain ⟨z, rfl⟩ := this
        have gk : ∀ {γ : Type} (f : D → Option γ), getN J ((q : Int)).toNat f = f (.int .i64 z) := fun f => by simp only [getN, Int.toNat_natCast, hj2]
        refine Ev.succ ?_
        simp only [L16_2, lenF, if_pos (ilt hq), needF, if_pos (show 0 ≤ (q : Int) ∧ ((q : Int)).toNat < J.length from ⟨by omega, by simpa using hq⟩), gk, ds_i64]
        by_cases cz : z = (cd.length : Int)
        · simp only [if_pos cz]; exact yes
        · simp only [if_neg cz, letF, wrap_succ hq hJl]
          refine ihq fun p z' hp hz' => ?_
          by_cases hpq : p = q
          · subst hpq
            rw [hj2] at hz'
            cases hz'
            exact cz
          · exact hno p z' (by omega) hz'
    exact inner 0 (Nat.zero_le _) (fun p z hp => absurd hp (by omega))
  exact outer 0 (Nat.zero_le _) (fun q y hq => absurd hq (by omega))
theorem code_shorter_trip : ∀ xs : List D, Shapes tab [45, 3] xs → Trip Tryd.prog inv 16 (xs.map V1.d) [] (.v (.d (.bool true))) [] [] := by
  intro xs h
  match xs, h with
  | [u, f], ⟨u1, u2, f1, f2, _⟩ =>
    obtain ⟨l1, z2, l3, rfl, hF, _, hT⟩ := rs45 ⟨u1, u2⟩
    obtain ⟨z4, rfl, _⟩ := rs3 (x := f) ⟨f1, f2⟩
    obtain ⟨n, hn⟩ := (code_shorter_law hF z2 hT z4).run
    exact T16 n hn
end Go.Proofs.YtjobleemmjjocaaDoor
end

namespace Go.Proofs.YtjobleemmjjocaaDoor
open Go Go.ChangeShapes Go.WideShapes Go.ChangeAt Go.RowKit Go.AM

theorem code_slots_reads : ∀ t ∈ [45, 3, 48, 3], Tryd.prog.readableRec t = true ∧ t < Tryd.prog.types.size := by
  have h : ([45, 3, 48, 3].all fun t => Tryd.prog.readableRec t && decide (t < Tryd.prog.types.size)) = true := by kernel_rfl
  intro t ht
  have := List.all_eq_true.1 h t ht
  simpa using this

theorem code_slots_inv {W : World} (h : laidMet Tryd.prog Rows.codeSlotsRow.laid W) : inv.at W fun _ _ => False := by
  have e : (Rows.codeSlotsRow.laid.filter fun x => x.1 == "internal/strconv.uint64pow10") = [("internal/strconv.uint64pow10", Lib.tabData .u64 Lib.pow10Tab)] := by kernel_rfl
  have h2 := laidMet.filter (fun x => x.1 == "internal/strconv.uint64pow10") h
  rw [e] at h2
  have ht : Lib.TabIs Tryd.prog W "internal/strconv.uint64pow10" .u64 Lib.pow10Tab := by
    exact Lib.tabIs_of_head (g := 0) (t := 138) (e := 35) (n := 20) (by kernel_rfl) (by kernel_rfl) (by kernel_rfl) (by kernel_rfl) (by kernel_rfl) (by kernel_rfl) h2
  refine ⟨ht, fun b hb => ⟨?_, fun _ h => h⟩⟩
  have hb : Tryd.prog.globalNamed "internal/strconv.uint64pow10" = some b := hb
  unfold Lib.TabIs World.var? at ht
  rw [hb] at ht
  simp only [Option.bind_some] at ht
  cases hx : W.heap[b]? with
  | none => rw [hx] at ht; simp at ht
  | some o => exact (Array.getElem?_eq_some_iff.1 hx).1

set_option maxRecDepth 100000 in
theorem code_slots_lifted (os : Os) (started : os.Started) (H : Type) (enc : TypeId × Value → H) :
    ReturnsInHanded {} Tryd.checked os 11 .any (fun w args => (Rows.codeSlotsSpec.pre enc Tryd.prog Tryd.f11 Rows.codeSlotsRow.domain false w args ∧ laidMetH Tryd.prog Rows.codeSlotsRow.laid w) ∧ sizedMet enc Tryd.prog Tryd.f11 (OpenSpec.ofChange Rows.codeSlotsSpec) false w args)
      (Rows.codeSlotsSpec.post enc Tryd.prog Tryd.f11 false true false false) := by
  refine returnsInHanded_of_change_and (C := Tryd.checked) (X := fun w _ => laidMetH Tryd.prog Rows.codeSlotsRow.laid w) (fun _ _ _ hh h => h.of_heap hh) (by kernel_rfl) started (by kernel_rfl) Tryd.func11
    (ChangeSpec.witness_shaped (enc := enc) (C := Tryd.checked) (os := os) (X := fun w _ => laidMetH Tryd.prog Rows.codeSlotsRow.laid w) false (World.laidAll Tryd.prog os Rows.codeSlotsRow.laid) #[.agg #[.slice none 0 0, .int .i64 0, .slice none 0 0], .int .i64 0, .agg #[.int .u8 0, .int .i64 0, .int .i64 0, .int .i64 0, .slice none 0 0, .slice none 0 0, .int .i64 0, .string ⟨#[]⟩, .slice none 0 0], .int .i64 0] 8 (World.laidAll_os _ _ _)
      (World.shaped_of_ZipB (by kernel_rfl) (by kernel_rfl)) (by kernel_rfl) (by kernel_rfl) (by kernel_rfl)
      (by rw [MakeChecks.laidMetH_plain _ _ _ (by kernel_rfl)]; exact laidMet_laidAll _ (by kernel_rfl) (by kernel_rfl))) ?_
  intro W base args ds gs before hval0 hW _ _ hL _
  rw [MakeChecks.laidMetH_plain _ _ _ (by kernel_rfl)] at hL
  refine law_calls (ti := tab) (T := [2, 3, 5, 9, 30, 42, 43, 45, 46, 48, 54, 56, 71, 72, 74, 75, 77, 78, 80, 82, 98, 162, 164, 166]) tab_ok (by kernel_rfl) (ts := [45, 3, 48, 3]) (bt := 4) rfl rfl rfl (by kernel_rfl) (by decide) ?_ (by kernel_rfl) code_slots_reads code_slots_trip (code_slots_inv hL) hval0 hW
  intro ds h
  match ds, h with
  | [_, _, _, _], _ => exact ⟨rfl, rfl, rfl⟩
theorem code_slots_row : Rows.CodeSlotsSaid :=
  OpenClaim.holds_of_wide 11 Tryd.f11 rfl rfl rfl rfl rfl rfl rfl ⟨rfl, rfl, rfl, rfl, rfl⟩ rfl rfl rfl rfl rfl (by kernel_rfl) Tryd.func11 (by kernel_rfl)
    (of_decide_eq_true (by kernel_rfl)) (by unfold Func.isWrapper; first | (rw [if_pos (by decide +kernel)]; kernel_rfl) | (rw [if_neg (by decide +kernel)]; exact ⟨rfl, rfl⟩))
    (fun os started H enc _ => code_slots_lifted os started H enc)
theorem code_slots : Rows.CodeSlotsCardSaid :=
  Claim7.holds_tied_plain_at .later [] [.data, .data, .data] true Rows.codeSlotsCard.stood.harness false code_slots_row (fun _ h => by cases h) (by kernel_rfl) (fun _ h => by cases h) codeSlots_row_tie rfl ⟨rfl, rfl⟩ (by kernel_rfl) rfl
    (fun f fn hf hfn => by
      obtain rfl : f = 11 := Option.some.inj ((show Tryd.prog.funcNamed "weftway/weftwaylaw17.CodeSlots" = some 11 by kernel_rfl).symm.trans hf) |>.symm
      obtain rfl : fn = Tryd.f11 := (Option.some.inj (Tryd.func11.symm.trans hfn)).symm
      exact ⟨by kernel_rfl, fun j t ht => by
        have hm : t ∈ [45, 3, 48, 3] := by
          have hp : Tryd.f11.params.toList = [45, 3, 48, 3] := rfl
          rw [← hp]; simpa using Array.mem_of_getElem? ht
        have hall : ([45, 3, 48, 3].all fun u => !Tryd.prog.wantsStandIn u) = true := by kernel_rfl
        exact (show Tryd.prog.wantsStandIn t = false by simpa using List.all_eq_true.1 hall t hm)⟩)
    (by kernel_rfl)
end Go.Proofs.YtjobleemmjjocaaDoor

namespace Go.Proofs.YtjobleemmjjocaaDoor
open Go Go.ChangeShapes Go.WideShapes Go.ChangeAt Go.RowKit Go.AM

theorem code_shorter_reads : ∀ t ∈ [45, 3], Tryd.prog.readableRec t = true ∧ t < Tryd.prog.types.size := by
  have h : ([45, 3].all fun t => Tryd.prog.readableRec t && decide (t < Tryd.prog.types.size)) = true := by kernel_rfl
  intro t ht
  have := List.all_eq_true.1 h t ht
  simpa using this

theorem code_shorter_inv {W : World} (h : laidMet Tryd.prog Rows.codeShorterRow.laid W) : inv.at W fun _ _ => False := by
  have e : (Rows.codeShorterRow.laid.filter fun x => x.1 == "internal/strconv.uint64pow10") = [("internal/strconv.uint64pow10", Lib.tabData .u64 Lib.pow10Tab)] := by kernel_rfl
  have h2 := laidMet.filter (fun x => x.1 == "internal/strconv.uint64pow10") h
  rw [e] at h2
  have ht : Lib.TabIs Tryd.prog W "internal/strconv.uint64pow10" .u64 Lib.pow10Tab := by
    exact Lib.tabIs_of_head (g := 0) (t := 138) (e := 35) (n := 20) (by kernel_rfl) (by kernel_rfl) (by kernel_rfl) (by kernel_rfl) (by kernel_rfl) (by kernel_rfl) h2
  refine ⟨ht, fun b hb => ⟨?_, fun _ h => h⟩⟩
  have hb : Tryd.prog.globalNamed "internal/strconv.uint64pow10" = some b := hb
  unfold Lib.TabIs World.var? at ht
  rw [hb] at ht
  simp only [Option.bind_some] at ht
  cases hx : W.heap[b]? with
  | none => rw [hx] at ht; simp at ht
  | some o => exact (Array.getElem?_eq_some_iff.1 hx).1

set_option maxRecDepth 100000 in
theorem code_shorter_lifted (os : Os) (started : os.Started) (H : Type) (enc : TypeId × Value → H) :
    ReturnsInHanded {} Tryd.checked os 16 .any (fun w args => (Rows.codeShorterSpec.pre enc Tryd.prog Tryd.f16 Rows.codeShorterRow.domain false w args ∧ laidMetH Tryd.prog Rows.codeShorterRow.laid w) ∧ sizedMet enc Tryd.prog Tryd.f16 (OpenSpec.ofChange Rows.codeShorterSpec) false w args)
      (Rows.codeShorterSpec.post enc Tryd.prog Tryd.f16 false true false false) := by
  refine returnsInHanded_of_change_and (C := Tryd.checked) (X := fun w _ => laidMetH Tryd.prog Rows.codeShorterRow.laid w) (fun _ _ _ hh h => h.of_heap hh) (by kernel_rfl) started (by kernel_rfl) Tryd.func16
    (ChangeSpec.witness_shaped (enc := enc) (C := Tryd.checked) (os := os) (X := fun w _ => laidMetH Tryd.prog Rows.codeShorterRow.laid w) false (World.laidAll Tryd.prog os Rows.codeShorterRow.laid) #[.agg #[.slice none 0 0, .int .i64 0, .slice none 0 0], .int .i64 0] 8 (World.laidAll_os _ _ _)
      (World.shaped_of_ZipB (by kernel_rfl) (by kernel_rfl)) (by kernel_rfl) (by kernel_rfl) (by kernel_rfl)
      (by rw [MakeChecks.laidMetH_plain _ _ _ (by kernel_rfl)]; exact laidMet_laidAll _ (by kernel_rfl) (by kernel_rfl))) ?_
  intro W base args ds gs before hval0 hW _ _ hL _
  rw [MakeChecks.laidMetH_plain _ _ _ (by kernel_rfl)] at hL
  refine law_calls (ti := tab) (T := [2, 3, 5, 9, 30, 42, 43, 45, 46, 48, 54, 56, 71, 72, 74, 75, 77, 78, 80, 82, 98, 162, 164, 166]) tab_ok (by kernel_rfl) (ts := [45, 3]) (bt := 4) rfl rfl rfl (by kernel_rfl) (by decide) ?_ (by kernel_rfl) code_shorter_reads code_shorter_trip (code_shorter_inv hL) hval0 hW
  intro ds h
  match ds, h with
  | [_, _], _ => exact ⟨rfl, rfl, rfl⟩
theorem code_shorter_row : Rows.CodeShorterSaid :=
  OpenClaim.holds_of_wide 16 Tryd.f16 rfl rfl rfl rfl rfl rfl rfl ⟨rfl, rfl, rfl, rfl, rfl⟩ rfl rfl rfl rfl rfl (by kernel_rfl) Tryd.func16 (by kernel_rfl)
    (of_decide_eq_true (by kernel_rfl)) (by unfold Func.isWrapper; first | (rw [if_pos (by decide +kernel)]; kernel_rfl) | (rw [if_neg (by decide +kernel)]; exact ⟨rfl, rfl⟩))
    (fun os started H enc _ => code_shorter_lifted os started H enc)
theorem code_shorter : Rows.CodeShorterCardSaid :=
  Claim7.holds_tied_plain_at .later [] [.data, .data, .data] true Rows.codeShorterCard.stood.harness false code_shorter_row (fun _ h => by cases h) (by kernel_rfl) (fun _ h => by cases h) codeShorter_row_tie rfl ⟨rfl, rfl⟩ (by kernel_rfl) rfl
    (fun f fn hf hfn => by
      obtain rfl : f = 16 := Option.some.inj ((show Tryd.prog.funcNamed "weftway/weftwaylaw17.CodeShorter" = some 16 by kernel_rfl).symm.trans hf) |>.symm
      obtain rfl : fn = Tryd.f16 := (Option.some.inj (Tryd.func16.symm.trans hfn)).symm
      exact ⟨by kernel_rfl, fun j t ht => by
        have hm : t ∈ [45, 3] := by
          have hp : Tryd.f16.params.toList = [45, 3] := rfl
          rw [← hp]; simpa using Array.mem_of_getElem? ht
        have hall : ([45, 3].all fun u => !Tryd.prog.wantsStandIn u) = true := by kernel_rfl
        exact (show Tryd.prog.wantsStandIn t = false by simpa using List.all_eq_true.1 hall t hm)⟩)
    (by kernel_rfl)
end Go.Proofs.YtjobleemmjjocaaDoor

set_option linter.unusedVariables false
noncomputable section
namespace Go.Proofs.YtjobleemmjjocaaDoor
open Go Go.AM

theorem rs98 {x : D} (h : RowS tab 98 x) : ∃ a0 a1 a2 a3, x = .agg [.str a0, .int .u8 a1, .str a2, .list true 3 a3] ∧ a0.size ≤ maxLen ∧ (Lit.int .u8 a1).wf = true ∧ a2.size ≤ maxLen ∧ ListS tab 74 a3 := by
  obtain ⟨cs, rfl, hs⟩ := h.agg (y := tyD tab 98) (by kernel_rfl) rfl
  have hl := hs.flat 9 98 [9, 5, 9, 72] cs (by kernel_rfl)
  obtain ⟨b0, b1, b2, b3, rfl⟩ := llen4 hl.1
  obtain ⟨a0, rfl, w0⟩ := (hl.2 0 b0 9 rfl rfl).strS (x := tyD tab 9) (by kernel_rfl) rfl
  obtain ⟨a1, rfl, w1⟩ := (hl.2 1 b1 5 rfl rfl).intS (x := tyD tab 5) (by kernel_rfl) rfl
  obtain ⟨a2, rfl, w2⟩ := (hl.2 2 b2 9 rfl rfl).strS (x := tyD tab 9) (by kernel_rfl) rfl
  obtain ⟨a3, e3, w3⟩ := (hl.2 3 b3 72 rfl rfl).listS (x := tyD tab 72) (y := tyD tab 74) (by kernel_rfl) rfl (by kernel_rfl)
  obtain rfl : b3 = .list true 3 a3 := e3
  exact ⟨_, _, _, _, rfl, w0, w1, w2, w3⟩
end Go.Proofs.YtjobleemmjjocaaDoor
end

set_option linter.unusedVariables false
noncomputable section
namespace Go.Proofs.YtjobleemmjjocaaDoor
open Go Go.AM
def F65 (n : Nat) (s1 : ByteArray) (z2 : Int) (s3 : ByteArray) (l4 : List D) (s5 : ByteArray) : Option (Bool × ByteArray) :=
  (if s1 = s5 then some (true, s5) else some (false, s5))
set_option maxRecDepth 100000 in
set_option maxHeartbeats 40000000 in
theorem T65 (n : Nat) : ∀ ⦃s1 : ByteArray⦄ ⦃z2 : Int⦄ ⦃s3 : ByteArray⦄ ⦃l4 : List D⦄ ⦃s5 : ByteArray⦄ ⦃r1 : Bool⦄ ⦃r2 : ByteArray⦄, F65 n s1 z2 s3 l4 s5 = some (r1, r2) →
    Trip Tryd.prog inv 65 [.d (.agg [.str s1, .int .u8 z2, .str s3, .list true 3 l4]), .c (.ptr (.ext 0) 0)] [.cells [.d (.str s5)]] (.v (.d (.bool r1))) [.cells [.d (.str r2)]] [] := by
  intro s1 z2 s3 l4 s5 r1 r2 h
  unfold F65 at h
  refine Trip.of tab_ok tab_one fol Tryd.func65 rfl (by kernel_rfl) rfl rfl rfl (fun M hM hI => ?_)
  try cbv
  refine seq_go ?_
  try cbv
  refine seq_go ?_
  try cbv
  refine splitS (fun e => ?_) (fun e => ?_)
  · replace h := ite_t (bytes_eq.1 e) h
    clear e
    try cbv
    obtain ⟨rfl, rfl⟩ := inj2 h
    refine fin_go ?_
    try cbv
    exact ⟨[], rfl, rfl, ⟨rfl, trivial⟩, trivial, trivial⟩
  · replace h := ite_f (bytes_ne.1 e) h
    clear e
    try cbv
    obtain ⟨rfl, rfl⟩ := inj2 h
    refine fin_go ?_
    try cbv
    exact ⟨[], rfl, rfl, ⟨rfl, trivial⟩, trivial, trivial⟩
end Go.Proofs.YtjobleemmjjocaaDoor
end

set_option linter.unusedVariables false
noncomputable section
namespace Go.Proofs.YtjobleemmjjocaaDoor
open Go Go.AM
def L64_1 : Nat → (List D) → Int → Int → ByteArray → Option (Int × ByteArray)
  | 0, _, _, _, _ => none
  | n + 1, l1, z3, z4, s5 =>
    (if z4 < z3 then getF l1 z4 fun x6 => ds_t98 x6 fun s7 z8 s9 l10 => bO2 (F65 n s7 z8 s9 l10 s5) fun b11 s12 => (if b11 = true then some (z4, s12) else letF (IntKind.wrap .i64 (z4 + 1)) fun z13 => L64_1 n l1 z3 z13 s12) else some ((-1 : Int), s5))
def F64 (n : Nat) (l1 : List D) (s2 : ByteArray) : Option (Int × ByteArray) :=
  lenF l1 fun z3 => L64_1 n l1 z3 (0 : Int) s2
set_option maxRecDepth 100000 in
set_option maxHeartbeats 40000000 in
theorem T64 (n : Nat) : ∀ ⦃l1 : List D⦄ ⦃s2 : ByteArray⦄ ⦃r1 : Int⦄ ⦃r2 : ByteArray⦄, F64 n l1 s2 = some (r1, r2) →
    Trip Tryd.prog inv 64 [.d (.list true 4 l1), .c (.fn 65 [.ext 0])] [.cells [.d (.str s2)]] (.v (.d (.int .i64 r1))) [.cells [.d (.str r2)]] [] := by
  intro l1 s2 r1 r2 h
  unfold F64 at h
  refine Trip.of tab_ok tab_one fol Tryd.func64 rfl (by kernel_rfl) rfl rfl rfl (fun M hM hI => ?_)
  try cbv
  refine seq_go ?_
  try cbv
  refine seq_go ?_
  try cbv
  refine seq_go ?_
  try cbv
  replace h := lenF_inv M h
  obtain ⟨z3, hz, h⟩ := h
  refine ⟨z3, hz, ?_⟩
  clear hz
  try cbv
  refine loop_inv (T := Nat × Int × ByteArray) [0, 1, 4, 7, 8] [.ext 0] 128 (fun t => ⟨[(0, .v (.d (.list true 4 l1))), (1, .v (.c (.fn 65 [.ext 0]))), (4, .v (.d (.int .i64 0))), (7, .v (.d (.int .i64 z3))), (8, .v (.d (.int .i64 t.2.1)))], [(.ext 0, .cells [.d (.str t.2.2)])], 128⟩)
    (fun t => t.1 ≤ n ∧ L64_1 t.1 l1 z3 t.2.1 t.2.2 = some (r1, r2)) (fun t => t.1) (n, ((0 : Int), s2)) ⟨Nat.le_refl _, h⟩ (by cbv) ?_
  clear h
  rintro ⟨m1, z4, s5⟩ ⟨hm1, h⟩
  replace hm1 : m1 ≤ n := hm1
  cases m1 with
  | zero =>
    replace h : L64_1 0 l1 z3 z4 s5 = some (r1, r2) := h
    rw [L64_1] at h
    cases h
  | succ m1 =>
    replace h : L64_1 (m1 + 1) l1 z3 z4 s5 = some (r1, r2) := h
    rw [L64_1] at h
    try cbv
    refine seq_go ?_
    try cbv
    refine splitL (fun e => ?_) (fun e => ?_)
    · replace h := ite_t e h
      clear e
      try cbv
      refine seq_go ?_
      try cbv
      refine seq_go ?_
      try cbv
      refine seq_go ?_
      try cbv
      refine seq_go ?_
      try cbv
      replace h := getF_inv h
      obtain ⟨x6, ⟨hx0, hx⟩, h⟩ := h
      refine ⟨x6, hx0, hx, ?_⟩
      clear hx0 hx
      replace h := ds_t98_inv h
      obtain ⟨s7, z8, s9, l10, rfl, h⟩ := h
      try cbv
      replace h := bO2_inv h
      obtain ⟨b11, s12, hr, h⟩ := h
      refine call_go rfl rfl ?_
      try cbv
      refine call_with hM hI [.ext 0] (T65 _ hr) rfl (by simp) ⟨rfl, trivial⟩ ⟨trivial, trivial⟩ (by simp) ?_
      clear hr
      try cbv
      cases b11
      · replace h := ite_f Bool.false_ne_true h
        try cbv
        replace h := letF_inv h
        obtain ⟨z13, hz, h⟩ := h
        refine ⟨z13, hz, ?_⟩
        clear hz
        try cbv
        exact loop_next (m1, (z13, s12)) [0, 1, 4, 7, 8] [.ext 0] 128 ⟨by omega, h⟩ (Nat.lt_succ_of_le (by omega)) (by cbv)
      · replace h := ite_t rfl h
        try cbv
        refine seq_go ?_
        try cbv
        obtain ⟨rfl, rfl⟩ := inj2 h
        refine fin_go ?_
        try cbv
        exact ⟨[], rfl, rfl, ⟨rfl, trivial⟩, trivial, trivial⟩
    · replace h := ite_f (Int.not_lt.2 e) h
      clear e
      try cbv
      refine seq_go ?_
      try cbv
      refine seq_go ?_
      try cbv
      obtain ⟨rfl, rfl⟩ := inj2 h
      refine fin_go ?_
      try cbv
      exact ⟨[], rfl, rfl, ⟨rfl, trivial⟩, trivial, trivial⟩
end Go.Proofs.YtjobleemmjjocaaDoor
end

set_option linter.unusedVariables false
noncomputable section
namespace Go.Proofs.YtjobleemmjjocaaDoor
open Go Go.AM
def L37_1 : Nat → (List D) → ByteArray → ByteArray → Int → Int → Option (Int × Bool)
  | 0, _, _, _, _, _ => none
  | n + 1, l3, s4, s5, z6, z7 =>
    (if z7 < z6 then getF l3 z7 fun x8 => ds_t82 x8 fun z9 s10 l11 z12 s13 l14 l15 z16 z17 s18 s19 s20 l21 l22 z23 z24 => (if z9 = (1 : Int) then (if s10 = s4 then bO2 (F64 n l11 s5) fun z25 s26 => letF (if (0 : Int) > z25 then (0 : Int) else z25) fun z27 => (if (0 : Int) ≤ z25 then some (z27, true) else some (z27, false)) else letF (IntKind.wrap .i64 (z7 + 1)) fun z28 => L37_1 n l3 s4 s5 z6 z28) else letF (IntKind.wrap .i64 (z7 + 1)) fun z29 => L37_1 n l3 s4 s5 z6 z29) else some ((0 : Int), false))
def F37 (n : Nat) (l1 : List D) (z2 : Int) (l3 : List D) (s4 : ByteArray) (s5 : ByteArray) : Option (Int × Bool) :=
  lenF l3 fun z6 => L37_1 n l3 s4 s5 z6 (0 : Int)
set_option maxRecDepth 100000 in
set_option maxHeartbeats 40000000 in
theorem T37 (n : Nat) : ∀ ⦃l1 : List D⦄ ⦃z2 : Int⦄ ⦃l3 : List D⦄ ⦃s4 : ByteArray⦄ ⦃s5 : ByteArray⦄ ⦃r1 : Int⦄ ⦃r2 : Bool⦄, F37 n l1 z2 l3 s4 s5 = some (r1, r2) →
    Trip Tryd.prog inv 37 [.d (.agg [.list true 4 l1, .int .i64 z2, .list true 16 l3]), .d (.str s4), .d (.str s5)] [] (.t [.d (.int .i64 r1), .d (.bool r2)]) [] [] := by
  intro l1 z2 l3 s4 s5 r1 r2 h
  unfold F37 at h
  refine Trip.of tab_ok tab_one fol Tryd.func37 rfl (by kernel_rfl) rfl rfl rfl (fun M hM hI => ?_)
  try cbv
  refine seq_go ?_
  try cbv
  refine seq_go ?_
  try cbv
  refine seq_go ?_
  try cbv
  replace h := lenF_inv M h
  obtain ⟨z6, hz, h⟩ := h
  refine ⟨z6, hz, ?_⟩
  clear hz
  try cbv
  refine loop_inv (T := Nat × Int) [1, 5, 6, 7, 12, 13, 14] [.loc 32] 256 (fun t => ⟨[(1, .v (.d (.str s4))), (5, .v (.c (.ptr (.loc 32) 0))), (6, .v (.d (.int .i64 0))), (7, .v (.d (.bool false))), (12, .v (.d (.list true 16 l3))), (13, .v (.d (.int .i64 z6))), (14, .v (.d (.int .i64 t.2)))], [(.loc 32, .cells [.d (.str s5)])], 256⟩)
    (fun t => t.1 ≤ n ∧ L37_1 t.1 l3 s4 s5 z6 t.2 = some (r1, r2)) (fun t => t.1) (n, (0 : Int)) ⟨Nat.le_refl _, h⟩ (by cbv) ?_
  clear h
  rintro ⟨m1, z7⟩ ⟨hm1, h⟩
  replace hm1 : m1 ≤ n := hm1
  cases m1 with
  | zero =>
    replace h : L37_1 0 l3 s4 s5 z6 z7 = some (r1, r2) := h
    rw [L37_1] at h
    cases h
  | succ m1 =>
    replace h : L37_1 (m1 + 1) l3 s4 s5 z6 z7 = some (r1, r2) := h
    rw [L37_1] at h
    try cbv
    refine seq_go ?_
    try cbv
    refine splitL (fun e => ?_) (fun e => ?_)
    · replace h := ite_t e h
      clear e
      try cbv
      refine seq_go ?_
      try cbv
      refine seq_go ?_
      try cbv
      refine seq_go ?_
      try cbv
      replace h := getF_inv h
      obtain ⟨x8, ⟨hx0, hx⟩, h⟩ := h
      refine ⟨x8, hx0, hx, ?_⟩
      clear hx0 hx
      replace h := ds_t82_inv h
      obtain ⟨z9, s10, l11, z12, s13, l14, l15, z16, z17, s18, s19, s20, l21, l22, z23, z24, rfl, h⟩ := h
      try cbv
      refine seq_go ?_
      try cbv
      refine splitI (fun e => ?_) (fun e => ?_)
      · replace h := ite_t e h
        clear e
        try cbv
        refine splitS (fun e => ?_) (fun e => ?_)
        · replace h := ite_t (bytes_eq.1 e) h
          clear e
          try cbv
          refine seq_go ?_
          try cbv
          replace h := bO2_inv h
          obtain ⟨z25, s26, hr, h⟩ := h
          refine call_go rfl rfl ?_
          try cbv
          refine call_with hM hI [.loc 32] (T64 _ hr) rfl (by simp) ⟨rfl, trivial⟩ ⟨trivial, trivial⟩ (by simp) ?_
          clear hr
          try cbv
          refine seq_go ?_
          try cbv
          replace h := letF_inv h
          obtain ⟨z27, hz, h⟩ := h
          refine ⟨z27, hz, ?_⟩
          clear hz
          try cbv
          refine splitLe (fun e => ?_) (fun e => ?_)
          · replace h := ite_t e h
            clear e
            try cbv
            obtain ⟨rfl, rfl⟩ := inj2 h
            refine fin_go ?_
            try cbv
            exact ⟨[], rfl, rfl, trivial, trivial, trivial⟩
          · replace h := ite_f (Int.not_le.2 e) h
            clear e
            try cbv
            obtain ⟨rfl, rfl⟩ := inj2 h
            refine fin_go ?_
            try cbv
            exact ⟨[], rfl, rfl, trivial, trivial, trivial⟩
        · replace h := ite_f (bytes_ne.1 e) h
          clear e
          try cbv
          replace h := letF_inv h
          obtain ⟨z28, hz, h⟩ := h
          refine ⟨z28, hz, ?_⟩
          clear hz
          try cbv
          exact loop_next (m1, z28) [1, 5, 6, 7, 12, 13, 14] [.loc 32] 256 ⟨by omega, h⟩ (Nat.lt_succ_of_le (by omega)) (by cbv)
      · replace h := ite_f e h
        clear e
        try cbv
        replace h := letF_inv h
        obtain ⟨z29, hz, h⟩ := h
        refine ⟨z29, hz, ?_⟩
        clear hz
        try cbv
        exact loop_next (m1, z29) [1, 5, 6, 7, 12, 13, 14] [.loc 32] 256 ⟨by omega, h⟩ (Nat.lt_succ_of_le (by omega)) (by cbv)
    · replace h := ite_f (Int.not_lt.2 e) h
      clear e
      try cbv
      refine seq_go ?_
      try cbv
      refine seq_go ?_
      try cbv
      obtain ⟨rfl, rfl⟩ := inj2 h
      refine fin_go ?_
      try cbv
      exact ⟨[], rfl, rfl, trivial, trivial, trivial⟩
end Go.Proofs.YtjobleemmjjocaaDoor
end

set_option linter.unusedVariables false
noncomputable section
namespace Go.Proofs.YtjobleemmjjocaaDoor
open Go Go.AM
def L38_2 : Nat → (List D) → ByteArray → Int → Int → Option (Int × Bool)
  | 0, _, _, _, _ => none
  | n + 1, l3, s5, z6, z42 =>
    getF l3 z6 fun x43 => ds_t82 x43 fun z44 s45 l46 z47 s48 l49 l50 z51 z52 s53 s54 s55 l56 l57 z58 z59 => lenF l46 fun z60 => (if z42 < z60 then getF l3 z6 fun x61 => ds_t82 x61 fun z62 s63 l64 z65 s66 l67 l68 z69 z70 s71 s72 s73 l74 l75 z76 z77 => getF l64 z42 fun x78 => ds_t98 x78 fun s79 z80 s81 l82 => (if s79 = s5 then some (z42, true) else letF (IntKind.wrap .i64 (z42 + 1)) fun z83 => L38_2 n l3 s5 z6 z83) else some ((0 : Int), false))
def L38_1 : Nat → (List D) → ByteArray → ByteArray → Int → Option (Int × Bool)
  | 0, _, _, _, _ => none
  | n + 1, l3, s4, s5, z6 =>
    lenF l3 fun z7 => (if z6 < z7 then getF l3 z6 fun x8 => ds_t82 x8 fun z9 s10 l11 z12 s13 l14 l15 z16 z17 s18 s19 s20 l21 l22 z23 z24 => (if z9 = (1 : Int) then getF l3 z6 fun x25 => ds_t82 x25 fun z26 s27 l28 z29 s30 l31 l32 z33 z34 s35 s36 s37 l38 l39 z40 z41 => (if s27 = s4 then L38_2 n l3 s5 z6 (0 : Int) else letF (IntKind.wrap .i64 (z6 + 1)) fun z84 => L38_1 n l3 s4 s5 z84) else letF (IntKind.wrap .i64 (z6 + 1)) fun z85 => L38_1 n l3 s4 s5 z85) else some ((0 : Int), false))
def F38 (n : Nat) (l1 : List D) (z2 : Int) (l3 : List D) (s4 : ByteArray) (s5 : ByteArray) : Option (Int × Bool) :=
  L38_1 n l3 s4 s5 (0 : Int)
set_option maxRecDepth 100000 in
set_option maxHeartbeats 40000000 in
theorem T38 (n : Nat) : ∀ ⦃l1 : List D⦄ ⦃z2 : Int⦄ ⦃l3 : List D⦄ ⦃s4 : ByteArray⦄ ⦃s5 : ByteArray⦄ ⦃r1 : Int⦄ ⦃r2 : Bool⦄, F38 n l1 z2 l3 s4 s5 = some (r1, r2) →
    Trip Tryd.prog inv 38 [.d (.agg [.list true 4 l1, .int .i64 z2, .list true 16 l3]), .d (.str s4), .d (.str s5)] [] (.t [.d (.int .i64 r1), .d (.bool r2)]) [] [] := by
  intro l1 z2 l3 s4 s5 r1 r2 h
  unfold F38 at h
  refine Trip.of tab_ok tab_one fol Tryd.func38 rfl (by kernel_rfl) rfl rfl rfl (fun M hM hI => ?_)
  try cbv
  refine seq_go ?_
  try cbv
  refine seq_go ?_
  try cbv
  refine seq_go ?_
  try cbv
  refine loop_inv (T := Nat × Int) [1, 2, 3, 6, 7, 8] [.loc 0] 128 (fun t => ⟨[(1, .v (.d (.str s4))), (2, .v (.d (.str s5))), (3, .v (.c (.ptr (.loc 0) 0))), (6, .v (.d (.int .i64 0))), (7, .v (.d (.bool false))), (8, .v (.d (.int .i64 t.2)))], [(.loc 0, .cells [.d (.list true 4 l1), .d (.int .i64 z2), .d (.list true 16 l3)])], 128⟩)
    (fun t => t.1 ≤ n ∧ L38_1 t.1 l3 s4 s5 t.2 = some (r1, r2)) (fun t => t.1) (n, (0 : Int)) ⟨Nat.le_refl _, h⟩ (by cbv) ?_
  clear h
  rintro ⟨m1, z6⟩ ⟨hm1, h⟩
  replace hm1 : m1 ≤ n := hm1
  cases m1 with
  | zero =>
    replace h : L38_1 0 l3 s4 s5 z6 = some (r1, r2) := h
    rw [L38_1] at h
    cases h
  | succ m1 =>
    replace h : L38_1 (m1 + 1) l3 s4 s5 z6 = some (r1, r2) := h
    rw [L38_1] at h
    try cbv
    refine seq_go ?_
    try cbv
    refine seq_go ?_
    try cbv
    replace h := lenF_inv M h
    obtain ⟨z7, hz, h⟩ := h
    refine ⟨z7, hz, ?_⟩
    clear hz
    try cbv
    refine splitL (fun e => ?_) (fun e => ?_)
    · replace h := ite_t e h
      clear e
      try cbv
      refine seq_go ?_
      try cbv
      refine seq_go ?_
      try cbv
      refine seq_go ?_
      try cbv
      replace h := getF_inv h
      obtain ⟨x8, ⟨hx0, hx⟩, h⟩ := h
      refine ⟨x8, hx0, hx, ?_⟩
      clear hx0 hx
      replace h := ds_t82_inv h
      obtain ⟨z9, s10, l11, z12, s13, l14, l15, z16, z17, s18, s19, s20, l21, l22, z23, z24, rfl, h⟩ := h
      try cbv
      refine splitI (fun e => ?_) (fun e => ?_)
      · replace h := ite_t e h
        clear e
        try cbv
        replace h := getF_inv h
        obtain ⟨x25, ⟨hx0, hx⟩, h⟩ := h
        refine ⟨x25, hx0, hx, ?_⟩
        clear hx0 hx
        replace h := ds_t82_inv h
        obtain ⟨z26, s27, l28, z29, s30, l31, l32, z33, z34, s35, s36, s37, l38, l39, z40, z41, rfl, h⟩ := h
        try cbv
        refine splitS (fun e => ?_) (fun e => ?_)
        · replace h := ite_t (bytes_eq.1 e) h
          clear e
          try cbv
          refine seq_go ?_
          try cbv
          refine seq_go ?_
          try cbv
          refine loop_inv (T := Nat × Int) [1, 2, 3, 6, 7, 8, 9] [.loc 0] 864 (fun t => ⟨[(1, .v (.d (.str s4))), (2, .v (.d (.str s5))), (3, .v (.c (.ptr (.loc 0) 0))), (6, .v (.d (.int .i64 0))), (7, .v (.d (.bool false))), (8, .v (.d (.int .i64 z6))), (9, .v (.d (.int .i64 t.2)))], [(.loc 0, .cells [.d (.list true 4 l1), .d (.int .i64 z2), .d (.list true 16 l3)])], 864⟩)
            (fun t => t.1 ≤ m1 ∧ L38_2 t.1 l3 s5 z6 t.2 = some (r1, r2)) (fun t => t.1) (m1, (0 : Int)) ⟨Nat.le_refl _, h⟩ (by cbv) ?_
          clear h
          rintro ⟨m2, z42⟩ ⟨hm2, h⟩
          replace hm2 : m2 ≤ m1 := hm2
          cases m2 with
          | zero =>
            replace h : L38_2 0 l3 s5 z6 z42 = some (r1, r2) := h
            rw [L38_2] at h
            cases h
          | succ m2 =>
            replace h : L38_2 (m2 + 1) l3 s5 z6 z42 = some (r1, r2) := h
            rw [L38_2] at h
            try cbv
            refine seq_go ?_
            try cbv
            refine seq_go ?_
            try cbv
            replace h := getF_inv h
            obtain ⟨x43, ⟨hx0, hx⟩, h⟩ := h
            refine ⟨x43, hx0, hx, ?_⟩
            clear hx0 hx
            replace h := ds_t82_inv h
            obtain ⟨z44, s45, l46, z47, s48, l49, l50, z51, z52, s53, s54, s55, l56, l57, z58, z59, rfl, h⟩ := h
            try cbv
            replace h := lenF_inv M h
            obtain ⟨z60, hz, h⟩ := h
            refine ⟨z60, hz, ?_⟩
            clear hz
            try cbv
            refine splitL (fun e => ?_) (fun e => ?_)
            · replace h := ite_t e h
              clear e
              try cbv
              refine seq_go ?_
              try cbv
              refine seq_go ?_
              try cbv
              replace h := getF_inv h
              obtain ⟨x61, ⟨hx0, hx⟩, h⟩ := h
              refine ⟨x61, hx0, hx, ?_⟩
              clear hx0 hx
              replace h := ds_t82_inv h
              obtain ⟨z62, s63, l64, z65, s66, l67, l68, z69, z70, s71, s72, s73, l74, l75, z76, z77, rfl, h⟩ := h
              try cbv
              replace h := getF_inv h
              obtain ⟨x78, ⟨hx0, hx⟩, h⟩ := h
              refine ⟨x78, hx0, hx, ?_⟩
              clear hx0 hx
              replace h := ds_t98_inv h
              obtain ⟨s79, z80, s81, l82, rfl, h⟩ := h
              try cbv
              refine splitS (fun e => ?_) (fun e => ?_)
              · replace h := ite_t (bytes_eq.1 e) h
                clear e
                try cbv
                refine seq_go ?_
                try cbv
                obtain ⟨rfl, rfl⟩ := inj2 h
                refine fin_go ?_
                try cbv
                exact ⟨[], rfl, rfl, trivial, trivial, trivial⟩
              · replace h := ite_f (bytes_ne.1 e) h
                clear e
                try cbv
                replace h := letF_inv h
                obtain ⟨z83, hz, h⟩ := h
                refine ⟨z83, hz, ?_⟩
                clear hz
                try cbv
                exact loop_next (m2, z83) [1, 2, 3, 6, 7, 8, 9] [.loc 0] 864 ⟨by omega, h⟩ (Nat.lt_succ_of_le (by omega)) (by cbv)
            · replace h := ite_f (Int.not_lt.2 e) h
              clear e
              try cbv
              refine seq_go ?_
              try cbv
              obtain ⟨rfl, rfl⟩ := inj2 h
              refine fin_go ?_
              try cbv
              exact ⟨[], rfl, rfl, trivial, trivial, trivial⟩
        · replace h := ite_f (bytes_ne.1 e) h
          clear e
          try cbv
          replace h := letF_inv h
          obtain ⟨z84, hz, h⟩ := h
          refine ⟨z84, hz, ?_⟩
          clear hz
          try cbv
          exact loop_next (m1, z84) [1, 2, 3, 6, 7, 8] [.loc 0] 128 ⟨by omega, h⟩ (Nat.lt_succ_of_le (by omega)) (by cbv)
      · replace h := ite_f e h
        clear e
        try cbv
        replace h := letF_inv h
        obtain ⟨z85, hz, h⟩ := h
        refine ⟨z85, hz, ?_⟩
        clear hz
        try cbv
        exact loop_next (m1, z85) [1, 2, 3, 6, 7, 8] [.loc 0] 128 ⟨by omega, h⟩ (Nat.lt_succ_of_le (by omega)) (by cbv)
    · replace h := ite_f (Int.not_lt.2 e) h
      clear e
      try cbv
      refine seq_go ?_
      try cbv
      obtain ⟨rfl, rfl⟩ := inj2 h
      refine fin_go ?_
      try cbv
      exact ⟨[], rfl, rfl, trivial, trivial, trivial⟩
end Go.Proofs.YtjobleemmjjocaaDoor
end

set_option linter.unusedVariables false
noncomputable section
namespace Go.Proofs.YtjobleemmjjocaaDoor
open Go Go.AM
mutual
def L13_10 : Nat → Int → (List D) → (List D) → Int → Option (Bool)
  | 0, _, _, _, _ => none
  | n + 1, z6, l10, l30, z50 =>
    lenF l30 fun z51 => (if z50 < z51 then (if z6 = (16 : Int) then L13_11 n z6 l10 l30 z50 true else L13_11 n z6 l10 l30 z50 false) else L13_11 n z6 l10 l30 z50 false)
def L13_11 : Nat → Int → (List D) → (List D) → Int → Bool → Option (Bool)
  | 0, _, _, _, _, _ => none
  | n + 1, z6, l10, l30, z50, b52 =>
    (if b52 = true then getF l10 z50 fun x53 => ds_i64 x53 fun z54 => needF (0 ≤ z50 ∧ z50.toNat < l30.length) (getN l30 (z50.toNat) fun x55 => ds_i64 x55 fun z56 => (if z54 = z56 then L13_12 n z6 l10 l30 z50 false else L13_12 n z6 l10 l30 z50 true)) else bO1 (F35 n) fun b59 => some b59)
def L13_12 : Nat → Int → (List D) → (List D) → Int → Bool → Option (Bool)
  | 0, _, _, _, _, _ => none
  | n + 1, z6, l10, l30, z50, b57 =>
    (if b57 = true then some false else letF (IntKind.wrap .i64 (z50 + 1)) fun z58 => L13_10 n z6 l10 l30 z58)
end
mutual
def L13_7 : Nat → Int → (List D) → (List D) → Int → (List D) → Option (Bool)
  | 0, _, _, _, _, _ => none
  | n + 1, z6, l10, l30, z37, l38 =>
    lenF l38 fun z39 => (if z37 < z39 then L13_8 n z6 l10 l30 z37 l38 true else L13_8 n z6 l10 l30 z37 l38 false)
def L13_8 : Nat → Int → (List D) → (List D) → Int → (List D) → Bool → Option (Bool)
  | 0, _, _, _, _, _, _ => none
  | n + 1, z6, l10, l30, z37, l38, b40 =>
    (if b40 = true then needF (0 ≤ z37 ∧ z37.toNat < l38.length) (getN l38 (z37.toNat) fun x41 => ds_i64 x41 fun z42 => needF (0 ≤ z37 ∧ z37.toNat < l30.length) (getN l30 (z37.toNat) fun x43 => ds_i64 x43 fun z44 => (if z42 = z44 then L13_9 n z6 l10 l30 z37 l38 false else L13_9 n z6 l10 l30 z37 l38 true))) else L13_10 n z6 l10 l30 (0 : Int))
def L13_9 : Nat → Int → (List D) → (List D) → Int → (List D) → Bool → Option (Bool)
  | 0, _, _, _, _, _, _ => none
  | n + 1, z6, l10, l30, z37, l38, b45 =>
    (if b45 = true then some false else needF (0 ≤ z37 ∧ z37.toNat < l38.length) (getN l38 (z37.toNat) fun x46 => ds_i64 x46 fun z47 => letF (IntKind.wrap .i64 (z37 + 1)) fun z48 => setF l38 (z37.toNat) (.int .i64 (-7)) fun l49 => L13_7 n z6 l10 l30 z48 l49))
end
def L13_6 : Nat → Int → (List D) → (List D) → (List D) → Bool → Option (Bool)
  | 0, _, _, _, _, _ => none
  | n + 1, z6, l10, l30, l31, b36 =>
    (if b36 = true then some false else L13_7 n z6 l10 l30 (0 : Int) l31)
def L13_5 : Nat → Int → Int → Int → Int → (List D) → (List D) → Int → ByteArray → (List D) → Int → Bool → Int → Bool → (List D) → Option (Bool)
  | 0, _, _, _, _, _, _, _, _, _, _, _, _, _, _ => none
  | n + 1, z6, z7, z8, z9, l10, l11, z12, s13, l14, z20, b21, z22, b23, l30 =>
    bO1 (F36 n z6 z7 z8 z9 l10 l11 z12 s13 l14) fun l31 => (if z20 = z22 then (if b21 = true then (if b23 = true then lenF l31 fun z32 => lenF l30 fun z33 => (if z32 = z33 then L13_6 n z6 l10 l30 l31 false else L13_6 n z6 l10 l30 l31 true) else L13_6 n z6 l10 l30 l31 true) else (if b23 = true then L13_6 n z6 l10 l30 l31 true else lenF l31 fun z34 => lenF l30 fun z35 => (if z34 = z35 then L13_6 n z6 l10 l30 l31 false else L13_6 n z6 l10 l30 l31 true))) else L13_6 n z6 l10 l30 l31 true)
def L13_4 : Nat → Int → Int → Int → Int → (List D) → (List D) → Int → ByteArray → (List D) → Int → Bool → Int → Bool → Bool → Option (Bool)
  | 0, _, _, _, _, _, _, _, _, _, _, _, _, _, _ => none
  | n + 1, z6, z7, z8, z9, l10, l11, z12, s13, l14, z20, b21, z22, b23, b28 =>
    (if b28 = true then needF (scalB l10 = true) (appF 8 ([] : List D) l10 fun l29 => L13_5 n z6 z7 z8 z9 l10 l11 z12 s13 l14 z20 b21 z22 b23 l29) else L13_5 n z6 z7 z8 z9 l10 l11 z12 s13 l14 z20 b21 z22 b23 ([] : List D))
def L13_3 : Nat → Int → Int → Int → Int → (List D) → (List D) → Int → ByteArray → (List D) → Int → Bool → Int → Bool → Bool → Option (Bool)
  | 0, _, _, _, _, _, _, _, _, _, _, _, _, _, _ => none
  | n + 1, z6, z7, z8, z9, l10, l11, z12, s13, l14, z20, b21, z22, b23, b25 =>
    (if b25 = true then letL [.int .i64 z7] fun l26 => appF 8 ([] : List D) l26 fun l27 => L13_5 n z6 z7 z8 z9 l10 l11 z12 s13 l14 z20 b21 z22 b23 l27 else (if z6 = (16 : Int) then L13_4 n z6 z7 z8 z9 l10 l11 z12 s13 l14 z20 b21 z22 b23 true else L13_4 n z6 z7 z8 z9 l10 l11 z12 s13 l14 z20 b21 z22 b23 false))
def L13_2 : Nat → Int → Int → Int → Int → (List D) → (List D) → Int → ByteArray → (List D) → Int → Bool → Int → Bool → Bool → Option (Bool)
  | 0, _, _, _, _, _, _, _, _, _, _, _, _, _, _ => none
  | n + 1, z6, z7, z8, z9, l10, l11, z12, s13, l14, z20, b21, z22, b23, b24 =>
    (if b24 = true then L13_3 n z6 z7 z8 z9 l10 l11 z12 s13 l14 z20 b21 z22 b23 true else (if z6 = (15 : Int) then L13_3 n z6 z7 z8 z9 l10 l11 z12 s13 l14 z20 b21 z22 b23 true else L13_3 n z6 z7 z8 z9 l10 l11 z12 s13 l14 z20 b21 z22 b23 false))
def L13_1 : Nat → (List D) → Int → (List D) → ByteArray → ByteArray → Int → Int → Int → Int → (List D) → (List D) → Int → ByteArray → (List D) → Bool → Option (Bool)
  | 0, _, _, _, _, _, _, _, _, _, _, _, _, _, _, _ => none
  | n + 1, l1, z2, l3, s4, s5, z6, z7, z8, z9, l10, l11, z12, s13, l14, b19 =>
    (if b19 = true then some true else bO2 (F37 n l1 z2 l3 s4 s5) fun z20 b21 => bO2 (F38 n l1 z2 l3 s4 s5) fun z22 b23 => (if z6 = (14 : Int) then L13_2 n z6 z7 z8 z9 l10 l11 z12 s13 l14 z20 b21 z22 b23 true else L13_2 n z6 z7 z8 z9 l10 l11 z12 s13 l14 z20 b21 z22 b23 false))
def F13 (n : Nat) (l1 : List D) (z2 : Int) (l3 : List D) (s4 : ByteArray) (s5 : ByteArray) (z6 : Int) (z7 : Int) (z8 : Int) (z9 : Int) (l10 : List D) (l11 : List D) (z12 : Int) (s13 : ByteArray) (l14 : List D) : Option (Bool) :=
  bO1 (F31 n l1 z2 l3) fun b15 => (if b15 = true then L13_1 n l1 z2 l3 s4 s5 z6 z7 z8 z9 l10 l11 z12 s13 l14 true else bO1 (F32 n z6 z7 z8 z9 l10 l11 z12 s13 l14) fun b16 => (if b16 = true then L13_1 n l1 z2 l3 s4 s5 z6 z7 z8 z9 l10 l11 z12 s13 l14 true else szF s4 fun z17 => (if (1000 : Int) < z17 then L13_1 n l1 z2 l3 s4 s5 z6 z7 z8 z9 l10 l11 z12 s13 l14 true else szF s5 fun z18 => (if (1000 : Int) < z18 then L13_1 n l1 z2 l3 s4 s5 z6 z7 z8 z9 l10 l11 z12 s13 l14 true else L13_1 n l1 z2 l3 s4 s5 z6 z7 z8 z9 l10 l11 z12 s13 l14 false))))
set_option maxRecDepth 100000 in
set_option maxHeartbeats 40000000 in
theorem T13 (n : Nat) : ∀ ⦃l1 : List D⦄ ⦃z2 : Int⦄ ⦃l3 : List D⦄ ⦃s4 : ByteArray⦄ ⦃s5 : ByteArray⦄ ⦃z6 : Int⦄ ⦃z7 : Int⦄ ⦃z8 : Int⦄ ⦃z9 : Int⦄ ⦃l10 : List D⦄ ⦃l11 : List D⦄ ⦃z12 : Int⦄ ⦃s13 : ByteArray⦄ ⦃l14 : List D⦄ ⦃r1 : Bool⦄, F13 n l1 z2 l3 s4 s5 z6 z7 z8 z9 l10 l11 z12 s13 l14 = some r1 →
    Trip Tryd.prog inv 13 [.d (.agg [.list true 4 l1, .int .i64 z2, .list true 16 l3]), .d (.str s4), .d (.str s5), .d (.agg [.int .u8 z6, .int .i64 z7, .int .i64 z8, .int .i64 z9, .list false 1 l10, .list false 1 l11, .int .i64 z12, .str s13, .list false 1 l14])] [] (.v (.d (.bool r1))) [] [] := by
  intro l1 z2 l3 s4 s5 z6 z7 z8 z9 l10 l11 z12 s13 l14 r1 h
  unfold F13 at h
  refine Trip.of tab_ok tab_one fol Tryd.func13 rfl (by kernel_rfl) rfl rfl rfl (fun M hM hI => ?_)
  try cbv
  refine seq_go ?_
  try cbv
  refine seq_go ?_
  try cbv
  refine seq_join (T := Nat × Bool) (fun t => ⟨[(1, .v (.d (.str s4))), (2, .v (.d (.str s5))), (4, .v (.c (.ptr (.loc 0) 0))), (7, .v (.c (.ptr (.loc 32) 0))), (8, .v (.d (.bool false))), (32, .v (.d (.bool t.2)))], [(.loc 0, .cells [.d (.list true 4 l1), .d (.int .i64 z2), .d (.list true 16 l3)]), (.loc 32, .cells [.d (.int .u8 z6), .d (.int .i64 z7), .d (.int .i64 z8), .d (.int .i64 z9), .d (.list false 1 l10), .d (.list false 1 l11), .d (.int .i64 z12), .d (.str s13), .d (.list false 1 l14)])], 608⟩) (fun t => t.1 ≤ n ∧ L13_1 t.1 l1 z2 l3 s4 s5 z6 z7 z8 z9 l10 l11 z12 s13 l14 t.2 = some r1) ?_ ?_
  · try cbv
    replace h := bO1_inv h
    obtain ⟨b15, hr, h⟩ := h
    refine call_go rfl rfl ?_
    try cbv
    refine call_pure hM hI (T31 _ hr) rfl ?_
    clear hr
    try cbv
    cases b15
    · replace h := ite_f Bool.false_ne_true h
      try cbv
      replace h := bO1_inv h
      obtain ⟨b16, hr, h⟩ := h
      refine call_go rfl rfl ?_
      try cbv
      refine call_pure hM hI (T32 _ hr) rfl ?_
      clear hr
      try cbv
      cases b16
      · replace h := ite_f Bool.false_ne_true h
        try cbv
        replace h := szF_inv M h
        obtain ⟨z17, hz, h⟩ := h
        refine ⟨z17, hz, ?_⟩
        clear hz
        try cbv
        refine splitL (fun e => ?_) (fun e => ?_)
        · replace h := ite_t e h
          clear e
          try cbv
          exact join_next (n, true) [1, 2, 4, 7, 8, 32] [.loc 0, .loc 32] 608 ⟨by omega, h⟩ (by cbv)
        · replace h := ite_f (Int.not_lt.2 e) h
          clear e
          try cbv
          replace h := szF_inv M h
          obtain ⟨z18, hz, h⟩ := h
          refine ⟨z18, hz, ?_⟩
          clear hz
          try cbv
          refine splitL (fun e => ?_) (fun e => ?_)
          · replace h := ite_t e h
            clear e
            try cbv
            exact join_next (n, true) [1, 2, 4, 7, 8, 32] [.loc 0, .loc 32] 608 ⟨by omega, h⟩ (by cbv)
          · replace h := ite_f (Int.not_lt.2 e) h
            clear e
            try cbv
            exact join_next (n, false) [1, 2, 4, 7, 8, 32] [.loc 0, .loc 32] 608 ⟨by omega, h⟩ (by cbv)
      · replace h := ite_t rfl h
        try cbv
        exact join_next (n, true) [1, 2, 4, 7, 8, 32] [.loc 0, .loc 32] 608 ⟨by omega, h⟩ (by cbv)
    · replace h := ite_t rfl h
      try cbv
      exact join_next (n, true) [1, 2, 4, 7, 8, 32] [.loc 0, .loc 32] 608 ⟨by omega, h⟩ (by cbv)
  · clear h
    rintro ⟨m1, b19⟩ ⟨hm1, h⟩
    replace hm1 : m1 ≤ n := hm1
    cases m1 with
    | zero =>
      replace h : L13_1 0 l1 z2 l3 s4 s5 z6 z7 z8 z9 l10 l11 z12 s13 l14 b19 = some r1 := h
      rw [L13_1] at h
      cases h
    | succ m1 =>
      replace h : L13_1 (m1 + 1) l1 z2 l3 s4 s5 z6 z7 z8 z9 l10 l11 z12 s13 l14 b19 = some r1 := h
      rw [L13_1] at h
      try cbv
      cases b19
      · replace h := ite_f Bool.false_ne_true h
        try cbv
        refine seq_go ?_
        try cbv
        replace h := bO2_inv h
        obtain ⟨z20, b21, hr, h⟩ := h
        refine call_go rfl rfl ?_
        try cbv
        refine call_pure hM hI (T37 _ hr) rfl ?_
        clear hr
        try cbv
        refine seq_go ?_
        try cbv
        replace h := bO2_inv h
        obtain ⟨z22, b23, hr, h⟩ := h
        refine call_go rfl rfl ?_
        try cbv
        refine call_pure hM hI (T38 _ hr) rfl ?_
        clear hr
        try cbv
        refine seq_go ?_
        try cbv
        refine seq_join (T := Nat × List D) (fun t => ⟨[(7, .v (.c (.ptr (.loc 32) 0))), (8, .v (.d (.bool false))), (9, .v (.d (.int .i64 z20))), (10, .v (.d (.bool b21))), (11, .v (.d (.int .i64 z22))), (12, .v (.d (.bool b23))), (13, .v (.c (.ow (.loc 1536))))], [(.loc 32, .cells [.d (.int .u8 z6), .d (.int .i64 z7), .d (.int .i64 z8), .d (.int .i64 z9), .d (.list false 1 l10), .d (.list false 1 l11), .d (.int .i64 z12), .d (.str s13), .d (.list false 1 l14)]), (.loc 1536, .tree .row false 1 t.2 none)], 1632⟩) (fun t => t.1 ≤ m1 ∧ L13_5 t.1 z6 z7 z8 z9 l10 l11 z12 s13 l14 z20 b21 z22 b23 t.2 = some r1) ?_ ?_
        · try cbv
          refine seq_go ?_
          try cbv
          refine seq_join (T := Nat × Bool) (fun t => ⟨[(7, .v (.c (.ptr (.loc 32) 0))), (8, .v (.d (.bool false))), (9, .v (.d (.int .i64 z20))), (10, .v (.d (.bool b21))), (11, .v (.d (.int .i64 z22))), (12, .v (.d (.bool b23))), (13, .v (.c (.nils false 1))), (48, .v (.d (.int .u8 z6))), (49, .v (.d (.bool t.2)))], [(.loc 32, .cells [.d (.int .u8 z6), .d (.int .i64 z7), .d (.int .i64 z8), .d (.int .i64 z9), .d (.list false 1 l10), .d (.list false 1 l11), .d (.int .i64 z12), .d (.str s13), .d (.list false 1 l14)])], 1408⟩) (fun t => t.1 ≤ m1 ∧ L13_3 t.1 z6 z7 z8 z9 l10 l11 z12 s13 l14 z20 b21 z22 b23 t.2 = some r1) ?_ ?_
          · try cbv
            refine seq_join (T := Nat × Bool) (fun t => ⟨[(7, .v (.c (.ptr (.loc 32) 0))), (8, .v (.d (.bool false))), (9, .v (.d (.int .i64 z20))), (10, .v (.d (.bool b21))), (11, .v (.d (.int .i64 z22))), (12, .v (.d (.bool b23))), (13, .v (.c (.nils false 1))), (48, .v (.d (.int .u8 z6))), (49, .v (.d (.bool t.2)))], [(.loc 32, .cells [.d (.int .u8 z6), .d (.int .i64 z7), .d (.int .i64 z8), .d (.int .i64 z9), .d (.list false 1 l10), .d (.list false 1 l11), .d (.int .i64 z12), .d (.str s13), .d (.list false 1 l14)])], 1344⟩) (fun t => t.1 ≤ m1 ∧ L13_2 t.1 z6 z7 z8 z9 l10 l11 z12 s13 l14 z20 b21 z22 b23 t.2 = some r1) ?_ ?_
            · try cbv
              refine splitI (fun e => ?_) (fun e => ?_)
              · replace h := ite_t e h
                clear e
                try cbv
                exact join_next (m1, true) [7, 8, 9, 10, 11, 12, 13, 48, 49] [.loc 32] 1344 ⟨by omega, h⟩ (by cbv)
              · replace h := ite_f e h
                clear e
                try cbv
                exact join_next (m1, false) [7, 8, 9, 10, 11, 12, 13, 48, 49] [.loc 32] 1344 ⟨by omega, h⟩ (by cbv)
            · clear h
              rintro ⟨m2, b24⟩ ⟨hm2, h⟩
              replace hm2 : m2 ≤ m1 := hm2
              cases m2 with
              | zero =>
                replace h : L13_2 0 z6 z7 z8 z9 l10 l11 z12 s13 l14 z20 b21 z22 b23 b24 = some r1 := h
                rw [L13_2] at h
                cases h
              | succ m2 =>
                replace h : L13_2 (m2 + 1) z6 z7 z8 z9 l10 l11 z12 s13 l14 z20 b21 z22 b23 b24 = some r1 := h
                rw [L13_2] at h
                try cbv
                cases b24
                · replace h := ite_f Bool.false_ne_true h
                  try cbv
                  refine splitI (fun e => ?_) (fun e => ?_)
                  · replace h := ite_t e h
                    clear e
                    try cbv
                    exact join_next (m2, true) [7, 8, 9, 10, 11, 12, 13, 48, 49] [.loc 32] 1408 ⟨by omega, h⟩ (by cbv)
                  · replace h := ite_f e h
                    clear e
                    try cbv
                    exact join_next (m2, false) [7, 8, 9, 10, 11, 12, 13, 48, 49] [.loc 32] 1408 ⟨by omega, h⟩ (by cbv)
                · replace h := ite_t rfl h
                  try cbv
                  exact join_next (m2, true) [7, 8, 9, 10, 11, 12, 13, 48, 49] [.loc 32] 1408 ⟨by omega, h⟩ (by cbv)
          · clear h
            rintro ⟨m3, b25⟩ ⟨hm3, h⟩
            replace hm3 : m3 ≤ m1 := hm3
            cases m3 with
            | zero =>
              replace h : L13_3 0 z6 z7 z8 z9 l10 l11 z12 s13 l14 z20 b21 z22 b23 b25 = some r1 := h
              rw [L13_3] at h
              cases h
            | succ m3 =>
              replace h : L13_3 (m3 + 1) z6 z7 z8 z9 l10 l11 z12 s13 l14 z20 b21 z22 b23 b25 = some r1 := h
              rw [L13_3] at h
              try cbv
              cases b25
              · replace h := ite_f Bool.false_ne_true h
                try cbv
                refine seq_join (T := Nat × Bool) (fun t => ⟨[(7, .v (.c (.ptr (.loc 32) 0))), (8, .v (.d (.bool false))), (9, .v (.d (.int .i64 z20))), (10, .v (.d (.bool b21))), (11, .v (.d (.int .i64 z22))), (12, .v (.d (.bool b23))), (13, .v (.c (.nils false 1))), (57, .v (.d (.bool t.2)))], [(.loc 32, .cells [.d (.int .u8 z6), .d (.int .i64 z7), .d (.int .i64 z8), .d (.int .i64 z9), .d (.list false 1 l10), .d (.list false 1 l11), .d (.int .i64 z12), .d (.str s13), .d (.list false 1 l14)])], 1472⟩) (fun t => t.1 ≤ m3 ∧ L13_4 t.1 z6 z7 z8 z9 l10 l11 z12 s13 l14 z20 b21 z22 b23 t.2 = some r1) ?_ ?_
                · try cbv
                  refine splitI (fun e => ?_) (fun e => ?_)
                  · replace h := ite_t e h
                    clear e
                    try cbv
                    exact join_next (m3, true) [7, 8, 9, 10, 11, 12, 13, 57] [.loc 32] 1472 ⟨by omega, h⟩ (by cbv)
                  · replace h := ite_f e h
                    clear e
                    try cbv
                    exact join_next (m3, false) [7, 8, 9, 10, 11, 12, 13, 57] [.loc 32] 1472 ⟨by omega, h⟩ (by cbv)
                · clear h
                  rintro ⟨m4, b28⟩ ⟨hm4, h⟩
                  replace hm4 : m4 ≤ m3 := hm4
                  cases m4 with
                  | zero =>
                    replace h : L13_4 0 z6 z7 z8 z9 l10 l11 z12 s13 l14 z20 b21 z22 b23 b28 = some r1 := h
                    rw [L13_4] at h
                    cases h
                  | succ m4 =>
                    replace h : L13_4 (m4 + 1) z6 z7 z8 z9 l10 l11 z12 s13 l14 z20 b21 z22 b23 b28 = some r1 := h
                    rw [L13_4] at h
                    try cbv
                    cases b28
                    · replace h := ite_f Bool.false_ne_true h
                      try cbv
                      refine join_nextG (m4, ([] : List D)) [.treeS 13 false 1] [(1472, 1536)] [7, 8, 9, 10, 11, 12, 13] [.loc 32, .loc 1472] 1632 ⟨by omega, h⟩ ?_
                      try cbv
                      first | done | exact rfl | cbv
                    · replace h := ite_t rfl h
                      try cbv
                      refine ⟨true, ?_⟩
                      try cbv
                      refine ⟨true, ?_⟩
                      try cbv
                      refine ⟨[], ?_⟩
                      try cbv
                      replace h := needF_inv h
                      obtain ⟨hs, h⟩ := h
                      replace h := appF_inv h
                      obtain ⟨l29, hb, hz, h⟩ := h
                      refine ⟨scalB_iff.1 hs, (M.lock_iff _).2 hb, l29, hz, ?_⟩
                      clear hs hb hz
                      try cbv
                      refine join_nextG (m4, l29) [] [(1568, 1536)] [7, 8, 9, 10, 11, 12, 13] [.loc 32, .loc 1568] 1632 ⟨by omega, h⟩ ?_
                      try cbv
                      first | done | exact rfl | cbv
              · replace h := ite_t rfl h
                try cbv
                refine ⟨true, ?_⟩
                try cbv
                refine ⟨[], ?_⟩
                try cbv
                replace h := letL_inv h
                obtain ⟨l26, hz, h⟩ := h
                refine ⟨l26, hz, ?_⟩
                clear hz
                try cbv
                refine op_pl ?_
                try cbv
                refine ⟨true, ?_⟩
                try cbv
                refine ⟨true, ?_⟩
                try cbv
                refine ⟨[], ?_⟩
                try cbv
                replace h := appF_inv h
                obtain ⟨l27, hb, hz, h⟩ := h
                refine ⟨(M.lock_iff _).2 hb, l27, hz, ?_⟩
                clear hb hz
                try cbv
                exact join_next (m3, l27) [7, 8, 9, 10, 11, 12, 13] [.loc 32, .loc 1536] 1632 ⟨by omega, h⟩ (by cbv)
        · clear h
          rintro ⟨m5, l30⟩ ⟨hm5, h⟩
          replace hm5 : m5 ≤ m1 := hm5
          cases m5 with
          | zero =>
            replace h : L13_5 0 z6 z7 z8 z9 l10 l11 z12 s13 l14 z20 b21 z22 b23 l30 = some r1 := h
            rw [L13_5] at h
            cases h
          | succ m5 =>
            replace h : L13_5 (m5 + 1) z6 z7 z8 z9 l10 l11 z12 s13 l14 z20 b21 z22 b23 l30 = some r1 := h
            rw [L13_5] at h
            try cbv
            refine seq_go ?_
            try cbv
            replace h := bO1_inv h
            obtain ⟨l31, hr, h⟩ := h
            refine call_go rfl rfl ?_
            try cbv
            refine call_with hM hI [] (T36 _ hr) rfl (by simp) trivial trivial (by simp) ?_
            clear hr
            try cbv
            refine seq_go ?_
            try cbv
            refine seq_join (T := Nat × Bool) (fun t => ⟨[(7, .v (.c (.ptr (.loc 32) 0))), (8, .v (.d (.bool false))), (13, .v (.c (.ow (.loc 1536)))), (14, .v (.c (.ow (.loc 1664)))), (79, .v (.d (.bool t.2)))], [(.loc 32, .cells [.d (.int .u8 z6), .d (.int .i64 z7), .d (.int .i64 z8), .d (.int .i64 z9), .d (.list false 1 l10), .d (.list false 1 l11), .d (.int .i64 z12), .d (.str s13), .d (.list false 1 l14)]), (.loc 1536, .tree .row false 1 l30 none), (.loc 1664, .tree .row false 1 l31 none)], 2208⟩) (fun t => t.1 ≤ m5 ∧ L13_6 t.1 z6 l10 l30 l31 t.2 = some r1) ?_ ?_
            · try cbv
              refine splitI (fun e => ?_) (fun e => ?_)
              · replace h := ite_t e h
                clear e
                try cbv
                cases b21
                · replace h := ite_f Bool.false_ne_true h
                  try cbv
                  cases b23
                  · replace h := ite_f Bool.false_ne_true h
                    try cbv
                    refine ⟨false, rfl, ?_⟩
                    try cbv
                    replace h := lenF_inv M h
                    obtain ⟨z34, hz, h⟩ := h
                    refine ⟨false, ?_⟩
                    try cbv
                    refine ⟨z34, hz, ?_⟩
                    clear hz
                    try cbv
                    replace h := lenF_inv M h
                    obtain ⟨z35, hz, h⟩ := h
                    refine ⟨false, ?_⟩
                    try cbv
                    refine ⟨z35, hz, ?_⟩
                    clear hz
                    try cbv
                    refine splitI (fun e => ?_) (fun e => ?_)
                    · replace h := ite_t e h
                      clear e
                      try cbv
                      exact join_next (m5, false) [7, 8, 13, 14, 79] [.loc 32, .loc 1536, .loc 1664] 2208 ⟨by omega, h⟩ (by cbv)
                    · replace h := ite_f e h
                      clear e
                      try cbv
                      exact join_next (m5, true) [7, 8, 13, 14, 79] [.loc 32, .loc 1536, .loc 1664] 2208 ⟨by omega, h⟩ (by cbv)
                  · replace h := ite_t rfl h
                    try cbv
                    refine ⟨true, rfl, ?_⟩
                    try cbv
                    exact join_next (m5, true) [7, 8, 13, 14, 79] [.loc 32, .loc 1536, .loc 1664] 2208 ⟨by omega, h⟩ (by cbv)
                · replace h := ite_t rfl h
                  try cbv
                  cases b23
                  · replace h := ite_f Bool.false_ne_true h
                    try cbv
                    refine ⟨true, rfl, ?_⟩
                    try cbv
                    exact join_next (m5, true) [7, 8, 13, 14, 79] [.loc 32, .loc 1536, .loc 1664] 2208 ⟨by omega, h⟩ (by cbv)
                  · replace h := ite_t rfl h
                    try cbv
                    refine ⟨false, rfl, ?_⟩
                    try cbv
                    replace h := lenF_inv M h
                    obtain ⟨z32, hz, h⟩ := h
                    refine ⟨false, ?_⟩
                    try cbv
                    refine ⟨z32, hz, ?_⟩
                    clear hz
                    try cbv
                    replace h := lenF_inv M h
                    obtain ⟨z33, hz, h⟩ := h
                    refine ⟨false, ?_⟩
                    try cbv
                    refine ⟨z33, hz, ?_⟩
                    clear hz
                    try cbv
                    refine splitI (fun e => ?_) (fun e => ?_)
                    · replace h := ite_t e h
                      clear e
                      try cbv
                      exact join_next (m5, false) [7, 8, 13, 14, 79] [.loc 32, .loc 1536, .loc 1664] 2208 ⟨by omega, h⟩ (by cbv)
                    · replace h := ite_f e h
                      clear e
                      try cbv
                      exact join_next (m5, true) [7, 8, 13, 14, 79] [.loc 32, .loc 1536, .loc 1664] 2208 ⟨by omega, h⟩ (by cbv)
              · replace h := ite_f e h
                clear e
                try cbv
                exact join_next (m5, true) [7, 8, 13, 14, 79] [.loc 32, .loc 1536, .loc 1664] 2208 ⟨by omega, h⟩ (by cbv)
            · clear h
              rintro ⟨m6, b36⟩ ⟨hm6, h⟩
              replace hm6 : m6 ≤ m5 := hm6
              cases m6 with
              | zero =>
                replace h : L13_6 0 z6 l10 l30 l31 b36 = some r1 := h
                rw [L13_6] at h
                cases h
              | succ m6 =>
                replace h : L13_6 (m6 + 1) z6 l10 l30 l31 b36 = some r1 := h
                rw [L13_6] at h
                try cbv
                cases b36
                · replace h := ite_f Bool.false_ne_true h
                  try cbv
                  refine seq_go ?_
                  try cbv
                  refine seq_go ?_
                  try cbv
                  refine loop_invG (T := Nat × Int × List D) [] [] [7, 8, 13, 14, 15] [.loc 32, .loc 1536, .loc 1664] 2240 (fun t => ⟨[(7, .v (.c (.ptr (.loc 32) 0))), (8, .v (.d (.bool false))), (13, .v (.c (.ow (.loc 1536)))), (14, .v (.c (.ow (.loc 1664)))), (15, .v (.d (.int .i64 t.2.1)))], [(.loc 32, .cells [.d (.int .u8 z6), .d (.int .i64 z7), .d (.int .i64 z8), .d (.int .i64 z9), .d (.list false 1 l10), .d (.list false 1 l11), .d (.int .i64 z12), .d (.str s13), .d (.list false 1 l14)]), (.loc 1536, .tree .row false 1 l30 none), (.loc 1664, .tree .row false 1 t.2.2 none)], 2240⟩)
                    (fun t => t.1 ≤ m6 ∧ L13_7 t.1 z6 l10 l30 t.2.1 t.2.2 = some r1) (fun t => t.1) (m6, ((0 : Int), l31)) ⟨Nat.le_refl _, h⟩ (by cbv) ?_
                  clear h
                  rintro ⟨m7, z37, l38⟩ ⟨hm7, h⟩
                  replace hm7 : m7 ≤ m6 := hm7
                  cases m7 with
                  | zero =>
                    replace h : L13_7 0 z6 l10 l30 z37 l38 = some r1 := h
                    rw [L13_7] at h
                    cases h
                  | succ m7 =>
                    replace h : L13_7 (m7 + 1) z6 l10 l30 z37 l38 = some r1 := h
                    rw [L13_7] at h
                    try cbv
                    refine seq_go ?_
                    try cbv
                    refine seq_join (T := Nat × Bool) (fun t => ⟨[(7, .v (.c (.ptr (.loc 32) 0))), (8, .v (.d (.bool false))), (13, .v (.c (.ow (.loc 1536)))), (14, .v (.c (.ow (.loc 1664)))), (15, .v (.d (.int .i64 z37))), (83, .v (.d (.bool t.2)))], [(.loc 32, .cells [.d (.int .u8 z6), .d (.int .i64 z7), .d (.int .i64 z8), .d (.int .i64 z9), .d (.list false 1 l10), .d (.list false 1 l11), .d (.int .i64 z12), .d (.str s13), .d (.list false 1 l14)]), (.loc 1536, .tree .row false 1 l30 none), (.loc 1664, .tree .row false 1 l38 none)], 2368⟩) (fun t => t.1 ≤ m7 ∧ L13_8 t.1 z6 l10 l30 z37 l38 t.2 = some r1) ?_ ?_
                    · try cbv
                      replace h := lenF_inv M h
                      obtain ⟨z39, hz, h⟩ := h
                      refine ⟨false, ?_⟩
                      try cbv
                      refine ⟨z39, hz, ?_⟩
                      clear hz
                      try cbv
                      refine splitL (fun e => ?_) (fun e => ?_)
                      · replace h := ite_t e h
                        clear e
                        try cbv
                        exact join_next (m7, true) [7, 8, 13, 14, 15, 83] [.loc 32, .loc 1536, .loc 1664] 2368 ⟨by omega, h⟩ (by cbv)
                      · replace h := ite_f (Int.not_lt.2 e) h
                        clear e
                        try cbv
                        exact join_next (m7, false) [7, 8, 13, 14, 15, 83] [.loc 32, .loc 1536, .loc 1664] 2368 ⟨by omega, h⟩ (by cbv)
                    · clear h
                      rintro ⟨m8, b40⟩ ⟨hm8, h⟩
                      replace hm8 : m8 ≤ m7 := hm8
                      cases m8 with
                      | zero =>
                        replace h : L13_8 0 z6 l10 l30 z37 l38 b40 = some r1 := h
                        rw [L13_8] at h
                        cases h
                      | succ m8 =>
                        replace h : L13_8 (m8 + 1) z6 l10 l30 z37 l38 b40 = some r1 := h
                        rw [L13_8] at h
                        try cbv
                        cases b40
                        · replace h := ite_f Bool.false_ne_true h
                          try cbv
                          refine seq_go ?_
                          try cbv
                          refine seq_go ?_
                          try cbv
                          refine loop_invG (T := Nat × Int) [] [] [7, 8, 13, 14, 15, 16] [.loc 32, .loc 1536, .loc 1664] 2400 (fun t => ⟨[(7, .v (.c (.ptr (.loc 32) 0))), (8, .v (.d (.bool false))), (13, .v (.c (.ow (.loc 1536)))), (14, .v (.c (.ow (.loc 1664)))), (15, .v (.d (.int .i64 z37))), (16, .v (.d (.int .i64 t.2)))], [(.loc 32, .cells [.d (.int .u8 z6), .d (.int .i64 z7), .d (.int .i64 z8), .d (.int .i64 z9), .d (.list false 1 l10), .d (.list false 1 l11), .d (.int .i64 z12), .d (.str s13), .d (.list false 1 l14)]), (.loc 1536, .tree .row false 1 l30 none), (.loc 1664, .tree .row false 1 l38 none)], 2400⟩)
                            (fun t => t.1 ≤ m8 ∧ L13_10 t.1 z6 l10 l30 t.2 = some r1) (fun t => t.1) (m8, (0 : Int)) ⟨Nat.le_refl _, h⟩ (by cbv) ?_
                          clear h
                          rintro ⟨m10, z50⟩ ⟨hm10, h⟩
                          replace hm10 : m10 ≤ m8 := hm10
                          cases m10 with
                          | zero =>
                            replace h : L13_10 0 z6 l10 l30 z50 = some r1 := h
                            rw [L13_10] at h
                            cases h
                          | succ m10 =>
                            replace h : L13_10 (m10 + 1) z6 l10 l30 z50 = some r1 := h
                            rw [L13_10] at h
                            try cbv
                            refine seq_go ?_
                            try cbv
                            refine seq_join (T := Nat × Bool) (fun t => ⟨[(7, .v (.c (.ptr (.loc 32) 0))), (8, .v (.d (.bool false))), (13, .v (.c (.ow (.loc 1536)))), (14, .v (.c (.ow (.loc 1664)))), (15, .v (.d (.int .i64 z37))), (16, .v (.d (.int .i64 z50))), (106, .v (.d (.bool t.2)))], [(.loc 32, .cells [.d (.int .u8 z6), .d (.int .i64 z7), .d (.int .i64 z8), .d (.int .i64 z9), .d (.list false 1 l10), .d (.list false 1 l11), .d (.int .i64 z12), .d (.str s13), .d (.list false 1 l14)]), (.loc 1536, .tree .row false 1 l30 none), (.loc 1664, .tree .row false 1 l38 none)], 2688⟩) (fun t => t.1 ≤ m10 ∧ L13_11 t.1 z6 l10 l30 z50 t.2 = some r1) ?_ ?_
                            · try cbv
                              replace h := lenF_inv M h
                              obtain ⟨z51, hz, h⟩ := h
                              refine ⟨false, ?_⟩
                              try cbv
                              refine ⟨z51, hz, ?_⟩
                              clear hz
                              try cbv
                              refine splitL (fun e => ?_) (fun e => ?_)
                              · replace h := ite_t e h
                                clear e
                                try cbv
                                refine splitI (fun e => ?_) (fun e => ?_)
                                · replace h := ite_t e h
                                  clear e
                                  try cbv
                                  exact join_next (m10, true) [7, 8, 13, 14, 15, 16, 106] [.loc 32, .loc 1536, .loc 1664] 2688 ⟨by omega, h⟩ (by cbv)
                                · replace h := ite_f e h
                                  clear e
                                  try cbv
                                  exact join_next (m10, false) [7, 8, 13, 14, 15, 16, 106] [.loc 32, .loc 1536, .loc 1664] 2688 ⟨by omega, h⟩ (by cbv)
                              · replace h := ite_f (Int.not_lt.2 e) h
                                clear e
                                try cbv
                                exact join_next (m10, false) [7, 8, 13, 14, 15, 16, 106] [.loc 32, .loc 1536, .loc 1664] 2688 ⟨by omega, h⟩ (by cbv)
                            · clear h
                              rintro ⟨m11, b52⟩ ⟨hm11, h⟩
                              replace hm11 : m11 ≤ m10 := hm11
                              cases m11 with
                              | zero =>
                                replace h : L13_11 0 z6 l10 l30 z50 b52 = some r1 := h
                                rw [L13_11] at h
                                cases h
                              | succ m11 =>
                                replace h : L13_11 (m11 + 1) z6 l10 l30 z50 b52 = some r1 := h
                                rw [L13_11] at h
                                try cbv
                                cases b52
                                · replace h := ite_f Bool.false_ne_true h
                                  try cbv
                                  refine seq_go ?_
                                  try cbv
                                  replace h := bO1_inv h
                                  obtain ⟨b59, hr, h⟩ := h
                                  refine call_go rfl rfl ?_
                                  try cbv
                                  refine call_pure hM hI (T35 _ hr) rfl ?_
                                  clear hr
                                  try cbv
                                  obtain rfl := Option.some.inj h
                                  refine fin_go ?_
                                  try cbv
                                  exact ⟨[], rfl, rfl, trivial, trivial, trivial⟩
                                · replace h := ite_t rfl h
                                  try cbv
                                  refine seq_go ?_
                                  try cbv
                                  refine seq_join (T := Nat × Bool) (fun t => ⟨[(7, .v (.c (.ptr (.loc 32) 0))), (8, .v (.d (.bool false))), (13, .v (.c (.ow (.loc 1536)))), (14, .v (.c (.ow (.loc 1664)))), (15, .v (.d (.int .i64 z37))), (16, .v (.d (.int .i64 z50))), (118, .v (.d (.bool t.2)))], [(.loc 32, .cells [.d (.int .u8 z6), .d (.int .i64 z7), .d (.int .i64 z8), .d (.int .i64 z9), .d (.list false 1 l10), .d (.list false 1 l11), .d (.int .i64 z12), .d (.str s13), .d (.list false 1 l14)]), (.loc 1536, .tree .row false 1 l30 none), (.loc 1664, .tree .row false 1 l38 none)], 3008⟩) (fun t => t.1 ≤ m11 ∧ L13_12 t.1 z6 l10 l30 z50 t.2 = some r1) ?_ ?_
                                  · try cbv
                                    replace h := getF_inv h
                                    obtain ⟨x53, ⟨hx0, hx⟩, h⟩ := h
                                    refine ⟨x53, hx0, hx, ?_⟩
                                    clear hx0 hx
                                    replace h := ds_i64_inv h
                                    obtain ⟨z54, rfl, h⟩ := h
                                    try cbv
                                    replace h := needF_inv h
                                    obtain ⟨hn, h⟩ := h
                                    refine ⟨(M.lock_iff _).2 hn, ?_⟩
                                    clear hn
                                    try cbv
                                    refine ⟨[], ?_⟩
                                    try cbv
                                    replace h := getN_inv h
                                    obtain ⟨x55, hx, h⟩ := h
                                    replace h := ds_i64_inv h
                                    obtain ⟨z56, rfl, h⟩ := h
                                    refine ⟨_, hx, ?_⟩
                                    clear hx
                                    try cbv
                                    refine ⟨true, ?_⟩
                                    try cbv
                                    refine splitI (fun e => ?_) (fun e => ?_)
                                    · replace h := ite_t e h
                                      clear e
                                      try cbv
                                      refine drawn ?_ ?_
                                      · show _ = true
                                        kernel_rfl
                                      try cbv
                                      exact join_next (m11, false) [7, 8, 13, 14, 15, 16, 118] [.loc 32, .loc 1536, .loc 1664] 3008 ⟨by omega, h⟩ (by cbv)
                                    · replace h := ite_f e h
                                      clear e
                                      try cbv
                                      refine drawn ?_ ?_
                                      · show _ = true
                                        kernel_rfl
                                      try cbv
                                      exact join_next (m11, true) [7, 8, 13, 14, 15, 16, 118] [.loc 32, .loc 1536, .loc 1664] 3008 ⟨by omega, h⟩ (by cbv)
                                  · clear h
                                    rintro ⟨m12, b57⟩ ⟨hm12, h⟩
                                    replace hm12 : m12 ≤ m11 := hm12
                                    cases m12 with
                                    | zero =>
                                      replace h : L13_12 0 z6 l10 l30 z50 b57 = some r1 := h
                                      rw [L13_12] at h
                                      cases h
                                    | succ m12 =>
                                      replace h : L13_12 (m12 + 1) z6 l10 l30 z50 b57 = some r1 := h
                                      rw [L13_12] at h
                                      try cbv
                                      cases b57
                                      · replace h := ite_f Bool.false_ne_true h
                                        try cbv
                                        replace h := letF_inv h
                                        obtain ⟨z58, hz, h⟩ := h
                                        refine ⟨z58, hz, ?_⟩
                                        clear hz
                                        try cbv
                                        refine loop_nextG (m12, z58) [] [] [7, 8, 13, 14, 15, 16] [.loc 32, .loc 1536, .loc 1664] 2400 ⟨by omega, h⟩ (Nat.lt_succ_of_le (by omega)) ?_
                                        try cbv
                                      · replace h := ite_t rfl h
                                        try cbv
                                        refine seq_go ?_
                                        try cbv
                                        obtain rfl := Option.some.inj h
                                        refine fin_go ?_
                                        try cbv
                                        exact ⟨[], rfl, rfl, trivial, trivial, trivial⟩
                        · replace h := ite_t rfl h
                          try cbv
                          refine seq_go ?_
                          try cbv
                          refine seq_go ?_
                          try cbv
                          refine seq_join (T := Nat × Bool) (fun t => ⟨[(7, .v (.c (.ptr (.loc 32) 0))), (8, .v (.d (.bool false))), (13, .v (.c (.ow (.loc 1536)))), (14, .v (.c (.ow (.loc 1664)))), (15, .v (.d (.int .i64 z37))), (94, .v (.d (.bool t.2)))], [(.loc 32, .cells [.d (.int .u8 z6), .d (.int .i64 z7), .d (.int .i64 z8), .d (.int .i64 z9), .d (.list false 1 l10), .d (.list false 1 l11), .d (.int .i64 z12), .d (.str s13), .d (.list false 1 l14)]), (.loc 1536, .tree .row false 1 l30 none), (.loc 1664, .tree .row false 1 l38 none)], 2656⟩) (fun t => t.1 ≤ m8 ∧ L13_9 t.1 z6 l10 l30 z37 l38 t.2 = some r1) ?_ ?_
                          · try cbv
                            replace h := needF_inv h
                            obtain ⟨hn, h⟩ := h
                            refine ⟨(M.lock_iff _).2 hn, ?_⟩
                            clear hn
                            try cbv
                            refine ⟨[], ?_⟩
                            try cbv
                            replace h := getN_inv h
                            obtain ⟨x41, hx, h⟩ := h
                            replace h := ds_i64_inv h
                            obtain ⟨z42, rfl, h⟩ := h
                            refine ⟨_, hx, ?_⟩
                            clear hx
                            try cbv
                            refine ⟨true, ?_⟩
                            try cbv
                            replace h := needF_inv h
                            obtain ⟨hn, h⟩ := h
                            refine ⟨(M.lock_iff _).2 hn, ?_⟩
                            clear hn
                            try cbv
                            refine ⟨[], ?_⟩
                            try cbv
                            replace h := getN_inv h
                            obtain ⟨x43, hx, h⟩ := h
                            replace h := ds_i64_inv h
                            obtain ⟨z44, rfl, h⟩ := h
                            refine ⟨_, hx, ?_⟩
                            clear hx
                            try cbv
                            refine ⟨true, ?_⟩
                            try cbv
                            refine splitI (fun e => ?_) (fun e => ?_)
                            · replace h := ite_t e h
                              clear e
                              try cbv
                              refine drawn ?_ ?_
                              · show _ = true
                                kernel_rfl
                              try cbv
                              exact join_next (m8, false) [7, 8, 13, 14, 15, 94] [.loc 32, .loc 1536, .loc 1664] 2656 ⟨by omega, h⟩ (by cbv)
                            · replace h := ite_f e h
                              clear e
                              try cbv
                              refine drawn ?_ ?_
                              · show _ = true
                                kernel_rfl
                              try cbv
                              exact join_next (m8, true) [7, 8, 13, 14, 15, 94] [.loc 32, .loc 1536, .loc 1664] 2656 ⟨by omega, h⟩ (by cbv)
                          · clear h
                            rintro ⟨m9, b45⟩ ⟨hm9, h⟩
                            replace hm9 : m9 ≤ m8 := hm9
                            cases m9 with
                            | zero =>
                              replace h : L13_9 0 z6 l10 l30 z37 l38 b45 = some r1 := h
                              rw [L13_9] at h
                              cases h
                            | succ m9 =>
                              replace h : L13_9 (m9 + 1) z6 l10 l30 z37 l38 b45 = some r1 := h
                              rw [L13_9] at h
                              try cbv
                              cases b45
                              · replace h := ite_f Bool.false_ne_true h
                                try cbv
                                replace h := needF_inv h
                                obtain ⟨hn, h⟩ := h
                                refine ⟨(M.lock_iff _).2 hn, ?_⟩
                                clear hn
                                try cbv
                                refine ⟨[], ?_⟩
                                try cbv
                                replace h := getN_inv h
                                obtain ⟨x46, hx, h⟩ := h
                                replace h := ds_i64_inv h
                                obtain ⟨z47, rfl, h⟩ := h
                                refine ⟨_, hx, ?_⟩
                                clear hx
                                try cbv
                                replace h := letF_inv h
                                obtain ⟨z48, hz, h⟩ := h
                                refine ⟨z48, hz, ?_⟩
                                clear hz
                                try cbv
                                replace h := setF_inv h
                                obtain ⟨l49, hl49, h⟩ := h
                                refine loop_nextG (m9, (z48, l49)) [.close (.loc 1664)] [] [7, 8, 13, 14, 15] [.loc 32, .loc 1536, .loc 1664] 2240 ⟨by omega, h⟩ (Nat.lt_succ_of_le (by omega)) ?_
                                try cbv
                                refine ⟨l49, hl49, ?_⟩
                                clear hl49
                                try cbv
                                first | done | exact rfl | cbv
                              · replace h := ite_t rfl h
                                try cbv
                                refine seq_go ?_
                                try cbv
                                obtain rfl := Option.some.inj h
                                refine fin_go ?_
                                try cbv
                                exact ⟨[], rfl, rfl, trivial, trivial, trivial⟩
                · replace h := ite_t rfl h
                  try cbv
                  refine seq_go ?_
                  try cbv
                  obtain rfl := Option.some.inj h
                  refine fin_go ?_
                  try cbv
                  exact ⟨[], rfl, rfl, trivial, trivial, trivial⟩
      · replace h := ite_t rfl h
        try cbv
        refine seq_go ?_
        try cbv
        obtain rfl := Option.some.inj h
        refine fin_go ?_
        try cbv
        exact ⟨[], rfl, rfl, trivial, trivial, trivial⟩
end Go.Proofs.YtjobleemmjjocaaDoor
end

set_option linter.unusedVariables false
noncomputable section
namespace Go.Proofs.YtjobleemmjjocaaDoor
open Go Go.AM

theorem tot32b (z1 z2 z3 z4 : Int) (l5 : List D) {l6 : List D} (h6 : ListS tab 9 l6) (z7 : Int) (s8 : ByteArray) (l9 : List D) : ∃ r, Ev (fun n => F32 n z1 z2 z3 z4 l5 l6 z7 s8 l9) r ∧ (r = false → l5.length ≤ 60) := by
  obtain ⟨r, h⟩ := tot32 z1 z2 z3 z4 l5 h6 z7 s8 l9
  refine ⟨r, h, fun e => ?_⟩
  subst e
  by_cases g : 60 < (l5.length : Int)
  · have : Ev (fun n => F32 n z1 z2 z3 z4 l5 l6 z7 s8 l9) true := by
      simp only [F32, lenF, if_pos g, ite_self]
      exact Ev.ret
    exact absurd (h.uniq this) (by simp)
  · omega

def res2 (r : Int) : Int × Bool := if r < 0 then (0, false) else (r, true)
theorem ev64 {l3 : List D} {i : Nat} {z9 : Int} {s10 : ByteArray} {l11 : List D} {z12 : Int} {s13 : ByteArray} {l14 l15 : List D} {z16 z17 : Int} {s18 s19 s20 : ByteArray} {l21 l22 : List D} {z23 z24 : Int}
    (hx : l3[i]? = some (.agg [.int .u8 z9, .str s10, .list true 4 l11, .int .u8 z12, .str s13, .list true 3 l14, .list true 15 l15, .int .u8 z16, .int .i64 z17, .str s18, .str s19, .str s20, .list false 1 l21, .list true 8 l22, .int .i64 z23, .int .i64 z24]))
    (hl : ListS tab 98 l11) (s5 : ByteArray) : ∃ r : Int, Ev (fun n => F64 n l11 s5) (r, s5) ∧ (r = -1 ∨ 0 ≤ r) ∧ Ev (fun n => L38_2 n l3 s5 (i : Int) (0 : Int)) (res2 r) := by
  have loop : ∀ k, k ≤ l11.length → ∃ r : Int, Ev (fun n => L64_1 n l11 (l11.length : Int) (k : Int) s5) (r, s5) ∧ (r = -1 ∨ 0 ≤ r) ∧ Ev (fun n => L38_2 n l3 s5 (i : Int) (k : Int)) (res2 r) := by
    refine down l11.length ⟨-1, Ev.succ ?_, .inl rfl, Ev.succ ?_⟩ (fun k hk ih => ?_)
    · simp only [L64_1, Int.lt_irrefl, if_false]; exact Ev.ret
    · simp only [L38_2, getF_nat hx, ds_t82, lenF, Int.lt_irrefl, if_false]; exact Ev.ret
    · obtain ⟨x, hy, _, hr⟩ := hl.get hk
      obtain ⟨s7, z8, s9, l10, rfl, _⟩ := rs98 hr
      obtain ⟨r, q1, q2, q3⟩ := ih
      by_cases c : s7 = s5
      · refine ⟨k, Ev.succ ?_, .inr (by omega), Ev.succ ?_⟩
        · simp only [L64_1, if_pos (ilt hk), getF_nat hy, ds_t98, F65, if_pos c, bO2]
          exact Ev.ret
        · simp only [L38_2, getF_nat hx, ds_t82, lenF, if_pos (ilt hk), getF_nat hy, ds_t98, if_pos c, res2, if_neg (show ¬ (k : Int) < 0 by omega)]
          exact Ev.ret
      · refine ⟨r, Ev.succ ?_, q2, Ev.succ ?_⟩
        · simp only [L64_1, if_pos (ilt hk), getF_nat hy, ds_t98, F65, if_neg c, bO2, Bool.false_eq_true, if_false, letF, wrap_succ hk hl.1]
          exact q1
        · simp only [L38_2, getF_nat hx, ds_t82, lenF, if_pos (ilt hk), getF_nat hy, ds_t98, if_neg c, letF, wrap_succ hk hl.1]
          exact q3
  obtain ⟨r, q1, q2, q3⟩ := loop 0 (Nat.zero_le _)
  exact ⟨r, by simp only [F64, lenF]; exact q1, q2, q3⟩
theorem fieldAgree {l3 : List D} (hT : ListS tab 82 l3) (l1 : List D) (z2 : Int) (s4 s5 : ByteArray) : ∃ r b, Ev (fun n => F37 n l1 z2 l3 s4 s5) (r, b) ∧ Ev (fun n => F38 n l1 z2 l3 s4 s5) (r, b) := by
  have loop : ∀ i, i ≤ l3.length → ∃ r b, Ev (fun n => L37_1 n l3 s4 s5 (l3.length : Int) (i : Int)) (r, b) ∧ Ev (fun n => L38_1 n l3 s4 s5 (i : Int)) (r, b) := by
    refine down l3.length ⟨0, false, Ev.succ ?_, Ev.succ ?_⟩ (fun i hi ih => ?_)
    · simp only [L37_1, Int.lt_irrefl, if_false]; exact Ev.ret
    · simp only [L38_1, lenF, Int.lt_irrefl, if_false]; exact Ev.ret
    · obtain ⟨x, hx, _, hr⟩ := hT.get hi
      obtain ⟨z9, s10, l11, z12, s13, l14, l15, z16, z17, s18, s19, s20, l21, l22, z23, z24, rfl, _, _, hl, _⟩ := rs82 hr
      obtain ⟨r, b, q1, q2⟩ := ih
      by_cases c : z9 = 1
      · by_cases d : s10 = s4
        · obtain ⟨k, k1, k2, k3⟩ := ev64 hx hl s5
          refine ⟨(res2 k).1, (res2 k).2, Ev.succ ?_, Ev.succ ?_⟩
          · simp only [L37_1, if_pos (ilt hi), getF_nat hx, ds_t82, if_pos c, if_pos d]
            refine Ev.bO2 k1 ?_
            unfold res2
            rcases k2 with k2 | k2
            · subst k2
              simp only [letF, show (0 : Int) > -1 from by decide, if_true, show ¬ (0 : Int) ≤ -1 by decide, if_false, show (-1 : Int) < 0 by decide]
              exact Ev.ret
            · simp only [letF, if_neg (show ¬ (0 : Int) > k by omega), if_pos k2, if_neg (show ¬ k < 0 by omega)]
              exact Ev.ret
          · simp only [L38_1, lenF, if_pos (ilt hi), getF_nat hx, ds_t82, if_pos c, if_pos d]
            exact k3
        · refine ⟨r, b, Ev.succ ?_, Ev.succ ?_⟩
          · simp only [L37_1, if_pos (ilt hi), getF_nat hx, ds_t82, if_pos c, if_neg d, letF, wrap_succ hi hT.1]; exact q1
          · simp only [L38_1, lenF, if_pos (ilt hi), getF_nat hx, ds_t82, if_pos c, if_neg d, letF, wrap_succ hi hT.1]; exact q2
      · refine ⟨r, b, Ev.succ ?_, Ev.succ ?_⟩
        · simp only [L37_1, if_pos (ilt hi), getF_nat hx, ds_t82, if_neg c, letF, wrap_succ hi hT.1]; exact q1
        · simp only [L38_1, lenF, if_pos (ilt hi), getF_nat hx, ds_t82, if_neg c, letF, wrap_succ hi hT.1]; exact q2
  obtain ⟨r, b, q1, q2⟩ := loop 0 (Nat.zero_le _)
  exact ⟨r, b, by simp only [F37, lenF]; exact q1, by simp only [F38]; exact q2⟩

theorem jmp3 {op a : Int} (ha : (Lit.int .i64 a).wf = true) {l9 : List D} (h9 : ListS tab 3 l9) : ListS tab 3 (jmp op a l9) := by
  unfold jmp
  split
  · exact ListS.one (mk3 ha)
  · split
    · exact h9
    · exact ListS.nil

theorem fields_loop {op a : Int} {l10 : List D} (h10 : ListS tab 3 l10) (ha : (Lit.int .i64 a).wf = true) : Ev (fun n => L13_6 n op l10 (jmp op a l10) (jmp op a l10) false) true := by
  have hJ := jmp3 (op := op) ha h10
  generalize hj : jmp op a l10 = J at hJ
  have e35 : Ev (fun n => bO1 (F35 n) fun b => some b) true := Ev.bO1 ev35 Ev.ret
  have tail : ∀ i, i ≤ J.length → Ev (fun n => L13_10 n op l10 J (i : Int)) true := by
    refine down J.length (Ev.succ ?_) (fun i hi ih => ?_)
    · simp only [L13_10, lenF, Int.lt_irrefl, if_false]
      exact Ev.succ (by simp only [L13_11, Bool.false_eq_true, if_false]; exact e35)
    · refine Ev.succ ?_
      simp only [L13_10, lenF, if_pos (ilt hi)]
      by_cases c : op = 16
      · have e : J = l10 := by rw [← hj]; simp [jmp, c]
        subst e
        obtain ⟨x, hx, _, hr⟩ := h10.get hi
        obtain ⟨z, rfl, _⟩ := rs3 hr
        have gk : ∀ {γ : Type} (f : D → Option γ), getN J ((i : Int)).toNat f = f (.int .i64 z) := fun f => by simp only [getN, Int.toNat_natCast, hx]
        simp only [if_pos c]
        refine Ev.succ ?_
        simp only [L13_11, if_true, getF_nat hx, ds_i64, needF, if_pos (show 0 ≤ (i : Int) ∧ ((i : Int)).toNat < J.length from ⟨by omega, by simpa using hi⟩), gk]
        refine Ev.succ ?_
        simp only [L13_12, Bool.false_eq_true, if_false, letF, wrap_succ hi hJ.1]
        exact ih
      · simp only [if_neg c]
        exact Ev.succ (by simp only [L13_11, Bool.false_eq_true, if_false]; exact e35)
  have main : ∀ i, i ≤ J.length → ∀ M : List D, M.length = J.length → (∀ j, i ≤ j → M[j]? = J[j]?) → Ev (fun n => L13_7 n op l10 J (i : Int) M) true := by
    refine down J.length (fun M hM hq => Ev.succ ?_) (fun i hi ih M hM hq => ?_)
    · simp only [L13_7, lenF, hM, Int.lt_irrefl, if_false]
      exact Ev.succ (by simp only [L13_8, Bool.false_eq_true, if_false]; exact tail 0 (Nat.zero_le _))
    · obtain ⟨x, hx, _, hr⟩ := hJ.get hi
      obtain ⟨z, rfl, _⟩ := rs3 hr
      have gk : ∀ {γ : Type} (f : D → Option γ), getN J ((i : Int)).toNat f = f (.int .i64 z) := fun f => by simp only [getN, Int.toNat_natCast, hx]
      have gm : ∀ {γ : Type} (f : D → Option γ), getN M ((i : Int)).toNat f = f (.int .i64 z) := fun f => by simp only [getN, Int.toNat_natCast, hq i (Nat.le_refl _), hx]
      have n1 : 0 ≤ (i : Int) ∧ ((i : Int)).toNat < M.length := ⟨by omega, by rw [hM]; simpa using hi⟩
      have n2 : 0 ≤ (i : Int) ∧ ((i : Int)).toNat < J.length := ⟨by omega, by simpa using hi⟩
      refine Ev.succ ?_
      simp only [L13_7, lenF, hM, if_pos (ilt hi)]
      refine Ev.succ ?_
      simp only [L13_8, if_true, needF, if_pos n1, if_pos n2, gm, gk, ds_i64]
      refine Ev.succ ?_
      have gm' : ∀ {γ : Type} (f : D → Option γ), getN M i f = f (.int .i64 z) := fun f => by simp only [getN, hq i (Nat.le_refl _), hx]
      simp only [L13_9, Bool.false_eq_true, if_false, needF, Int.toNat_natCast, if_pos (show 0 ≤ (i : Int) ∧ i < M.length from ⟨by omega, by omega⟩), gm', ds_i64, letF, wrap_succ hi hJ.1, setF]
      exact ih (M.set i (.int .i64 (-7))) (by simpa using hM) (fun j hj => by rw [List.getElem?_set_ne (by omega)]; exact hq j (by omega))
  exact Ev.succ (by simp only [L13_6, Bool.false_eq_true, if_false]; exact main 0 (Nat.zero_le _) J rfl (fun _ _ => rfl))

theorem code_fields_law {l1 : List D} (hF : ListS tab 56 l1) (z2 : Int) {l3 : List D} (hT : ListS tab 82 l3) (s4 s5 : ByteArray) {op a b c i : Int} (ha : (Lit.int .i64 a).wf = true) {l9 l10 l13 : List D} {s12 : ByteArray} (h9 : ListS tab 3 l9) (h10 : ListS tab 9 l10) :
    Ev (fun n => F13 n l1 z2 l3 s4 s5 op a b c l9 l10 i s12 l13) true := by
  obtain ⟨r, hr⟩ := tot31 hF z2 hT
  obtain ⟨r', hr', hl9⟩ := tot32b op a b c l9 h10 i s12 l13
  have yes : Ev (fun n => L13_1 n l1 z2 l3 s4 s5 op a b c l9 l10 i s12 l13 true) true := Ev.succ (by simp only [L13_1, if_true]; exact Ev.ret)
  unfold F13
  refine Ev.bO1 hr ?_
  cases r
  rotate_left
  · simp only [if_true]; exact yes
  simp only [Bool.false_eq_true, if_false]
  refine Ev.bO1 hr' ?_
  cases r'
  rotate_left
  · simp only [if_true]; exact yes
  have h60 := hl9 rfl
  simp only [Bool.false_eq_true, if_false, szF]
  by_cases g1 : 1000 < (s4.size : Int)
  · simp only [if_pos g1]; exact yes
  simp only [if_neg g1]
  by_cases g2 : 1000 < (s5.size : Int)
  · simp only [if_pos g2]; exact yes
  simp only [if_neg g2]
  obtain ⟨m, is, q1, q2⟩ := fieldAgree hT l1 z2 s4 s5
  refine Ev.succ ?_
  simp only [L13_1, Bool.false_eq_true, if_false]
  refine Ev.bO2 q1 (Ev.bO2 q2 ?_)
  have hl : l9.length * 8 ≤ 140737488355328 := by omega
  have five : Ev (fun n => L13_5 n op a b c l9 l10 i s12 l13 m is m is (jmp op a l9)) true := by
    refine Ev.succ ?_
    simp only [L13_5, e36 _ op a b c h9 hl, bO1, if_true, lenF]
    cases is
    · simp only [Bool.false_eq_true, if_false]; exact fields_loop h9 ha
    · simp only [if_true]; exact fields_loop h9 ha
  have b1 : ([] : List D).length + [D.int .i64 a].length ≤ maxLen ∧ (([] : List D).length + [D.int .i64 a].length) * 8 ≤ 140737488355328 := by simp [maxLen]
  have b2 : ([] : List D).length + l9.length ≤ maxLen ∧ (([] : List D).length + l9.length) * 8 ≤ 140737488355328 := by simp [maxLen]; omega
  have three : op = 14 ∨ op = 15 → Ev (fun n => L13_3 n op a b c l9 l10 i s12 l13 m is m is true) true := by
    intro e
    refine Ev.succ ?_
    simp only [L13_3, if_true, letL, appF, if_pos b1, List.nil_append]
    have := five
    simp only [jmp, if_pos e] at this
    exact this
  by_cases c1 : op = 14
  · simp only [if_pos c1]
    exact Ev.succ (by simp only [L13_2, if_true]; exact three (.inl c1))
  simp only [if_neg c1]
  refine Ev.succ ?_
  by_cases c2 : op = 15
  · simp only [L13_2, Bool.false_eq_true, if_false, if_pos c2]; exact three (.inr c2)
  simp only [L13_2, Bool.false_eq_true, if_false, if_neg c2]
  refine Ev.succ ?_
  have hn : ¬ (op = 14 ∨ op = 15) := fun h => h.elim c1 c2
  by_cases c3 : op = 16
  · simp only [L13_3, Bool.false_eq_true, if_false, if_pos c3]
    refine Ev.succ ?_
    simp only [L13_4, if_true, needF, if_pos (scal3 h9), appF, if_pos b2, List.nil_append]
    have := five
    simp only [jmp, if_neg hn, if_pos c3] at this
    exact this
  · simp only [L13_3, Bool.false_eq_true, if_false, if_neg c3]
    refine Ev.succ ?_
    simp only [L13_4, Bool.false_eq_true, if_false]
    have := five
    simp only [jmp, if_neg hn, if_neg c3] at this
    exact this
theorem code_fields_trip : ∀ xs : List D, Shapes tab [45, 9, 9, 48] xs → Trip Tryd.prog inv 13 (xs.map V1.d) [] (.v (.d (.bool true))) [] [] := by
  intro xs h
  match xs, h with
  | [u, f, g, x], ⟨u1, u2, f1, f2, g1, g2, x1, x2, _⟩ =>
    obtain ⟨l1, z2, l3, rfl, hF, _, hT⟩ := rs45 ⟨u1, u2⟩
    obtain ⟨s4, rfl, _⟩ := rs9 (x := f) ⟨f1, f2⟩
    obtain ⟨s5, rfl, _⟩ := rs9 (x := g) ⟨g1, g2⟩
    obtain ⟨op, a, b, c, l9, l10, i, s12, l13, rfl, w0, w1, _, _, h9, h10, _⟩ := rs48 ⟨x1, x2⟩
    obtain ⟨n, hn⟩ := (code_fields_law hF z2 hT s4 s5 w1 h9 h10 (op := op) (b := b) (c := c) (i := i) (s12 := s12) (l13 := l13)).run
    exact T13 n hn
end Go.Proofs.YtjobleemmjjocaaDoor
end

namespace Go.Proofs.YtjobleemmjjocaaDoor
open Go Go.ChangeShapes Go.WideShapes Go.ChangeAt Go.RowKit Go.AM

theorem code_fields_reads : ∀ t ∈ [45, 9, 9, 48], Tryd.prog.readableRec t = true ∧ t < Tryd.prog.types.size := by
  have h : ([45, 9, 9, 48].all fun t => Tryd.prog.readableRec t && decide (t < Tryd.prog.types.size)) = true := by kernel_rfl
  intro t ht
  have := List.all_eq_true.1 h t ht
  simpa using this

theorem code_fields_inv {W : World} (h : laidMet Tryd.prog Rows.codeFieldsRow.laid W) : inv.at W fun _ _ => False := by
  have e : (Rows.codeFieldsRow.laid.filter fun x => x.1 == "internal/strconv.uint64pow10") = [("internal/strconv.uint64pow10", Lib.tabData .u64 Lib.pow10Tab)] := by kernel_rfl
  have h2 := laidMet.filter (fun x => x.1 == "internal/strconv.uint64pow10") h
  rw [e] at h2
  have ht : Lib.TabIs Tryd.prog W "internal/strconv.uint64pow10" .u64 Lib.pow10Tab := by
    exact Lib.tabIs_of_head (g := 0) (t := 138) (e := 35) (n := 20) (by kernel_rfl) (by kernel_rfl) (by kernel_rfl) (by kernel_rfl) (by kernel_rfl) (by kernel_rfl) h2
  refine ⟨ht, fun b hb => ⟨?_, fun _ h => h⟩⟩
  have hb : Tryd.prog.globalNamed "internal/strconv.uint64pow10" = some b := hb
  unfold Lib.TabIs World.var? at ht
  rw [hb] at ht
  simp only [Option.bind_some] at ht
  cases hx : W.heap[b]? with
  | none => rw [hx] at ht; simp at ht
  | some o => exact (Array.getElem?_eq_some_iff.1 hx).1

set_option maxRecDepth 100000 in
theorem code_fields_lifted (os : Os) (started : os.Started) (H : Type) (enc : TypeId × Value → H) :
    ReturnsInHanded {} Tryd.checked os 13 .any (fun w args => (Rows.codeFieldsSpec.pre enc Tryd.prog Tryd.f13 Rows.codeFieldsRow.domain false w args ∧ laidMetH Tryd.prog Rows.codeFieldsRow.laid w) ∧ sizedMet enc Tryd.prog Tryd.f13 (OpenSpec.ofChange Rows.codeFieldsSpec) false w args)
      (Rows.codeFieldsSpec.post enc Tryd.prog Tryd.f13 false true false false) := by
  refine returnsInHanded_of_change_and (C := Tryd.checked) (X := fun w _ => laidMetH Tryd.prog Rows.codeFieldsRow.laid w) (fun _ _ _ hh h => h.of_heap hh) (by kernel_rfl) started (by kernel_rfl) Tryd.func13
    (ChangeSpec.witness_shaped (enc := enc) (C := Tryd.checked) (os := os) (X := fun w _ => laidMetH Tryd.prog Rows.codeFieldsRow.laid w) false (World.laidAll Tryd.prog os Rows.codeFieldsRow.laid) #[.agg #[.slice none 0 0, .int .i64 0, .slice none 0 0], .string ⟨#[]⟩, .string ⟨#[]⟩, .agg #[.int .u8 0, .int .i64 0, .int .i64 0, .int .i64 0, .slice none 0 0, .slice none 0 0, .int .i64 0, .string ⟨#[]⟩, .slice none 0 0]] 8 (World.laidAll_os _ _ _)
      (World.shaped_of_ZipB (by kernel_rfl) (by kernel_rfl)) (by kernel_rfl) (by kernel_rfl) (by kernel_rfl)
      (by rw [MakeChecks.laidMetH_plain _ _ _ (by kernel_rfl)]; exact laidMet_laidAll _ (by kernel_rfl) (by kernel_rfl))) ?_
  intro W base args ds gs before hval0 hW _ _ hL _
  rw [MakeChecks.laidMetH_plain _ _ _ (by kernel_rfl)] at hL
  refine law_calls (ti := tab) (T := [2, 3, 5, 9, 30, 42, 43, 45, 46, 48, 54, 56, 71, 72, 74, 75, 77, 78, 80, 82, 98, 162, 164, 166]) tab_ok (by kernel_rfl) (ts := [45, 9, 9, 48]) (bt := 4) rfl rfl rfl (by kernel_rfl) (by decide) ?_ (by kernel_rfl) code_fields_reads code_fields_trip (code_fields_inv hL) hval0 hW
  intro ds h
  match ds, h with
  | [_, _, _, _], _ => exact ⟨rfl, rfl, rfl⟩
theorem code_fields_row : Rows.CodeFieldsSaid :=
  OpenClaim.holds_of_wide 13 Tryd.f13 rfl rfl rfl rfl rfl rfl rfl ⟨rfl, rfl, rfl, rfl, rfl⟩ rfl rfl rfl rfl rfl (by kernel_rfl) Tryd.func13 (by kernel_rfl)
    (of_decide_eq_true (by kernel_rfl)) (by unfold Func.isWrapper; first | (rw [if_pos (by decide +kernel)]; kernel_rfl) | (rw [if_neg (by decide +kernel)]; exact ⟨rfl, rfl⟩))
    (fun os started H enc _ => code_fields_lifted os started H enc)
theorem code_fields : Rows.CodeFieldsCardSaid :=
  Claim7.holds_tied_plain_at .later [] [.data, .data, .data] true Rows.codeFieldsCard.stood.harness false code_fields_row (fun _ h => by cases h) (by kernel_rfl) (fun _ h => by cases h) codeFields_row_tie rfl ⟨rfl, rfl⟩ (by kernel_rfl) rfl
    (fun f fn hf hfn => by
      obtain rfl : f = 13 := Option.some.inj ((show Tryd.prog.funcNamed "weftway/weftwaylaw17.CodeFields" = some 13 by kernel_rfl).symm.trans hf) |>.symm
      obtain rfl : fn = Tryd.f13 := (Option.some.inj (Tryd.func13.symm.trans hfn)).symm
      exact ⟨by kernel_rfl, fun j t ht => by
        have hm : t ∈ [45, 9, 9, 48] := by
          have hp : Tryd.f13.params.toList = [45, 9, 9, 48] := rfl
          rw [← hp]; simpa using Array.mem_of_getElem? ht
        have hall : ([45, 9, 9, 48].all fun u => !Tryd.prog.wantsStandIn u) = true := by kernel_rfl
        exact (show Tryd.prog.wantsStandIn t = false by simpa using List.all_eq_true.1 hall t hm)⟩)
    (by kernel_rfl)
end Go.Proofs.YtjobleemmjjocaaDoor
