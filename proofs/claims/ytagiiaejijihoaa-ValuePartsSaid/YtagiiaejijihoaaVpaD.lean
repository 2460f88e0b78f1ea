/- Part of a proof. No condition. (Part 4: YtagiiaejijihoaaX11, YtagiiaejijihoaaX13, YtagiiaejijihoaaX18, YtagiiaejijihoaaX19, YtagiiaejijihoaaX18x1, YtagiiaejijihoaaX19x1, YtagiiaejijihoaaX18x2, YtagiiaejijihoaaX19x2, YtagiiaejijihoaaX12, YtagiiaejijihoaaX4, YtagiiaejijihoaaX14, YtagiiaejijihoaaX20, YtagiiaejijihoaaX15, YtagiiaejijihoaaX6, .) -/
import Derived.Carry
import Derived.ChangeSame
import Derived.ChangeOld
import Derived.ChangeCalls
import Derived.WideShapes
import Derived.Test.YtagiiaejijihoaaVpaC
set_option linter.unusedVariables false
set_option linter.unusedSimpArgs false
set_option linter.unusedVariables false
noncomputable section
namespace Go.Proofs.Ytagiiaejijihoaa
open Go Go.AM
mutual
def L11_1 : Nat → (List D) → Int → (List D) → Option (List D × List D)
  | 0, _, _, _ => none
  | n + 1, l6, z7, l8 =>
    lenF l8 fun z9 => (if z7 < z9 then L11_2 n l6 z7 l8 true else L11_2 n l6 z7 l8 false)
def L11_2 : Nat → (List D) → Int → (List D) → Bool → Option (List D × List D)
  | 0, _, _, _, _ => none
  | n + 1, l6, z7, l8, b10 =>
    (if b10 = true then needF (0 ≤ z7 ∧ z7.toNat < l8.length) (getN l8 (z7.toNat) fun x11 => ds_t25 x11 fun z12 z13 s14 l15 z16 l17 => bO2 (F11 n z12 z13 s14 z16 l15 l17) fun l18 l19 => needF (0 ≤ z7 ∧ z7.toNat < l8.length) (letF (IntKind.wrap .i64 (z7 + 1)) fun z20 => setF l8 (z7.toNat) (.agg [.int .u8 99, .int .i64 z13, .str s14, .list true 6 l18, .int .i64 z16, .list false 1 l19]) fun l21 => L11_1 n l6 z20 l21)) else L11_3 n l8 (0 : Int) l6)
def L11_3 : Nat → (List D) → Int → (List D) → Option (List D × List D)
  | 0, _, _, _ => none
  | n + 1, l8, z22, l23 =>
    lenF l23 fun z24 => (if z22 < z24 then L11_4 n l8 z22 l23 true else L11_4 n l8 z22 l23 false)
def L11_4 : Nat → (List D) → Int → (List D) → Bool → Option (List D × List D)
  | 0, _, _, _, _ => none
  | n + 1, l8, z22, l23, b25 =>
    (if b25 = true then needF (0 ≤ z22 ∧ z22.toNat < l23.length) (getN l23 (z22.toNat) fun x26 => ds_i64 x26 fun z27 => letF (IntKind.wrap .i64 (z22 + 1)) fun z28 => setF l23 (z22.toNat) (.int .i64 (-7)) fun l29 => L11_3 n l8 z28 l29) else some (l8, l23))
def F11 : Nat → Int → Int → ByteArray → Int → (List D) → (List D) → Option (List D × List D)
  | 0, _, _, _, _, _, _ => none
  | n + 1, z1, z2, s3, z4, l5, l6 =>
    L11_1 n l6 (0 : Int) l5
end
set_option maxRecDepth 100000 in
set_option maxHeartbeats 40000000 in
theorem T11 (n : Nat) : ∀ ⦃z1 : Int⦄ ⦃z2 : Int⦄ ⦃s3 : ByteArray⦄ ⦃z4 : Int⦄ ⦃l5 : List D⦄ ⦃l6 : List D⦄ ⦃r1 : List D⦄ ⦃r2 : List D⦄, F11 n z1 z2 s3 z4 l5 l6 = some (r1, r2) →
    Trip Try.prog inv 11 [.agg [.d (.int .u8 z1), .d (.int .i64 z2), .d (.str s3), .ow (.ext 0), .d (.int .i64 z4), .ow (.ext 1)]] [.tree .row true 6 l5 none, .tree .row false 1 l6 none] (.t []) [.tree .row true 6 r1 none, .tree .row false 1 r2 none] [] := by
  induction n using Nat.strongRecOn with
  | _ n ih =>
    cases n with
    | zero =>
      intro z1 z2 s3 z4 l5 l6 r1 r2 h
      cases (show (none : Option _) = some _ from h)
    | succ n =>
      intro z1 z2 s3 z4 l5 l6 r1 r2 h
      rw [F11] at h
      refine Trip.of tab_ok tab_one fol Try.func11 rfl (by kernel_rfl) rfl rfl rfl (fun M hM hI => ?_)
      try cbv
      refine seq_go ?_
      try cbv
      refine seq_go ?_
      try cbv
      refine seq_go ?_
      try cbv
      refine loop_invG (T := Nat × Int × List D) [] [] [1, 2] [.ext 0, .ext 1, .loc 0] 64 (fun t => ⟨[(1, .v (.c (.ptr (.loc 0) 0))), (2, .v (.d (.int .i64 t.2.1)))], [(.ext 0, .tree .row true 6 t.2.2 none), (.ext 1, .tree .row false 1 l6 none), (.loc 0, .cells [.d (.int .u8 z1), .d (.int .i64 z2), .d (.str s3), .ow (.ext 0), .d (.int .i64 z4), .ow (.ext 1)])], 64⟩)
        (fun t => t.1 ≤ n ∧ L11_1 t.1 l6 t.2.1 t.2.2 = some (r1, r2)) (fun t => t.1) (n, ((0 : Int), l5)) ⟨Nat.le_refl _, h⟩ (by cbv) ?_
      clear h
      rintro ⟨m1, z7, l8⟩ ⟨hm1, h⟩
      replace hm1 : m1 ≤ n := hm1
      cases m1 with
      | zero =>
        replace h : L11_1 0 l6 z7 l8 = some (r1, r2) := h
        rw [L11_1] at h
        cases h
      | succ m1 =>
        replace h : L11_1 (m1 + 1) l6 z7 l8 = some (r1, r2) := h
        rw [L11_1] at h
        try cbv
        refine seq_go ?_
        try cbv
        refine seq_join (T := Nat × Bool) (fun t => ⟨[(1, .v (.c (.ptr (.loc 0) 0))), (2, .v (.d (.int .i64 z7))), (8, .v (.d (.bool t.2)))], [(.ext 0, .tree .row true 6 l8 none), (.ext 1, .tree .row false 1 l6 none), (.loc 0, .cells [.d (.int .u8 z1), .d (.int .i64 z2), .d (.str s3), .ow (.ext 0), .d (.int .i64 z4), .ow (.ext 1)])], 224⟩) (fun t => t.1 ≤ m1 ∧ L11_2 t.1 l6 z7 l8 t.2 = some (r1, r2)) ?_ ?_
        · try cbv
          replace h := lenF_inv M h
          obtain ⟨z9, hz, h⟩ := h
          refine ⟨false, ?_⟩
          try cbv
          refine ⟨z9, hz, ?_⟩
          clear hz
          try cbv
          refine splitL (fun e => ?_) (fun e => ?_)
          · replace h := ite_t e h
            clear e
            try cbv
            exact join_next (m1, true) [1, 2, 8] [.ext 0, .ext 1, .loc 0] 224 ⟨by omega, h⟩ (by cbv)
          · replace h := ite_f (Int.not_lt.2 e) h
            clear e
            try cbv
            exact join_next (m1, false) [1, 2, 8] [.ext 0, .ext 1, .loc 0] 224 ⟨by omega, h⟩ (by cbv)
        · clear h
          rintro ⟨m2, b10⟩ ⟨hm2, h⟩
          replace hm2 : m2 ≤ m1 := hm2
          cases m2 with
          | zero =>
            replace h : L11_2 0 l6 z7 l8 b10 = some (r1, r2) := h
            rw [L11_2] at h
            cases h
          | succ m2 =>
            replace h : L11_2 (m2 + 1) l6 z7 l8 b10 = some (r1, r2) := h
            rw [L11_2] at h
            try cbv
            cases b10
            · replace h := ite_f Bool.false_ne_true h
              try cbv
              refine seq_go ?_
              try cbv
              refine loop_invG (T := Nat × Int × List D) [] [] [1, 3] [.ext 0, .ext 1, .loc 0] 256 (fun t => ⟨[(1, .v (.c (.ptr (.loc 0) 0))), (3, .v (.d (.int .i64 t.2.1)))], [(.ext 0, .tree .row true 6 l8 none), (.ext 1, .tree .row false 1 t.2.2 none), (.loc 0, .cells [.d (.int .u8 z1), .d (.int .i64 z2), .d (.str s3), .ow (.ext 0), .d (.int .i64 z4), .ow (.ext 1)])], 256⟩)
                (fun t => t.1 ≤ m2 ∧ L11_3 t.1 l8 t.2.1 t.2.2 = some (r1, r2)) (fun t => t.1) (m2, ((0 : Int), l6)) ⟨Nat.le_refl _, h⟩ (by cbv) ?_
              clear h
              rintro ⟨m3, z22, l23⟩ ⟨hm3, h⟩
              replace hm3 : m3 ≤ m2 := hm3
              cases m3 with
              | zero =>
                replace h : L11_3 0 l8 z22 l23 = some (r1, r2) := h
                rw [L11_3] at h
                cases h
              | succ m3 =>
                replace h : L11_3 (m3 + 1) l8 z22 l23 = some (r1, r2) := h
                rw [L11_3] at h
                try cbv
                refine seq_go ?_
                try cbv
                refine seq_join (T := Nat × Bool) (fun t => ⟨[(1, .v (.c (.ptr (.loc 0) 0))), (3, .v (.d (.int .i64 z22))), (26, .v (.d (.bool t.2)))], [(.ext 0, .tree .row true 6 l8 none), (.ext 1, .tree .row false 1 l23 none), (.loc 0, .cells [.d (.int .u8 z1), .d (.int .i64 z2), .d (.str s3), .ow (.ext 0), .d (.int .i64 z4), .ow (.ext 1)])], 416⟩) (fun t => t.1 ≤ m3 ∧ L11_4 t.1 l8 z22 l23 t.2 = some (r1, r2)) ?_ ?_
                · try cbv
                  replace h := lenF_inv M h
                  obtain ⟨z24, hz, h⟩ := h
                  refine ⟨false, ?_⟩
                  try cbv
                  refine ⟨z24, hz, ?_⟩
                  clear hz
                  try cbv
                  refine splitL (fun e => ?_) (fun e => ?_)
                  · replace h := ite_t e h
                    clear e
                    try cbv
                    exact join_next (m3, true) [1, 3, 26] [.ext 0, .ext 1, .loc 0] 416 ⟨by omega, h⟩ (by cbv)
                  · replace h := ite_f (Int.not_lt.2 e) h
                    clear e
                    try cbv
                    exact join_next (m3, false) [1, 3, 26] [.ext 0, .ext 1, .loc 0] 416 ⟨by omega, h⟩ (by cbv)
                · clear h
                  rintro ⟨m4, b25⟩ ⟨hm4, h⟩
                  replace hm4 : m4 ≤ m3 := hm4
                  cases m4 with
                  | zero =>
                    replace h : L11_4 0 l8 z22 l23 b25 = some (r1, r2) := h
                    rw [L11_4] at h
                    cases h
                  | succ m4 =>
                    replace h : L11_4 (m4 + 1) l8 z22 l23 b25 = some (r1, r2) := h
                    rw [L11_4] at h
                    try cbv
                    cases b25
                    · replace h := ite_f Bool.false_ne_true h
                      try cbv
                      obtain ⟨rfl, rfl⟩ := inj2 h
                      refine fin_go ?_
                      try cbv
                      exact ⟨[], rfl, rfl, ⟨rfl, ⟨rfl, trivial⟩⟩, trivial, trivial⟩
                    · replace h := ite_t rfl h
                      try cbv
                      refine seq_go ?_
                      try cbv
                      replace h := needF_inv h
                      obtain ⟨hn, h⟩ := h
                      refine ⟨(M.lock_iff _).2 hn, ?_⟩
                      clear hn
                      try cbv
                      refine ⟨[], ?_⟩
                      try cbv
                      replace h := getN_inv h
                      obtain ⟨x26, hx, h⟩ := h
                      replace h := ds_i64_inv h
                      obtain ⟨z27, rfl, h⟩ := h
                      refine ⟨_, hx, ?_⟩
                      clear hx
                      try cbv
                      replace h := letF_inv h
                      obtain ⟨z28, hz, h⟩ := h
                      refine ⟨z28, hz, ?_⟩
                      clear hz
                      try cbv
                      replace h := setF_inv h
                      obtain ⟨l29, hl29, h⟩ := h
                      refine loop_nextG (m4, (z28, l29)) [.close (.ext 1)] [] [1, 3] [.ext 0, .ext 1, .loc 0] 256 ⟨by omega, h⟩ (Nat.lt_succ_of_le (by omega)) ?_
                      try cbv
                      refine ⟨l29, hl29, ?_⟩
                      clear hl29
                      try cbv
                      first | done | exact rfl | cbv
            · replace h := ite_t rfl h
              try cbv
              refine seq_go ?_
              try cbv
              refine seq_go ?_
              try cbv
              replace h := needF_inv h
              obtain ⟨hn, h⟩ := h
              refine ⟨(M.lock_iff _).2 hn, ?_⟩
              clear hn
              try cbv
              refine ⟨[], ?_⟩
              try cbv
              replace h := getN_inv h
              obtain ⟨x11, hx, h⟩ := h
              replace h := ds_t25_inv h
              obtain ⟨z12, z13, s14, l15, z16, l17, rfl, h⟩ := h
              refine ⟨_, hx, ?_⟩
              clear hx
              try cbv
              refine ⟨false, ?_⟩
              try cbv
              replace h := bO2_inv h
              obtain ⟨l18, l19, hr, h⟩ := h
              refine call_go rfl rfl ?_
              try cbv
              refine call_with hM hI [.loc 355, .loc 357] ((ih _ (by omega)) hr) rfl (by simp) ⟨rfl, ⟨rfl, trivial⟩⟩ ⟨trivial, ⟨trivial, trivial⟩⟩ (by simp) ?_
              clear hr
              try cbv
              replace h := needF_inv h
              obtain ⟨hn, h⟩ := h
              refine ⟨(M.lock_iff _).2 hn, ?_⟩
              clear hn
              try cbv
              refine ⟨[], ?_⟩
              try cbv
              first | refine ⟨(rfl : (_ : Nat) = _), ?_⟩ | skip
              try cbv
              replace h := letF_inv h
              obtain ⟨z20, hz, h⟩ := h
              refine ⟨z20, hz, ?_⟩
              clear hz
              try cbv
              replace h := setF_inv h
              obtain ⟨l21, hl21, h⟩ := h
              refine loop_nextG (m2, (z20, l21)) [.close (.ext 0)] [] [1, 2] [.ext 0, .ext 1, .loc 0] 64 ⟨by omega, h⟩ (Nat.lt_succ_of_le (by omega)) ?_
              try cbv
              refine ⟨l21, hl21, ?_⟩
              clear hl21
              try cbv
              first | done | exact rfl | cbv
end Go.Proofs.Ytagiiaejijihoaa
end

set_option linter.unusedVariables false
noncomputable section
namespace Go.Proofs.Ytagiiaejijihoaa
open Go Go.AM
mutual
def L13_1 : Nat → (List D) → Int → (List D) → Option (List D)
  | 0, _, _, _ => none
  | n + 1, l1, z2, l3 =>
    lenF l1 fun z4 => (if z2 < z4 then L13_2 n l1 z2 l3 true else L13_2 n l1 z2 l3 false)
def L13_2 : Nat → (List D) → Int → (List D) → Bool → Option (List D)
  | 0, _, _, _, _ => none
  | n + 1, l1, z2, l3, b5 =>
    (if b5 = true then getF l1 z2 fun x6 => ds_t25 x6 fun z7 z8 s9 l10 z11 l12 => bO6 (F5 n z7 z8 s9 l10 z11 l12) fun z13 z14 s15 z16 l17 l18 => appF 88 l3 ([.agg [.int .u8 z13, .int .i64 z14, .str s15, .list true 6 l17, .int .i64 z16, .list false 1 l18]]) fun l19 => letF (IntKind.wrap .i64 (z2 + 1)) fun z20 => L13_1 n l1 z20 l19 else some l3)
def F13 : Nat → (List D) → Option (List D)
  | 0, _ => none
  | n + 1, l1 =>
    L13_1 n l1 (0 : Int) ([] : List D)
def F5 : Nat → Int → Int → ByteArray → (List D) → Int → (List D) → Option (Int × Int × ByteArray × Int × List D × List D)
  | 0, _, _, _, _, _, _ => none
  | n + 1, z1, z2, s3, l4, z5, l6 =>
    bO1 (F13 n l4) fun l7 => appF 88 ([] : List D) l7 fun l8 => needF (scalB l6 = true) (appF 8 ([] : List D) l6 fun l9 => some (z1, z2, s3, z5, l8, l9))
end
set_option maxRecDepth 100000 in
set_option maxHeartbeats 40000000 in
theorem G13 (n : Nat) : (∀ ⦃l1 : List D⦄ ⦃r1 : List D⦄, F13 n l1 = some r1 →
    Trip Try.prog inv 13 [.d (.list true 6 l1)] [] (.v (.c (.ow (.loc 0)))) [] [.tree .row true 6 r1 none]) ∧
    (∀ ⦃z1 : Int⦄ ⦃z2 : Int⦄ ⦃s3 : ByteArray⦄ ⦃l4 : List D⦄ ⦃z5 : Int⦄ ⦃l6 : List D⦄ ⦃r1 : Int⦄ ⦃r2 : Int⦄ ⦃r3 : ByteArray⦄ ⦃r4 : Int⦄ ⦃r5 : List D⦄ ⦃r6 : List D⦄, F5 n z1 z2 s3 l4 z5 l6 = some (r1, r2, r3, r4, r5, r6) →
    Trip Try.prog inv 5 [.d (.agg [.int .u8 z1, .int .i64 z2, .str s3, .list true 6 l4, .int .i64 z5, .list false 1 l6])] [] (.v (.agg [.d (.int .u8 r1), .d (.int .i64 r2), .d (.str r3), .ow (.loc 0), .d (.int .i64 r4), .ow (.loc 1)])) [] [.tree .row true 6 r5 none, .tree .row false 1 r6 none]) := by
  induction n using Nat.strongRecOn with
  | _ n ih =>
    cases n with
    | zero =>
      refine ⟨?_, ?_⟩
      · intro l1 r1 h
        cases (show (none : Option _) = some _ from h)
      · intro z1 z2 s3 l4 z5 l6 r1 r2 r3 r4 r5 r6 h
        cases (show (none : Option _) = some _ from h)
    | succ n =>
      refine ⟨?_, ?_⟩
      · intro l1 r1 h
        rw [F13] at h
        refine Trip.of tab_ok tab_one fol Try.func13 rfl (by kernel_rfl) rfl rfl rfl (fun M hM hI => ?_)
        try cbv
        refine seq_go ?_
        try cbv
        refine seq_go ?_
        try cbv
        refine seq_go ?_
        try cbv
        refine seq_go ?_
        try cbv
        refine loop_invG (T := Nat × Int × List D) [.treeS 3 true 6] [] [0, 2, 3, 4] [.loc 96] 128 (fun t => ⟨[(0, .v (.d (.list true 6 l1))), (2, .v (.c (.nils true 6))), (3, .v (.c (.ow (.loc 96)))), (4, .v (.d (.int .i64 t.2.1)))], [(.loc 96, .tree .row true 6 t.2.2 none)], 128⟩)
          (fun t => t.1 ≤ n ∧ L13_1 t.1 l1 t.2.1 t.2.2 = some r1) (fun t => t.1) (n, ((0 : Int), ([] : List D))) ⟨Nat.le_refl _, h⟩ (by cbv) ?_
        clear h
        rintro ⟨m1, z2, l3⟩ ⟨hm1, h⟩
        replace hm1 : m1 ≤ n := hm1
        cases m1 with
        | zero =>
          replace h : L13_1 0 l1 z2 l3 = some r1 := h
          rw [L13_1] at h
          cases h
        | succ m1 =>
          replace h : L13_1 (m1 + 1) l1 z2 l3 = some r1 := h
          rw [L13_1] at h
          try cbv
          refine seq_go ?_
          try cbv
          refine seq_join (T := Nat × Bool) (fun t => ⟨[(0, .v (.d (.list true 6 l1))), (2, .v (.c (.nils true 6))), (3, .v (.c (.ow (.loc 96)))), (4, .v (.d (.int .i64 z2))), (8, .v (.d (.bool t.2)))], [(.loc 96, .tree .row true 6 l3 none)], 256⟩) (fun t => t.1 ≤ m1 ∧ L13_2 t.1 l1 z2 l3 t.2 = some r1) ?_ ?_
          · try cbv
            replace h := lenF_inv M h
            obtain ⟨z4, hz, h⟩ := h
            refine ⟨z4, hz, ?_⟩
            clear hz
            try cbv
            refine splitL (fun e => ?_) (fun e => ?_)
            · replace h := ite_t e h
              clear e
              try cbv
              exact join_next (m1, true) [0, 2, 3, 4, 8] [.loc 96] 256 ⟨by omega, h⟩ (by cbv)
            · replace h := ite_f (Int.not_lt.2 e) h
              clear e
              try cbv
              exact join_next (m1, false) [0, 2, 3, 4, 8] [.loc 96] 256 ⟨by omega, h⟩ (by cbv)
          · clear h
            rintro ⟨m2, b5⟩ ⟨hm2, h⟩
            replace hm2 : m2 ≤ m1 := hm2
            cases m2 with
            | zero =>
              replace h : L13_2 0 l1 z2 l3 b5 = some r1 := h
              rw [L13_2] at h
              cases h
            | succ m2 =>
              replace h : L13_2 (m2 + 1) l1 z2 l3 b5 = some r1 := h
              rw [L13_2] at h
              try cbv
              cases b5
              · replace h := ite_f Bool.false_ne_true h
                try cbv
                refine seq_go ?_
                try cbv
                obtain rfl := Option.some.inj h
                refine fin_go ?_
                try cbv
                exact ⟨[.loc 96], rfl, rfl, trivial, ⟨rfl, trivial⟩, trivial⟩
              · replace h := ite_t rfl h
                try cbv
                refine seq_go ?_
                try cbv
                replace h := getF_inv h
                obtain ⟨x6, hx6, h⟩ := h
                replace h := ds_t25_inv h
                obtain ⟨z7, z8, s9, l10, z11, l12, rfl, h⟩ := h
                refine ⟨_, hx6.1, hx6.2, ?_⟩
                try cbv
                replace h := bO6_inv h
                obtain ⟨z13, z14, s15, z16, l17, l18, hr, h⟩ := h
                refine call_go rfl rfl ?_
                try cbv
                refine call_with hM hI [] ((ih _ (by omega)).2 hr) rfl (by simp) trivial trivial (by simp) ?_
                clear hr
                try cbv
                refine ⟨false, ?_⟩
                try cbv
                refine ⟨false, ?_⟩
                try cbv
                refine op_pl ?_
                try cbv
                refine ⟨true, ?_⟩
                try cbv
                refine ⟨true, ?_⟩
                try cbv
                refine ⟨[], ?_⟩
                try cbv
                replace h := appF_inv h
                obtain ⟨l19, hb, hz, h⟩ := h
                refine ⟨[.agg [.int .u8 z13, .int .i64 z14, .str s15, .list true 6 l17, .int .i64 z16, .list false 1 l18]], rfl, ?_⟩
                try cbv
                refine ⟨(M.lock_iff _).2 hb, l19, hz, ?_⟩
                clear hb hz
                try cbv
                replace h := letF_inv h
                obtain ⟨z20, hz, h⟩ := h
                refine ⟨z20, hz, ?_⟩
                clear hz
                try cbv
                refine loop_nextG (m2, (z20, l19)) [] [(480, 96)] [0, 2, 3, 4] [.loc 480] 128 ⟨by omega, h⟩ (Nat.lt_succ_of_le (by omega)) ?_
                try cbv
      · intro z1 z2 s3 l4 z5 l6 r1 r2 r3 r4 r5 r6 h
        rw [F5] at h
        refine Trip.of tab_ok tab_one fol Try.func5 rfl (by kernel_rfl) rfl rfl rfl (fun M hM hI => ?_)
        try cbv
        refine seq_go ?_
        try cbv
        refine seq_go ?_
        try cbv
        refine seq_go ?_
        try cbv
        refine seq_go ?_
        try cbv
        replace h := bO1_inv h
        obtain ⟨l7, hr, h⟩ := h
        first | refine .inr (.inl ⟨[], ?_⟩) | refine .inl ⟨[], ?_⟩
        try cbv
        refine call_with hM hI [] ((ih _ (by omega)).1 hr) rfl (by simp) trivial trivial (by simp) ?_
        clear hr
        try cbv
        refine ⟨true, ?_⟩
        try cbv
        refine ⟨true, ?_⟩
        try cbv
        refine ⟨[], ?_⟩
        try cbv
        replace h := appF_inv h
        obtain ⟨l8, hb, hz, h⟩ := h
        refine ⟨(M.lock_iff _).2 hb, l8, hz, ?_⟩
        clear hb hz
        try cbv
        refine drawn ?_ ?_
        · show _ = true
          kernel_rfl
        try cbv
        refine seq_go ?_
        try cbv
        refine ⟨true, ?_⟩
        try cbv
        refine ⟨true, ?_⟩
        try cbv
        refine ⟨[], ?_⟩
        try cbv
        replace h := needF_inv h
        obtain ⟨hs, h⟩ := h
        replace h := appF_inv h
        obtain ⟨l9, hb, hz, h⟩ := h
        refine ⟨scalB_iff.1 hs, (M.lock_iff _).2 hb, l9, hz, ?_⟩
        clear hs hb hz
        try cbv
        refine seq_go ?_
        try cbv
        obtain ⟨rfl, rfl, rfl, rfl, rfl, rfl⟩ := inj6 h
        refine fin_go ?_
        try cbv
        exact ⟨[.loc 448, .loc 672], rfl, rfl, trivial, ⟨rfl, ⟨rfl, trivial⟩⟩, trivial⟩
theorem T5 (n : Nat) : ∀ ⦃z1 : Int⦄ ⦃z2 : Int⦄ ⦃s3 : ByteArray⦄ ⦃l4 : List D⦄ ⦃z5 : Int⦄ ⦃l6 : List D⦄ ⦃r1 : Int⦄ ⦃r2 : Int⦄ ⦃r3 : ByteArray⦄ ⦃r4 : Int⦄ ⦃r5 : List D⦄ ⦃r6 : List D⦄, F5 n z1 z2 s3 l4 z5 l6 = some (r1, r2, r3, r4, r5, r6) →
    Trip Try.prog inv 5 [.d (.agg [.int .u8 z1, .int .i64 z2, .str s3, .list true 6 l4, .int .i64 z5, .list false 1 l6])] [] (.v (.agg [.d (.int .u8 r1), .d (.int .i64 r2), .d (.str r3), .ow (.loc 0), .d (.int .i64 r4), .ow (.loc 1)])) [] [.tree .row true 6 r5 none, .tree .row false 1 r6 none] := (G13 n).2
end Go.Proofs.Ytagiiaejijihoaa
end

set_option linter.unusedVariables false
noncomputable section
namespace Go.Proofs.Ytagiiaejijihoaa
open Go Go.AM
mutual
def L18_2 : Nat → (List D) → (List D) → Int → Option (Bool × List D)
  | 0, _, _, _ => none
  | n + 1, l1, l2, z6 =>
    lenF l2 fun z7 => (if z6 < z7 then L18_3 n l1 l2 z6 true else L18_3 n l1 l2 z6 false)
def L18_3 : Nat → (List D) → (List D) → Int → Bool → Option (Bool × List D)
  | 0, _, _, _, _ => none
  | n + 1, l1, l2, z6, b8 =>
    (if b8 = true then needF (0 ≤ z6 ∧ z6.toNat < l2.length) (getN l2 (z6.toNat) fun x9 => ds_i64 x9 fun z10 => getF l1 z6 fun x11 => ds_i64 x11 fun z12 => (if z10 = z12 then L18_4 n l1 l2 z6 false else L18_4 n l1 l2 z6 true)) else some (true, l2))
def L18_4 : Nat → (List D) → (List D) → Int → Bool → Option (Bool × List D)
  | 0, _, _, _, _ => none
  | n + 1, l1, l2, z6, b13 =>
    (if b13 = true then some (false, l2) else letF (IntKind.wrap .i64 (z6 + 1)) fun z14 => L18_2 n l1 l2 z14)
end
def L18_1 : Nat → (List D) → (List D) → Bool → Option (Bool × List D)
  | 0, _, _, _ => none
  | n + 1, l1, l2, b5 =>
    (if b5 = true then some (false, l2) else L18_2 n l1 l2 (0 : Int))
def F18 (n : Nat) (l1 : List D) (l2 : List D) : Option (Bool × List D) :=
  lenF l2 fun z3 => lenF l1 fun z4 => (if z3 = z4 then L18_1 n l1 l2 false else L18_1 n l1 l2 true)
set_option maxRecDepth 100000 in
set_option maxHeartbeats 40000000 in
theorem T18 (n : Nat) : ∀ ⦃l1 : List D⦄ ⦃l2 : List D⦄ ⦃r1 : Bool⦄ ⦃r2 : List D⦄, F18 n l1 l2 = some (r1, r2) →
    Trip Try.prog inv 18 [.c (.ow (.ext 0)), .d (.list false 1 l1)] [.tree .row false 1 l2 none] (.v (.d (.bool r1))) [.tree .row false 1 r2 none] [] := by
  intro l1 l2 r1 r2 h
  unfold F18 at h
  refine Trip.of tab_ok tab_one fol Try.func18 rfl (by kernel_rfl) rfl rfl rfl (fun M hM hI => ?_)
  try cbv
  refine seq_go ?_
  try cbv
  refine seq_go ?_
  try cbv
  refine seq_join (T := Nat × Bool) (fun t => ⟨[(0, .v (.c (.ow (.ext 0)))), (1, .v (.d (.list false 1 l1))), (4, .v (.d (.bool false))), (10, .v (.d (.bool t.2)))], [(.ext 0, .tree .row false 1 l2 none)], 192⟩) (fun t => t.1 ≤ n ∧ L18_1 t.1 l1 l2 t.2 = some (r1, r2)) ?_ ?_
  · try cbv
    replace h := lenF_inv M h
    obtain ⟨z3, hz, h⟩ := h
    refine ⟨false, ?_⟩
    try cbv
    refine ⟨z3, hz, ?_⟩
    clear hz
    try cbv
    replace h := lenF_inv M h
    obtain ⟨z4, hz, h⟩ := h
    refine ⟨z4, hz, ?_⟩
    clear hz
    try cbv
    refine splitI (fun e => ?_) (fun e => ?_)
    · replace h := ite_t e h
      clear e
      try cbv
      exact join_next (n, false) [0, 1, 4, 10] [.ext 0] 192 ⟨by omega, h⟩ (by cbv)
    · replace h := ite_f e h
      clear e
      try cbv
      exact join_next (n, true) [0, 1, 4, 10] [.ext 0] 192 ⟨by omega, h⟩ (by cbv)
  · clear h
    rintro ⟨m1, b5⟩ ⟨hm1, h⟩
    replace hm1 : m1 ≤ n := hm1
    cases m1 with
    | zero =>
      replace h : L18_1 0 l1 l2 b5 = some (r1, r2) := h
      rw [L18_1] at h
      cases h
    | succ m1 =>
      replace h : L18_1 (m1 + 1) l1 l2 b5 = some (r1, r2) := h
      rw [L18_1] at h
      try cbv
      cases b5
      · replace h := ite_f Bool.false_ne_true h
        try cbv
        refine seq_go ?_
        try cbv
        refine seq_go ?_
        try cbv
        refine loop_invG (T := Nat × Int) [] [] [0, 1, 4, 5] [.ext 0] 224 (fun t => ⟨[(0, .v (.c (.ow (.ext 0)))), (1, .v (.d (.list false 1 l1))), (4, .v (.d (.bool false))), (5, .v (.d (.int .i64 t.2)))], [(.ext 0, .tree .row false 1 l2 none)], 224⟩)
          (fun t => t.1 ≤ m1 ∧ L18_2 t.1 l1 l2 t.2 = some (r1, r2)) (fun t => t.1) (m1, (0 : Int)) ⟨Nat.le_refl _, h⟩ (by cbv) ?_
        clear h
        rintro ⟨m2, z6⟩ ⟨hm2, h⟩
        replace hm2 : m2 ≤ m1 := hm2
        cases m2 with
        | zero =>
          replace h : L18_2 0 l1 l2 z6 = some (r1, r2) := h
          rw [L18_2] at h
          cases h
        | succ m2 =>
          replace h : L18_2 (m2 + 1) l1 l2 z6 = some (r1, r2) := h
          rw [L18_2] at h
          try cbv
          refine seq_go ?_
          try cbv
          refine seq_join (T := Nat × Bool) (fun t => ⟨[(0, .v (.c (.ow (.ext 0)))), (1, .v (.d (.list false 1 l1))), (4, .v (.d (.bool false))), (5, .v (.d (.int .i64 z6))), (14, .v (.d (.bool t.2)))], [(.ext 0, .tree .row false 1 l2 none)], 352⟩) (fun t => t.1 ≤ m2 ∧ L18_3 t.1 l1 l2 z6 t.2 = some (r1, r2)) ?_ ?_
          · try cbv
            replace h := lenF_inv M h
            obtain ⟨z7, hz, h⟩ := h
            refine ⟨false, ?_⟩
            try cbv
            refine ⟨z7, hz, ?_⟩
            clear hz
            try cbv
            refine splitL (fun e => ?_) (fun e => ?_)
            · replace h := ite_t e h
              clear e
              try cbv
              exact join_next (m2, true) [0, 1, 4, 5, 14] [.ext 0] 352 ⟨by omega, h⟩ (by cbv)
            · replace h := ite_f (Int.not_lt.2 e) h
              clear e
              try cbv
              exact join_next (m2, false) [0, 1, 4, 5, 14] [.ext 0] 352 ⟨by omega, h⟩ (by cbv)
          · clear h
            rintro ⟨m3, b8⟩ ⟨hm3, h⟩
            replace hm3 : m3 ≤ m2 := hm3
            cases m3 with
            | zero =>
              replace h : L18_3 0 l1 l2 z6 b8 = some (r1, r2) := h
              rw [L18_3] at h
              cases h
            | succ m3 =>
              replace h : L18_3 (m3 + 1) l1 l2 z6 b8 = some (r1, r2) := h
              rw [L18_3] at h
              try cbv
              cases b8
              · replace h := ite_f Bool.false_ne_true h
                try cbv
                refine seq_go ?_
                try cbv
                obtain ⟨rfl, rfl⟩ := inj2 h
                refine fin_go ?_
                try cbv
                exact ⟨[], rfl, rfl, ⟨rfl, trivial⟩, trivial, trivial⟩
              · replace h := ite_t rfl h
                try cbv
                refine seq_go ?_
                try cbv
                refine seq_join (T := Nat × Bool) (fun t => ⟨[(0, .v (.c (.ow (.ext 0)))), (1, .v (.d (.list false 1 l1))), (4, .v (.d (.bool false))), (5, .v (.d (.int .i64 z6))), (25, .v (.d (.bool t.2)))], [(.ext 0, .tree .row false 1 l2 none)], 640⟩) (fun t => t.1 ≤ m3 ∧ L18_4 t.1 l1 l2 z6 t.2 = some (r1, r2)) ?_ ?_
                · try cbv
                  replace h := needF_inv h
                  obtain ⟨hn, h⟩ := h
                  refine ⟨(M.lock_iff _).2 hn, ?_⟩
                  clear hn
                  try cbv
                  refine ⟨[], ?_⟩
                  try cbv
                  replace h := getN_inv h
                  obtain ⟨x9, hx, h⟩ := h
                  replace h := ds_i64_inv h
                  obtain ⟨z10, rfl, h⟩ := h
                  refine ⟨_, hx, ?_⟩
                  clear hx
                  try cbv
                  refine ⟨true, ?_⟩
                  try cbv
                  replace h := getF_inv h
                  obtain ⟨x11, hx11, h⟩ := h
                  replace h := ds_i64_inv h
                  obtain ⟨z12, rfl, h⟩ := h
                  refine ⟨_, hx11.1, hx11.2, ?_⟩
                  try cbv
                  refine splitI (fun e => ?_) (fun e => ?_)
                  · replace h := ite_t e h
                    clear e
                    try cbv
                    refine drawn ?_ ?_
                    · show _ = true
                      kernel_rfl
                    try cbv
                    exact join_next (m3, false) [0, 1, 4, 5, 25] [.ext 0] 640 ⟨by omega, h⟩ (by cbv)
                  · replace h := ite_f e h
                    clear e
                    try cbv
                    refine drawn ?_ ?_
                    · show _ = true
                      kernel_rfl
                    try cbv
                    exact join_next (m3, true) [0, 1, 4, 5, 25] [.ext 0] 640 ⟨by omega, h⟩ (by cbv)
                · clear h
                  rintro ⟨m4, b13⟩ ⟨hm4, h⟩
                  replace hm4 : m4 ≤ m3 := hm4
                  cases m4 with
                  | zero =>
                    replace h : L18_4 0 l1 l2 z6 b13 = some (r1, r2) := h
                    rw [L18_4] at h
                    cases h
                  | succ m4 =>
                    replace h : L18_4 (m4 + 1) l1 l2 z6 b13 = some (r1, r2) := h
                    rw [L18_4] at h
                    try cbv
                    cases b13
                    · replace h := ite_f Bool.false_ne_true h
                      try cbv
                      replace h := letF_inv h
                      obtain ⟨z14, hz, h⟩ := h
                      refine ⟨z14, hz, ?_⟩
                      clear hz
                      try cbv
                      refine loop_nextG (m4, z14) [] [] [0, 1, 4, 5] [.ext 0] 224 ⟨by omega, h⟩ (Nat.lt_succ_of_le (by omega)) ?_
                      try cbv
                    · replace h := ite_t rfl h
                      try cbv
                      refine seq_go ?_
                      try cbv
                      obtain ⟨rfl, rfl⟩ := inj2 h
                      refine fin_go ?_
                      try cbv
                      exact ⟨[], rfl, rfl, ⟨rfl, trivial⟩, trivial, trivial⟩
      · replace h := ite_t rfl h
        try cbv
        refine seq_go ?_
        try cbv
        obtain ⟨rfl, rfl⟩ := inj2 h
        refine fin_go ?_
        try cbv
        exact ⟨[], rfl, rfl, ⟨rfl, trivial⟩, trivial, trivial⟩
end Go.Proofs.Ytagiiaejijihoaa
end

set_option linter.unusedVariables false
noncomputable section
namespace Go.Proofs.Ytagiiaejijihoaa
open Go Go.AM
mutual
def L19_1 : Nat → (List D) → (List D) → Bool → Option (Bool × List D)
  | 0, _, _, _ => none
  | n + 1, l1, l2, b5 =>
    (if b5 = true then some (false, l2) else L19_2 n l1 (0 : Int) l2)
def L19_2 : Nat → (List D) → Int → (List D) → Option (Bool × List D)
  | 0, _, _, _ => none
  | n + 1, l1, z6, l7 =>
    lenF l7 fun z8 => (if z6 < z8 then L19_3 n l1 z6 l7 true else L19_3 n l1 z6 l7 false)
def L19_3 : Nat → (List D) → Int → (List D) → Bool → Option (Bool × List D)
  | 0, _, _, _, _ => none
  | n + 1, l1, z6, l7, b9 =>
    (if b9 = true then needF (0 ≤ z6 ∧ z6.toNat < l7.length) (getN l7 (z6.toNat) fun x10 => ds_t25 x10 fun z11 z12 s13 l14 z15 l16 => getF l1 z6 fun x17 => ds_t25 x17 fun z18 z19 s20 l21 z22 l23 => bO3 (F10 n z11 z12 s13 z15 z18 z19 s20 l21 z22 l23 l14 l16) fun b24 l25 l26 => letB (!b24) fun b27 => (if b27 = true then setF l7 (z6.toNat) (.agg [.int .u8 z11, .int .i64 z12, .str s13, .list true 6 l25, .int .i64 z15, .list false 1 l26]) fun l28 => some (false, l28) else letF (IntKind.wrap .i64 (z6 + 1)) fun z29 => setF l7 (z6.toNat) (.agg [.int .u8 z11, .int .i64 z12, .str s13, .list true 6 l25, .int .i64 z15, .list false 1 l26]) fun l30 => L19_2 n l1 z29 l30)) else some (true, l7))
def F19 : Nat → (List D) → (List D) → Option (Bool × List D)
  | 0, _, _ => none
  | n + 1, l1, l2 =>
    lenF l2 fun z3 => lenF l1 fun z4 => (if z3 = z4 then L19_1 n l1 l2 false else L19_1 n l1 l2 true)
def F10 : Nat → Int → Int → ByteArray → Int → Int → Int → ByteArray → (List D) → Int → (List D) → (List D) → (List D) → Option (Bool × List D × List D)
  | 0, _, _, _, _, _, _, _, _, _, _, _, _ => none
  | n + 1, z1, z2, s3, z4, z5, z6, s7, l8, z9, l10, l11, l12 =>
    (if z1 = z5 then (if z2 = z6 then (if s3 = s7 then (if z4 = z9 then bO2 (F18 n l10 l12) fun b13 l14 => (if b13 = true then bO2 (F19 n l8 l11) fun b15 l16 => some (b15, l16, l14) else some (false, l11, l14)) else some (false, l11, l12)) else some (false, l11, l12)) else some (false, l11, l12)) else some (false, l11, l12))
end
set_option maxRecDepth 100000 in
set_option maxHeartbeats 40000000 in
theorem G19 (n : Nat) : (∀ ⦃l1 : List D⦄ ⦃l2 : List D⦄ ⦃r1 : Bool⦄ ⦃r2 : List D⦄, F19 n l1 l2 = some (r1, r2) →
    Trip Try.prog inv 19 [.c (.ow (.ext 0)), .d (.list true 6 l1)] [.tree .row true 6 l2 none] (.v (.d (.bool r1))) [.tree .row true 6 r2 none] []) ∧
    (∀ ⦃z1 : Int⦄ ⦃z2 : Int⦄ ⦃s3 : ByteArray⦄ ⦃z4 : Int⦄ ⦃z5 : Int⦄ ⦃z6 : Int⦄ ⦃s7 : ByteArray⦄ ⦃l8 : List D⦄ ⦃z9 : Int⦄ ⦃l10 : List D⦄ ⦃l11 : List D⦄ ⦃l12 : List D⦄ ⦃r1 : Bool⦄ ⦃r2 : List D⦄ ⦃r3 : List D⦄, F10 n z1 z2 s3 z4 z5 z6 s7 l8 z9 l10 l11 l12 = some (r1, r2, r3) →
    Trip Try.prog inv 10 [.agg [.d (.int .u8 z1), .d (.int .i64 z2), .d (.str s3), .ow (.ext 0), .d (.int .i64 z4), .ow (.ext 1)], .d (.agg [.int .u8 z5, .int .i64 z6, .str s7, .list true 6 l8, .int .i64 z9, .list false 1 l10])] [.tree .row true 6 l11 none, .tree .row false 1 l12 none] (.v (.d (.bool r1))) [.tree .row true 6 r2 none, .tree .row false 1 r3 none] []) := by
  induction n using Nat.strongRecOn with
  | _ n ih =>
    cases n with
    | zero =>
      refine ⟨?_, ?_⟩
      · intro l1 l2 r1 r2 h
        cases (show (none : Option _) = some _ from h)
      · intro z1 z2 s3 z4 z5 z6 s7 l8 z9 l10 l11 l12 r1 r2 r3 h
        cases (show (none : Option _) = some _ from h)
    | succ n =>
      refine ⟨?_, ?_⟩
      · intro l1 l2 r1 r2 h
        rw [F19] at h
        refine Trip.of tab_ok tab_one fol Try.func19 rfl (by kernel_rfl) rfl rfl rfl (fun M hM hI => ?_)
        try cbv
        refine seq_go ?_
        try cbv
        refine seq_go ?_
        try cbv
        refine seq_join (T := Nat × Bool) (fun t => ⟨[(0, .v (.c (.ow (.ext 0)))), (1, .v (.d (.list true 6 l1))), (4, .v (.d (.bool false))), (10, .v (.d (.bool t.2)))], [(.ext 0, .tree .row true 6 l2 none)], 192⟩) (fun t => t.1 ≤ n ∧ L19_1 t.1 l1 l2 t.2 = some (r1, r2)) ?_ ?_
        · try cbv
          replace h := lenF_inv M h
          obtain ⟨z3, hz, h⟩ := h
          refine ⟨false, ?_⟩
          try cbv
          refine ⟨z3, hz, ?_⟩
          clear hz
          try cbv
          replace h := lenF_inv M h
          obtain ⟨z4, hz, h⟩ := h
          refine ⟨z4, hz, ?_⟩
          clear hz
          try cbv
          refine splitI (fun e => ?_) (fun e => ?_)
          · replace h := ite_t e h
            clear e
            try cbv
            exact join_next (n, false) [0, 1, 4, 10] [.ext 0] 192 ⟨by omega, h⟩ (by cbv)
          · replace h := ite_f e h
            clear e
            try cbv
            exact join_next (n, true) [0, 1, 4, 10] [.ext 0] 192 ⟨by omega, h⟩ (by cbv)
        · clear h
          rintro ⟨m1, b5⟩ ⟨hm1, h⟩
          replace hm1 : m1 ≤ n := hm1
          cases m1 with
          | zero =>
            replace h : L19_1 0 l1 l2 b5 = some (r1, r2) := h
            rw [L19_1] at h
            cases h
          | succ m1 =>
            replace h : L19_1 (m1 + 1) l1 l2 b5 = some (r1, r2) := h
            rw [L19_1] at h
            try cbv
            cases b5
            · replace h := ite_f Bool.false_ne_true h
              try cbv
              refine seq_go ?_
              try cbv
              refine seq_go ?_
              try cbv
              refine loop_invG (T := Nat × Int × List D) [] [] [0, 1, 4, 5] [.ext 0] 224 (fun t => ⟨[(0, .v (.c (.ow (.ext 0)))), (1, .v (.d (.list true 6 l1))), (4, .v (.d (.bool false))), (5, .v (.d (.int .i64 t.2.1)))], [(.ext 0, .tree .row true 6 t.2.2 none)], 224⟩)
                (fun t => t.1 ≤ m1 ∧ L19_2 t.1 l1 t.2.1 t.2.2 = some (r1, r2)) (fun t => t.1) (m1, ((0 : Int), l2)) ⟨Nat.le_refl _, h⟩ (by cbv) ?_
              clear h
              rintro ⟨m2, z6, l7⟩ ⟨hm2, h⟩
              replace hm2 : m2 ≤ m1 := hm2
              cases m2 with
              | zero =>
                replace h : L19_2 0 l1 z6 l7 = some (r1, r2) := h
                rw [L19_2] at h
                cases h
              | succ m2 =>
                replace h : L19_2 (m2 + 1) l1 z6 l7 = some (r1, r2) := h
                rw [L19_2] at h
                try cbv
                refine seq_go ?_
                try cbv
                refine seq_join (T := Nat × Bool) (fun t => ⟨[(0, .v (.c (.ow (.ext 0)))), (1, .v (.d (.list true 6 l1))), (4, .v (.d (.bool false))), (5, .v (.d (.int .i64 z6))), (14, .v (.d (.bool t.2)))], [(.ext 0, .tree .row true 6 l7 none)], 352⟩) (fun t => t.1 ≤ m2 ∧ L19_3 t.1 l1 z6 l7 t.2 = some (r1, r2)) ?_ ?_
                · try cbv
                  replace h := lenF_inv M h
                  obtain ⟨z8, hz, h⟩ := h
                  refine ⟨false, ?_⟩
                  try cbv
                  refine ⟨z8, hz, ?_⟩
                  clear hz
                  try cbv
                  refine splitL (fun e => ?_) (fun e => ?_)
                  · replace h := ite_t e h
                    clear e
                    try cbv
                    exact join_next (m2, true) [0, 1, 4, 5, 14] [.ext 0] 352 ⟨by omega, h⟩ (by cbv)
                  · replace h := ite_f (Int.not_lt.2 e) h
                    clear e
                    try cbv
                    exact join_next (m2, false) [0, 1, 4, 5, 14] [.ext 0] 352 ⟨by omega, h⟩ (by cbv)
                · clear h
                  rintro ⟨m3, b9⟩ ⟨hm3, h⟩
                  replace hm3 : m3 ≤ m2 := hm3
                  cases m3 with
                  | zero =>
                    replace h : L19_3 0 l1 z6 l7 b9 = some (r1, r2) := h
                    rw [L19_3] at h
                    cases h
                  | succ m3 =>
                    replace h : L19_3 (m3 + 1) l1 z6 l7 b9 = some (r1, r2) := h
                    rw [L19_3] at h
                    try cbv
                    cases b9
                    · replace h := ite_f Bool.false_ne_true h
                      try cbv
                      refine seq_go ?_
                      try cbv
                      obtain ⟨rfl, rfl⟩ := inj2 h
                      refine fin_go ?_
                      try cbv
                      exact ⟨[], rfl, rfl, ⟨rfl, trivial⟩, trivial, trivial⟩
                    · replace h := ite_t rfl h
                      try cbv
                      refine seq_go ?_
                      try cbv
                      refine seq_go ?_
                      try cbv
                      replace h := needF_inv h
                      obtain ⟨hn, h⟩ := h
                      refine ⟨(M.lock_iff _).2 hn, ?_⟩
                      clear hn
                      try cbv
                      refine ⟨[], ?_⟩
                      try cbv
                      replace h := getN_inv h
                      obtain ⟨x10, hx, h⟩ := h
                      replace h := ds_t25_inv h
                      obtain ⟨z11, z12, s13, l14, z15, l16, rfl, h⟩ := h
                      refine ⟨_, hx, ?_⟩
                      clear hx
                      try cbv
                      refine ⟨false, ?_⟩
                      try cbv
                      replace h := getF_inv h
                      obtain ⟨x17, hx17, h⟩ := h
                      replace h := ds_t25_inv h
                      obtain ⟨z18, z19, s20, l21, z22, l23, rfl, h⟩ := h
                      refine ⟨_, hx17.1, hx17.2, ?_⟩
                      try cbv
                      replace h := bO3_inv h
                      obtain ⟨b24, l25, l26, hr, h⟩ := h
                      first | refine .inr (.inl ⟨[], ?_⟩) | refine .inl ⟨[], ?_⟩
                      try cbv
                      refine call_with hM hI [.loc 451, .loc 453] ((ih _ (by omega)).2 hr) rfl (by simp) ⟨rfl, ⟨rfl, trivial⟩⟩ ⟨trivial, ⟨trivial, trivial⟩⟩ (by simp) ?_
                      clear hr
                      try cbv
                      replace h := letB_inv h
                      obtain ⟨b27, hz, h⟩ := h
                      refine ⟨b27, not_eq' hz, ?_⟩
                      clear hz
                      try cbv
                      refine drawn ?_ ?_
                      · show _ = true
                        kernel_rfl
                      try cbv
                      cases b27
                      · replace h := ite_f Bool.false_ne_true h
                        try cbv
                        replace h := letF_inv h
                        obtain ⟨z29, hz, h⟩ := h
                        refine ⟨z29, hz, ?_⟩
                        clear hz
                        try cbv
                        replace h := setF_inv h
                        obtain ⟨l30, hl30, h⟩ := h
                        refine loop_nextG (m3, (z29, l30)) [.close (.ext 0)] [] [0, 1, 4, 5] [.ext 0] 224 ⟨by omega, h⟩ (Nat.lt_succ_of_le (by omega)) ?_
                        try cbv
                        refine ⟨l30, hl30, ?_⟩
                        clear hl30
                        try cbv
                        first | done | exact rfl | cbv
                      · replace h := ite_t rfl h
                        try cbv
                        refine seq_go ?_
                        try cbv
                        replace h := setF_inv h
                        obtain ⟨l28, hl28, h⟩ := h
                        obtain ⟨rfl, rfl⟩ := inj2 h
                        refine ⟨_, _, _, ⟨rfl, rfl, rfl⟩, [.close (.ext 0)], ?_⟩
                        try cbv
                        refine ⟨l28, hl28, ?_⟩
                        clear hl28
                        try cbv
                        exact ⟨[], rfl, rfl, ⟨rfl, trivial⟩, trivial, trivial⟩
            · replace h := ite_t rfl h
              try cbv
              refine seq_go ?_
              try cbv
              obtain ⟨rfl, rfl⟩ := inj2 h
              refine fin_go ?_
              try cbv
              exact ⟨[], rfl, rfl, ⟨rfl, trivial⟩, trivial, trivial⟩
      · intro z1 z2 s3 z4 z5 z6 s7 l8 z9 l10 l11 l12 r1 r2 r3 h
        rw [F10] at h
        refine Trip.of tab_ok tab_one fol Try.func10 rfl (by kernel_rfl) rfl rfl rfl (fun M hM hI => ?_)
        try cbv
        refine seq_go ?_
        try cbv
        refine seq_go ?_
        try cbv
        refine splitI (fun e => ?_) (fun e => ?_)
        · replace h := ite_t e h
          clear e
          try cbv
          refine splitI (fun e => ?_) (fun e => ?_)
          · replace h := ite_t e h
            clear e
            try cbv
            refine splitS (fun e => ?_) (fun e => ?_)
            · replace h := ite_t (bytes_eq.1 e) h
              clear e
              try cbv
              refine splitI (fun e => ?_) (fun e => ?_)
              · replace h := ite_t e h
                clear e
                try cbv
                replace h := bO2_inv h
                obtain ⟨b13, l14, hr, h⟩ := h
                refine call_go rfl rfl ?_
                try cbv
                refine call_with hM hI [.ext 1] (T18 _ hr) rfl (by simp) ⟨rfl, trivial⟩ ⟨trivial, trivial⟩ (by simp) ?_
                clear hr
                try cbv
                cases b13
                · replace h := ite_f Bool.false_ne_true h
                  try cbv
                  obtain ⟨rfl, rfl, rfl⟩ := inj3 h
                  refine fin_go ?_
                  try cbv
                  exact ⟨[], rfl, rfl, ⟨rfl, ⟨rfl, trivial⟩⟩, trivial, trivial⟩
                · replace h := ite_t rfl h
                  try cbv
                  replace h := bO2_inv h
                  obtain ⟨b15, l16, hr, h⟩ := h
                  refine call_go rfl rfl ?_
                  try cbv
                  refine call_with hM hI [.ext 0] ((ih _ (by omega)).1 hr) rfl (by simp) ⟨rfl, trivial⟩ ⟨trivial, trivial⟩ (by simp) ?_
                  clear hr
                  try cbv
                  obtain ⟨rfl, rfl, rfl⟩ := inj3 h
                  refine fin_go ?_
                  try cbv
                  exact ⟨[], rfl, rfl, ⟨rfl, ⟨rfl, trivial⟩⟩, trivial, trivial⟩
              · replace h := ite_f e h
                clear e
                try cbv
                obtain ⟨rfl, rfl, rfl⟩ := inj3 h
                refine fin_go ?_
                try cbv
                exact ⟨[], rfl, rfl, ⟨rfl, ⟨rfl, trivial⟩⟩, trivial, trivial⟩
            · replace h := ite_f (bytes_ne.1 e) h
              clear e
              try cbv
              obtain ⟨rfl, rfl, rfl⟩ := inj3 h
              refine fin_go ?_
              try cbv
              exact ⟨[], rfl, rfl, ⟨rfl, ⟨rfl, trivial⟩⟩, trivial, trivial⟩
          · replace h := ite_f e h
            clear e
            try cbv
            obtain ⟨rfl, rfl, rfl⟩ := inj3 h
            refine fin_go ?_
            try cbv
            exact ⟨[], rfl, rfl, ⟨rfl, ⟨rfl, trivial⟩⟩, trivial, trivial⟩
        · replace h := ite_f e h
          clear e
          try cbv
          obtain ⟨rfl, rfl, rfl⟩ := inj3 h
          refine fin_go ?_
          try cbv
          exact ⟨[], rfl, rfl, ⟨rfl, ⟨rfl, trivial⟩⟩, trivial, trivial⟩
theorem T10 (n : Nat) : ∀ ⦃z1 : Int⦄ ⦃z2 : Int⦄ ⦃s3 : ByteArray⦄ ⦃z4 : Int⦄ ⦃z5 : Int⦄ ⦃z6 : Int⦄ ⦃s7 : ByteArray⦄ ⦃l8 : List D⦄ ⦃z9 : Int⦄ ⦃l10 : List D⦄ ⦃l11 : List D⦄ ⦃l12 : List D⦄ ⦃r1 : Bool⦄ ⦃r2 : List D⦄ ⦃r3 : List D⦄, F10 n z1 z2 s3 z4 z5 z6 s7 l8 z9 l10 l11 l12 = some (r1, r2, r3) →
    Trip Try.prog inv 10 [.agg [.d (.int .u8 z1), .d (.int .i64 z2), .d (.str s3), .ow (.ext 0), .d (.int .i64 z4), .ow (.ext 1)], .d (.agg [.int .u8 z5, .int .i64 z6, .str s7, .list true 6 l8, .int .i64 z9, .list false 1 l10])] [.tree .row true 6 l11 none, .tree .row false 1 l12 none] (.v (.d (.bool r1))) [.tree .row true 6 r2 none, .tree .row false 1 r3 none] [] := (G19 n).2
end Go.Proofs.Ytagiiaejijihoaa
end

set_option linter.unusedVariables false
noncomputable section
namespace Go.Proofs.Ytagiiaejijihoaa
open Go Go.AM
mutual
def L18x1_2 : Nat → (List D) → (List D) → Int → Option (Bool × List D × List D)
  | 0, _, _, _ => none
  | n + 1, l1, l2, z6 =>
    lenF l1 fun z7 => (if z6 < z7 then L18x1_3 n l1 l2 z6 true else L18x1_3 n l1 l2 z6 false)
def L18x1_3 : Nat → (List D) → (List D) → Int → Bool → Option (Bool × List D × List D)
  | 0, _, _, _, _ => none
  | n + 1, l1, l2, z6, b8 =>
    (if b8 = true then needF (0 ≤ z6 ∧ z6.toNat < l1.length) (getN l1 (z6.toNat) fun x9 => ds_i64 x9 fun z10 => needF (0 ≤ z6 ∧ z6.toNat < l2.length) (getN l2 (z6.toNat) fun x11 => ds_i64 x11 fun z12 => (if z10 = z12 then L18x1_4 n l1 l2 z6 false else L18x1_4 n l1 l2 z6 true))) else some (true, l1, l2))
def L18x1_4 : Nat → (List D) → (List D) → Int → Bool → Option (Bool × List D × List D)
  | 0, _, _, _, _ => none
  | n + 1, l1, l2, z6, b13 =>
    (if b13 = true then some (false, l1, l2) else letF (IntKind.wrap .i64 (z6 + 1)) fun z14 => L18x1_2 n l1 l2 z14)
end
def L18x1_1 : Nat → (List D) → (List D) → Bool → Option (Bool × List D × List D)
  | 0, _, _, _ => none
  | n + 1, l1, l2, b5 =>
    (if b5 = true then some (false, l1, l2) else L18x1_2 n l1 l2 (0 : Int))
def F18x1 (n : Nat) (l1 : List D) (l2 : List D) : Option (Bool × List D × List D) :=
  lenF l1 fun z3 => lenF l2 fun z4 => (if z3 = z4 then L18x1_1 n l1 l2 false else L18x1_1 n l1 l2 true)
set_option maxRecDepth 100000 in
set_option maxHeartbeats 40000000 in
theorem T18x1 (n : Nat) : ∀ ⦃l1 : List D⦄ ⦃l2 : List D⦄ ⦃r1 : Bool⦄ ⦃r2 : List D⦄ ⦃r3 : List D⦄, F18x1 n l1 l2 = some (r1, r2, r3) →
    Trip Try.prog inv 18 [.c (.ow (.ext 0)), .c (.ow (.ext 1))] [.tree .row false 1 l1 none, .tree .row false 1 l2 none] (.v (.d (.bool r1))) [.tree .row false 1 r2 none, .tree .row false 1 r3 none] [] := by
  intro l1 l2 r1 r2 r3 h
  unfold F18x1 at h
  refine Trip.of tab_ok tab_one fol Try.func18 rfl (by kernel_rfl) rfl rfl rfl (fun M hM hI => ?_)
  try cbv
  refine seq_go ?_
  try cbv
  refine seq_go ?_
  try cbv
  refine seq_join (T := Nat × Bool) (fun t => ⟨[(0, .v (.c (.ow (.ext 0)))), (1, .v (.c (.ow (.ext 1)))), (4, .v (.d (.bool false))), (10, .v (.d (.bool t.2)))], [(.ext 0, .tree .row false 1 l1 none), (.ext 1, .tree .row false 1 l2 none)], 192⟩) (fun t => t.1 ≤ n ∧ L18x1_1 t.1 l1 l2 t.2 = some (r1, r2, r3)) ?_ ?_
  · try cbv
    replace h := lenF_inv M h
    obtain ⟨z3, hz, h⟩ := h
    refine ⟨false, ?_⟩
    try cbv
    refine ⟨z3, hz, ?_⟩
    clear hz
    try cbv
    replace h := lenF_inv M h
    obtain ⟨z4, hz, h⟩ := h
    refine ⟨false, ?_⟩
    try cbv
    refine ⟨z4, hz, ?_⟩
    clear hz
    try cbv
    refine splitI (fun e => ?_) (fun e => ?_)
    · replace h := ite_t e h
      clear e
      try cbv
      exact join_next (n, false) [0, 1, 4, 10] [.ext 0, .ext 1] 192 ⟨by omega, h⟩ (by cbv)
    · replace h := ite_f e h
      clear e
      try cbv
      exact join_next (n, true) [0, 1, 4, 10] [.ext 0, .ext 1] 192 ⟨by omega, h⟩ (by cbv)
  · clear h
    rintro ⟨m1, b5⟩ ⟨hm1, h⟩
    replace hm1 : m1 ≤ n := hm1
    cases m1 with
    | zero =>
      replace h : L18x1_1 0 l1 l2 b5 = some (r1, r2, r3) := h
      rw [L18x1_1] at h
      cases h
    | succ m1 =>
      replace h : L18x1_1 (m1 + 1) l1 l2 b5 = some (r1, r2, r3) := h
      rw [L18x1_1] at h
      try cbv
      cases b5
      · replace h := ite_f Bool.false_ne_true h
        try cbv
        refine seq_go ?_
        try cbv
        refine seq_go ?_
        try cbv
        refine loop_invG (T := Nat × Int) [] [] [0, 1, 4, 5] [.ext 0, .ext 1] 224 (fun t => ⟨[(0, .v (.c (.ow (.ext 0)))), (1, .v (.c (.ow (.ext 1)))), (4, .v (.d (.bool false))), (5, .v (.d (.int .i64 t.2)))], [(.ext 0, .tree .row false 1 l1 none), (.ext 1, .tree .row false 1 l2 none)], 224⟩)
          (fun t => t.1 ≤ m1 ∧ L18x1_2 t.1 l1 l2 t.2 = some (r1, r2, r3)) (fun t => t.1) (m1, (0 : Int)) ⟨Nat.le_refl _, h⟩ (by cbv) ?_
        clear h
        rintro ⟨m2, z6⟩ ⟨hm2, h⟩
        replace hm2 : m2 ≤ m1 := hm2
        cases m2 with
        | zero =>
          replace h : L18x1_2 0 l1 l2 z6 = some (r1, r2, r3) := h
          rw [L18x1_2] at h
          cases h
        | succ m2 =>
          replace h : L18x1_2 (m2 + 1) l1 l2 z6 = some (r1, r2, r3) := h
          rw [L18x1_2] at h
          try cbv
          refine seq_go ?_
          try cbv
          refine seq_join (T := Nat × Bool) (fun t => ⟨[(0, .v (.c (.ow (.ext 0)))), (1, .v (.c (.ow (.ext 1)))), (4, .v (.d (.bool false))), (5, .v (.d (.int .i64 z6))), (14, .v (.d (.bool t.2)))], [(.ext 0, .tree .row false 1 l1 none), (.ext 1, .tree .row false 1 l2 none)], 352⟩) (fun t => t.1 ≤ m2 ∧ L18x1_3 t.1 l1 l2 z6 t.2 = some (r1, r2, r3)) ?_ ?_
          · try cbv
            replace h := lenF_inv M h
            obtain ⟨z7, hz, h⟩ := h
            refine ⟨false, ?_⟩
            try cbv
            refine ⟨z7, hz, ?_⟩
            clear hz
            try cbv
            refine splitL (fun e => ?_) (fun e => ?_)
            · replace h := ite_t e h
              clear e
              try cbv
              exact join_next (m2, true) [0, 1, 4, 5, 14] [.ext 0, .ext 1] 352 ⟨by omega, h⟩ (by cbv)
            · replace h := ite_f (Int.not_lt.2 e) h
              clear e
              try cbv
              exact join_next (m2, false) [0, 1, 4, 5, 14] [.ext 0, .ext 1] 352 ⟨by omega, h⟩ (by cbv)
          · clear h
            rintro ⟨m3, b8⟩ ⟨hm3, h⟩
            replace hm3 : m3 ≤ m2 := hm3
            cases m3 with
            | zero =>
              replace h : L18x1_3 0 l1 l2 z6 b8 = some (r1, r2, r3) := h
              rw [L18x1_3] at h
              cases h
            | succ m3 =>
              replace h : L18x1_3 (m3 + 1) l1 l2 z6 b8 = some (r1, r2, r3) := h
              rw [L18x1_3] at h
              try cbv
              cases b8
              · replace h := ite_f Bool.false_ne_true h
                try cbv
                refine seq_go ?_
                try cbv
                obtain ⟨rfl, rfl, rfl⟩ := inj3 h
                refine fin_go ?_
                try cbv
                exact ⟨[], rfl, rfl, ⟨rfl, ⟨rfl, trivial⟩⟩, trivial, trivial⟩
              · replace h := ite_t rfl h
                try cbv
                refine seq_go ?_
                try cbv
                refine seq_join (T := Nat × Bool) (fun t => ⟨[(0, .v (.c (.ow (.ext 0)))), (1, .v (.c (.ow (.ext 1)))), (4, .v (.d (.bool false))), (5, .v (.d (.int .i64 z6))), (25, .v (.d (.bool t.2)))], [(.ext 0, .tree .row false 1 l1 none), (.ext 1, .tree .row false 1 l2 none)], 640⟩) (fun t => t.1 ≤ m3 ∧ L18x1_4 t.1 l1 l2 z6 t.2 = some (r1, r2, r3)) ?_ ?_
                · try cbv
                  replace h := needF_inv h
                  obtain ⟨hn, h⟩ := h
                  refine ⟨(M.lock_iff _).2 hn, ?_⟩
                  clear hn
                  try cbv
                  refine ⟨[], ?_⟩
                  try cbv
                  replace h := getN_inv h
                  obtain ⟨x9, hx, h⟩ := h
                  replace h := ds_i64_inv h
                  obtain ⟨z10, rfl, h⟩ := h
                  refine ⟨_, hx, ?_⟩
                  clear hx
                  try cbv
                  refine ⟨true, ?_⟩
                  try cbv
                  replace h := needF_inv h
                  obtain ⟨hn, h⟩ := h
                  refine ⟨(M.lock_iff _).2 hn, ?_⟩
                  clear hn
                  try cbv
                  refine ⟨[], ?_⟩
                  try cbv
                  replace h := getN_inv h
                  obtain ⟨x11, hx, h⟩ := h
                  replace h := ds_i64_inv h
                  obtain ⟨z12, rfl, h⟩ := h
                  refine ⟨_, hx, ?_⟩
                  clear hx
                  try cbv
                  refine ⟨true, ?_⟩
                  try cbv
                  refine splitI (fun e => ?_) (fun e => ?_)
                  · replace h := ite_t e h
                    clear e
                    try cbv
                    refine drawn ?_ ?_
                    · show _ = true
                      kernel_rfl
                    try cbv
                    exact join_next (m3, false) [0, 1, 4, 5, 25] [.ext 0, .ext 1] 640 ⟨by omega, h⟩ (by cbv)
                  · replace h := ite_f e h
                    clear e
                    try cbv
                    refine drawn ?_ ?_
                    · show _ = true
                      kernel_rfl
                    try cbv
                    exact join_next (m3, true) [0, 1, 4, 5, 25] [.ext 0, .ext 1] 640 ⟨by omega, h⟩ (by cbv)
                · clear h
                  rintro ⟨m4, b13⟩ ⟨hm4, h⟩
                  replace hm4 : m4 ≤ m3 := hm4
                  cases m4 with
                  | zero =>
                    replace h : L18x1_4 0 l1 l2 z6 b13 = some (r1, r2, r3) := h
                    rw [L18x1_4] at h
                    cases h
                  | succ m4 =>
                    replace h : L18x1_4 (m4 + 1) l1 l2 z6 b13 = some (r1, r2, r3) := h
                    rw [L18x1_4] at h
                    try cbv
                    cases b13
                    · replace h := ite_f Bool.false_ne_true h
                      try cbv
                      replace h := letF_inv h
                      obtain ⟨z14, hz, h⟩ := h
                      refine ⟨z14, hz, ?_⟩
                      clear hz
                      try cbv
                      refine loop_nextG (m4, z14) [] [] [0, 1, 4, 5] [.ext 0, .ext 1] 224 ⟨by omega, h⟩ (Nat.lt_succ_of_le (by omega)) ?_
                      try cbv
                    · replace h := ite_t rfl h
                      try cbv
                      refine seq_go ?_
                      try cbv
                      obtain ⟨rfl, rfl, rfl⟩ := inj3 h
                      refine fin_go ?_
                      try cbv
                      exact ⟨[], rfl, rfl, ⟨rfl, ⟨rfl, trivial⟩⟩, trivial, trivial⟩
      · replace h := ite_t rfl h
        try cbv
        refine seq_go ?_
        try cbv
        obtain ⟨rfl, rfl, rfl⟩ := inj3 h
        refine fin_go ?_
        try cbv
        exact ⟨[], rfl, rfl, ⟨rfl, ⟨rfl, trivial⟩⟩, trivial, trivial⟩
end Go.Proofs.Ytagiiaejijihoaa
end

set_option linter.unusedVariables false
noncomputable section
namespace Go.Proofs.Ytagiiaejijihoaa
open Go Go.AM
mutual
def L19x1_1 : Nat → (List D) → (List D) → Bool → Option (Bool × List D × List D)
  | 0, _, _, _ => none
  | n + 1, l1, l2, b5 =>
    (if b5 = true then some (false, l1, l2) else L19x1_2 n (0 : Int) l1 l2)
def L19x1_2 : Nat → Int → (List D) → (List D) → Option (Bool × List D × List D)
  | 0, _, _, _ => none
  | n + 1, z6, l7, l8 =>
    lenF l7 fun z9 => (if z6 < z9 then L19x1_3 n z6 l7 l8 true else L19x1_3 n z6 l7 l8 false)
def L19x1_3 : Nat → Int → (List D) → (List D) → Bool → Option (Bool × List D × List D)
  | 0, _, _, _, _ => none
  | n + 1, z6, l7, l8, b10 =>
    (if b10 = true then needF (0 ≤ z6 ∧ z6.toNat < l7.length) (getN l7 (z6.toNat) fun x11 => ds_t25 x11 fun z12 z13 s14 l15 z16 l17 => needF (0 ≤ z6 ∧ z6.toNat < l8.length) (getN l8 (z6.toNat) fun x18 => ds_t25 x18 fun z19 z20 s21 l22 z23 l24 => bO5 (F10x1 n z12 z13 s14 z16 z19 z20 s21 z23 l15 l17 l22 l24) fun b25 l26 l27 l28 l29 => letB (!b25) fun b30 => (if b30 = true then setF l7 (z6.toNat) (.agg [.int .u8 z12, .int .i64 z13, .str s14, .list true 6 l26, .int .i64 z16, .list false 1 l27]) fun l31 => setF l8 (z6.toNat) (.agg [.int .u8 z19, .int .i64 z20, .str s21, .list true 6 l28, .int .i64 z23, .list false 1 l29]) fun l32 => some (false, l31, l32) else letF (IntKind.wrap .i64 (z6 + 1)) fun z33 => setF l7 (z6.toNat) (.agg [.int .u8 z12, .int .i64 z13, .str s14, .list true 6 l26, .int .i64 z16, .list false 1 l27]) fun l34 => setF l8 (z6.toNat) (.agg [.int .u8 z19, .int .i64 z20, .str s21, .list true 6 l28, .int .i64 z23, .list false 1 l29]) fun l35 => L19x1_2 n z33 l34 l35))) else some (true, l7, l8))
def F19x1 : Nat → (List D) → (List D) → Option (Bool × List D × List D)
  | 0, _, _ => none
  | n + 1, l1, l2 =>
    lenF l1 fun z3 => lenF l2 fun z4 => (if z3 = z4 then L19x1_1 n l1 l2 false else L19x1_1 n l1 l2 true)
def F10x1 : Nat → Int → Int → ByteArray → Int → Int → Int → ByteArray → Int → (List D) → (List D) → (List D) → (List D) → Option (Bool × List D × List D × List D × List D)
  | 0, _, _, _, _, _, _, _, _, _, _, _, _ => none
  | n + 1, z1, z2, s3, z4, z5, z6, s7, z8, l9, l10, l11, l12 =>
    (if z1 = z5 then (if z2 = z6 then (if s3 = s7 then (if z4 = z8 then bO3 (F18x1 n l10 l12) fun b13 l14 l15 => (if b13 = true then bO3 (F19x1 n l9 l11) fun b16 l17 l18 => some (b16, l17, l14, l18, l15) else some (false, l9, l14, l11, l15)) else some (false, l9, l10, l11, l12)) else some (false, l9, l10, l11, l12)) else some (false, l9, l10, l11, l12)) else some (false, l9, l10, l11, l12))
end
set_option maxRecDepth 100000 in
set_option maxHeartbeats 40000000 in
theorem G19x1 (n : Nat) : (∀ ⦃l1 : List D⦄ ⦃l2 : List D⦄ ⦃r1 : Bool⦄ ⦃r2 : List D⦄ ⦃r3 : List D⦄, F19x1 n l1 l2 = some (r1, r2, r3) →
    Trip Try.prog inv 19 [.c (.ow (.ext 0)), .c (.ow (.ext 1))] [.tree .row true 6 l1 none, .tree .row true 6 l2 none] (.v (.d (.bool r1))) [.tree .row true 6 r2 none, .tree .row true 6 r3 none] []) ∧
    (∀ ⦃z1 : Int⦄ ⦃z2 : Int⦄ ⦃s3 : ByteArray⦄ ⦃z4 : Int⦄ ⦃z5 : Int⦄ ⦃z6 : Int⦄ ⦃s7 : ByteArray⦄ ⦃z8 : Int⦄ ⦃l9 : List D⦄ ⦃l10 : List D⦄ ⦃l11 : List D⦄ ⦃l12 : List D⦄ ⦃r1 : Bool⦄ ⦃r2 : List D⦄ ⦃r3 : List D⦄ ⦃r4 : List D⦄ ⦃r5 : List D⦄, F10x1 n z1 z2 s3 z4 z5 z6 s7 z8 l9 l10 l11 l12 = some (r1, r2, r3, r4, r5) →
    Trip Try.prog inv 10 [.agg [.d (.int .u8 z1), .d (.int .i64 z2), .d (.str s3), .ow (.ext 0), .d (.int .i64 z4), .ow (.ext 1)], .agg [.d (.int .u8 z5), .d (.int .i64 z6), .d (.str s7), .ow (.ext 2), .d (.int .i64 z8), .ow (.ext 3)]] [.tree .row true 6 l9 none, .tree .row false 1 l10 none, .tree .row true 6 l11 none, .tree .row false 1 l12 none] (.v (.d (.bool r1))) [.tree .row true 6 r2 none, .tree .row false 1 r3 none, .tree .row true 6 r4 none, .tree .row false 1 r5 none] []) := by
  induction n using Nat.strongRecOn with
  | _ n ih =>
    cases n with
    | zero =>
      refine ⟨?_, ?_⟩
      · intro l1 l2 r1 r2 r3 h
        cases (show (none : Option _) = some _ from h)
      · intro z1 z2 s3 z4 z5 z6 s7 z8 l9 l10 l11 l12 r1 r2 r3 r4 r5 h
        cases (show (none : Option _) = some _ from h)
    | succ n =>
      refine ⟨?_, ?_⟩
      · intro l1 l2 r1 r2 r3 h
        rw [F19x1] at h
        refine Trip.of tab_ok tab_one fol Try.func19 rfl (by kernel_rfl) rfl rfl rfl (fun M hM hI => ?_)
        try cbv
        refine seq_go ?_
        try cbv
        refine seq_go ?_
        try cbv
        refine seq_join (T := Nat × Bool) (fun t => ⟨[(0, .v (.c (.ow (.ext 0)))), (1, .v (.c (.ow (.ext 1)))), (4, .v (.d (.bool false))), (10, .v (.d (.bool t.2)))], [(.ext 0, .tree .row true 6 l1 none), (.ext 1, .tree .row true 6 l2 none)], 192⟩) (fun t => t.1 ≤ n ∧ L19x1_1 t.1 l1 l2 t.2 = some (r1, r2, r3)) ?_ ?_
        · try cbv
          replace h := lenF_inv M h
          obtain ⟨z3, hz, h⟩ := h
          refine ⟨false, ?_⟩
          try cbv
          refine ⟨z3, hz, ?_⟩
          clear hz
          try cbv
          replace h := lenF_inv M h
          obtain ⟨z4, hz, h⟩ := h
          refine ⟨false, ?_⟩
          try cbv
          refine ⟨z4, hz, ?_⟩
          clear hz
          try cbv
          refine splitI (fun e => ?_) (fun e => ?_)
          · replace h := ite_t e h
            clear e
            try cbv
            exact join_next (n, false) [0, 1, 4, 10] [.ext 0, .ext 1] 192 ⟨by omega, h⟩ (by cbv)
          · replace h := ite_f e h
            clear e
            try cbv
            exact join_next (n, true) [0, 1, 4, 10] [.ext 0, .ext 1] 192 ⟨by omega, h⟩ (by cbv)
        · clear h
          rintro ⟨m1, b5⟩ ⟨hm1, h⟩
          replace hm1 : m1 ≤ n := hm1
          cases m1 with
          | zero =>
            replace h : L19x1_1 0 l1 l2 b5 = some (r1, r2, r3) := h
            rw [L19x1_1] at h
            cases h
          | succ m1 =>
            replace h : L19x1_1 (m1 + 1) l1 l2 b5 = some (r1, r2, r3) := h
            rw [L19x1_1] at h
            try cbv
            cases b5
            · replace h := ite_f Bool.false_ne_true h
              try cbv
              refine seq_go ?_
              try cbv
              refine seq_go ?_
              try cbv
              refine loop_invG (T := Nat × Int × List D × List D) [] [] [0, 1, 4, 5] [.ext 0, .ext 1] 224 (fun t => ⟨[(0, .v (.c (.ow (.ext 0)))), (1, .v (.c (.ow (.ext 1)))), (4, .v (.d (.bool false))), (5, .v (.d (.int .i64 t.2.1)))], [(.ext 0, .tree .row true 6 t.2.2.1 none), (.ext 1, .tree .row true 6 t.2.2.2 none)], 224⟩)
                (fun t => t.1 ≤ m1 ∧ L19x1_2 t.1 t.2.1 t.2.2.1 t.2.2.2 = some (r1, r2, r3)) (fun t => t.1) (m1, ((0 : Int), l1, l2)) ⟨Nat.le_refl _, h⟩ (by cbv) ?_
              clear h
              rintro ⟨m2, z6, l7, l8⟩ ⟨hm2, h⟩
              replace hm2 : m2 ≤ m1 := hm2
              cases m2 with
              | zero =>
                replace h : L19x1_2 0 z6 l7 l8 = some (r1, r2, r3) := h
                rw [L19x1_2] at h
                cases h
              | succ m2 =>
                replace h : L19x1_2 (m2 + 1) z6 l7 l8 = some (r1, r2, r3) := h
                rw [L19x1_2] at h
                try cbv
                refine seq_go ?_
                try cbv
                refine seq_join (T := Nat × Bool) (fun t => ⟨[(0, .v (.c (.ow (.ext 0)))), (1, .v (.c (.ow (.ext 1)))), (4, .v (.d (.bool false))), (5, .v (.d (.int .i64 z6))), (14, .v (.d (.bool t.2)))], [(.ext 0, .tree .row true 6 l7 none), (.ext 1, .tree .row true 6 l8 none)], 352⟩) (fun t => t.1 ≤ m2 ∧ L19x1_3 t.1 z6 l7 l8 t.2 = some (r1, r2, r3)) ?_ ?_
                · try cbv
                  replace h := lenF_inv M h
                  obtain ⟨z9, hz, h⟩ := h
                  refine ⟨false, ?_⟩
                  try cbv
                  refine ⟨z9, hz, ?_⟩
                  clear hz
                  try cbv
                  refine splitL (fun e => ?_) (fun e => ?_)
                  · replace h := ite_t e h
                    clear e
                    try cbv
                    exact join_next (m2, true) [0, 1, 4, 5, 14] [.ext 0, .ext 1] 352 ⟨by omega, h⟩ (by cbv)
                  · replace h := ite_f (Int.not_lt.2 e) h
                    clear e
                    try cbv
                    exact join_next (m2, false) [0, 1, 4, 5, 14] [.ext 0, .ext 1] 352 ⟨by omega, h⟩ (by cbv)
                · clear h
                  rintro ⟨m3, b10⟩ ⟨hm3, h⟩
                  replace hm3 : m3 ≤ m2 := hm3
                  cases m3 with
                  | zero =>
                    replace h : L19x1_3 0 z6 l7 l8 b10 = some (r1, r2, r3) := h
                    rw [L19x1_3] at h
                    cases h
                  | succ m3 =>
                    replace h : L19x1_3 (m3 + 1) z6 l7 l8 b10 = some (r1, r2, r3) := h
                    rw [L19x1_3] at h
                    try cbv
                    cases b10
                    · replace h := ite_f Bool.false_ne_true h
                      try cbv
                      refine seq_go ?_
                      try cbv
                      obtain ⟨rfl, rfl, rfl⟩ := inj3 h
                      refine fin_go ?_
                      try cbv
                      exact ⟨[], rfl, rfl, ⟨rfl, ⟨rfl, trivial⟩⟩, trivial, trivial⟩
                    · replace h := ite_t rfl h
                      try cbv
                      refine seq_go ?_
                      try cbv
                      refine seq_go ?_
                      try cbv
                      replace h := needF_inv h
                      obtain ⟨hn, h⟩ := h
                      refine ⟨(M.lock_iff _).2 hn, ?_⟩
                      clear hn
                      try cbv
                      refine ⟨[], ?_⟩
                      try cbv
                      replace h := getN_inv h
                      obtain ⟨x11, hx, h⟩ := h
                      replace h := ds_t25_inv h
                      obtain ⟨z12, z13, s14, l15, z16, l17, rfl, h⟩ := h
                      refine ⟨_, hx, ?_⟩
                      clear hx
                      try cbv
                      refine ⟨false, ?_⟩
                      try cbv
                      replace h := needF_inv h
                      obtain ⟨hn, h⟩ := h
                      refine ⟨(M.lock_iff _).2 hn, ?_⟩
                      clear hn
                      try cbv
                      refine ⟨[], ?_⟩
                      try cbv
                      replace h := getN_inv h
                      obtain ⟨x18, hx, h⟩ := h
                      replace h := ds_t25_inv h
                      obtain ⟨z19, z20, s21, l22, z23, l24, rfl, h⟩ := h
                      refine ⟨_, hx, ?_⟩
                      clear hx
                      try cbv
                      refine ⟨false, ?_⟩
                      try cbv
                      replace h := bO5_inv h
                      obtain ⟨b25, l26, l27, l28, l29, hr, h⟩ := h
                      first | refine .inr (.inl ⟨[], ?_⟩) | refine .inl ⟨[], ?_⟩
                      try cbv
                      refine call_with hM hI [.loc 451, .loc 453, .loc 579, .loc 581] ((ih _ (by omega)).2 hr) rfl (by simp) ⟨rfl, ⟨rfl, ⟨rfl, ⟨rfl, trivial⟩⟩⟩⟩ ⟨trivial, ⟨trivial, ⟨trivial, ⟨trivial, trivial⟩⟩⟩⟩ (by simp) ?_
                      clear hr
                      try cbv
                      replace h := letB_inv h
                      obtain ⟨b30, hz, h⟩ := h
                      refine ⟨b30, not_eq' hz, ?_⟩
                      clear hz
                      try cbv
                      refine drawn ?_ ?_
                      · show _ = true
                        kernel_rfl
                      try cbv
                      cases b30
                      · replace h := ite_f Bool.false_ne_true h
                        try cbv
                        replace h := letF_inv h
                        obtain ⟨z33, hz, h⟩ := h
                        refine ⟨z33, hz, ?_⟩
                        clear hz
                        try cbv
                        replace h := setF_inv h
                        obtain ⟨l34, hl34, h⟩ := h
                        replace h := setF_inv h
                        obtain ⟨l35, hl35, h⟩ := h
                        refine loop_nextG (m3, (z33, l34, l35)) [.close (.ext 0), .close (.ext 1)] [] [0, 1, 4, 5] [.ext 0, .ext 1] 224 ⟨by omega, h⟩ (Nat.lt_succ_of_le (by omega)) ?_
                        try cbv
                        refine ⟨l34, hl34, ?_⟩
                        clear hl34
                        try cbv
                        refine ⟨l35, hl35, ?_⟩
                        clear hl35
                        try cbv
                        first | done | exact rfl | cbv
                      · replace h := ite_t rfl h
                        try cbv
                        refine seq_go ?_
                        try cbv
                        replace h := setF_inv h
                        obtain ⟨l31, hl31, h⟩ := h
                        replace h := setF_inv h
                        obtain ⟨l32, hl32, h⟩ := h
                        obtain ⟨rfl, rfl, rfl⟩ := inj3 h
                        refine ⟨_, _, _, ⟨rfl, rfl, rfl⟩, [.close (.ext 0), .close (.ext 1)], ?_⟩
                        try cbv
                        refine ⟨l31, hl31, ?_⟩
                        clear hl31
                        try cbv
                        refine ⟨l32, hl32, ?_⟩
                        clear hl32
                        try cbv
                        exact ⟨[], rfl, rfl, ⟨rfl, ⟨rfl, trivial⟩⟩, trivial, trivial⟩
            · replace h := ite_t rfl h
              try cbv
              refine seq_go ?_
              try cbv
              obtain ⟨rfl, rfl, rfl⟩ := inj3 h
              refine fin_go ?_
              try cbv
              exact ⟨[], rfl, rfl, ⟨rfl, ⟨rfl, trivial⟩⟩, trivial, trivial⟩
      · intro z1 z2 s3 z4 z5 z6 s7 z8 l9 l10 l11 l12 r1 r2 r3 r4 r5 h
        rw [F10x1] at h
        refine Trip.of tab_ok tab_one fol Try.func10 rfl (by kernel_rfl) rfl rfl rfl (fun M hM hI => ?_)
        try cbv
        refine seq_go ?_
        try cbv
        refine seq_go ?_
        try cbv
        refine splitI (fun e => ?_) (fun e => ?_)
        · replace h := ite_t e h
          clear e
          try cbv
          refine splitI (fun e => ?_) (fun e => ?_)
          · replace h := ite_t e h
            clear e
            try cbv
            refine splitS (fun e => ?_) (fun e => ?_)
            · replace h := ite_t (bytes_eq.1 e) h
              clear e
              try cbv
              refine splitI (fun e => ?_) (fun e => ?_)
              · replace h := ite_t e h
                clear e
                try cbv
                replace h := bO3_inv h
                obtain ⟨b13, l14, l15, hr, h⟩ := h
                refine call_go rfl rfl ?_
                try cbv
                refine call_with hM hI [.ext 1, .ext 3] (T18x1 _ hr) rfl (by simp) ⟨rfl, ⟨rfl, trivial⟩⟩ ⟨trivial, ⟨trivial, trivial⟩⟩ (by simp) ?_
                clear hr
                try cbv
                cases b13
                · replace h := ite_f Bool.false_ne_true h
                  try cbv
                  obtain ⟨rfl, rfl, rfl, rfl, rfl⟩ := inj5 h
                  refine fin_go ?_
                  try cbv
                  exact ⟨[], rfl, rfl, ⟨rfl, ⟨rfl, ⟨rfl, ⟨rfl, trivial⟩⟩⟩⟩, trivial, trivial⟩
                · replace h := ite_t rfl h
                  try cbv
                  replace h := bO3_inv h
                  obtain ⟨b16, l17, l18, hr, h⟩ := h
                  refine call_go rfl rfl ?_
                  try cbv
                  refine call_with hM hI [.ext 0, .ext 2] ((ih _ (by omega)).1 hr) rfl (by simp) ⟨rfl, ⟨rfl, trivial⟩⟩ ⟨trivial, ⟨trivial, trivial⟩⟩ (by simp) ?_
                  clear hr
                  try cbv
                  obtain ⟨rfl, rfl, rfl, rfl, rfl⟩ := inj5 h
                  refine fin_go ?_
                  try cbv
                  exact ⟨[], rfl, rfl, ⟨rfl, ⟨rfl, ⟨rfl, ⟨rfl, trivial⟩⟩⟩⟩, trivial, trivial⟩
              · replace h := ite_f e h
                clear e
                try cbv
                obtain ⟨rfl, rfl, rfl, rfl, rfl⟩ := inj5 h
                refine fin_go ?_
                try cbv
                exact ⟨[], rfl, rfl, ⟨rfl, ⟨rfl, ⟨rfl, ⟨rfl, trivial⟩⟩⟩⟩, trivial, trivial⟩
            · replace h := ite_f (bytes_ne.1 e) h
              clear e
              try cbv
              obtain ⟨rfl, rfl, rfl, rfl, rfl⟩ := inj5 h
              refine fin_go ?_
              try cbv
              exact ⟨[], rfl, rfl, ⟨rfl, ⟨rfl, ⟨rfl, ⟨rfl, trivial⟩⟩⟩⟩, trivial, trivial⟩
          · replace h := ite_f e h
            clear e
            try cbv
            obtain ⟨rfl, rfl, rfl, rfl, rfl⟩ := inj5 h
            refine fin_go ?_
            try cbv
            exact ⟨[], rfl, rfl, ⟨rfl, ⟨rfl, ⟨rfl, ⟨rfl, trivial⟩⟩⟩⟩, trivial, trivial⟩
        · replace h := ite_f e h
          clear e
          try cbv
          obtain ⟨rfl, rfl, rfl, rfl, rfl⟩ := inj5 h
          refine fin_go ?_
          try cbv
          exact ⟨[], rfl, rfl, ⟨rfl, ⟨rfl, ⟨rfl, ⟨rfl, trivial⟩⟩⟩⟩, trivial, trivial⟩
theorem T10x1 (n : Nat) : ∀ ⦃z1 : Int⦄ ⦃z2 : Int⦄ ⦃s3 : ByteArray⦄ ⦃z4 : Int⦄ ⦃z5 : Int⦄ ⦃z6 : Int⦄ ⦃s7 : ByteArray⦄ ⦃z8 : Int⦄ ⦃l9 : List D⦄ ⦃l10 : List D⦄ ⦃l11 : List D⦄ ⦃l12 : List D⦄ ⦃r1 : Bool⦄ ⦃r2 : List D⦄ ⦃r3 : List D⦄ ⦃r4 : List D⦄ ⦃r5 : List D⦄, F10x1 n z1 z2 s3 z4 z5 z6 s7 z8 l9 l10 l11 l12 = some (r1, r2, r3, r4, r5) →
    Trip Try.prog inv 10 [.agg [.d (.int .u8 z1), .d (.int .i64 z2), .d (.str s3), .ow (.ext 0), .d (.int .i64 z4), .ow (.ext 1)], .agg [.d (.int .u8 z5), .d (.int .i64 z6), .d (.str s7), .ow (.ext 2), .d (.int .i64 z8), .ow (.ext 3)]] [.tree .row true 6 l9 none, .tree .row false 1 l10 none, .tree .row true 6 l11 none, .tree .row false 1 l12 none] (.v (.d (.bool r1))) [.tree .row true 6 r2 none, .tree .row false 1 r3 none, .tree .row true 6 r4 none, .tree .row false 1 r5 none] [] := (G19x1 n).2
end Go.Proofs.Ytagiiaejijihoaa
end

set_option linter.unusedVariables false
noncomputable section
namespace Go.Proofs.Ytagiiaejijihoaa
open Go Go.AM
mutual
def L18x2_2 : Nat → (List D) → (List D) → Int → Option (Bool)
  | 0, _, _, _ => none
  | n + 1, l1, l2, z6 =>
    lenF l1 fun z7 => (if z6 < z7 then L18x2_3 n l1 l2 z6 true else L18x2_3 n l1 l2 z6 false)
def L18x2_3 : Nat → (List D) → (List D) → Int → Bool → Option (Bool)
  | 0, _, _, _, _ => none
  | n + 1, l1, l2, z6, b8 =>
    (if b8 = true then getF l1 z6 fun x9 => ds_i64 x9 fun z10 => getF l2 z6 fun x11 => ds_i64 x11 fun z12 => (if z10 = z12 then L18x2_4 n l1 l2 z6 false else L18x2_4 n l1 l2 z6 true) else some true)
def L18x2_4 : Nat → (List D) → (List D) → Int → Bool → Option (Bool)
  | 0, _, _, _, _ => none
  | n + 1, l1, l2, z6, b13 =>
    (if b13 = true then some false else letF (IntKind.wrap .i64 (z6 + 1)) fun z14 => L18x2_2 n l1 l2 z14)
end
def L18x2_1 : Nat → (List D) → (List D) → Bool → Option (Bool)
  | 0, _, _, _ => none
  | n + 1, l1, l2, b5 =>
    (if b5 = true then some false else L18x2_2 n l1 l2 (0 : Int))
def F18x2 (n : Nat) (l1 : List D) (l2 : List D) : Option (Bool) :=
  lenF l1 fun z3 => lenF l2 fun z4 => (if z3 = z4 then L18x2_1 n l1 l2 false else L18x2_1 n l1 l2 true)
set_option maxRecDepth 100000 in
set_option maxHeartbeats 40000000 in
theorem T18x2 (n : Nat) : ∀ ⦃l1 : List D⦄ ⦃l2 : List D⦄ ⦃r1 : Bool⦄, F18x2 n l1 l2 = some r1 →
    Trip Try.prog inv 18 [.d (.list false 1 l1), .d (.list false 1 l2)] [] (.v (.d (.bool r1))) [] [] := by
  intro l1 l2 r1 h
  unfold F18x2 at h
  refine Trip.of tab_ok tab_one fol Try.func18 rfl (by kernel_rfl) rfl rfl rfl (fun M hM hI => ?_)
  try cbv
  refine seq_go ?_
  try cbv
  refine seq_go ?_
  try cbv
  refine seq_join (T := Nat × Bool) (fun t => ⟨[(0, .v (.d (.list false 1 l1))), (1, .v (.d (.list false 1 l2))), (4, .v (.d (.bool false))), (10, .v (.d (.bool t.2)))], [], 192⟩) (fun t => t.1 ≤ n ∧ L18x2_1 t.1 l1 l2 t.2 = some r1) ?_ ?_
  · try cbv
    replace h := lenF_inv M h
    obtain ⟨z3, hz, h⟩ := h
    refine ⟨z3, hz, ?_⟩
    clear hz
    try cbv
    replace h := lenF_inv M h
    obtain ⟨z4, hz, h⟩ := h
    refine ⟨z4, hz, ?_⟩
    clear hz
    try cbv
    refine splitI (fun e => ?_) (fun e => ?_)
    · replace h := ite_t e h
      clear e
      try cbv
      exact join_next (n, false) [0, 1, 4, 10] [] 192 ⟨by omega, h⟩ (by cbv)
    · replace h := ite_f e h
      clear e
      try cbv
      exact join_next (n, true) [0, 1, 4, 10] [] 192 ⟨by omega, h⟩ (by cbv)
  · clear h
    rintro ⟨m1, b5⟩ ⟨hm1, h⟩
    replace hm1 : m1 ≤ n := hm1
    cases m1 with
    | zero =>
      replace h : L18x2_1 0 l1 l2 b5 = some r1 := h
      rw [L18x2_1] at h
      cases h
    | succ m1 =>
      replace h : L18x2_1 (m1 + 1) l1 l2 b5 = some r1 := h
      rw [L18x2_1] at h
      try cbv
      cases b5
      · replace h := ite_f Bool.false_ne_true h
        try cbv
        refine seq_go ?_
        try cbv
        refine seq_go ?_
        try cbv
        refine loop_inv (T := Nat × Int) [0, 1, 4, 5] [] 224 (fun t => ⟨[(0, .v (.d (.list false 1 l1))), (1, .v (.d (.list false 1 l2))), (4, .v (.d (.bool false))), (5, .v (.d (.int .i64 t.2)))], [], 224⟩)
          (fun t => t.1 ≤ m1 ∧ L18x2_2 t.1 l1 l2 t.2 = some r1) (fun t => t.1) (m1, (0 : Int)) ⟨Nat.le_refl _, h⟩ (by cbv) ?_
        clear h
        rintro ⟨m2, z6⟩ ⟨hm2, h⟩
        replace hm2 : m2 ≤ m1 := hm2
        cases m2 with
        | zero =>
          replace h : L18x2_2 0 l1 l2 z6 = some r1 := h
          rw [L18x2_2] at h
          cases h
        | succ m2 =>
          replace h : L18x2_2 (m2 + 1) l1 l2 z6 = some r1 := h
          rw [L18x2_2] at h
          try cbv
          refine seq_go ?_
          try cbv
          refine seq_join (T := Nat × Bool) (fun t => ⟨[(0, .v (.d (.list false 1 l1))), (1, .v (.d (.list false 1 l2))), (4, .v (.d (.bool false))), (5, .v (.d (.int .i64 z6))), (14, .v (.d (.bool t.2)))], [], 352⟩) (fun t => t.1 ≤ m2 ∧ L18x2_3 t.1 l1 l2 z6 t.2 = some r1) ?_ ?_
          · try cbv
            replace h := lenF_inv M h
            obtain ⟨z7, hz, h⟩ := h
            refine ⟨z7, hz, ?_⟩
            clear hz
            try cbv
            refine splitL (fun e => ?_) (fun e => ?_)
            · replace h := ite_t e h
              clear e
              try cbv
              exact join_next (m2, true) [0, 1, 4, 5, 14] [] 352 ⟨by omega, h⟩ (by cbv)
            · replace h := ite_f (Int.not_lt.2 e) h
              clear e
              try cbv
              exact join_next (m2, false) [0, 1, 4, 5, 14] [] 352 ⟨by omega, h⟩ (by cbv)
          · clear h
            rintro ⟨m3, b8⟩ ⟨hm3, h⟩
            replace hm3 : m3 ≤ m2 := hm3
            cases m3 with
            | zero =>
              replace h : L18x2_3 0 l1 l2 z6 b8 = some r1 := h
              rw [L18x2_3] at h
              cases h
            | succ m3 =>
              replace h : L18x2_3 (m3 + 1) l1 l2 z6 b8 = some r1 := h
              rw [L18x2_3] at h
              try cbv
              cases b8
              · replace h := ite_f Bool.false_ne_true h
                try cbv
                refine seq_go ?_
                try cbv
                obtain rfl := Option.some.inj h
                refine fin_go ?_
                try cbv
                exact ⟨[], rfl, rfl, trivial, trivial, trivial⟩
              · replace h := ite_t rfl h
                try cbv
                refine seq_go ?_
                try cbv
                refine seq_join (T := Nat × Bool) (fun t => ⟨[(0, .v (.d (.list false 1 l1))), (1, .v (.d (.list false 1 l2))), (4, .v (.d (.bool false))), (5, .v (.d (.int .i64 z6))), (25, .v (.d (.bool t.2)))], [], 640⟩) (fun t => t.1 ≤ m3 ∧ L18x2_4 t.1 l1 l2 z6 t.2 = some r1) ?_ ?_
                · try cbv
                  replace h := getF_inv h
                  obtain ⟨x9, hx9, h⟩ := h
                  replace h := ds_i64_inv h
                  obtain ⟨z10, rfl, h⟩ := h
                  refine ⟨_, hx9.1, hx9.2, ?_⟩
                  try cbv
                  replace h := getF_inv h
                  obtain ⟨x11, hx11, h⟩ := h
                  replace h := ds_i64_inv h
                  obtain ⟨z12, rfl, h⟩ := h
                  refine ⟨_, hx11.1, hx11.2, ?_⟩
                  try cbv
                  refine splitI (fun e => ?_) (fun e => ?_)
                  · replace h := ite_t e h
                    clear e
                    try cbv
                    refine drawn ?_ ?_
                    · show _ = true
                      kernel_rfl
                    try cbv
                    exact join_next (m3, false) [0, 1, 4, 5, 25] [] 640 ⟨by omega, h⟩ (by cbv)
                  · replace h := ite_f e h
                    clear e
                    try cbv
                    refine drawn ?_ ?_
                    · show _ = true
                      kernel_rfl
                    try cbv
                    exact join_next (m3, true) [0, 1, 4, 5, 25] [] 640 ⟨by omega, h⟩ (by cbv)
                · clear h
                  rintro ⟨m4, b13⟩ ⟨hm4, h⟩
                  replace hm4 : m4 ≤ m3 := hm4
                  cases m4 with
                  | zero =>
                    replace h : L18x2_4 0 l1 l2 z6 b13 = some r1 := h
                    rw [L18x2_4] at h
                    cases h
                  | succ m4 =>
                    replace h : L18x2_4 (m4 + 1) l1 l2 z6 b13 = some r1 := h
                    rw [L18x2_4] at h
                    try cbv
                    cases b13
                    · replace h := ite_f Bool.false_ne_true h
                      try cbv
                      replace h := letF_inv h
                      obtain ⟨z14, hz, h⟩ := h
                      refine ⟨z14, hz, ?_⟩
                      clear hz
                      try cbv
                      exact loop_next (m4, z14) [0, 1, 4, 5] [] 224 ⟨by omega, h⟩ (Nat.lt_succ_of_le (by omega)) (by cbv)
                    · replace h := ite_t rfl h
                      try cbv
                      refine seq_go ?_
                      try cbv
                      obtain rfl := Option.some.inj h
                      refine fin_go ?_
                      try cbv
                      exact ⟨[], rfl, rfl, trivial, trivial, trivial⟩
      · replace h := ite_t rfl h
        try cbv
        refine seq_go ?_
        try cbv
        obtain rfl := Option.some.inj h
        refine fin_go ?_
        try cbv
        exact ⟨[], rfl, rfl, trivial, trivial, trivial⟩
end Go.Proofs.Ytagiiaejijihoaa
end

set_option linter.unusedVariables false
noncomputable section
namespace Go.Proofs.Ytagiiaejijihoaa
open Go Go.AM
mutual
def L19x2_1 : Nat → (List D) → (List D) → Bool → Option (Bool)
  | 0, _, _, _ => none
  | n + 1, l1, l2, b5 =>
    (if b5 = true then some false else L19x2_2 n l1 l2 (0 : Int))
def L19x2_2 : Nat → (List D) → (List D) → Int → Option (Bool)
  | 0, _, _, _ => none
  | n + 1, l1, l2, z6 =>
    lenF l1 fun z7 => (if z6 < z7 then L19x2_3 n l1 l2 z6 true else L19x2_3 n l1 l2 z6 false)
def L19x2_3 : Nat → (List D) → (List D) → Int → Bool → Option (Bool)
  | 0, _, _, _, _ => none
  | n + 1, l1, l2, z6, b8 =>
    (if b8 = true then getF l1 z6 fun x9 => ds_t25 x9 fun z10 z11 s12 l13 z14 l15 => getF l2 z6 fun x16 => ds_t25 x16 fun z17 z18 s19 l20 z21 l22 => bO1 (F10x2 n z10 z11 s12 l13 z14 l15 z17 z18 s19 l20 z21 l22) fun b23 => letB (!b23) fun b24 => (if b24 = true then some false else letF (IntKind.wrap .i64 (z6 + 1)) fun z25 => L19x2_2 n l1 l2 z25) else some true)
def F19x2 : Nat → (List D) → (List D) → Option (Bool)
  | 0, _, _ => none
  | n + 1, l1, l2 =>
    lenF l1 fun z3 => lenF l2 fun z4 => (if z3 = z4 then L19x2_1 n l1 l2 false else L19x2_1 n l1 l2 true)
def F10x2 : Nat → Int → Int → ByteArray → (List D) → Int → (List D) → Int → Int → ByteArray → (List D) → Int → (List D) → Option (Bool)
  | 0, _, _, _, _, _, _, _, _, _, _, _, _ => none
  | n + 1, z1, z2, s3, l4, z5, l6, z7, z8, s9, l10, z11, l12 =>
    (if z1 = z7 then (if z2 = z8 then (if s3 = s9 then (if z5 = z11 then bO1 (F18x2 n l6 l12) fun b13 => (if b13 = true then bO1 (F19x2 n l4 l10) fun b14 => some b14 else some false) else some false) else some false) else some false) else some false)
end
set_option maxRecDepth 100000 in
set_option maxHeartbeats 40000000 in
theorem G19x2 (n : Nat) : (∀ ⦃l1 : List D⦄ ⦃l2 : List D⦄ ⦃r1 : Bool⦄, F19x2 n l1 l2 = some r1 →
    Trip Try.prog inv 19 [.d (.list true 6 l1), .d (.list true 6 l2)] [] (.v (.d (.bool r1))) [] []) ∧
    (∀ ⦃z1 : Int⦄ ⦃z2 : Int⦄ ⦃s3 : ByteArray⦄ ⦃l4 : List D⦄ ⦃z5 : Int⦄ ⦃l6 : List D⦄ ⦃z7 : Int⦄ ⦃z8 : Int⦄ ⦃s9 : ByteArray⦄ ⦃l10 : List D⦄ ⦃z11 : Int⦄ ⦃l12 : List D⦄ ⦃r1 : Bool⦄, F10x2 n z1 z2 s3 l4 z5 l6 z7 z8 s9 l10 z11 l12 = some r1 →
    Trip Try.prog inv 10 [.d (.agg [.int .u8 z1, .int .i64 z2, .str s3, .list true 6 l4, .int .i64 z5, .list false 1 l6]), .d (.agg [.int .u8 z7, .int .i64 z8, .str s9, .list true 6 l10, .int .i64 z11, .list false 1 l12])] [] (.v (.d (.bool r1))) [] []) := by
  induction n using Nat.strongRecOn with
  | _ n ih =>
    cases n with
    | zero =>
      refine ⟨?_, ?_⟩
      · intro l1 l2 r1 h
        cases (show (none : Option _) = some _ from h)
      · intro z1 z2 s3 l4 z5 l6 z7 z8 s9 l10 z11 l12 r1 h
        cases (show (none : Option _) = some _ from h)
    | succ n =>
      refine ⟨?_, ?_⟩
      · intro l1 l2 r1 h
        rw [F19x2] at h
        refine Trip.of tab_ok tab_one fol Try.func19 rfl (by kernel_rfl) rfl rfl rfl (fun M hM hI => ?_)
        try cbv
        refine seq_go ?_
        try cbv
        refine seq_go ?_
        try cbv
        refine seq_join (T := Nat × Bool) (fun t => ⟨[(0, .v (.d (.list true 6 l1))), (1, .v (.d (.list true 6 l2))), (4, .v (.d (.bool false))), (10, .v (.d (.bool t.2)))], [], 192⟩) (fun t => t.1 ≤ n ∧ L19x2_1 t.1 l1 l2 t.2 = some r1) ?_ ?_
        · try cbv
          replace h := lenF_inv M h
          obtain ⟨z3, hz, h⟩ := h
          refine ⟨z3, hz, ?_⟩
          clear hz
          try cbv
          replace h := lenF_inv M h
          obtain ⟨z4, hz, h⟩ := h
          refine ⟨z4, hz, ?_⟩
          clear hz
          try cbv
          refine splitI (fun e => ?_) (fun e => ?_)
          · replace h := ite_t e h
            clear e
            try cbv
            exact join_next (n, false) [0, 1, 4, 10] [] 192 ⟨by omega, h⟩ (by cbv)
          · replace h := ite_f e h
            clear e
            try cbv
            exact join_next (n, true) [0, 1, 4, 10] [] 192 ⟨by omega, h⟩ (by cbv)
        · clear h
          rintro ⟨m1, b5⟩ ⟨hm1, h⟩
          replace hm1 : m1 ≤ n := hm1
          cases m1 with
          | zero =>
            replace h : L19x2_1 0 l1 l2 b5 = some r1 := h
            rw [L19x2_1] at h
            cases h
          | succ m1 =>
            replace h : L19x2_1 (m1 + 1) l1 l2 b5 = some r1 := h
            rw [L19x2_1] at h
            try cbv
            cases b5
            · replace h := ite_f Bool.false_ne_true h
              try cbv
              refine seq_go ?_
              try cbv
              refine seq_go ?_
              try cbv
              refine loop_inv (T := Nat × Int) [0, 1, 4, 5] [] 224 (fun t => ⟨[(0, .v (.d (.list true 6 l1))), (1, .v (.d (.list true 6 l2))), (4, .v (.d (.bool false))), (5, .v (.d (.int .i64 t.2)))], [], 224⟩)
                (fun t => t.1 ≤ m1 ∧ L19x2_2 t.1 l1 l2 t.2 = some r1) (fun t => t.1) (m1, (0 : Int)) ⟨Nat.le_refl _, h⟩ (by cbv) ?_
              clear h
              rintro ⟨m2, z6⟩ ⟨hm2, h⟩
              replace hm2 : m2 ≤ m1 := hm2
              cases m2 with
              | zero =>
                replace h : L19x2_2 0 l1 l2 z6 = some r1 := h
                rw [L19x2_2] at h
                cases h
              | succ m2 =>
                replace h : L19x2_2 (m2 + 1) l1 l2 z6 = some r1 := h
                rw [L19x2_2] at h
                try cbv
                refine seq_go ?_
                try cbv
                refine seq_join (T := Nat × Bool) (fun t => ⟨[(0, .v (.d (.list true 6 l1))), (1, .v (.d (.list true 6 l2))), (4, .v (.d (.bool false))), (5, .v (.d (.int .i64 z6))), (14, .v (.d (.bool t.2)))], [], 352⟩) (fun t => t.1 ≤ m2 ∧ L19x2_3 t.1 l1 l2 z6 t.2 = some r1) ?_ ?_
                · try cbv
                  replace h := lenF_inv M h
                  obtain ⟨z7, hz, h⟩ := h
                  refine ⟨z7, hz, ?_⟩
                  clear hz
                  try cbv
                  refine splitL (fun e => ?_) (fun e => ?_)
                  · replace h := ite_t e h
                    clear e
                    try cbv
                    exact join_next (m2, true) [0, 1, 4, 5, 14] [] 352 ⟨by omega, h⟩ (by cbv)
                  · replace h := ite_f (Int.not_lt.2 e) h
                    clear e
                    try cbv
                    exact join_next (m2, false) [0, 1, 4, 5, 14] [] 352 ⟨by omega, h⟩ (by cbv)
                · clear h
                  rintro ⟨m3, b8⟩ ⟨hm3, h⟩
                  replace hm3 : m3 ≤ m2 := hm3
                  cases m3 with
                  | zero =>
                    replace h : L19x2_3 0 l1 l2 z6 b8 = some r1 := h
                    rw [L19x2_3] at h
                    cases h
                  | succ m3 =>
                    replace h : L19x2_3 (m3 + 1) l1 l2 z6 b8 = some r1 := h
                    rw [L19x2_3] at h
                    try cbv
                    cases b8
                    · replace h := ite_f Bool.false_ne_true h
                      try cbv
                      refine seq_go ?_
                      try cbv
                      obtain rfl := Option.some.inj h
                      refine fin_go ?_
                      try cbv
                      exact ⟨[], rfl, rfl, trivial, trivial, trivial⟩
                    · replace h := ite_t rfl h
                      try cbv
                      refine seq_go ?_
                      try cbv
                      refine seq_go ?_
                      try cbv
                      replace h := getF_inv h
                      obtain ⟨x9, hx9, h⟩ := h
                      replace h := ds_t25_inv h
                      obtain ⟨z10, z11, s12, l13, z14, l15, rfl, h⟩ := h
                      refine ⟨_, hx9.1, hx9.2, ?_⟩
                      try cbv
                      replace h := getF_inv h
                      obtain ⟨x16, hx16, h⟩ := h
                      replace h := ds_t25_inv h
                      obtain ⟨z17, z18, s19, l20, z21, l22, rfl, h⟩ := h
                      refine ⟨_, hx16.1, hx16.2, ?_⟩
                      try cbv
                      replace h := bO1_inv h
                      obtain ⟨b23, hr, h⟩ := h
                      first | refine .inr (.inl ⟨[], ?_⟩) | refine .inl ⟨[], ?_⟩
                      try cbv
                      refine call_pure hM hI ((ih _ (by omega)).2 hr) rfl ?_
                      clear hr
                      try cbv
                      replace h := letB_inv h
                      obtain ⟨b24, hz, h⟩ := h
                      refine ⟨b24, not_eq' hz, ?_⟩
                      clear hz
                      try cbv
                      refine drawn ?_ ?_
                      · show _ = true
                        kernel_rfl
                      try cbv
                      cases b24
                      · replace h := ite_f Bool.false_ne_true h
                        try cbv
                        replace h := letF_inv h
                        obtain ⟨z25, hz, h⟩ := h
                        refine ⟨z25, hz, ?_⟩
                        clear hz
                        try cbv
                        exact loop_next (m3, z25) [0, 1, 4, 5] [] 224 ⟨by omega, h⟩ (Nat.lt_succ_of_le (by omega)) (by cbv)
                      · replace h := ite_t rfl h
                        try cbv
                        refine seq_go ?_
                        try cbv
                        obtain rfl := Option.some.inj h
                        refine fin_go ?_
                        try cbv
                        exact ⟨[], rfl, rfl, trivial, trivial, trivial⟩
            · replace h := ite_t rfl h
              try cbv
              refine seq_go ?_
              try cbv
              obtain rfl := Option.some.inj h
              refine fin_go ?_
              try cbv
              exact ⟨[], rfl, rfl, trivial, trivial, trivial⟩
      · intro z1 z2 s3 l4 z5 l6 z7 z8 s9 l10 z11 l12 r1 h
        rw [F10x2] at h
        refine Trip.of tab_ok tab_one fol Try.func10 rfl (by kernel_rfl) rfl rfl rfl (fun M hM hI => ?_)
        try cbv
        refine seq_go ?_
        try cbv
        refine seq_go ?_
        try cbv
        refine splitI (fun e => ?_) (fun e => ?_)
        · replace h := ite_t e h
          clear e
          try cbv
          refine splitI (fun e => ?_) (fun e => ?_)
          · replace h := ite_t e h
            clear e
            try cbv
            refine splitS (fun e => ?_) (fun e => ?_)
            · replace h := ite_t (bytes_eq.1 e) h
              clear e
              try cbv
              refine splitI (fun e => ?_) (fun e => ?_)
              · replace h := ite_t e h
                clear e
                try cbv
                replace h := bO1_inv h
                obtain ⟨b13, hr, h⟩ := h
                refine call_go rfl rfl ?_
                try cbv
                refine call_pure hM hI (T18x2 _ hr) rfl ?_
                clear hr
                try cbv
                cases b13
                · replace h := ite_f Bool.false_ne_true h
                  try cbv
                  obtain rfl := Option.some.inj h
                  refine fin_go ?_
                  try cbv
                  exact ⟨[], rfl, rfl, trivial, trivial, trivial⟩
                · replace h := ite_t rfl h
                  try cbv
                  replace h := bO1_inv h
                  obtain ⟨b14, hr, h⟩ := h
                  refine call_go rfl rfl ?_
                  try cbv
                  refine call_pure hM hI ((ih _ (by omega)).1 hr) rfl ?_
                  clear hr
                  try cbv
                  obtain rfl := Option.some.inj h
                  refine fin_go ?_
                  try cbv
                  exact ⟨[], rfl, rfl, trivial, trivial, trivial⟩
              · replace h := ite_f e h
                clear e
                try cbv
                obtain rfl := Option.some.inj h
                refine fin_go ?_
                try cbv
                exact ⟨[], rfl, rfl, trivial, trivial, trivial⟩
            · replace h := ite_f (bytes_ne.1 e) h
              clear e
              try cbv
              obtain rfl := Option.some.inj h
              refine fin_go ?_
              try cbv
              exact ⟨[], rfl, rfl, trivial, trivial, trivial⟩
          · replace h := ite_f e h
            clear e
            try cbv
            obtain rfl := Option.some.inj h
            refine fin_go ?_
            try cbv
            exact ⟨[], rfl, rfl, trivial, trivial, trivial⟩
        · replace h := ite_f e h
          clear e
          try cbv
          obtain rfl := Option.some.inj h
          refine fin_go ?_
          try cbv
          exact ⟨[], rfl, rfl, trivial, trivial, trivial⟩
theorem T10x2 (n : Nat) : ∀ ⦃z1 : Int⦄ ⦃z2 : Int⦄ ⦃s3 : ByteArray⦄ ⦃l4 : List D⦄ ⦃z5 : Int⦄ ⦃l6 : List D⦄ ⦃z7 : Int⦄ ⦃z8 : Int⦄ ⦃s9 : ByteArray⦄ ⦃l10 : List D⦄ ⦃z11 : Int⦄ ⦃l12 : List D⦄ ⦃r1 : Bool⦄, F10x2 n z1 z2 s3 l4 z5 l6 z7 z8 s9 l10 z11 l12 = some r1 →
    Trip Try.prog inv 10 [.d (.agg [.int .u8 z1, .int .i64 z2, .str s3, .list true 6 l4, .int .i64 z5, .list false 1 l6]), .d (.agg [.int .u8 z7, .int .i64 z8, .str s9, .list true 6 l10, .int .i64 z11, .list false 1 l12])] [] (.v (.d (.bool r1))) [] [] := (G19x2 n).2
end Go.Proofs.Ytagiiaejijihoaa
end

set_option linter.unusedVariables false
noncomputable section
namespace Go.Proofs.Ytagiiaejijihoaa
open Go Go.AM
mutual
def L12_1 : Nat → (List D) → Int → Int → Option (Int)
  | 0, _, _, _ => none
  | n + 1, l1, z3, z4 =>
    lenF l1 fun z5 => (if z4 < z5 then (if (0 : Int) ≤ z3 then L12_2 n l1 z3 z4 true else L12_2 n l1 z3 z4 false) else L12_2 n l1 z3 z4 false)
def L12_2 : Nat → (List D) → Int → Int → Bool → Option (Int)
  | 0, _, _, _, _ => none
  | n + 1, l1, z3, z4, b6 =>
    (if b6 = true then getF l1 z4 fun x7 => ds_t25 x7 fun z8 z9 s10 l11 z12 l13 => letF (IntKind.wrap .i64 (z3 - 10)) fun z14 => (if z14 < (0 : Int) then L12_3 n l1 z4 s10 l11 l13 z14 true else szF s10 fun z15 => (if z14 < z15 then L12_3 n l1 z4 s10 l11 l13 z14 true else lenF l13 fun z16 => szF s10 fun z17 => letF (IntKind.wrap .i64 (z14 - z17)) fun z18 => (if z18 < z16 then L12_3 n l1 z4 s10 l11 l13 z14 true else L12_3 n l1 z4 s10 l11 l13 z14 false))) else some z3)
def L12_3 : Nat → (List D) → Int → ByteArray → (List D) → (List D) → Int → Bool → Option (Int)
  | 0, _, _, _, _, _, _, _ => none
  | n + 1, l1, z4, s10, l11, l13, z14, b19 =>
    (if b19 = true then some (-1 : Int) else szF s10 fun z20 => letF (IntKind.wrap .i64 (z14 - z20)) fun z21 => lenF l13 fun z22 => letF (IntKind.wrap .i64 (z21 - z22)) fun z23 => bO1 (F12 n l11 z23) fun z24 => letF (IntKind.wrap .i64 (z4 + 1)) fun z25 => L12_1 n l1 z24 z25)
def F12 : Nat → (List D) → Int → Option (Int)
  | 0, _, _ => none
  | n + 1, l1, z2 =>
    L12_1 n l1 z2 (0 : Int)
end
set_option maxRecDepth 100000 in
set_option maxHeartbeats 40000000 in
theorem T12 (n : Nat) : ∀ ⦃l1 : List D⦄ ⦃z2 : Int⦄ ⦃r1 : Int⦄, F12 n l1 z2 = some r1 →
    Trip Try.prog inv 12 [.d (.list true 6 l1), .d (.int .i64 z2)] [] (.v (.d (.int .i64 r1))) [] [] := by
  induction n using Nat.strongRecOn with
  | _ n ih =>
    cases n with
    | zero =>
      intro l1 z2 r1 h
      cases (show (none : Option _) = some _ from h)
    | succ n =>
      intro l1 z2 r1 h
      rw [F12] at h
      refine Trip.of tab_ok tab_one fol Try.func12 rfl (by kernel_rfl) rfl rfl rfl (fun M hM hI => ?_)
      try cbv
      refine seq_go ?_
      try cbv
      refine seq_go ?_
      try cbv
      refine seq_go ?_
      try cbv
      refine loop_inv (T := Nat × Int × Int) [0, 1, 4, 5] [] 64 (fun t => ⟨[(0, .v (.d (.list true 6 l1))), (1, .v (.d (.int .i64 t.2.1))), (4, .v (.d (.int .i64 0))), (5, .v (.d (.int .i64 t.2.2)))], [], 64⟩)
        (fun t => t.1 ≤ n ∧ L12_1 t.1 l1 t.2.1 t.2.2 = some r1) (fun t => t.1) (n, (z2, (0 : Int))) ⟨Nat.le_refl _, h⟩ (by cbv) ?_
      clear h
      rintro ⟨m1, z3, z4⟩ ⟨hm1, h⟩
      replace hm1 : m1 ≤ n := hm1
      cases m1 with
      | zero =>
        replace h : L12_1 0 l1 z3 z4 = some r1 := h
        rw [L12_1] at h
        cases h
      | succ m1 =>
        replace h : L12_1 (m1 + 1) l1 z3 z4 = some r1 := h
        rw [L12_1] at h
        try cbv
        refine seq_go ?_
        try cbv
        refine seq_join (T := Nat × Bool) (fun t => ⟨[(0, .v (.d (.list true 6 l1))), (1, .v (.d (.int .i64 z3))), (4, .v (.d (.int .i64 0))), (5, .v (.d (.int .i64 z4))), (14, .v (.d (.bool t.2)))], [], 320⟩) (fun t => t.1 ≤ m1 ∧ L12_2 t.1 l1 z3 z4 t.2 = some r1) ?_ ?_
        · try cbv
          replace h := lenF_inv M h
          obtain ⟨z5, hz, h⟩ := h
          refine ⟨z5, hz, ?_⟩
          clear hz
          try cbv
          refine splitL (fun e => ?_) (fun e => ?_)
          · replace h := ite_t e h
            clear e
            try cbv
            refine splitLe (fun e => ?_) (fun e => ?_)
            · replace h := ite_t e h
              clear e
              try cbv
              exact join_next (m1, true) [0, 1, 4, 5, 14] [] 320 ⟨by omega, h⟩ (by cbv)
            · replace h := ite_f (Int.not_le.2 e) h
              clear e
              try cbv
              exact join_next (m1, false) [0, 1, 4, 5, 14] [] 320 ⟨by omega, h⟩ (by cbv)
          · replace h := ite_f (Int.not_lt.2 e) h
            clear e
            try cbv
            exact join_next (m1, false) [0, 1, 4, 5, 14] [] 320 ⟨by omega, h⟩ (by cbv)
        · clear h
          rintro ⟨m2, b6⟩ ⟨hm2, h⟩
          replace hm2 : m2 ≤ m1 := hm2
          cases m2 with
          | zero =>
            replace h : L12_2 0 l1 z3 z4 b6 = some r1 := h
            rw [L12_2] at h
            cases h
          | succ m2 =>
            replace h : L12_2 (m2 + 1) l1 z3 z4 b6 = some r1 := h
            rw [L12_2] at h
            try cbv
            cases b6
            · replace h := ite_f Bool.false_ne_true h
              try cbv
              refine seq_go ?_
              try cbv
              obtain rfl := Option.some.inj h
              refine fin_go ?_
              try cbv
              exact ⟨[], rfl, rfl, trivial, trivial, trivial⟩
            · replace h := ite_t rfl h
              try cbv
              refine seq_go ?_
              try cbv
              refine seq_go ?_
              try cbv
              replace h := getF_inv h
              obtain ⟨x7, hx7, h⟩ := h
              replace h := ds_t25_inv h
              obtain ⟨z8, z9, s10, l11, z12, l13, rfl, h⟩ := h
              refine ⟨_, hx7.1, hx7.2, ?_⟩
              try cbv
              refine seq_go ?_
              try cbv
              replace h := letF_inv h
              obtain ⟨z14, hz, h⟩ := h
              refine ⟨z14, hz, ?_⟩
              clear hz
              try cbv
              refine seq_go ?_
              try cbv
              refine seq_join (T := Nat × Bool) (fun t => ⟨[(0, .v (.d (.list true 6 l1))), (1, .v (.d (.int .i64 z14))), (4, .v (.d (.int .i64 0))), (5, .v (.d (.int .i64 z4))), (6, .v (.c (.ptr (.loc 448) 0))), (42, .v (.d (.bool t.2)))], [(.loc 448, .cells [.d (.int .u8 z8), .d (.int .i64 z9), .d (.str s10), .d (.list true 6 l11), .d (.int .i64 z12), .d (.list false 1 l13)])], 1248⟩) (fun t => t.1 ≤ m2 ∧ L12_3 t.1 l1 z4 s10 l11 l13 z14 t.2 = some r1) ?_ ?_
              · try cbv
                refine splitL (fun e => ?_) (fun e => ?_)
                · replace h := ite_t e h
                  clear e
                  try cbv
                  exact join_next (m2, true) [0, 1, 4, 5, 6, 42] [.loc 448] 1248 ⟨by omega, h⟩ (by cbv)
                · replace h := ite_f (Int.not_lt.2 e) h
                  clear e
                  try cbv
                  replace h := szF_inv M h
                  obtain ⟨z15, hz, h⟩ := h
                  refine ⟨z15, hz, ?_⟩
                  clear hz
                  try cbv
                  refine splitL (fun e => ?_) (fun e => ?_)
                  · replace h := ite_t e h
                    clear e
                    try cbv
                    exact join_next (m2, true) [0, 1, 4, 5, 6, 42] [.loc 448] 1248 ⟨by omega, h⟩ (by cbv)
                  · replace h := ite_f (Int.not_lt.2 e) h
                    clear e
                    try cbv
                    replace h := lenF_inv M h
                    obtain ⟨z16, hz, h⟩ := h
                    refine ⟨z16, hz, ?_⟩
                    clear hz
                    try cbv
                    replace h := szF_inv M h
                    obtain ⟨z17, hz, h⟩ := h
                    refine ⟨z17, hz, ?_⟩
                    clear hz
                    try cbv
                    replace h := letF_inv h
                    obtain ⟨z18, hz, h⟩ := h
                    refine ⟨z18, hz, ?_⟩
                    clear hz
                    try cbv
                    refine splitL (fun e => ?_) (fun e => ?_)
                    · replace h := ite_t e h
                      clear e
                      try cbv
                      exact join_next (m2, true) [0, 1, 4, 5, 6, 42] [.loc 448] 1248 ⟨by omega, h⟩ (by cbv)
                    · replace h := ite_f (Int.not_lt.2 e) h
                      clear e
                      try cbv
                      exact join_next (m2, false) [0, 1, 4, 5, 6, 42] [.loc 448] 1248 ⟨by omega, h⟩ (by cbv)
              · clear h
                rintro ⟨m3, b19⟩ ⟨hm3, h⟩
                replace hm3 : m3 ≤ m2 := hm3
                cases m3 with
                | zero =>
                  replace h : L12_3 0 l1 z4 s10 l11 l13 z14 b19 = some r1 := h
                  rw [L12_3] at h
                  cases h
                | succ m3 =>
                  replace h : L12_3 (m3 + 1) l1 z4 s10 l11 l13 z14 b19 = some r1 := h
                  rw [L12_3] at h
                  try cbv
                  cases b19
                  · replace h := ite_f Bool.false_ne_true h
                    try cbv
                    replace h := szF_inv M h
                    obtain ⟨z20, hz, h⟩ := h
                    refine ⟨z20, hz, ?_⟩
                    clear hz
                    try cbv
                    replace h := letF_inv h
                    obtain ⟨z21, hz, h⟩ := h
                    refine ⟨z21, hz, ?_⟩
                    clear hz
                    try cbv
                    replace h := lenF_inv M h
                    obtain ⟨z22, hz, h⟩ := h
                    refine ⟨z22, hz, ?_⟩
                    clear hz
                    try cbv
                    replace h := letF_inv h
                    obtain ⟨z23, hz, h⟩ := h
                    refine ⟨z23, hz, ?_⟩
                    clear hz
                    try cbv
                    replace h := bO1_inv h
                    obtain ⟨z24, hr, h⟩ := h
                    refine call_go rfl rfl ?_
                    try cbv
                    refine call_pure hM hI ((ih _ (by omega)) hr) rfl ?_
                    clear hr
                    try cbv
                    replace h := letF_inv h
                    obtain ⟨z25, hz, h⟩ := h
                    refine ⟨z25, hz, ?_⟩
                    clear hz
                    try cbv
                    exact loop_next (m3, (z24, z25)) [0, 1, 4, 5] [] 64 ⟨by omega, h⟩ (Nat.lt_succ_of_le (by omega)) (by cbv)
                  · replace h := ite_t rfl h
                    try cbv
                    refine seq_go ?_
                    try cbv
                    obtain rfl := Option.some.inj h
                    refine fin_go ?_
                    try cbv
                    exact ⟨[], rfl, rfl, trivial, trivial, trivial⟩
end Go.Proofs.Ytagiiaejijihoaa
end

set_option linter.unusedVariables false
noncomputable section
namespace Go.Proofs.Ytagiiaejijihoaa
open Go Go.AM
def F4 (n : Nat) (z1 : Int) (z2 : Int) (s3 : ByteArray) (l4 : List D) (z5 : Int) (l6 : List D) (z7 : Int) (z8 : Int) (s9 : ByteArray) (l10 : List D) (z11 : Int) (l12 : List D) (l13 : List D) : Option (Bool) :=
  lenF l13 fun z14 => (if (100 : Int) < z14 then some true else bO1 (F12 n ([.agg [.int .u8 z1, .int .i64 z2, .str s3, .list true 6 l4, .int .i64 z5, .list false 1 l6]]) (5000 : Int)) fun z15 => bO1 (F12 n ([.agg [.int .u8 z7, .int .i64 z8, .str s9, .list true 6 l10, .int .i64 z11, .list false 1 l12]]) z15) fun z16 => (if z16 < (0 : Int) then some true else some false))
set_option maxRecDepth 100000 in
set_option maxHeartbeats 40000000 in
theorem T4 (n : Nat) : ∀ ⦃z1 : Int⦄ ⦃z2 : Int⦄ ⦃s3 : ByteArray⦄ ⦃l4 : List D⦄ ⦃z5 : Int⦄ ⦃l6 : List D⦄ ⦃z7 : Int⦄ ⦃z8 : Int⦄ ⦃s9 : ByteArray⦄ ⦃l10 : List D⦄ ⦃z11 : Int⦄ ⦃l12 : List D⦄ ⦃l13 : List D⦄ ⦃r1 : Bool⦄, F4 n z1 z2 s3 l4 z5 l6 z7 z8 s9 l10 z11 l12 l13 = some r1 →
    Trip Try.prog inv 4 [.d (.agg [.int .u8 z1, .int .i64 z2, .str s3, .list true 6 l4, .int .i64 z5, .list false 1 l6]), .d (.agg [.int .u8 z7, .int .i64 z8, .str s9, .list true 6 l10, .int .i64 z11, .list false 1 l12]), .d (.list false 1 l13)] [] (.v (.d (.bool r1))) [] [] := by
  intro z1 z2 s3 l4 z5 l6 z7 z8 s9 l10 z11 l12 l13 r1 h
  unfold F4 at h
  refine Trip.of tab_ok tab_one fol Try.func4 rfl (by kernel_rfl) rfl rfl rfl (fun M hM hI => ?_)
  try cbv
  refine seq_go ?_
  try cbv
  refine seq_go ?_
  try cbv
  replace h := lenF_inv M h
  obtain ⟨z14, hz, h⟩ := h
  refine ⟨z14, hz, ?_⟩
  clear hz
  try cbv
  refine splitL (fun e => ?_) (fun e => ?_)
  · replace h := ite_t e h
    clear e
    try cbv
    refine drawn ?_ ?_
    · show _ = true
      kernel_rfl
    try cbv
    obtain rfl := Option.some.inj h
    refine fin_go ?_
    try cbv
    exact ⟨[], rfl, rfl, trivial, trivial, trivial⟩
  · replace h := ite_f (Int.not_lt.2 e) h
    clear e
    try cbv
    refine ⟨false, ?_⟩
    try cbv
    refine ⟨true, ?_⟩
    try cbv
    refine ⟨false, ?_⟩
    try cbv
    refine ⟨true, ?_⟩
    try cbv
    replace h := bO1_inv h
    obtain ⟨z15, hr, h⟩ := h
    first | refine .inr (.inl ⟨[], ?_⟩) | refine .inl ⟨[], ?_⟩
    try cbv
    refine call_pure hM hI (T12 _ hr) rfl ?_
    clear hr
    try cbv
    replace h := bO1_inv h
    obtain ⟨z16, hr, h⟩ := h
    first | refine .inr (.inl ⟨[], ?_⟩) | refine .inl ⟨[], ?_⟩
    try cbv
    refine call_pure hM hI (T12 _ hr) rfl ?_
    clear hr
    try cbv
    refine splitL (fun e => ?_) (fun e => ?_)
    · replace h := ite_t e h
      clear e
      try cbv
      refine drawn ?_ ?_
      · show _ = true
        kernel_rfl
      try cbv
      obtain rfl := Option.some.inj h
      refine fin_go ?_
      try cbv
      exact ⟨[], rfl, rfl, trivial, trivial, trivial⟩
    · replace h := ite_f (Int.not_lt.2 e) h
      clear e
      try cbv
      refine drawn ?_ ?_
      · show _ = true
        kernel_rfl
      try cbv
      obtain rfl := Option.some.inj h
      refine fin_go ?_
      try cbv
      exact ⟨[], rfl, rfl, trivial, trivial, trivial⟩
end Go.Proofs.Ytagiiaejijihoaa
end

set_option linter.unusedVariables false
noncomputable section
namespace Go.Proofs.Ytagiiaejijihoaa
open Go Go.AM
def L14_2 : Nat → Bool → Option (Int)
  | 0, _ => none
  | n + 1, b11 =>
    (if b11 = true then some (6 : Int) else some (0 : Int))
def L14_1 : Nat → Int → (List D) → Int → Bool → Option (Int)
  | 0, _, _, _, _ => none
  | n + 1, z1, l4, z7, b8 =>
    (if b8 = true then some (3 : Int) else (if z1 = (4 : Int) then (if z7 < (0 : Int) then L14_2 n true else lenF l4 fun z9 => (if z9 ≤ z7 then L14_2 n true else L14_2 n false)) else (if z1 = (5 : Int) then (if z7 < (0 : Int) then L14_2 n true else lenF l4 fun z10 => (if z10 ≤ z7 then L14_2 n true else L14_2 n false)) else L14_2 n true)))
def F14 (n : Nat) (z1 : Int) (z2 : Int) (s3 : ByteArray) (l4 : List D) (z5 : Int) (l6 : List D) (z7 : Int) : Option (Int) :=
  (if z1 = (0 : Int) then L14_1 n z1 l4 z7 true else L14_1 n z1 l4 z7 false)
set_option maxRecDepth 100000 in
set_option maxHeartbeats 40000000 in
theorem T14 (n : Nat) : ∀ ⦃z1 : Int⦄ ⦃z2 : Int⦄ ⦃s3 : ByteArray⦄ ⦃l4 : List D⦄ ⦃z5 : Int⦄ ⦃l6 : List D⦄ ⦃z7 : Int⦄ ⦃r1 : Int⦄, F14 n z1 z2 s3 l4 z5 l6 z7 = some r1 →
    Trip Try.prog inv 14 [.d (.agg [.int .u8 z1, .int .i64 z2, .str s3, .list true 6 l4, .int .i64 z5, .list false 1 l6]), .d (.int .i64 z7)] [] (.v (.d (.int .u8 r1))) [] [] := by
  intro z1 z2 s3 l4 z5 l6 z7 r1 h
  unfold F14 at h
  refine Trip.of tab_ok tab_one fol Try.func14 rfl (by kernel_rfl) rfl rfl rfl (fun M hM hI => ?_)
  try cbv
  refine seq_go ?_
  try cbv
  refine seq_go ?_
  try cbv
  refine seq_join (T := Nat × Bool) (fun t => ⟨[(1, .v (.d (.int .i64 z7))), (2, .v (.c (.ptr (.loc 0) 0))), (4, .v (.d (.int .u8 0))), (5, .v (.d (.bool t.2)))], [(.loc 0, .cells [.d (.int .u8 z1), .d (.int .i64 z2), .d (.str s3), .d (.list true 6 l4), .d (.int .i64 z5), .d (.list false 1 l6)])], 192⟩) (fun t => t.1 ≤ n ∧ L14_1 t.1 z1 l4 z7 t.2 = some r1) ?_ ?_
  · try cbv
    refine splitI (fun e => ?_) (fun e => ?_)
    · replace h := ite_t e h
      clear e
      try cbv
      exact join_next (n, true) [1, 2, 4, 5] [.loc 0] 192 ⟨by omega, h⟩ (by cbv)
    · replace h := ite_f e h
      clear e
      try cbv
      exact join_next (n, false) [1, 2, 4, 5] [.loc 0] 192 ⟨by omega, h⟩ (by cbv)
  · clear h
    rintro ⟨m1, b8⟩ ⟨hm1, h⟩
    replace hm1 : m1 ≤ n := hm1
    cases m1 with
    | zero =>
      replace h : L14_1 0 z1 l4 z7 b8 = some r1 := h
      rw [L14_1] at h
      cases h
    | succ m1 =>
      replace h : L14_1 (m1 + 1) z1 l4 z7 b8 = some r1 := h
      rw [L14_1] at h
      try cbv
      cases b8
      · replace h := ite_f Bool.false_ne_true h
        try cbv
        refine seq_join (T := Nat × Bool) (fun t => ⟨[(4, .v (.d (.int .u8 0))), (9, .v (.d (.bool t.2)))], [], 832⟩) (fun t => t.1 ≤ m1 ∧ L14_2 t.1 t.2 = some r1) ?_ ?_
        · try cbv
          refine splitI (fun e => ?_) (fun e => ?_)
          · replace h := ite_t e h
            clear e
            try cbv
            refine splitL (fun e => ?_) (fun e => ?_)
            · replace h := ite_t e h
              clear e
              try cbv
              exact join_next (m1, true) [4, 9] [] 832 ⟨by omega, h⟩ (by cbv)
            · replace h := ite_f (Int.not_lt.2 e) h
              clear e
              try cbv
              replace h := lenF_inv M h
              obtain ⟨z9, hz, h⟩ := h
              refine ⟨z9, hz, ?_⟩
              clear hz
              try cbv
              refine splitLe (fun e => ?_) (fun e => ?_)
              · replace h := ite_t e h
                clear e
                try cbv
                exact join_next (m1, true) [4, 9] [] 832 ⟨by omega, h⟩ (by cbv)
              · replace h := ite_f (Int.not_le.2 e) h
                clear e
                try cbv
                exact join_next (m1, false) [4, 9] [] 832 ⟨by omega, h⟩ (by cbv)
          · replace h := ite_f e h
            clear e
            try cbv
            refine splitI (fun e => ?_) (fun e => ?_)
            · replace h := ite_t e h
              clear e
              try cbv
              refine splitL (fun e => ?_) (fun e => ?_)
              · replace h := ite_t e h
                clear e
                try cbv
                exact join_next (m1, true) [4, 9] [] 832 ⟨by omega, h⟩ (by cbv)
              · replace h := ite_f (Int.not_lt.2 e) h
                clear e
                try cbv
                replace h := lenF_inv M h
                obtain ⟨z10, hz, h⟩ := h
                refine ⟨z10, hz, ?_⟩
                clear hz
                try cbv
                refine splitLe (fun e => ?_) (fun e => ?_)
                · replace h := ite_t e h
                  clear e
                  try cbv
                  exact join_next (m1, true) [4, 9] [] 832 ⟨by omega, h⟩ (by cbv)
                · replace h := ite_f (Int.not_le.2 e) h
                  clear e
                  try cbv
                  exact join_next (m1, false) [4, 9] [] 832 ⟨by omega, h⟩ (by cbv)
            · replace h := ite_f e h
              clear e
              try cbv
              exact join_next (m1, true) [4, 9] [] 832 ⟨by omega, h⟩ (by cbv)
        · clear h
          rintro ⟨m2, b11⟩ ⟨hm2, h⟩
          replace hm2 : m2 ≤ m1 := hm2
          cases m2 with
          | zero =>
            replace h : L14_2 0 b11 = some r1 := h
            rw [L14_2] at h
            cases h
          | succ m2 =>
            replace h : L14_2 (m2 + 1) b11 = some r1 := h
            rw [L14_2] at h
            try cbv
            cases b11
            · replace h := ite_f Bool.false_ne_true h
              try cbv
              refine seq_go ?_
              try cbv
              obtain rfl := Option.some.inj h
              refine fin_go ?_
              try cbv
              exact ⟨[], rfl, rfl, trivial, trivial, trivial⟩
            · replace h := ite_t rfl h
              try cbv
              refine seq_go ?_
              try cbv
              obtain rfl := Option.some.inj h
              refine fin_go ?_
              try cbv
              exact ⟨[], rfl, rfl, trivial, trivial, trivial⟩
      · replace h := ite_t rfl h
        try cbv
        refine seq_go ?_
        try cbv
        obtain rfl := Option.some.inj h
        refine fin_go ?_
        try cbv
        exact ⟨[], rfl, rfl, trivial, trivial, trivial⟩
end Go.Proofs.Ytagiiaejijihoaa
end

set_option linter.unusedVariables false
noncomputable section
namespace Go.Proofs.Ytagiiaejijihoaa
open Go Go.AM
def L20_1 : Nat → (List D) → Bool → Option (List D)
  | 0, _, _ => none
  | n + 1, l1, b2 =>
    (if b2 = true then some ([] : List D) else needF (scalB l1 = true) (appF 8 ([] : List D) l1 fun l3 => some l3))
def F20 (n : Nat) (l1 : List D) : Option (List D) :=
  (nilF l1 (L20_1 n l1 true) (L20_1 n l1 false))
set_option maxRecDepth 100000 in
set_option maxHeartbeats 40000000 in
theorem T20 (n : Nat) : ∀ ⦃l1 : List D⦄ ⦃r1 : List D⦄, F20 n l1 = some r1 →
    Trip Try.prog inv 20 [.d (.list false 1 l1)] [] (.v (.c (.ow (.loc 0)))) [] [.tree .row false 1 r1 none] := by
  intro l1 r1 h
  unfold F20 at h
  refine Trip.of tab_ok tab_one fol Try.func20 rfl (by kernel_rfl) rfl rfl rfl (fun M hM hI => ?_)
  try cbv
  refine seq_go ?_
  try cbv
  refine seq_go ?_
  try cbv
  refine seq_join (T := Nat × Bool) (fun t => ⟨[(0, .v (.d (.list false 1 l1))), (2, .v (.c (.nils false 1))), (4, .v (.d (.bool t.2)))], [], 96⟩) (fun t => t.1 ≤ n ∧ L20_1 t.1 l1 t.2 = some r1) ?_ ?_
  · try cbv
    replace h := nilF_inv h
    obtain ⟨h, hA⟩ := h
    refine nil_both ?_ (fun e => ?_)
    · clear hA
      try cbv
      exact join_next (n, false) [0, 2, 4] [] 96 ⟨by omega, h⟩ (by cbv)
    · replace h := hA e
      clear hA
      try cbv
      exact join_next (n, true) [0, 2, 4] [] 96 ⟨by omega, h⟩ (by cbv)
  · clear h
    rintro ⟨m1, b2⟩ ⟨hm1, h⟩
    replace hm1 : m1 ≤ n := hm1
    cases m1 with
    | zero =>
      replace h : L20_1 0 l1 b2 = some r1 := h
      rw [L20_1] at h
      cases h
    | succ m1 =>
      replace h : L20_1 (m1 + 1) l1 b2 = some r1 := h
      rw [L20_1] at h
      try cbv
      cases b2
      · replace h := ite_f Bool.false_ne_true h
        try cbv
        refine seq_go ?_
        try cbv
        refine ⟨true, ?_⟩
        try cbv
        refine ⟨[], ?_⟩
        try cbv
        refine ⟨[], rfl, ?_⟩
        try cbv
        refine op_pl ?_
        try cbv
        refine ⟨true, ?_⟩
        try cbv
        refine ⟨true, ?_⟩
        try cbv
        refine ⟨[], ?_⟩
        try cbv
        replace h := needF_inv h
        obtain ⟨hs, h⟩ := h
        replace h := appF_inv h
        obtain ⟨l3, hb, hz, h⟩ := h
        refine ⟨scalB_iff.1 hs, (M.lock_iff _).2 hb, l3, hz, ?_⟩
        clear hs hb hz
        try cbv
        obtain rfl := Option.some.inj h
        refine fin_go ?_
        try cbv
        exact ⟨[.loc 160], rfl, rfl, trivial, ⟨rfl, trivial⟩, trivial⟩
      · replace h := ite_t rfl h
        try cbv
        refine seq_go ?_
        try cbv
        obtain rfl := Option.some.inj h
        refine ⟨_, _, _, ⟨rfl, rfl, rfl⟩, [.treeS 2 false 1], ?_⟩
        try cbv
        exact ⟨[.loc 128], rfl, rfl, trivial, ⟨rfl, trivial⟩, trivial⟩
end Go.Proofs.Ytagiiaejijihoaa
end

set_option linter.unusedVariables false
noncomputable section
namespace Go.Proofs.Ytagiiaejijihoaa
open Go Go.AM
mutual
def L15_1 : Nat → Int → Int → ByteArray → (List D) → Int → (List D) → Int → Int → (List D) → Option (Int × Int × ByteArray × Int × List D × List D)
  | 0, _, _, _, _, _, _, _, _, _ => none
  | n + 1, z1, z2, s3, l4, z5, l6, z7, z8, l9 =>
    (if z8 < z7 then L15_2 n z1 z2 s3 l4 z5 l6 z7 z8 l9 true else L15_2 n z1 z2 s3 l4 z5 l6 z7 z8 l9 false)
def L15_2 : Nat → Int → Int → ByteArray → (List D) → Int → (List D) → Int → Int → (List D) → Bool → Option (Int × Int × ByteArray × Int × List D × List D)
  | 0, _, _, _, _, _, _, _, _, _, _ => none
  | n + 1, z1, z2, s3, l4, z5, l6, z7, z8, l9, b10 =>
    (if b10 = true then getF l4 z8 fun x11 => ds_t25 x11 fun z12 z13 s14 l15 z16 l17 => bO6 (F15 n z12 z13 s14 l15 z16 l17) fun z18 z19 s20 z21 l22 l23 => appF 88 l9 ([.agg [.int .u8 z18, .int .i64 z19, .str s20, .list true 6 l22, .int .i64 z21, .list false 1 l23]]) fun l24 => letF (IntKind.wrap .i64 (z8 + 1)) fun z25 => L15_1 n z1 z2 s3 l4 z5 l6 z7 z25 l24 else bO1 (F20 n l6) fun l26 => some (z1, z2, s3, z5, l9, l26))
def F15 : Nat → Int → Int → ByteArray → (List D) → Int → (List D) → Option (Int × Int × ByteArray × Int × List D × List D)
  | 0, _, _, _, _, _, _ => none
  | n + 1, z1, z2, s3, l4, z5, l6 =>
    lenF l4 fun z7 => L15_1 n z1 z2 s3 l4 z5 l6 z7 (0 : Int) ([] : List D)
end
set_option maxRecDepth 100000 in
set_option maxHeartbeats 40000000 in
theorem T15 (n : Nat) : ∀ ⦃z1 : Int⦄ ⦃z2 : Int⦄ ⦃s3 : ByteArray⦄ ⦃l4 : List D⦄ ⦃z5 : Int⦄ ⦃l6 : List D⦄ ⦃r1 : Int⦄ ⦃r2 : Int⦄ ⦃r3 : ByteArray⦄ ⦃r4 : Int⦄ ⦃r5 : List D⦄ ⦃r6 : List D⦄, F15 n z1 z2 s3 l4 z5 l6 = some (r1, r2, r3, r4, r5, r6) →
    Trip Try.prog inv 15 [.d (.agg [.int .u8 z1, .int .i64 z2, .str s3, .list true 6 l4, .int .i64 z5, .list false 1 l6])] [] (.v (.agg [.d (.int .u8 r1), .d (.int .i64 r2), .d (.str r3), .ow (.loc 0), .d (.int .i64 r4), .ow (.loc 1)])) [] [.tree .row true 6 r5 none, .tree .row false 1 r6 none] := by
  induction n using Nat.strongRecOn with
  | _ n ih =>
    cases n with
    | zero =>
      intro z1 z2 s3 l4 z5 l6 r1 r2 r3 r4 r5 r6 h
      cases (show (none : Option _) = some _ from h)
    | succ n =>
      intro z1 z2 s3 l4 z5 l6 r1 r2 r3 r4 r5 r6 h
      rw [F15] at h
      refine Trip.of tab_ok tab_one fol Try.func15 rfl (by kernel_rfl) rfl rfl rfl (fun M hM hI => ?_)
      try cbv
      refine seq_go ?_
      try cbv
      refine seq_go ?_
      try cbv
      refine seq_go ?_
      try cbv
      refine seq_go ?_
      try cbv
      replace h := lenF_inv M h
      obtain ⟨z7, hz, h⟩ := h
      refine ⟨z7, hz, ?_⟩
      clear hz
      try cbv
      refine loop_invG (T := Nat × Int × List D) [.treeS 3 true 6] [] [1, 2, 3, 7, 8, 9] [.loc 0, .loc 32, .loc 224] 256 (fun t => ⟨[(1, .v (.c (.ptr (.loc 0) 0))), (2, .v (.c (.ptr (.loc 32) 0))), (3, .v (.c (.ow (.loc 224)))), (7, .v (.d (.list true 6 l4))), (8, .v (.d (.int .i64 z7))), (9, .v (.d (.int .i64 t.2.1)))], [(.loc 0, .cells [.d (.int .u8 z1), .d (.int .i64 z2), .d (.str s3), .d (.list true 6 l4), .d (.int .i64 z5), .d (.list false 1 l6)]), (.loc 32, .cells [.d (.int .u8 0), .d (.int .i64 0), .d (.str ByteArray.empty), .nils true 6, .d (.int .i64 0), .nils false 1]), (.loc 224, .tree .row true 6 t.2.2 none)], 256⟩)
        (fun t => t.1 ≤ n ∧ L15_1 t.1 z1 z2 s3 l4 z5 l6 z7 t.2.1 t.2.2 = some (r1, r2, r3, r4, r5, r6)) (fun t => t.1) (n, ((0 : Int), ([] : List D))) ⟨Nat.le_refl _, h⟩ (by cbv) ?_
      clear h
      rintro ⟨m1, z8, l9⟩ ⟨hm1, h⟩
      replace hm1 : m1 ≤ n := hm1
      cases m1 with
      | zero =>
        replace h : L15_1 0 z1 z2 s3 l4 z5 l6 z7 z8 l9 = some (r1, r2, r3, r4, r5, r6) := h
        rw [L15_1] at h
        cases h
      | succ m1 =>
        replace h : L15_1 (m1 + 1) z1 z2 s3 l4 z5 l6 z7 z8 l9 = some (r1, r2, r3, r4, r5, r6) := h
        rw [L15_1] at h
        try cbv
        refine seq_join (T := Nat × Bool) (fun t => ⟨[(1, .v (.c (.ptr (.loc 0) 0))), (2, .v (.c (.ptr (.loc 32) 0))), (3, .v (.c (.ow (.loc 224)))), (7, .v (.d (.list true 6 l4))), (8, .v (.d (.int .i64 z7))), (9, .v (.d (.int .i64 z8))), (10, .v (.d (.bool t.2)))], [(.loc 0, .cells [.d (.int .u8 z1), .d (.int .i64 z2), .d (.str s3), .d (.list true 6 l4), .d (.int .i64 z5), .d (.list false 1 l6)]), (.loc 32, .cells [.d (.int .u8 0), .d (.int .i64 0), .d (.str ByteArray.empty), .nils true 6, .d (.int .i64 0), .nils false 1]), (.loc 224, .tree .row true 6 l9 none)], 288⟩) (fun t => t.1 ≤ m1 ∧ L15_2 t.1 z1 z2 s3 l4 z5 l6 z7 z8 l9 t.2 = some (r1, r2, r3, r4, r5, r6)) ?_ ?_
        · try cbv
          refine splitL (fun e => ?_) (fun e => ?_)
          · replace h := ite_t e h
            clear e
            try cbv
            exact join_next (m1, true) [1, 2, 3, 7, 8, 9, 10] [.loc 0, .loc 32, .loc 224] 288 ⟨by omega, h⟩ (by cbv)
          · replace h := ite_f (Int.not_lt.2 e) h
            clear e
            try cbv
            exact join_next (m1, false) [1, 2, 3, 7, 8, 9, 10] [.loc 0, .loc 32, .loc 224] 288 ⟨by omega, h⟩ (by cbv)
        · clear h
          rintro ⟨m2, b10⟩ ⟨hm2, h⟩
          replace hm2 : m2 ≤ m1 := hm2
          cases m2 with
          | zero =>
            replace h : L15_2 0 z1 z2 s3 l4 z5 l6 z7 z8 l9 b10 = some (r1, r2, r3, r4, r5, r6) := h
            rw [L15_2] at h
            cases h
          | succ m2 =>
            replace h : L15_2 (m2 + 1) z1 z2 s3 l4 z5 l6 z7 z8 l9 b10 = some (r1, r2, r3, r4, r5, r6) := h
            rw [L15_2] at h
            try cbv
            refine seq_go ?_
            try cbv
            cases b10
            · replace h := ite_f Bool.false_ne_true h
              try cbv
              refine seq_go ?_
              try cbv
              replace h := bO1_inv h
              obtain ⟨l26, hr, h⟩ := h
              refine call_go rfl rfl ?_
              try cbv
              refine call_with hM hI [] (T20 _ hr) rfl (by simp) trivial trivial (by simp) ?_
              clear hr
              try cbv
              refine seq_go ?_
              try cbv
              obtain ⟨rfl, rfl, rfl, rfl, rfl, rfl⟩ := inj6 h
              refine fin_go ?_
              try cbv
              exact ⟨[.loc 224, .loc 384], rfl, rfl, trivial, ⟨rfl, ⟨rfl, trivial⟩⟩, trivial⟩
            · replace h := ite_t rfl h
              try cbv
              refine seq_go ?_
              try cbv
              refine seq_go ?_
              try cbv
              replace h := getF_inv h
              obtain ⟨x11, hx11, h⟩ := h
              replace h := ds_t25_inv h
              obtain ⟨z12, z13, s14, l15, z16, l17, rfl, h⟩ := h
              refine ⟨_, hx11.1, hx11.2, ?_⟩
              try cbv
              replace h := bO6_inv h
              obtain ⟨z18, z19, s20, z21, l22, l23, hr, h⟩ := h
              refine call_go rfl rfl ?_
              try cbv
              refine call_with hM hI [] ((ih _ (by omega)) hr) rfl (by simp) trivial trivial (by simp) ?_
              clear hr
              try cbv
              refine ⟨false, ?_⟩
              try cbv
              refine ⟨false, ?_⟩
              try cbv
              refine op_pl ?_
              try cbv
              refine ⟨true, ?_⟩
              try cbv
              refine ⟨true, ?_⟩
              try cbv
              refine ⟨[], ?_⟩
              try cbv
              replace h := appF_inv h
              obtain ⟨l24, hb, hz, h⟩ := h
              refine ⟨[.agg [.int .u8 z18, .int .i64 z19, .str s20, .list true 6 l22, .int .i64 z21, .list false 1 l23]], rfl, ?_⟩
              try cbv
              refine ⟨(M.lock_iff _).2 hb, l24, hz, ?_⟩
              clear hb hz
              try cbv
              replace h := letF_inv h
              obtain ⟨z25, hz, h⟩ := h
              refine ⟨z25, hz, ?_⟩
              clear hz
              try cbv
              refine loop_nextG (m2, (z25, l24)) [] [(544, 224)] [1, 2, 3, 7, 8, 9] [.loc 0, .loc 32, .loc 544] 256 ⟨by omega, h⟩ (Nat.lt_succ_of_le (by omega)) ?_
              try cbv
end Go.Proofs.Ytagiiaejijihoaa
end

set_option linter.unusedVariables false
noncomputable section
namespace Go.Proofs.Ytagiiaejijihoaa
open Go Go.AM
def L6_4 : Nat → Int → Int → ByteArray → (List D) → Int → (List D) → Bool → Option (Int × Int × ByteArray × Int × Int × List D × List D)
  | 0, _, _, _, _, _, _, _ => none
  | n + 1, z10, z11, s12, l13, z14, l15, b29 =>
    (if b29 = true then some ((0 : Int), (0 : Int), ByteArray.empty, (0 : Int), (3 : Int), ([] : List D), ([] : List D)) else bO6 (F15 n z10 z11 s12 l13 z14 l15) fun z30 z31 s32 z33 l34 l35 => some (z30, z31, s32, z33, (0 : Int), l34, l35))
mutual
def L6_1 : Nat → (List D) → Int → Int → Int → Int → ByteArray → (List D) → Int → (List D) → Option (Int × Int × ByteArray × Int × Int × List D × List D)
  | 0, _, _, _, _, _, _, _, _, _ => none
  | n + 1, l7, z8, z9, z10, z11, s12, l13, z14, l15 =>
    (if z9 < z8 then L6_2 n l7 z8 z9 z10 z11 s12 l13 z14 l15 true else L6_2 n l7 z8 z9 z10 z11 s12 l13 z14 l15 false)
def L6_2 : Nat → (List D) → Int → Int → Int → Int → ByteArray → (List D) → Int → (List D) → Bool → Option (Int × Int × ByteArray × Int × Int × List D × List D)
  | 0, _, _, _, _, _, _, _, _, _, _ => none
  | n + 1, l7, z8, z9, z10, z11, s12, l13, z14, l15, b16 =>
    (if b16 = true then getF l7 z9 fun x17 => ds_i64 x17 fun z18 => bO1 (F14 n z10 z11 s12 l13 z14 l15 z18) fun z19 => (if z19 = (0 : Int) then L6_3 n l7 z8 z9 l13 z18 z19 false else L6_3 n l7 z8 z9 l13 z18 z19 true) else (if z10 = (0 : Int) then L6_4 n z10 z11 s12 l13 z14 l15 true else L6_4 n z10 z11 s12 l13 z14 l15 false))
def L6_3 : Nat → (List D) → Int → Int → (List D) → Int → Int → Bool → Option (Int × Int × ByteArray × Int × Int × List D × List D)
  | 0, _, _, _, _, _, _, _ => none
  | n + 1, l7, z8, z9, l13, z18, z19, b20 =>
    (if b20 = true then some ((0 : Int), (0 : Int), ByteArray.empty, (0 : Int), z19, ([] : List D), ([] : List D)) else getF l13 z18 fun x21 => ds_t25 x21 fun z22 z23 s24 l25 z26 l27 => letF (IntKind.wrap .i64 (z9 + 1)) fun z28 => L6_1 n l7 z8 z28 z22 z23 s24 l25 z26 l27)
end
def F6 (n : Nat) (z1 : Int) (z2 : Int) (s3 : ByteArray) (l4 : List D) (z5 : Int) (l6 : List D) (l7 : List D) : Option (Int × Int × ByteArray × Int × Int × List D × List D) :=
  lenF l7 fun z8 => L6_1 n l7 z8 (0 : Int) z1 z2 s3 l4 z5 l6
set_option maxRecDepth 100000 in
set_option maxHeartbeats 40000000 in
theorem T6 (n : Nat) : ∀ ⦃z1 : Int⦄ ⦃z2 : Int⦄ ⦃s3 : ByteArray⦄ ⦃l4 : List D⦄ ⦃z5 : Int⦄ ⦃l6 : List D⦄ ⦃l7 : List D⦄ ⦃r1 : Int⦄ ⦃r2 : Int⦄ ⦃r3 : ByteArray⦄ ⦃r4 : Int⦄ ⦃r5 : Int⦄ ⦃r6 : List D⦄ ⦃r7 : List D⦄, F6 n z1 z2 s3 l4 z5 l6 l7 = some (r1, r2, r3, r4, r5, r6, r7) →
    Trip Try.prog inv 6 [.d (.agg [.int .u8 z1, .int .i64 z2, .str s3, .list true 6 l4, .int .i64 z5, .list false 1 l6]), .d (.list false 1 l7)] [] (.t [.agg [.d (.int .u8 r1), .d (.int .i64 r2), .d (.str r3), .ow (.loc 0), .d (.int .i64 r4), .ow (.loc 1)], .d (.int .u8 r5)]) [] [.tree .row true 6 r6 none, .tree .row false 1 r7 none] := by
  intro z1 z2 s3 l4 z5 l6 l7 r1 r2 r3 r4 r5 r6 r7 h
  unfold F6 at h
  refine Trip.of tab_ok tab_one fol Try.func6 rfl (by kernel_rfl) rfl rfl rfl (fun M hM hI => ?_)
  try cbv
  refine seq_go ?_
  try cbv
  refine seq_go ?_
  try cbv
  refine seq_go ?_
  try cbv
  replace h := lenF_inv M h
  obtain ⟨z8, hz, h⟩ := h
  refine ⟨z8, hz, ?_⟩
  clear hz
  try cbv
  refine loop_inv (T := Nat × Int × Int × Int × ByteArray × List D × Int × List D) [2, 4, 5, 9, 10, 11] [.loc 0, .loc 32] 192 (fun t => ⟨[(2, .v (.c (.ptr (.loc 0) 0))), (4, .v (.c (.ptr (.loc 32) 0))), (5, .v (.d (.int .u8 0))), (9, .v (.d (.list false 1 l7))), (10, .v (.d (.int .i64 z8))), (11, .v (.d (.int .i64 t.2.1)))], [(.loc 0, .cells [.d (.int .u8 t.2.2.1), .d (.int .i64 t.2.2.2.1), .d (.str t.2.2.2.2.1), .d (.list true 6 t.2.2.2.2.2.1), .d (.int .i64 t.2.2.2.2.2.2.1), .d (.list false 1 t.2.2.2.2.2.2.2)]), (.loc 32, .cells [.d (.int .u8 0), .d (.int .i64 0), .d (.str ByteArray.empty), .nils true 6, .d (.int .i64 0), .nils false 1])], 192⟩)
    (fun t => t.1 ≤ n ∧ L6_1 t.1 l7 z8 t.2.1 t.2.2.1 t.2.2.2.1 t.2.2.2.2.1 t.2.2.2.2.2.1 t.2.2.2.2.2.2.1 t.2.2.2.2.2.2.2 = some (r1, r2, r3, r4, r5, r6, r7)) (fun t => t.1) (n, ((0 : Int), z1, z2, s3, l4, z5, l6)) ⟨Nat.le_refl _, h⟩ (by cbv) ?_
  clear h
  rintro ⟨m1, z9, z10, z11, s12, l13, z14, l15⟩ ⟨hm1, h⟩
  replace hm1 : m1 ≤ n := hm1
  cases m1 with
  | zero =>
    replace h : L6_1 0 l7 z8 z9 z10 z11 s12 l13 z14 l15 = some (r1, r2, r3, r4, r5, r6, r7) := h
    rw [L6_1] at h
    cases h
  | succ m1 =>
    replace h : L6_1 (m1 + 1) l7 z8 z9 z10 z11 s12 l13 z14 l15 = some (r1, r2, r3, r4, r5, r6, r7) := h
    rw [L6_1] at h
    try cbv
    refine seq_join (T := Nat × Bool) (fun t => ⟨[(2, .v (.c (.ptr (.loc 0) 0))), (4, .v (.c (.ptr (.loc 32) 0))), (5, .v (.d (.int .u8 0))), (9, .v (.d (.list false 1 l7))), (10, .v (.d (.int .i64 z8))), (11, .v (.d (.int .i64 z9))), (12, .v (.d (.bool t.2)))], [(.loc 0, .cells [.d (.int .u8 z10), .d (.int .i64 z11), .d (.str s12), .d (.list true 6 l13), .d (.int .i64 z14), .d (.list false 1 l15)]), (.loc 32, .cells [.d (.int .u8 0), .d (.int .i64 0), .d (.str ByteArray.empty), .nils true 6, .d (.int .i64 0), .nils false 1])], 224⟩) (fun t => t.1 ≤ m1 ∧ L6_2 t.1 l7 z8 z9 z10 z11 s12 l13 z14 l15 t.2 = some (r1, r2, r3, r4, r5, r6, r7)) ?_ ?_
    · try cbv
      refine splitL (fun e => ?_) (fun e => ?_)
      · replace h := ite_t e h
        clear e
        try cbv
        exact join_next (m1, true) [2, 4, 5, 9, 10, 11, 12] [.loc 0, .loc 32] 224 ⟨by omega, h⟩ (by cbv)
      · replace h := ite_f (Int.not_lt.2 e) h
        clear e
        try cbv
        exact join_next (m1, false) [2, 4, 5, 9, 10, 11, 12] [.loc 0, .loc 32] 224 ⟨by omega, h⟩ (by cbv)
    · clear h
      rintro ⟨m2, b16⟩ ⟨hm2, h⟩
      replace hm2 : m2 ≤ m1 := hm2
      cases m2 with
      | zero =>
        replace h : L6_2 0 l7 z8 z9 z10 z11 s12 l13 z14 l15 b16 = some (r1, r2, r3, r4, r5, r6, r7) := h
        rw [L6_2] at h
        cases h
      | succ m2 =>
        replace h : L6_2 (m2 + 1) l7 z8 z9 z10 z11 s12 l13 z14 l15 b16 = some (r1, r2, r3, r4, r5, r6, r7) := h
        rw [L6_2] at h
        try cbv
        refine seq_go ?_
        try cbv
        cases b16
        · replace h := ite_f Bool.false_ne_true h
          try cbv
          refine seq_go ?_
          try cbv
          refine seq_join (T := Nat × Bool) (fun t => ⟨[(2, .v (.c (.ptr (.loc 0) 0))), (4, .v (.c (.ptr (.loc 32) 0))), (5, .v (.d (.int .u8 0))), (30, .v (.d (.bool t.2)))], [(.loc 0, .cells [.d (.int .u8 z10), .d (.int .i64 z11), .d (.str s12), .d (.list true 6 l13), .d (.int .i64 z14), .d (.list false 1 l15)]), (.loc 32, .cells [.d (.int .u8 0), .d (.int .i64 0), .d (.str ByteArray.empty), .nils true 6, .d (.int .i64 0), .nils false 1])], 320⟩) (fun t => t.1 ≤ m2 ∧ L6_4 t.1 z10 z11 s12 l13 z14 l15 t.2 = some (r1, r2, r3, r4, r5, r6, r7)) ?_ ?_
          · try cbv
            refine splitI (fun e => ?_) (fun e => ?_)
            · replace h := ite_t e h
              clear e
              try cbv
              exact join_next (m2, true) [2, 4, 5, 30] [.loc 0, .loc 32] 320 ⟨by omega, h⟩ (by cbv)
            · replace h := ite_f e h
              clear e
              try cbv
              exact join_next (m2, false) [2, 4, 5, 30] [.loc 0, .loc 32] 320 ⟨by omega, h⟩ (by cbv)
          · clear h
            rintro ⟨m4, b29⟩ ⟨hm4, h⟩
            replace hm4 : m4 ≤ m2 := hm4
            cases m4 with
            | zero =>
              replace h : L6_4 0 z10 z11 s12 l13 z14 l15 b29 = some (r1, r2, r3, r4, r5, r6, r7) := h
              rw [L6_4] at h
              cases h
            | succ m4 =>
              replace h : L6_4 (m4 + 1) z10 z11 s12 l13 z14 l15 b29 = some (r1, r2, r3, r4, r5, r6, r7) := h
              rw [L6_4] at h
              try cbv
              cases b29
              · replace h := ite_f Bool.false_ne_true h
                try cbv
                refine seq_go ?_
                try cbv
                replace h := bO6_inv h
                obtain ⟨z30, z31, s32, z33, l34, l35, hr, h⟩ := h
                refine call_go rfl rfl ?_
                try cbv
                refine call_with hM hI [] (T15 _ hr) rfl (by simp) trivial trivial (by simp) ?_
                clear hr
                try cbv
                obtain ⟨rfl, rfl, rfl, rfl, rfl, rfl, rfl⟩ := inj7 h
                refine fin_go ?_
                try cbv
                exact ⟨[.loc 352, .loc 353], rfl, rfl, trivial, ⟨rfl, ⟨rfl, trivial⟩⟩, trivial⟩
              · replace h := ite_t rfl h
                try cbv
                refine seq_go ?_
                try cbv
                obtain ⟨rfl, rfl, rfl, rfl, rfl, rfl, rfl⟩ := inj7 h
                refine ⟨_, _, _, ⟨rfl, rfl, rfl⟩, [.treeC (.loc 32) 3 true 6, .treeC (.loc 32) 5 false 1], ?_⟩
                try cbv
                exact ⟨[.loc 416, .loc 448], rfl, rfl, trivial, ⟨rfl, ⟨rfl, trivial⟩⟩, trivial⟩
        · replace h := ite_t rfl h
          try cbv
          refine seq_go ?_
          try cbv
          refine seq_go ?_
          try cbv
          replace h := getF_inv h
          obtain ⟨x17, hx17, h⟩ := h
          replace h := ds_i64_inv h
          obtain ⟨z18, rfl, h⟩ := h
          refine ⟨_, hx17.1, hx17.2, ?_⟩
          try cbv
          refine seq_go ?_
          try cbv
          refine seq_go ?_
          try cbv
          replace h := bO1_inv h
          obtain ⟨z19, hr, h⟩ := h
          refine call_go rfl rfl ?_
          try cbv
          refine call_pure hM hI (T14 _ hr) rfl ?_
          clear hr
          try cbv
          refine seq_join (T := Nat × Bool) (fun t => ⟨[(2, .v (.c (.ptr (.loc 0) 0))), (4, .v (.c (.ptr (.loc 32) 0))), (5, .v (.d (.int .u8 0))), (7, .v (.d (.int .i64 z18))), (8, .v (.d (.int .u8 z19))), (9, .v (.d (.list false 1 l7))), (10, .v (.d (.int .i64 z8))), (11, .v (.d (.int .i64 z9))), (19, .v (.d (.bool t.2)))], [(.loc 0, .cells [.d (.int .u8 z10), .d (.int .i64 z11), .d (.str s12), .d (.list true 6 l13), .d (.int .i64 z14), .d (.list false 1 l15)]), (.loc 32, .cells [.d (.int .u8 0), .d (.int .i64 0), .d (.str ByteArray.empty), .nils true 6, .d (.int .i64 0), .nils false 1])], 512⟩) (fun t => t.1 ≤ m2 ∧ L6_3 t.1 l7 z8 z9 l13 z18 z19 t.2 = some (r1, r2, r3, r4, r5, r6, r7)) ?_ ?_
          · try cbv
            refine splitI (fun e => ?_) (fun e => ?_)
            · replace h := ite_t e h
              clear e
              try cbv
              exact join_next (m2, false) [2, 4, 5, 7, 8, 9, 10, 11, 19] [.loc 0, .loc 32] 512 ⟨by omega, h⟩ (by cbv)
            · replace h := ite_f e h
              clear e
              try cbv
              exact join_next (m2, true) [2, 4, 5, 7, 8, 9, 10, 11, 19] [.loc 0, .loc 32] 512 ⟨by omega, h⟩ (by cbv)
          · clear h
            rintro ⟨m3, b20⟩ ⟨hm3, h⟩
            replace hm3 : m3 ≤ m2 := hm3
            cases m3 with
            | zero =>
              replace h : L6_3 0 l7 z8 z9 l13 z18 z19 b20 = some (r1, r2, r3, r4, r5, r6, r7) := h
              rw [L6_3] at h
              cases h
            | succ m3 =>
              replace h : L6_3 (m3 + 1) l7 z8 z9 l13 z18 z19 b20 = some (r1, r2, r3, r4, r5, r6, r7) := h
              rw [L6_3] at h
              try cbv
              cases b20
              · replace h := ite_f Bool.false_ne_true h
                try cbv
                replace h := getF_inv h
                obtain ⟨x21, hx21, h⟩ := h
                replace h := ds_t25_inv h
                obtain ⟨z22, z23, s24, l25, z26, l27, rfl, h⟩ := h
                refine ⟨_, hx21.1, hx21.2, ?_⟩
                try cbv
                replace h := letF_inv h
                obtain ⟨z28, hz, h⟩ := h
                refine ⟨z28, hz, ?_⟩
                clear hz
                try cbv
                exact loop_next (m3, (z28, z22, z23, s24, l25, z26, l27)) [2, 4, 5, 9, 10, 11] [.loc 0, .loc 32] 192 ⟨by omega, h⟩ (Nat.lt_succ_of_le (by omega)) (by cbv)
              · replace h := ite_t rfl h
                try cbv
                refine seq_go ?_
                try cbv
                obtain ⟨rfl, rfl, rfl, rfl, rfl, rfl, rfl⟩ := inj7 h
                refine ⟨_, _, _, ⟨rfl, rfl, rfl⟩, [.treeC (.loc 32) 3 true 6, .treeC (.loc 32) 5 false 1], ?_⟩
                try cbv
                exact ⟨[.loc 640, .loc 672], rfl, rfl, trivial, ⟨rfl, ⟨rfl, trivial⟩⟩, trivial⟩
end Go.Proofs.Ytagiiaejijihoaa
end

set_option linter.unusedVariables false
noncomputable section
namespace Go.Proofs.Ytagiiaejijihoaa
open Go Go.AM
def L16_2 : Nat → Bool → Option (Int)
  | 0, _ => none
  | n + 1, b11 =>
    (if b11 = true then some (6 : Int) else some (0 : Int))
def L16_1 : Nat → Int → (List D) → Int → Bool → Option (Int)
  | 0, _, _, _, _ => none
  | n + 1, z1, l4, z7, b8 =>
    (if b8 = true then some (3 : Int) else (if z1 = (4 : Int) then (if z7 < (0 : Int) then L16_2 n true else lenF l4 fun z9 => (if z9 ≤ z7 then L16_2 n true else L16_2 n false)) else (if z1 = (5 : Int) then (if z7 < (0 : Int) then L16_2 n true else lenF l4 fun z10 => (if z10 ≤ z7 then L16_2 n true else L16_2 n false)) else L16_2 n true)))
def F16 (n : Nat) (z1 : Int) (z2 : Int) (s3 : ByteArray) (l4 : List D) (z5 : Int) (l6 : List D) (z7 : Int) : Option (Int) :=
  (if z1 = (0 : Int) then L16_1 n z1 l4 z7 true else L16_1 n z1 l4 z7 false)
set_option maxRecDepth 100000 in
set_option maxHeartbeats 40000000 in
theorem T16 (n : Nat) : ∀ ⦃z1 : Int⦄ ⦃z2 : Int⦄ ⦃s3 : ByteArray⦄ ⦃l4 : List D⦄ ⦃z5 : Int⦄ ⦃l6 : List D⦄ ⦃z7 : Int⦄ ⦃r1 : Int⦄, F16 n z1 z2 s3 l4 z5 l6 z7 = some r1 →
    Trip Try.prog inv 16 [.d (.agg [.int .u8 z1, .int .i64 z2, .str s3, .list true 6 l4, .int .i64 z5, .list false 1 l6]), .d (.int .i64 z7)] [] (.v (.d (.int .i64 r1))) [] [] := by
  intro z1 z2 s3 l4 z5 l6 z7 r1 h
  unfold F16 at h
  refine Trip.of tab_ok tab_one fol Try.func16 rfl (by kernel_rfl) rfl rfl rfl (fun M hM hI => ?_)
  try cbv
  refine seq_go ?_
  try cbv
  refine seq_go ?_
  try cbv
  refine seq_join (T := Nat × Bool) (fun t => ⟨[(1, .v (.d (.int .i64 z7))), (2, .v (.c (.ptr (.loc 0) 0))), (4, .v (.d (.int .i64 0))), (7, .v (.d (.bool t.2)))], [(.loc 0, .cells [.d (.int .u8 z1), .d (.int .i64 z2), .d (.str s3), .d (.list true 6 l4), .d (.int .i64 z5), .d (.list false 1 l6)])], 160⟩) (fun t => t.1 ≤ n ∧ L16_1 t.1 z1 l4 z7 t.2 = some r1) ?_ ?_
  · try cbv
    refine splitI (fun e => ?_) (fun e => ?_)
    · replace h := ite_t e h
      clear e
      try cbv
      exact join_next (n, true) [1, 2, 4, 7] [.loc 0] 160 ⟨by omega, h⟩ (by cbv)
    · replace h := ite_f e h
      clear e
      try cbv
      exact join_next (n, false) [1, 2, 4, 7] [.loc 0] 160 ⟨by omega, h⟩ (by cbv)
  · clear h
    rintro ⟨m1, b8⟩ ⟨hm1, h⟩
    replace hm1 : m1 ≤ n := hm1
    cases m1 with
    | zero =>
      replace h : L16_1 0 z1 l4 z7 b8 = some r1 := h
      rw [L16_1] at h
      cases h
    | succ m1 =>
      replace h : L16_1 (m1 + 1) z1 l4 z7 b8 = some r1 := h
      rw [L16_1] at h
      try cbv
      cases b8
      · replace h := ite_f Bool.false_ne_true h
        try cbv
        refine seq_go ?_
        try cbv
        refine seq_join (T := Nat × Bool) (fun t => ⟨[(4, .v (.d (.int .i64 0))), (26, .v (.d (.bool t.2)))], [], 768⟩) (fun t => t.1 ≤ m1 ∧ L16_2 t.1 t.2 = some r1) ?_ ?_
        · try cbv
          refine splitI (fun e => ?_) (fun e => ?_)
          · replace h := ite_t e h
            clear e
            try cbv
            refine splitL (fun e => ?_) (fun e => ?_)
            · replace h := ite_t e h
              clear e
              try cbv
              exact join_next (m1, true) [4, 26] [] 768 ⟨by omega, h⟩ (by cbv)
            · replace h := ite_f (Int.not_lt.2 e) h
              clear e
              try cbv
              replace h := lenF_inv M h
              obtain ⟨z9, hz, h⟩ := h
              refine ⟨z9, hz, ?_⟩
              clear hz
              try cbv
              refine splitLe (fun e => ?_) (fun e => ?_)
              · replace h := ite_t e h
                clear e
                try cbv
                exact join_next (m1, true) [4, 26] [] 768 ⟨by omega, h⟩ (by cbv)
              · replace h := ite_f (Int.not_le.2 e) h
                clear e
                try cbv
                exact join_next (m1, false) [4, 26] [] 768 ⟨by omega, h⟩ (by cbv)
          · replace h := ite_f e h
            clear e
            try cbv
            refine splitI (fun e => ?_) (fun e => ?_)
            · replace h := ite_t e h
              clear e
              try cbv
              refine splitL (fun e => ?_) (fun e => ?_)
              · replace h := ite_t e h
                clear e
                try cbv
                exact join_next (m1, true) [4, 26] [] 768 ⟨by omega, h⟩ (by cbv)
              · replace h := ite_f (Int.not_lt.2 e) h
                clear e
                try cbv
                replace h := lenF_inv M h
                obtain ⟨z10, hz, h⟩ := h
                refine ⟨z10, hz, ?_⟩
                clear hz
                try cbv
                refine splitLe (fun e => ?_) (fun e => ?_)
                · replace h := ite_t e h
                  clear e
                  try cbv
                  exact join_next (m1, true) [4, 26] [] 768 ⟨by omega, h⟩ (by cbv)
                · replace h := ite_f (Int.not_le.2 e) h
                  clear e
                  try cbv
                  exact join_next (m1, false) [4, 26] [] 768 ⟨by omega, h⟩ (by cbv)
            · replace h := ite_f e h
              clear e
              try cbv
              exact join_next (m1, true) [4, 26] [] 768 ⟨by omega, h⟩ (by cbv)
        · clear h
          rintro ⟨m2, b11⟩ ⟨hm2, h⟩
          replace hm2 : m2 ≤ m1 := hm2
          cases m2 with
          | zero =>
            replace h : L16_2 0 b11 = some r1 := h
            rw [L16_2] at h
            cases h
          | succ m2 =>
            replace h : L16_2 (m2 + 1) b11 = some r1 := h
            rw [L16_2] at h
            try cbv
            cases b11
            · replace h := ite_f Bool.false_ne_true h
              try cbv
              refine seq_go ?_
              try cbv
              obtain rfl := Option.some.inj h
              refine fin_go ?_
              try cbv
              exact ⟨[], rfl, rfl, trivial, trivial, trivial⟩
            · replace h := ite_t rfl h
              try cbv
              refine seq_go ?_
              try cbv
              obtain rfl := Option.some.inj h
              refine fin_go ?_
              try cbv
              exact ⟨[], rfl, rfl, trivial, trivial, trivial⟩
      · replace h := ite_t rfl h
        try cbv
        refine seq_go ?_
        try cbv
        obtain rfl := Option.some.inj h
        refine fin_go ?_
        try cbv
        exact ⟨[], rfl, rfl, trivial, trivial, trivial⟩
end Go.Proofs.Ytagiiaejijihoaa
end

set_option linter.unusedVariables false
noncomputable section
namespace Go.Proofs.Ytagiiaejijihoaa
open Go Go.AM
mutual
def L7_1 : Nat → Int → Int → ByteArray → (List D) → Int → (List D) → (List D) → Bool → Option (Int × Int × ByteArray × List D × Int × List D × Int)
  | 0, _, _, _, _, _, _, _, _ => none
  | n + 1, z1, z2, s3, l4, z5, l6, l7, b9 =>
    (if b9 = true then (if z1 = (0 : Int) then L7_2 n z1 z2 s3 l4 z5 l6 true else L7_2 n z1 z2 s3 l4 z5 l6 false) else getF l7 0 fun x17 => ds_i64 x17 fun z18 => bO1 (F16 n z1 z2 s3 l4 z5 l6 z18) fun z19 => (if z19 = (0 : Int) then L7_3 n l4 l7 z18 z19 false else L7_3 n l4 l7 z18 z19 true))
def L7_2 : Nat → Int → Int → ByteArray → (List D) → Int → (List D) → Bool → Option (Int × Int × ByteArray × List D × Int × List D × Int)
  | 0, _, _, _, _, _, _, _ => none
  | n + 1, z1, z2, s3, l4, z5, l6, b10 =>
    (if b10 = true then some ((0 : Int), (0 : Int), ByteArray.empty, ([] : List D), (0 : Int), ([] : List D), (3 : Int)) else bO6 (F5 n z1 z2 s3 l4 z5 l6) fun z11 z12 s13 z14 l15 l16 => some (z11, z12, s13, l15, z14, l16, (0 : Int)))
def L7_3 : Nat → (List D) → (List D) → Int → Int → Bool → Option (Int × Int × ByteArray × List D × Int × List D × Int)
  | 0, _, _, _, _, _ => none
  | n + 1, l4, l7, z18, z19, b20 =>
    (if b20 = true then some ((0 : Int), (0 : Int), ByteArray.empty, ([] : List D), (0 : Int), ([] : List D), z19) else getF l4 z18 fun x21 => ds_t25 x21 fun z22 z23 s24 l25 z26 l27 => fromF l7 (1 : Int) fun l28 => bO7 (F7 n z22 z23 s24 l25 z26 l27 l28) fun z29 z30 s31 l32 z33 l34 z35 => some (z29, z30, s31, l32, z33, l34, z35))
def F7 : Nat → Int → Int → ByteArray → (List D) → Int → (List D) → (List D) → Option (Int × Int × ByteArray × List D × Int × List D × Int)
  | 0, _, _, _, _, _, _, _ => none
  | n + 1, z1, z2, s3, l4, z5, l6, l7 =>
    lenF l7 fun z8 => (if z8 = (0 : Int) then L7_1 n z1 z2 s3 l4 z5 l6 l7 true else L7_1 n z1 z2 s3 l4 z5 l6 l7 false)
end
set_option maxRecDepth 100000 in
set_option maxHeartbeats 40000000 in
theorem T7 (n : Nat) : ∀ ⦃z1 : Int⦄ ⦃z2 : Int⦄ ⦃s3 : ByteArray⦄ ⦃l4 : List D⦄ ⦃z5 : Int⦄ ⦃l6 : List D⦄ ⦃l7 : List D⦄ ⦃r1 : Int⦄ ⦃r2 : Int⦄ ⦃r3 : ByteArray⦄ ⦃r4 : List D⦄ ⦃r5 : Int⦄ ⦃r6 : List D⦄ ⦃r7 : Int⦄, F7 n z1 z2 s3 l4 z5 l6 l7 = some (r1, r2, r3, r4, r5, r6, r7) →
    Trip Try.prog inv 7 [.d (.agg [.int .u8 z1, .int .i64 z2, .str s3, .list true 6 l4, .int .i64 z5, .list false 1 l6]), .d (.list false 1 l7)] [] (.t [.d (.agg [.int .u8 r1, .int .i64 r2, .str r3, .list true 6 r4, .int .i64 r5, .list false 1 r6]), .d (.int .i64 r7)]) [] [] := by
  induction n using Nat.strongRecOn with
  | _ n ih =>
    cases n with
    | zero =>
      intro z1 z2 s3 l4 z5 l6 l7 r1 r2 r3 r4 r5 r6 r7 h
      cases (show (none : Option _) = some _ from h)
    | succ n =>
      intro z1 z2 s3 l4 z5 l6 l7 r1 r2 r3 r4 r5 r6 r7 h
      rw [F7] at h
      refine Trip.of tab_ok tab_one fol Try.func7 rfl (by kernel_rfl) rfl rfl rfl (fun M hM hI => ?_)
      try cbv
      refine seq_go ?_
      try cbv
      refine seq_go ?_
      try cbv
      refine seq_join (T := Nat × Bool) (fun t => ⟨[(1, .v (.d (.list false 1 l7))), (2, .v (.c (.ptr (.loc 0) 0))), (4, .v (.c (.ptr (.loc 32) 0))), (5, .v (.d (.int .i64 0))), (9, .v (.d (.bool t.2)))], [(.loc 0, .cells [.d (.int .u8 z1), .d (.int .i64 z2), .d (.str s3), .d (.list true 6 l4), .d (.int .i64 z5), .d (.list false 1 l6)]), (.loc 32, .cells [.d (.int .u8 0), .d (.int .i64 0), .d (.str ByteArray.empty), .nils true 6, .d (.int .i64 0), .nils false 1])], 192⟩) (fun t => t.1 ≤ n ∧ L7_1 t.1 z1 z2 s3 l4 z5 l6 l7 t.2 = some (r1, r2, r3, r4, r5, r6, r7)) ?_ ?_
      · try cbv
        replace h := lenF_inv M h
        obtain ⟨z8, hz, h⟩ := h
        refine ⟨z8, hz, ?_⟩
        clear hz
        try cbv
        refine splitI (fun e => ?_) (fun e => ?_)
        · replace h := ite_t e h
          clear e
          try cbv
          exact join_next (n, true) [1, 2, 4, 5, 9] [.loc 0, .loc 32] 192 ⟨by omega, h⟩ (by cbv)
        · replace h := ite_f e h
          clear e
          try cbv
          exact join_next (n, false) [1, 2, 4, 5, 9] [.loc 0, .loc 32] 192 ⟨by omega, h⟩ (by cbv)
      · clear h
        rintro ⟨m1, b9⟩ ⟨hm1, h⟩
        replace hm1 : m1 ≤ n := hm1
        cases m1 with
        | zero =>
          replace h : L7_1 0 z1 z2 s3 l4 z5 l6 l7 b9 = some (r1, r2, r3, r4, r5, r6, r7) := h
          rw [L7_1] at h
          cases h
        | succ m1 =>
          replace h : L7_1 (m1 + 1) z1 z2 s3 l4 z5 l6 l7 b9 = some (r1, r2, r3, r4, r5, r6, r7) := h
          rw [L7_1] at h
          try cbv
          cases b9
          · replace h := ite_f Bool.false_ne_true h
            try cbv
            refine seq_go ?_
            try cbv
            replace h := getF_inv h
            obtain ⟨x17, hx17, h⟩ := h
            replace h := ds_i64_inv h
            obtain ⟨z18, rfl, h⟩ := h
            refine ⟨_, hx17.1, hx17.2, ?_⟩
            try cbv
            replace h := bO1_inv h
            obtain ⟨z19, hr, h⟩ := h
            first | refine .inr (.inl ⟨[], ?_⟩) | refine .inl ⟨[], ?_⟩
            try cbv
            refine call_pure hM hI (T16 _ hr) rfl ?_
            clear hr
            try cbv
            refine drawn ?_ ?_
            · show _ = true
              kernel_rfl
            try cbv
            refine seq_go ?_
            try cbv
            refine seq_join (T := Nat × Bool) (fun t => ⟨[(1, .v (.d (.list false 1 l7))), (2, .v (.c (.ptr (.loc 0) 0))), (4, .v (.c (.ptr (.loc 32) 0))), (5, .v (.d (.int .i64 0))), (6, .v (.d (.int .i64 z19))), (22, .v (.d (.bool t.2)))], [(.loc 0, .cells [.d (.int .u8 z1), .d (.int .i64 z2), .d (.str s3), .d (.list true 6 l4), .d (.int .i64 z5), .d (.list false 1 l6)]), (.loc 32, .cells [.d (.int .u8 0), .d (.int .i64 0), .d (.str ByteArray.empty), .nils true 6, .d (.int .i64 0), .nils false 1])], 448⟩) (fun t => t.1 ≤ m1 ∧ L7_3 t.1 l4 l7 z18 z19 t.2 = some (r1, r2, r3, r4, r5, r6, r7)) ?_ ?_
            · try cbv
              refine splitI (fun e => ?_) (fun e => ?_)
              · replace h := ite_t e h
                clear e
                try cbv
                exact join_next (m1, false) [1, 2, 4, 5, 6, 22] [.loc 0, .loc 32] 448 ⟨by omega, h⟩ (by cbv)
              · replace h := ite_f e h
                clear e
                try cbv
                exact join_next (m1, true) [1, 2, 4, 5, 6, 22] [.loc 0, .loc 32] 448 ⟨by omega, h⟩ (by cbv)
            · clear h
              rintro ⟨m3, b20⟩ ⟨hm3, h⟩
              replace hm3 : m3 ≤ m1 := hm3
              cases m3 with
              | zero =>
                replace h : L7_3 0 l4 l7 z18 z19 b20 = some (r1, r2, r3, r4, r5, r6, r7) := h
                rw [L7_3] at h
                cases h
              | succ m3 =>
                replace h : L7_3 (m3 + 1) l4 l7 z18 z19 b20 = some (r1, r2, r3, r4, r5, r6, r7) := h
                rw [L7_3] at h
                try cbv
                cases b20
                · replace h := ite_f Bool.false_ne_true h
                  try cbv
                  refine seq_go ?_
                  try cbv
                  refine ⟨_, hx17.1, hx17.2, ?_⟩
                  try cbv
                  replace h := getF_inv h
                  obtain ⟨x21, hx21, h⟩ := h
                  replace h := ds_t25_inv h
                  obtain ⟨z22, z23, s24, l25, z26, l27, rfl, h⟩ := h
                  refine ⟨_, hx21.1, hx21.2, ?_⟩
                  try cbv
                  replace h := fromF_inv M h
                  obtain ⟨l28, hb, hz, h⟩ := h
                  refine ⟨l28, hb, hz, ?_⟩
                  clear hb hz
                  try cbv
                  replace h := bO7_inv h
                  obtain ⟨z29, z30, s31, l32, z33, l34, z35, hr, h⟩ := h
                  first | refine .inr (.inl ⟨[], ?_⟩) | refine .inl ⟨[], ?_⟩
                  try cbv
                  refine call_pure hM hI ((ih _ (by omega)) hr) rfl ?_
                  clear hr
                  try cbv
                  refine drawn ?_ ?_
                  · show _ = true
                    kernel_rfl
                  try cbv
                  obtain ⟨rfl, rfl, rfl, rfl, rfl, rfl, rfl⟩ := inj7 h
                  refine fin_go ?_
                  try cbv
                  exact ⟨[], rfl, rfl, trivial, trivial, trivial⟩
                · replace h := ite_t rfl h
                  try cbv
                  refine seq_go ?_
                  try cbv
                  obtain ⟨rfl, rfl, rfl, rfl, rfl, rfl, rfl⟩ := inj7 h
                  refine fin_go ?_
                  try cbv
                  exact ⟨[], rfl, rfl, trivial, trivial, trivial⟩
          · replace h := ite_t rfl h
            try cbv
            refine seq_go ?_
            try cbv
            refine seq_join (T := Nat × Bool) (fun t => ⟨[(1, .v (.d (.list false 1 l7))), (2, .v (.c (.ptr (.loc 0) 0))), (4, .v (.c (.ptr (.loc 32) 0))), (5, .v (.d (.int .i64 0))), (12, .v (.d (.bool t.2)))], [(.loc 0, .cells [.d (.int .u8 z1), .d (.int .i64 z2), .d (.str s3), .d (.list true 6 l4), .d (.int .i64 z5), .d (.list false 1 l6)]), (.loc 32, .cells [.d (.int .u8 0), .d (.int .i64 0), .d (.str ByteArray.empty), .nils true 6, .d (.int .i64 0), .nils false 1])], 288⟩) (fun t => t.1 ≤ m1 ∧ L7_2 t.1 z1 z2 s3 l4 z5 l6 t.2 = some (r1, r2, r3, r4, r5, r6, r7)) ?_ ?_
            · try cbv
              refine splitI (fun e => ?_) (fun e => ?_)
              · replace h := ite_t e h
                clear e
                try cbv
                exact join_next (m1, true) [1, 2, 4, 5, 12] [.loc 0, .loc 32] 288 ⟨by omega, h⟩ (by cbv)
              · replace h := ite_f e h
                clear e
                try cbv
                exact join_next (m1, false) [1, 2, 4, 5, 12] [.loc 0, .loc 32] 288 ⟨by omega, h⟩ (by cbv)
            · clear h
              rintro ⟨m2, b10⟩ ⟨hm2, h⟩
              replace hm2 : m2 ≤ m1 := hm2
              cases m2 with
              | zero =>
                replace h : L7_2 0 z1 z2 s3 l4 z5 l6 b10 = some (r1, r2, r3, r4, r5, r6, r7) := h
                rw [L7_2] at h
                cases h
              | succ m2 =>
                replace h : L7_2 (m2 + 1) z1 z2 s3 l4 z5 l6 b10 = some (r1, r2, r3, r4, r5, r6, r7) := h
                rw [L7_2] at h
                try cbv
                cases b10
                · replace h := ite_f Bool.false_ne_true h
                  try cbv
                  refine seq_go ?_
                  try cbv
                  replace h := bO6_inv h
                  obtain ⟨z11, z12, s13, z14, l15, l16, hr, h⟩ := h
                  refine call_go rfl rfl ?_
                  try cbv
                  refine call_with hM hI [] (T5 _ hr) rfl (by simp) trivial trivial (by simp) ?_
                  clear hr
                  try cbv
                  obtain ⟨rfl, rfl, rfl, rfl, rfl, rfl, rfl⟩ := inj7 h
                  refine ⟨_, _, _, ⟨rfl, rfl, rfl⟩, [.freeze (.loc 320), .freeze (.loc 321)], ?_⟩
                  try cbv
                  exact ⟨[], rfl, rfl, trivial, trivial, trivial⟩
                · replace h := ite_t rfl h
                  try cbv
                  refine seq_go ?_
                  try cbv
                  obtain ⟨rfl, rfl, rfl, rfl, rfl, rfl, rfl⟩ := inj7 h
                  refine fin_go ?_
                  try cbv
                  exact ⟨[], rfl, rfl, trivial, trivial, trivial⟩
end Go.Proofs.Ytagiiaejijihoaa
end

set_option linter.unusedVariables false
noncomputable section
namespace Go.Proofs.Ytagiiaejijihoaa
open Go Go.AM
def L14x1_2 : Nat → (List D) → (List D) → Bool → Option (Int × List D × List D)
  | 0, _, _, _ => none
  | n + 1, l6, l7, b11 =>
    (if b11 = true then some ((6 : Int), l6, l7) else some ((0 : Int), l6, l7))
def L14x1_1 : Nat → Int → Int → (List D) → (List D) → Bool → Option (Int × List D × List D)
  | 0, _, _, _, _, _ => none
  | n + 1, z1, z5, l6, l7, b8 =>
    (if b8 = true then some ((3 : Int), l6, l7) else (if z1 = (4 : Int) then (if z5 < (0 : Int) then L14x1_2 n l6 l7 true else lenF l6 fun z9 => (if z9 ≤ z5 then L14x1_2 n l6 l7 true else L14x1_2 n l6 l7 false)) else (if z1 = (5 : Int) then (if z5 < (0 : Int) then L14x1_2 n l6 l7 true else lenF l6 fun z10 => (if z10 ≤ z5 then L14x1_2 n l6 l7 true else L14x1_2 n l6 l7 false)) else L14x1_2 n l6 l7 true)))
def F14x1 (n : Nat) (z1 : Int) (z2 : Int) (s3 : ByteArray) (z4 : Int) (z5 : Int) (l6 : List D) (l7 : List D) : Option (Int × List D × List D) :=
  (if z1 = (0 : Int) then L14x1_1 n z1 z5 l6 l7 true else L14x1_1 n z1 z5 l6 l7 false)
set_option maxRecDepth 100000 in
set_option maxHeartbeats 40000000 in
theorem T14x1 (n : Nat) : ∀ ⦃z1 : Int⦄ ⦃z2 : Int⦄ ⦃s3 : ByteArray⦄ ⦃z4 : Int⦄ ⦃z5 : Int⦄ ⦃l6 : List D⦄ ⦃l7 : List D⦄ ⦃r1 : Int⦄ ⦃r2 : List D⦄ ⦃r3 : List D⦄, F14x1 n z1 z2 s3 z4 z5 l6 l7 = some (r1, r2, r3) →
    Trip Try.prog inv 14 [.agg [.d (.int .u8 z1), .d (.int .i64 z2), .d (.str s3), .ow (.ext 0), .d (.int .i64 z4), .ow (.ext 1)], .d (.int .i64 z5)] [.tree .row true 6 l6 none, .tree .row false 1 l7 none] (.v (.d (.int .u8 r1))) [.tree .row true 6 r2 none, .tree .row false 1 r3 none] [] := by
  intro z1 z2 s3 z4 z5 l6 l7 r1 r2 r3 h
  unfold F14x1 at h
  refine Trip.of tab_ok tab_one fol Try.func14 rfl (by kernel_rfl) rfl rfl rfl (fun M hM hI => ?_)
  try cbv
  refine seq_go ?_
  try cbv
  refine seq_go ?_
  try cbv
  refine seq_join (T := Nat × Bool) (fun t => ⟨[(1, .v (.d (.int .i64 z5))), (2, .v (.c (.ptr (.loc 0) 0))), (4, .v (.d (.int .u8 0))), (5, .v (.d (.bool t.2)))], [(.ext 0, .tree .row true 6 l6 none), (.ext 1, .tree .row false 1 l7 none), (.loc 0, .cells [.d (.int .u8 z1), .d (.int .i64 z2), .d (.str s3), .ow (.ext 0), .d (.int .i64 z4), .ow (.ext 1)])], 192⟩) (fun t => t.1 ≤ n ∧ L14x1_1 t.1 z1 z5 l6 l7 t.2 = some (r1, r2, r3)) ?_ ?_
  · try cbv
    refine splitI (fun e => ?_) (fun e => ?_)
    · replace h := ite_t e h
      clear e
      try cbv
      exact join_next (n, true) [1, 2, 4, 5] [.ext 0, .ext 1, .loc 0] 192 ⟨by omega, h⟩ (by cbv)
    · replace h := ite_f e h
      clear e
      try cbv
      exact join_next (n, false) [1, 2, 4, 5] [.ext 0, .ext 1, .loc 0] 192 ⟨by omega, h⟩ (by cbv)
  · clear h
    rintro ⟨m1, b8⟩ ⟨hm1, h⟩
    replace hm1 : m1 ≤ n := hm1
    cases m1 with
    | zero =>
      replace h : L14x1_1 0 z1 z5 l6 l7 b8 = some (r1, r2, r3) := h
      rw [L14x1_1] at h
      cases h
    | succ m1 =>
      replace h : L14x1_1 (m1 + 1) z1 z5 l6 l7 b8 = some (r1, r2, r3) := h
      rw [L14x1_1] at h
      try cbv
      cases b8
      · replace h := ite_f Bool.false_ne_true h
        try cbv
        refine seq_join (T := Nat × Bool) (fun t => ⟨[(4, .v (.d (.int .u8 0))), (9, .v (.d (.bool t.2)))], [(.ext 0, .tree .row true 6 l6 none), (.ext 1, .tree .row false 1 l7 none)], 832⟩) (fun t => t.1 ≤ m1 ∧ L14x1_2 t.1 l6 l7 t.2 = some (r1, r2, r3)) ?_ ?_
        · try cbv
          refine splitI (fun e => ?_) (fun e => ?_)
          · replace h := ite_t e h
            clear e
            try cbv
            refine splitL (fun e => ?_) (fun e => ?_)
            · replace h := ite_t e h
              clear e
              try cbv
              exact join_next (m1, true) [4, 9] [.ext 0, .ext 1] 832 ⟨by omega, h⟩ (by cbv)
            · replace h := ite_f (Int.not_lt.2 e) h
              clear e
              try cbv
              replace h := lenF_inv M h
              obtain ⟨z9, hz, h⟩ := h
              refine ⟨false, ?_⟩
              try cbv
              refine ⟨z9, hz, ?_⟩
              clear hz
              try cbv
              refine splitLe (fun e => ?_) (fun e => ?_)
              · replace h := ite_t e h
                clear e
                try cbv
                exact join_next (m1, true) [4, 9] [.ext 0, .ext 1] 832 ⟨by omega, h⟩ (by cbv)
              · replace h := ite_f (Int.not_le.2 e) h
                clear e
                try cbv
                exact join_next (m1, false) [4, 9] [.ext 0, .ext 1] 832 ⟨by omega, h⟩ (by cbv)
          · replace h := ite_f e h
            clear e
            try cbv
            refine splitI (fun e => ?_) (fun e => ?_)
            · replace h := ite_t e h
              clear e
              try cbv
              refine splitL (fun e => ?_) (fun e => ?_)
              · replace h := ite_t e h
                clear e
                try cbv
                exact join_next (m1, true) [4, 9] [.ext 0, .ext 1] 832 ⟨by omega, h⟩ (by cbv)
              · replace h := ite_f (Int.not_lt.2 e) h
                clear e
                try cbv
                replace h := lenF_inv M h
                obtain ⟨z10, hz, h⟩ := h
                refine ⟨false, ?_⟩
                try cbv
                refine ⟨z10, hz, ?_⟩
                clear hz
                try cbv
                refine splitLe (fun e => ?_) (fun e => ?_)
                · replace h := ite_t e h
                  clear e
                  try cbv
                  exact join_next (m1, true) [4, 9] [.ext 0, .ext 1] 832 ⟨by omega, h⟩ (by cbv)
                · replace h := ite_f (Int.not_le.2 e) h
                  clear e
                  try cbv
                  exact join_next (m1, false) [4, 9] [.ext 0, .ext 1] 832 ⟨by omega, h⟩ (by cbv)
            · replace h := ite_f e h
              clear e
              try cbv
              exact join_next (m1, true) [4, 9] [.ext 0, .ext 1] 832 ⟨by omega, h⟩ (by cbv)
        · clear h
          rintro ⟨m2, b11⟩ ⟨hm2, h⟩
          replace hm2 : m2 ≤ m1 := hm2
          cases m2 with
          | zero =>
            replace h : L14x1_2 0 l6 l7 b11 = some (r1, r2, r3) := h
            rw [L14x1_2] at h
            cases h
          | succ m2 =>
            replace h : L14x1_2 (m2 + 1) l6 l7 b11 = some (r1, r2, r3) := h
            rw [L14x1_2] at h
            try cbv
            cases b11
            · replace h := ite_f Bool.false_ne_true h
              try cbv
              refine seq_go ?_
              try cbv
              obtain ⟨rfl, rfl, rfl⟩ := inj3 h
              refine fin_go ?_
              try cbv
              exact ⟨[], rfl, rfl, ⟨rfl, ⟨rfl, trivial⟩⟩, trivial, trivial⟩
            · replace h := ite_t rfl h
              try cbv
              refine seq_go ?_
              try cbv
              obtain ⟨rfl, rfl, rfl⟩ := inj3 h
              refine fin_go ?_
              try cbv
              exact ⟨[], rfl, rfl, ⟨rfl, ⟨rfl, trivial⟩⟩, trivial, trivial⟩
      · replace h := ite_t rfl h
        try cbv
        refine seq_go ?_
        try cbv
        obtain ⟨rfl, rfl, rfl⟩ := inj3 h
        refine fin_go ?_
        try cbv
        exact ⟨[], rfl, rfl, ⟨rfl, ⟨rfl, trivial⟩⟩, trivial, trivial⟩
end Go.Proofs.Ytagiiaejijihoaa
end

set_option linter.unusedVariables false
noncomputable section
namespace Go.Proofs.Ytagiiaejijihoaa
open Go Go.AM
mutual
def L17_1 : Nat → Int → Int → ByteArray → Int → (List D) → (List D) → (List D) → Int → Int → ByteArray → (List D) → Int → (List D) → Int → Bool → Option (Int × Int × ByteArray × Int × Int × Int × ByteArray × List D × Int × List D × Int × List D × List D)
  | 0, _, _, _, _, _, _, _, _, _, _, _, _, _, _, _ => none
  | n + 1, z1, z2, s3, z4, l5, l6, l7, z8, z9, s10, l11, z12, l13, z14, b16 =>
    (if b16 = true then bO6 (F15 n z8 z9 s10 l11 z12 l13) fun z17 z18 s19 z20 l21 l22 => some (z17, z18, s19, z20, z8, z9, s10, l11, z12, l13, z14, l21, l22) else getF l5 0 fun x23 => ds_i64 x23 fun z24 => bO3 (F14x1 n z1 z2 s3 z4 z24 l6 l7) fun z25 l26 l27 => (if z25 = (0 : Int) then L17_2 n z1 z2 s3 z4 l5 z8 z9 s10 l11 z12 l13 z24 z25 l26 l27 true else L17_2 n z1 z2 s3 z4 l5 z8 z9 s10 l11 z12 l13 z24 z25 l26 l27 false))
def L17_2 : Nat → Int → Int → ByteArray → Int → (List D) → Int → Int → ByteArray → (List D) → Int → (List D) → Int → Int → (List D) → (List D) → Bool → Option (Int × Int × ByteArray × Int × Int × Int × ByteArray × List D × Int × List D × Int × List D × List D)
  | 0, _, _, _, _, _, _, _, _, _, _, _, _, _, _, _, _ => none
  | n + 1, z1, z2, s3, z4, l5, z8, z9, s10, l11, z12, l13, z24, z25, l26, l27, b28 =>
    (if b28 = true then needF (0 ≤ z24 ∧ z24.toNat < l26.length) (getN l26 (z24.toNat) fun x29 => ds_t25 x29 fun z30 z31 s32 l33 z34 l35 => fromF l5 (1 : Int) fun l36 => bO13 (F17 n z30 z31 s32 z34 l36 l33 l35 z8 z9 s10 l11 z12 l13 z25) fun z37 z38 s39 z40 z41 z42 s43 l44 z45 l46 z47 l48 l49 => needF (0 ≤ z24 ∧ z24.toNat < l26.length) (setF l26 (z24.toNat) (.agg [.int .u8 z37, .int .i64 z38, .str s39, .list true 6 l48, .int .i64 z40, .list false 1 l49]) fun l50 => L17_3 n z1 z2 s3 z4 l50 l27 z41 z42 s43 l44 z45 l46 z47)) else L17_3 n z1 z2 s3 z4 l26 l27 z8 z9 s10 l11 z12 l13 z25)
def L17_3 : Nat → Int → Int → ByteArray → Int → (List D) → (List D) → Int → Int → ByteArray → (List D) → Int → (List D) → Int → Option (Int × Int × ByteArray × Int × Int × Int × ByteArray × List D × Int × List D × Int × List D × List D)
  | 0, _, _, _, _, _, _, _, _, _, _, _, _, _ => none
  | n + 1, z1, z2, s3, z4, l51, l52, z53, z54, s55, l56, z57, l58, z59 =>
    some (z1, z2, s3, z4, z53, z54, s55, l56, z57, l58, z59, l51, l52)
def F17 : Nat → Int → Int → ByteArray → Int → (List D) → (List D) → (List D) → Int → Int → ByteArray → (List D) → Int → (List D) → Int → Option (Int × Int × ByteArray × Int × Int × Int × ByteArray × List D × Int × List D × Int × List D × List D)
  | 0, _, _, _, _, _, _, _, _, _, _, _, _, _, _ => none
  | n + 1, z1, z2, s3, z4, l5, l6, l7, z8, z9, s10, l11, z12, l13, z14 =>
    lenF l5 fun z15 => (if z15 = (0 : Int) then L17_1 n z1 z2 s3 z4 l5 l6 l7 z8 z9 s10 l11 z12 l13 z14 true else L17_1 n z1 z2 s3 z4 l5 l6 l7 z8 z9 s10 l11 z12 l13 z14 false)
end
set_option maxRecDepth 100000 in
set_option maxHeartbeats 40000000 in
theorem T17 (n : Nat) : ∀ ⦃z1 : Int⦄ ⦃z2 : Int⦄ ⦃s3 : ByteArray⦄ ⦃z4 : Int⦄ ⦃l5 : List D⦄ ⦃l6 : List D⦄ ⦃l7 : List D⦄ ⦃z8 : Int⦄ ⦃z9 : Int⦄ ⦃s10 : ByteArray⦄ ⦃l11 : List D⦄ ⦃z12 : Int⦄ ⦃l13 : List D⦄ ⦃z14 : Int⦄ ⦃r1 : Int⦄ ⦃r2 : Int⦄ ⦃r3 : ByteArray⦄ ⦃r4 : Int⦄ ⦃r5 : Int⦄ ⦃r6 : Int⦄ ⦃r7 : ByteArray⦄ ⦃r8 : List D⦄ ⦃r9 : Int⦄ ⦃r10 : List D⦄ ⦃r11 : Int⦄ ⦃r12 : List D⦄ ⦃r13 : List D⦄, F17 n z1 z2 s3 z4 l5 l6 l7 z8 z9 s10 l11 z12 l13 z14 = some (r1, r2, r3, r4, r5, r6, r7, r8, r9, r10, r11, r12, r13) →
    Trip Try.prog inv 17 [.agg [.d (.int .u8 z1), .d (.int .i64 z2), .d (.str s3), .ow (.ext 0), .d (.int .i64 z4), .ow (.ext 1)], .d (.list false 1 l5), .c (.ptr (.ext 2) 0), .c (.ptr (.ext 3) 0), .c (.ptr (.ext 4) 0)] [.tree .row true 6 l6 none, .tree .row false 1 l7 none, .cells [.d (.int .u8 z8), .d (.int .i64 z9), .d (.str s10), .d (.list true 6 l11), .d (.int .i64 z12), .d (.list false 1 l13)], .cells [.d (.int .u8 z14)], .cells [.fn 17 [.ext 2, .ext 3, .ext 4]]] (.v (.agg [.d (.int .u8 r1), .d (.int .i64 r2), .d (.str r3), .ow (.loc 0), .d (.int .i64 r4), .ow (.loc 1)])) [.gone, .gone, .cells [.d (.int .u8 r5), .d (.int .i64 r6), .d (.str r7), .d (.list true 6 r8), .d (.int .i64 r9), .d (.list false 1 r10)], .cells [.d (.int .u8 r11)], .cells [.fn 17 [.ext 2, .ext 3, .ext 4]]] [.tree .row true 6 r12 none, .tree .row false 1 r13 none] := by
  induction n using Nat.strongRecOn with
  | _ n ih =>
    cases n with
    | zero =>
      intro z1 z2 s3 z4 l5 l6 l7 z8 z9 s10 l11 z12 l13 z14 r1 r2 r3 r4 r5 r6 r7 r8 r9 r10 r11 r12 r13 h
      cases (show (none : Option _) = some _ from h)
    | succ n =>
      intro z1 z2 s3 z4 l5 l6 l7 z8 z9 s10 l11 z12 l13 z14 r1 r2 r3 r4 r5 r6 r7 r8 r9 r10 r11 r12 r13 h
      rw [F17] at h
      refine Trip.of tab_ok tab_one fol Try.func17 rfl (by kernel_rfl) rfl rfl rfl (fun M hM hI => ?_)
      try cbv
      refine seq_go ?_
      try cbv
      refine seq_go ?_
      try cbv
      refine seq_join (T := Nat × Bool) (fun t => ⟨[(1, .v (.d (.list false 1 l5))), (2, .v (.c (.ptr (.ext 2) 0))), (3, .v (.c (.ptr (.ext 3) 0))), (4, .v (.c (.ptr (.ext 4) 0))), (5, .v (.c (.ptr (.loc 0) 0))), (7, .v (.c (.ptr (.loc 32) 0))), (10, .v (.d (.bool t.2)))], [(.ext 0, .tree .row true 6 l6 none), (.ext 1, .tree .row false 1 l7 none), (.ext 2, .cells [.d (.int .u8 z8), .d (.int .i64 z9), .d (.str s10), .d (.list true 6 l11), .d (.int .i64 z12), .d (.list false 1 l13)]), (.ext 3, .cells [.d (.int .u8 z14)]), (.ext 4, .cells [.fn 17 [.ext 2, .ext 3, .ext 4]]), (.loc 0, .cells [.d (.int .u8 z1), .d (.int .i64 z2), .d (.str s3), .ow (.ext 0), .d (.int .i64 z4), .ow (.ext 1)]), (.loc 32, .cells [.d (.int .u8 0), .d (.int .i64 0), .d (.str ByteArray.empty), .nils true 6, .d (.int .i64 0), .nils false 1])], 160⟩) (fun t => t.1 ≤ n ∧ L17_1 t.1 z1 z2 s3 z4 l5 l6 l7 z8 z9 s10 l11 z12 l13 z14 t.2 = some (r1, r2, r3, r4, r5, r6, r7, r8, r9, r10, r11, r12, r13)) ?_ ?_
      · try cbv
        replace h := lenF_inv M h
        obtain ⟨z15, hz, h⟩ := h
        refine ⟨z15, hz, ?_⟩
        clear hz
        try cbv
        refine splitI (fun e => ?_) (fun e => ?_)
        · replace h := ite_t e h
          clear e
          try cbv
          exact join_next (n, true) [1, 2, 3, 4, 5, 7, 10] [.ext 0, .ext 1, .ext 2, .ext 3, .ext 4, .loc 0, .loc 32] 160 ⟨by omega, h⟩ (by cbv)
        · replace h := ite_f e h
          clear e
          try cbv
          exact join_next (n, false) [1, 2, 3, 4, 5, 7, 10] [.ext 0, .ext 1, .ext 2, .ext 3, .ext 4, .loc 0, .loc 32] 160 ⟨by omega, h⟩ (by cbv)
      · clear h
        rintro ⟨m1, b16⟩ ⟨hm1, h⟩
        replace hm1 : m1 ≤ n := hm1
        cases m1 with
        | zero =>
          replace h : L17_1 0 z1 z2 s3 z4 l5 l6 l7 z8 z9 s10 l11 z12 l13 z14 b16 = some (r1, r2, r3, r4, r5, r6, r7, r8, r9, r10, r11, r12, r13) := h
          rw [L17_1] at h
          cases h
        | succ m1 =>
          replace h : L17_1 (m1 + 1) z1 z2 s3 z4 l5 l6 l7 z8 z9 s10 l11 z12 l13 z14 b16 = some (r1, r2, r3, r4, r5, r6, r7, r8, r9, r10, r11, r12, r13) := h
          rw [L17_1] at h
          try cbv
          cases b16
          · replace h := ite_f Bool.false_ne_true h
            try cbv
            refine seq_join (T := Nat × List D × List D × Int × Int × ByteArray × List D × Int × List D × Int) (fun t => ⟨[(5, .v (.c (.ptr (.loc 0) 0))), (7, .v (.c (.ptr (.loc 32) 0)))], [(.ext 0, .tree .row true 6 t.2.1 none), (.ext 1, .tree .row false 1 t.2.2.1 none), (.ext 2, .cells [.d (.int .u8 t.2.2.2.1), .d (.int .i64 t.2.2.2.2.1), .d (.str t.2.2.2.2.2.1), .d (.list true 6 t.2.2.2.2.2.2.1), .d (.int .i64 t.2.2.2.2.2.2.2.1), .d (.list false 1 t.2.2.2.2.2.2.2.2.1)]), (.ext 3, .cells [.d (.int .u8 t.2.2.2.2.2.2.2.2.2)]), (.ext 4, .cells [.fn 17 [.ext 2, .ext 3, .ext 4]]), (.loc 0, .cells [.d (.int .u8 z1), .d (.int .i64 z2), .d (.str s3), .ow (.ext 0), .d (.int .i64 z4), .ow (.ext 1)]), (.loc 32, .cells [.d (.int .u8 0), .d (.int .i64 0), .d (.str ByteArray.empty), .nils true 6, .d (.int .i64 0), .nils false 1])], 992⟩) (fun t => t.1 ≤ m1 ∧ L17_3 t.1 z1 z2 s3 z4 t.2.1 t.2.2.1 t.2.2.2.1 t.2.2.2.2.1 t.2.2.2.2.2.1 t.2.2.2.2.2.2.1 t.2.2.2.2.2.2.2.1 t.2.2.2.2.2.2.2.2.1 t.2.2.2.2.2.2.2.2.2 = some (r1, r2, r3, r4, r5, r6, r7, r8, r9, r10, r11, r12, r13)) ?_ ?_
            · try cbv
              refine seq_go ?_
              try cbv
              replace h := getF_inv h
              obtain ⟨x23, hx23, h⟩ := h
              replace h := ds_i64_inv h
              obtain ⟨z24, rfl, h⟩ := h
              refine ⟨_, hx23.1, hx23.2, ?_⟩
              try cbv
              replace h := bO3_inv h
              obtain ⟨z25, l26, l27, hr, h⟩ := h
              first | refine .inr (.inl ⟨[], ?_⟩) | refine .inl ⟨[], ?_⟩
              try cbv
              refine call_with hM hI [.ext 0, .ext 1] (T14x1 _ hr) rfl (by simp) ⟨rfl, ⟨rfl, trivial⟩⟩ ⟨trivial, ⟨trivial, trivial⟩⟩ (by simp) ?_
              clear hr
              try cbv
              refine drawn ?_ ?_
              · show _ = true
                kernel_rfl
              try cbv
              refine seq_join (T := Nat × Bool) (fun t => ⟨[(1, .v (.d (.list false 1 l5))), (4, .v (.c (.ptr (.ext 4) 0))), (5, .v (.c (.ptr (.loc 0) 0))), (7, .v (.c (.ptr (.loc 32) 0))), (19, .v (.d (.bool t.2)))], [(.ext 0, .tree .row true 6 l26 none), (.ext 1, .tree .row false 1 l27 none), (.ext 2, .cells [.d (.int .u8 z8), .d (.int .i64 z9), .d (.str s10), .d (.list true 6 l11), .d (.int .i64 z12), .d (.list false 1 l13)]), (.ext 3, .cells [.d (.int .u8 z25)]), (.ext 4, .cells [.fn 17 [.ext 2, .ext 3, .ext 4]]), (.loc 0, .cells [.d (.int .u8 z1), .d (.int .i64 z2), .d (.str s3), .ow (.ext 0), .d (.int .i64 z4), .ow (.ext 1)]), (.loc 32, .cells [.d (.int .u8 0), .d (.int .i64 0), .d (.str ByteArray.empty), .nils true 6, .d (.int .i64 0), .nils false 1])], 416⟩) (fun t => t.1 ≤ m1 ∧ L17_2 t.1 z1 z2 s3 z4 l5 z8 z9 s10 l11 z12 l13 z24 z25 l26 l27 t.2 = some (r1, r2, r3, r4, r5, r6, r7, r8, r9, r10, r11, r12, r13)) ?_ ?_
              · try cbv
                refine splitI (fun e => ?_) (fun e => ?_)
                · replace h := ite_t e h
                  clear e
                  try cbv
                  exact join_next (m1, true) [1, 4, 5, 7, 19] [.ext 0, .ext 1, .ext 2, .ext 3, .ext 4, .loc 0, .loc 32] 416 ⟨by omega, h⟩ (by cbv)
                · replace h := ite_f e h
                  clear e
                  try cbv
                  exact join_next (m1, false) [1, 4, 5, 7, 19] [.ext 0, .ext 1, .ext 2, .ext 3, .ext 4, .loc 0, .loc 32] 416 ⟨by omega, h⟩ (by cbv)
              · clear h
                rintro ⟨m2, b28⟩ ⟨hm2, h⟩
                replace hm2 : m2 ≤ m1 := hm2
                cases m2 with
                | zero =>
                  replace h : L17_2 0 z1 z2 s3 z4 l5 z8 z9 s10 l11 z12 l13 z24 z25 l26 l27 b28 = some (r1, r2, r3, r4, r5, r6, r7, r8, r9, r10, r11, r12, r13) := h
                  rw [L17_2] at h
                  cases h
                | succ m2 =>
                  replace h : L17_2 (m2 + 1) z1 z2 s3 z4 l5 z8 z9 s10 l11 z12 l13 z24 z25 l26 l27 b28 = some (r1, r2, r3, r4, r5, r6, r7, r8, r9, r10, r11, r12, r13) := h
                  rw [L17_2] at h
                  try cbv
                  cases b28
                  · replace h := ite_f Bool.false_ne_true h
                    try cbv
                    exact join_next (m2, (l26, l27, z8, z9, s10, l11, z12, l13, z25)) [5, 7] [.ext 0, .ext 1, .ext 2, .ext 3, .ext 4, .loc 0, .loc 32] 992 ⟨by omega, h⟩ (by cbv)
                  · replace h := ite_t rfl h
                    try cbv
                    refine ⟨_, hx23.1, hx23.2, ?_⟩
                    try cbv
                    refine ⟨_, hx23.1, hx23.2, ?_⟩
                    try cbv
                    replace h := needF_inv h
                    obtain ⟨hn, h⟩ := h
                    refine ⟨(M.lock_iff _).2 hn, ?_⟩
                    clear hn
                    try cbv
                    refine ⟨[], ?_⟩
                    try cbv
                    replace h := getN_inv h
                    obtain ⟨x29, hx, h⟩ := h
                    replace h := ds_t25_inv h
                    obtain ⟨z30, z31, s32, l33, z34, l35, rfl, h⟩ := h
                    refine ⟨_, hx, ?_⟩
                    clear hx
                    try cbv
                    refine ⟨false, ?_⟩
                    try cbv
                    replace h := fromF_inv M h
                    obtain ⟨l36, hb, hz, h⟩ := h
                    refine ⟨l36, hb, hz, ?_⟩
                    clear hb hz
                    try cbv
                    replace h := bO13_inv h
                    obtain ⟨z37, z38, s39, z40, z41, z42, s43, l44, z45, l46, z47, l48, l49, hr, h⟩ := h
                    first | refine .inr (.inr ⟨[.ext 4], ?_⟩) | refine .inr ⟨[.ext 4], ?_⟩
                    try cbv
                    refine call_with hM hI [.loc 803, .loc 805, .ext 2, .ext 3, .ext 4] ((ih _ (by omega)) hr) rfl (by simp) ⟨rfl, ⟨rfl, ⟨rfl, ⟨rfl, ⟨rfl, trivial⟩⟩⟩⟩⟩ ⟨trivial, ⟨trivial, ⟨trivial, ⟨trivial, ⟨trivial, trivial⟩⟩⟩⟩⟩ (by simp) ?_
                    try cbv
                    first | refine ⟨(rfl : (_ : Option AObj) = _), ?_⟩ | skip
                    try cbv
                    clear hr
                    try cbv
                    replace h := needF_inv h
                    obtain ⟨hn, h⟩ := h
                    refine ⟨(M.lock_iff _).2 hn, ?_⟩
                    clear hn
                    try cbv
                    refine ⟨[], ?_⟩
                    try cbv
                    first | refine ⟨(rfl : (_ : Nat) = _), ?_⟩ | skip
                    try cbv
                    refine drawn ?_ ?_
                    · show _ = true
                      kernel_rfl
                    try cbv
                    replace h := setF_inv h
                    obtain ⟨l50, hl50, h⟩ := h
                    refine join_nextG (m2, (l50, l27, z41, z42, s43, l44, z45, l46, z47)) [.close (.ext 0)] [] [5, 7] [.ext 0, .ext 1, .ext 2, .ext 3, .ext 4, .loc 0, .loc 32] 992 ⟨by omega, h⟩ ?_
                    try cbv
                    refine ⟨l50, hl50, ?_⟩
                    clear hl50
                    try cbv
                    first | done | exact rfl | cbv
            · clear h
              rintro ⟨m3, l51, l52, z53, z54, s55, l56, z57, l58, z59⟩ ⟨hm3, h⟩
              replace hm3 : m3 ≤ m1 := hm3
              cases m3 with
              | zero =>
                replace h : L17_3 0 z1 z2 s3 z4 l51 l52 z53 z54 s55 l56 z57 l58 z59 = some (r1, r2, r3, r4, r5, r6, r7, r8, r9, r10, r11, r12, r13) := h
                rw [L17_3] at h
                cases h
              | succ m3 =>
                replace h : L17_3 (m3 + 1) z1 z2 s3 z4 l51 l52 z53 z54 s55 l56 z57 l58 z59 = some (r1, r2, r3, r4, r5, r6, r7, r8, r9, r10, r11, r12, r13) := h
                rw [L17_3] at h
                try cbv
                refine seq_go ?_
                try cbv
                obtain ⟨rfl, rfl, rfl, rfl, rfl, rfl, rfl, rfl, rfl, rfl, rfl, rfl, rfl⟩ := inj13 h
                refine ⟨_, _, _, ⟨rfl, rfl, rfl⟩, [.move (.ext 0), .move (.ext 1)], ?_⟩
                try cbv
                exact ⟨[.loc 1056, .loc 1088], rfl, rfl, ⟨rfl, ⟨rfl, ⟨rfl, trivial⟩⟩⟩, ⟨rfl, ⟨rfl, trivial⟩⟩, trivial⟩
          · replace h := ite_t rfl h
            try cbv
            refine seq_go ?_
            try cbv
            replace h := bO6_inv h
            obtain ⟨z17, z18, s19, z20, l21, l22, hr, h⟩ := h
            refine call_go rfl rfl ?_
            try cbv
            refine call_with hM hI [] (T15 _ hr) rfl (by simp) trivial trivial (by simp) ?_
            clear hr
            try cbv
            obtain ⟨rfl, rfl, rfl, rfl, rfl, rfl, rfl, rfl, rfl, rfl, rfl, rfl, rfl⟩ := inj13 h
            refine ⟨_, _, _, ⟨rfl, rfl, rfl⟩, [.drop (.ext 0), .drop (.ext 1)], ?_⟩
            try cbv
            exact ⟨[.loc 192, .loc 193], rfl, rfl, ⟨rfl, ⟨rfl, ⟨rfl, trivial⟩⟩⟩, ⟨rfl, ⟨rfl, trivial⟩⟩, trivial⟩
end Go.Proofs.Ytagiiaejijihoaa
end

set_option linter.unusedVariables false
noncomputable section
namespace Go.Proofs.Ytagiiaejijihoaa
open Go Go.AM
def L8_1 : Nat → Int → Int → ByteArray → Int → Int → (List D) → (List D) → Bool → Option (Int × Int × ByteArray × Int × Int × List D × List D)
  | 0, _, _, _, _, _, _, _, _ => none
  | n + 1, z20, z21, s22, z23, z30, l31, l32, b33 =>
    (if b33 = true then some ((0 : Int), (0 : Int), ByteArray.empty, (0 : Int), z30, ([] : List D), ([] : List D)) else some (z20, z21, s22, z23, (0 : Int), l31, l32))
def F8 (n : Nat) (z1 : Int) (z2 : Int) (s3 : ByteArray) (l4 : List D) (z5 : Int) (l6 : List D) (l7 : List D) (z8 : Int) (z9 : Int) (s10 : ByteArray) (l11 : List D) (z12 : Int) (l13 : List D) : Option (Int × Int × ByteArray × Int × Int × List D × List D) :=
  bO6 (F15 n z1 z2 s3 l4 z5 l6) fun z14 z15 s16 z17 l18 l19 => bO13 (F17 n z14 z15 s16 z17 l7 l18 l19 z8 z9 s10 l11 z12 l13 (0 : Int)) fun z20 z21 s22 z23 z24 z25 s26 l27 z28 l29 z30 l31 l32 => (if z30 = (0 : Int) then L8_1 n z20 z21 s22 z23 z30 l31 l32 false else L8_1 n z20 z21 s22 z23 z30 l31 l32 true)
set_option maxRecDepth 100000 in
set_option maxHeartbeats 40000000 in
theorem T8 (n : Nat) : ∀ ⦃z1 : Int⦄ ⦃z2 : Int⦄ ⦃s3 : ByteArray⦄ ⦃l4 : List D⦄ ⦃z5 : Int⦄ ⦃l6 : List D⦄ ⦃l7 : List D⦄ ⦃z8 : Int⦄ ⦃z9 : Int⦄ ⦃s10 : ByteArray⦄ ⦃l11 : List D⦄ ⦃z12 : Int⦄ ⦃l13 : List D⦄ ⦃r1 : Int⦄ ⦃r2 : Int⦄ ⦃r3 : ByteArray⦄ ⦃r4 : Int⦄ ⦃r5 : Int⦄ ⦃r6 : List D⦄ ⦃r7 : List D⦄, F8 n z1 z2 s3 l4 z5 l6 l7 z8 z9 s10 l11 z12 l13 = some (r1, r2, r3, r4, r5, r6, r7) →
    Trip Try.prog inv 8 [.d (.agg [.int .u8 z1, .int .i64 z2, .str s3, .list true 6 l4, .int .i64 z5, .list false 1 l6]), .d (.list false 1 l7), .d (.agg [.int .u8 z8, .int .i64 z9, .str s10, .list true 6 l11, .int .i64 z12, .list false 1 l13])] [] (.t [.agg [.d (.int .u8 r1), .d (.int .i64 r2), .d (.str r3), .ow (.loc 0), .d (.int .i64 r4), .ow (.loc 1)], .d (.int .u8 r5)]) [] [.tree .row true 6 r6 none, .tree .row false 1 r7 none] := by
  intro z1 z2 s3 l4 z5 l6 l7 z8 z9 s10 l11 z12 l13 r1 r2 r3 r4 r5 r6 r7 h
  unfold F8 at h
  refine Trip.of tab_ok tab_one fol Try.func8 rfl (by kernel_rfl) rfl rfl rfl (fun M hM hI => ?_)
  try cbv
  refine seq_go ?_
  try cbv
  refine seq_go ?_
  try cbv
  refine seq_go ?_
  try cbv
  refine seq_go ?_
  try cbv
  refine seq_go ?_
  try cbv
  replace h := bO6_inv h
  obtain ⟨z14, z15, s16, z17, l18, l19, hr, h⟩ := h
  first | refine .inr (.inl ⟨[], ?_⟩) | refine .inl ⟨[], ?_⟩
  try cbv
  refine call_with hM hI [] (T15 _ hr) rfl (by simp) trivial trivial (by simp) ?_
  clear hr
  try cbv
  replace h := bO13_inv h
  obtain ⟨z20, z21, s22, z23, z24, z25, s26, l27, z28, l29, z30, l31, l32, hr, h⟩ := h
  first | refine .inr (.inr ⟨[.loc 192], ?_⟩) | refine .inr ⟨[.loc 192], ?_⟩
  try cbv
  refine call_with hM hI [.loc 352, .loc 353, .loc 32, .loc 128, .loc 192] (T17 _ hr) rfl (by simp) ⟨rfl, ⟨rfl, ⟨rfl, ⟨rfl, ⟨rfl, trivial⟩⟩⟩⟩⟩ ⟨trivial, ⟨trivial, ⟨trivial, ⟨trivial, ⟨trivial, trivial⟩⟩⟩⟩⟩ (by simp) ?_
  try cbv
  first | refine ⟨(rfl : (_ : Option AObj) = _), ?_⟩ | skip
  try cbv
  clear hr
  try cbv
  refine drawn ?_ ?_
  · show _ = true
    kernel_rfl
  try cbv
  refine seq_go ?_
  try cbv
  refine seq_join (T := Nat × Bool) (fun t => ⟨[(6, .v (.c (.ptr (.loc 64) 0))), (7, .v (.d (.int .u8 0))), (8, .v (.c (.ptr (.loc 128) 0))), (10, .v (.c (.ptr (.loc 448) 0))), (18, .v (.d (.bool t.2)))], [(.loc 64, .cells [.d (.int .u8 0), .d (.int .i64 0), .d (.str ByteArray.empty), .nils true 6, .d (.int .i64 0), .nils false 1]), (.loc 128, .cells [.d (.int .u8 z30)]), (.loc 448, .cells [.d (.int .u8 z20), .d (.int .i64 z21), .d (.str s22), .ow (.loc 416), .d (.int .i64 z23), .ow (.loc 417)]), (.loc 416, .tree .row true 6 l31 none), (.loc 417, .tree .row false 1 l32 none)], 576⟩) (fun t => t.1 ≤ n ∧ L8_1 t.1 z20 z21 s22 z23 z30 l31 l32 t.2 = some (r1, r2, r3, r4, r5, r6, r7)) ?_ ?_
  · try cbv
    refine splitI (fun e => ?_) (fun e => ?_)
    · replace h := ite_t e h
      clear e
      try cbv
      exact join_next (n, false) [6, 7, 8, 10, 18] [.loc 64, .loc 128, .loc 448, .loc 416, .loc 417] 576 ⟨by omega, h⟩ (by cbv)
    · replace h := ite_f e h
      clear e
      try cbv
      exact join_next (n, true) [6, 7, 8, 10, 18] [.loc 64, .loc 128, .loc 448, .loc 416, .loc 417] 576 ⟨by omega, h⟩ (by cbv)
  · clear h
    rintro ⟨m1, b33⟩ ⟨hm1, h⟩
    replace hm1 : m1 ≤ n := hm1
    cases m1 with
    | zero =>
      replace h : L8_1 0 z20 z21 s22 z23 z30 l31 l32 b33 = some (r1, r2, r3, r4, r5, r6, r7) := h
      rw [L8_1] at h
      cases h
    | succ m1 =>
      replace h : L8_1 (m1 + 1) z20 z21 s22 z23 z30 l31 l32 b33 = some (r1, r2, r3, r4, r5, r6, r7) := h
      rw [L8_1] at h
      try cbv
      cases b33
      · replace h := ite_f Bool.false_ne_true h
        try cbv
        refine seq_go ?_
        try cbv
        obtain ⟨rfl, rfl, rfl, rfl, rfl, rfl, rfl⟩ := inj7 h
        refine fin_go ?_
        try cbv
        exact ⟨[.loc 416, .loc 417], rfl, rfl, trivial, ⟨rfl, ⟨rfl, trivial⟩⟩, trivial⟩
      · replace h := ite_t rfl h
        try cbv
        refine seq_go ?_
        try cbv
        refine drawn ?_ ?_
        · show _ = true
          kernel_rfl
        try cbv
        obtain ⟨rfl, rfl, rfl, rfl, rfl, rfl, rfl⟩ := inj7 h
        refine ⟨_, _, _, ⟨rfl, rfl, rfl⟩, [.treeC (.loc 64) 3 true 6, .treeC (.loc 64) 5 false 1], ?_⟩
        try cbv
        exact ⟨[.loc 704, .loc 736], rfl, rfl, trivial, ⟨rfl, ⟨rfl, trivial⟩⟩, trivial⟩
end Go.Proofs.Ytagiiaejijihoaa
end

set_option linter.unusedVariables false
noncomputable section
namespace Go.Proofs.Ytagiiaejijihoaa
open Go Go.AM
mutual
def L9_1 : Nat → Int → Int → ByteArray → (List D) → Int → (List D) → (List D) → Int → Int → ByteArray → (List D) → Int → (List D) → Bool → Option (Int × Int × ByteArray × Int × Int × List D × List D)
  | 0, _, _, _, _, _, _, _, _, _, _, _, _, _, _ => none
  | n + 1, z1, z2, s3, l4, z5, l6, l7, z8, z9, s10, l11, z12, l13, b15 =>
    (if b15 = true then bO6 (F5 n z8 z9 s10 l11 z12 l13) fun z16 z17 s18 z19 l20 l21 => some (z16, z17, s18, z19, (0 : Int), l20, l21) else getF l7 0 fun x22 => ds_i64 x22 fun z23 => bO1 (F16 n z1 z2 s3 l4 z5 l6 z23) fun z24 => (if z24 = (0 : Int) then L9_2 n z1 z2 s3 l4 z5 l6 l7 z8 z9 s10 l11 z12 l13 z23 z24 false else L9_2 n z1 z2 s3 l4 z5 l6 l7 z8 z9 s10 l11 z12 l13 z23 z24 true))
def L9_2 : Nat → Int → Int → ByteArray → (List D) → Int → (List D) → (List D) → Int → Int → ByteArray → (List D) → Int → (List D) → Int → Int → Bool → Option (Int × Int × ByteArray × Int × Int × List D × List D)
  | 0, _, _, _, _, _, _, _, _, _, _, _, _, _, _, _, _ => none
  | n + 1, z1, z2, s3, l4, z5, l6, l7, z8, z9, s10, l11, z12, l13, z23, z24, b25 =>
    (if b25 = true then some ((0 : Int), (0 : Int), ByteArray.empty, (0 : Int), z24, ([] : List D), ([] : List D)) else getF l4 z23 fun x26 => ds_t25 x26 fun z27 z28 s29 l30 z31 l32 => fromF l7 (1 : Int) fun l33 => bO7 (F9 n z27 z28 s29 l30 z31 l32 l33 z8 z9 s10 l11 z12 l13) fun z34 z35 s36 z37 z38 l39 l40 => (if z38 = (0 : Int) then L9_3 n z1 z2 s3 l4 z5 l6 z23 z34 z35 s36 z37 z38 l39 l40 false else L9_3 n z1 z2 s3 l4 z5 l6 z23 z34 z35 s36 z37 z38 l39 l40 true))
def L9_3 : Nat → Int → Int → ByteArray → (List D) → Int → (List D) → Int → Int → Int → ByteArray → Int → Int → (List D) → (List D) → Bool → Option (Int × Int × ByteArray × Int × Int × List D × List D)
  | 0, _, _, _, _, _, _, _, _, _, _, _, _, _, _, _ => none
  | n + 1, z1, z2, s3, l4, z5, l6, z23, z34, z35, s36, z37, z38, l39, l40, b41 =>
    (if b41 = true then some ((0 : Int), (0 : Int), ByteArray.empty, (0 : Int), z38, ([] : List D), ([] : List D)) else bO6 (F5 n z1 z2 s3 l4 z5 l6) fun z42 z43 s44 z45 l46 l47 => needF (0 ≤ z23 ∧ z23.toNat < l46.length) (getN l46 (z23.toNat) fun x48 => ds_t25 x48 fun z49 z50 s51 l52 z53 l54 => setF l46 (z23.toNat) (.agg [.int .u8 z34, .int .i64 z35, .str s36, .list true 6 l39, .int .i64 z37, .list false 1 l40]) fun l55 => some (z42, z43, s44, z45, (0 : Int), l55, l47)))
def F9 : Nat → Int → Int → ByteArray → (List D) → Int → (List D) → (List D) → Int → Int → ByteArray → (List D) → Int → (List D) → Option (Int × Int × ByteArray × Int × Int × List D × List D)
  | 0, _, _, _, _, _, _, _, _, _, _, _, _, _ => none
  | n + 1, z1, z2, s3, l4, z5, l6, l7, z8, z9, s10, l11, z12, l13 =>
    lenF l7 fun z14 => (if z14 = (0 : Int) then L9_1 n z1 z2 s3 l4 z5 l6 l7 z8 z9 s10 l11 z12 l13 true else L9_1 n z1 z2 s3 l4 z5 l6 l7 z8 z9 s10 l11 z12 l13 false)
end
set_option maxRecDepth 100000 in
set_option maxHeartbeats 40000000 in
theorem T9 (n : Nat) : ∀ ⦃z1 : Int⦄ ⦃z2 : Int⦄ ⦃s3 : ByteArray⦄ ⦃l4 : List D⦄ ⦃z5 : Int⦄ ⦃l6 : List D⦄ ⦃l7 : List D⦄ ⦃z8 : Int⦄ ⦃z9 : Int⦄ ⦃s10 : ByteArray⦄ ⦃l11 : List D⦄ ⦃z12 : Int⦄ ⦃l13 : List D⦄ ⦃r1 : Int⦄ ⦃r2 : Int⦄ ⦃r3 : ByteArray⦄ ⦃r4 : Int⦄ ⦃r5 : Int⦄ ⦃r6 : List D⦄ ⦃r7 : List D⦄, F9 n z1 z2 s3 l4 z5 l6 l7 z8 z9 s10 l11 z12 l13 = some (r1, r2, r3, r4, r5, r6, r7) →
    Trip Try.prog inv 9 [.d (.agg [.int .u8 z1, .int .i64 z2, .str s3, .list true 6 l4, .int .i64 z5, .list false 1 l6]), .d (.list false 1 l7), .d (.agg [.int .u8 z8, .int .i64 z9, .str s10, .list true 6 l11, .int .i64 z12, .list false 1 l13])] [] (.t [.agg [.d (.int .u8 r1), .d (.int .i64 r2), .d (.str r3), .ow (.loc 0), .d (.int .i64 r4), .ow (.loc 1)], .d (.int .i64 r5)]) [] [.tree .row true 6 r6 none, .tree .row false 1 r7 none] := by
  induction n using Nat.strongRecOn with
  | _ n ih =>
    cases n with
    | zero =>
      intro z1 z2 s3 l4 z5 l6 l7 z8 z9 s10 l11 z12 l13 r1 r2 r3 r4 r5 r6 r7 h
      cases (show (none : Option _) = some _ from h)
    | succ n =>
      intro z1 z2 s3 l4 z5 l6 l7 z8 z9 s10 l11 z12 l13 r1 r2 r3 r4 r5 r6 r7 h
      rw [F9] at h
      refine Trip.of tab_ok tab_one fol Try.func9 rfl (by kernel_rfl) rfl rfl rfl (fun M hM hI => ?_)
      try cbv
      refine seq_go ?_
      try cbv
      refine seq_go ?_
      try cbv
      refine seq_join (T := Nat × Bool) (fun t => ⟨[(1, .v (.d (.list false 1 l7))), (3, .v (.c (.ptr (.loc 0) 0))), (5, .v (.c (.ptr (.loc 32) 0))), (6, .v (.c (.ptr (.loc 64) 0))), (7, .v (.d (.int .i64 0))), (14, .v (.d (.bool t.2)))], [(.loc 0, .cells [.d (.int .u8 z1), .d (.int .i64 z2), .d (.str s3), .d (.list true 6 l4), .d (.int .i64 z5), .d (.list false 1 l6)]), (.loc 32, .cells [.d (.int .u8 z8), .d (.int .i64 z9), .d (.str s10), .d (.list true 6 l11), .d (.int .i64 z12), .d (.list false 1 l13)]), (.loc 64, .cells [.d (.int .u8 0), .d (.int .i64 0), .d (.str ByteArray.empty), .nils true 6, .d (.int .i64 0), .nils false 1])], 224⟩) (fun t => t.1 ≤ n ∧ L9_1 t.1 z1 z2 s3 l4 z5 l6 l7 z8 z9 s10 l11 z12 l13 t.2 = some (r1, r2, r3, r4, r5, r6, r7)) ?_ ?_
      · try cbv
        replace h := lenF_inv M h
        obtain ⟨z14, hz, h⟩ := h
        refine ⟨z14, hz, ?_⟩
        clear hz
        try cbv
        refine splitI (fun e => ?_) (fun e => ?_)
        · replace h := ite_t e h
          clear e
          try cbv
          exact join_next (n, true) [1, 3, 5, 6, 7, 14] [.loc 0, .loc 32, .loc 64] 224 ⟨by omega, h⟩ (by cbv)
        · replace h := ite_f e h
          clear e
          try cbv
          exact join_next (n, false) [1, 3, 5, 6, 7, 14] [.loc 0, .loc 32, .loc 64] 224 ⟨by omega, h⟩ (by cbv)
      · clear h
        rintro ⟨m1, b15⟩ ⟨hm1, h⟩
        replace hm1 : m1 ≤ n := hm1
        cases m1 with
        | zero =>
          replace h : L9_1 0 z1 z2 s3 l4 z5 l6 l7 z8 z9 s10 l11 z12 l13 b15 = some (r1, r2, r3, r4, r5, r6, r7) := h
          rw [L9_1] at h
          cases h
        | succ m1 =>
          replace h : L9_1 (m1 + 1) z1 z2 s3 l4 z5 l6 l7 z8 z9 s10 l11 z12 l13 b15 = some (r1, r2, r3, r4, r5, r6, r7) := h
          rw [L9_1] at h
          try cbv
          cases b15
          · replace h := ite_f Bool.false_ne_true h
            try cbv
            refine seq_go ?_
            try cbv
            replace h := getF_inv h
            obtain ⟨x22, hx22, h⟩ := h
            replace h := ds_i64_inv h
            obtain ⟨z23, rfl, h⟩ := h
            refine ⟨_, hx22.1, hx22.2, ?_⟩
            try cbv
            replace h := bO1_inv h
            obtain ⟨z24, hr, h⟩ := h
            first | refine .inr (.inl ⟨[], ?_⟩) | refine .inl ⟨[], ?_⟩
            try cbv
            refine call_pure hM hI (T16 _ hr) rfl ?_
            clear hr
            try cbv
            refine drawn ?_ ?_
            · show _ = true
              kernel_rfl
            try cbv
            refine seq_go ?_
            try cbv
            refine seq_join (T := Nat × Bool) (fun t => ⟨[(1, .v (.d (.list false 1 l7))), (3, .v (.c (.ptr (.loc 0) 0))), (5, .v (.c (.ptr (.loc 32) 0))), (6, .v (.c (.ptr (.loc 64) 0))), (7, .v (.d (.int .i64 0))), (8, .v (.d (.int .i64 z24))), (23, .v (.d (.bool t.2)))], [(.loc 0, .cells [.d (.int .u8 z1), .d (.int .i64 z2), .d (.str s3), .d (.list true 6 l4), .d (.int .i64 z5), .d (.list false 1 l6)]), (.loc 32, .cells [.d (.int .u8 z8), .d (.int .i64 z9), .d (.str s10), .d (.list true 6 l11), .d (.int .i64 z12), .d (.list false 1 l13)]), (.loc 64, .cells [.d (.int .u8 0), .d (.int .i64 0), .d (.str ByteArray.empty), .nils true 6, .d (.int .i64 0), .nils false 1])], 480⟩) (fun t => t.1 ≤ m1 ∧ L9_2 t.1 z1 z2 s3 l4 z5 l6 l7 z8 z9 s10 l11 z12 l13 z23 z24 t.2 = some (r1, r2, r3, r4, r5, r6, r7)) ?_ ?_
            · try cbv
              refine splitI (fun e => ?_) (fun e => ?_)
              · replace h := ite_t e h
                clear e
                try cbv
                exact join_next (m1, false) [1, 3, 5, 6, 7, 8, 23] [.loc 0, .loc 32, .loc 64] 480 ⟨by omega, h⟩ (by cbv)
              · replace h := ite_f e h
                clear e
                try cbv
                exact join_next (m1, true) [1, 3, 5, 6, 7, 8, 23] [.loc 0, .loc 32, .loc 64] 480 ⟨by omega, h⟩ (by cbv)
            · clear h
              rintro ⟨m2, b25⟩ ⟨hm2, h⟩
              replace hm2 : m2 ≤ m1 := hm2
              cases m2 with
              | zero =>
                replace h : L9_2 0 z1 z2 s3 l4 z5 l6 l7 z8 z9 s10 l11 z12 l13 z23 z24 b25 = some (r1, r2, r3, r4, r5, r6, r7) := h
                rw [L9_2] at h
                cases h
              | succ m2 =>
                replace h : L9_2 (m2 + 1) z1 z2 s3 l4 z5 l6 l7 z8 z9 s10 l11 z12 l13 z23 z24 b25 = some (r1, r2, r3, r4, r5, r6, r7) := h
                rw [L9_2] at h
                try cbv
                cases b25
                · replace h := ite_f Bool.false_ne_true h
                  try cbv
                  refine seq_go ?_
                  try cbv
                  refine ⟨_, hx22.1, hx22.2, ?_⟩
                  try cbv
                  replace h := getF_inv h
                  obtain ⟨x26, hx26, h⟩ := h
                  replace h := ds_t25_inv h
                  obtain ⟨z27, z28, s29, l30, z31, l32, rfl, h⟩ := h
                  refine ⟨_, hx26.1, hx26.2, ?_⟩
                  try cbv
                  replace h := fromF_inv M h
                  obtain ⟨l33, hb, hz, h⟩ := h
                  refine ⟨l33, hb, hz, ?_⟩
                  clear hb hz
                  try cbv
                  replace h := bO7_inv h
                  obtain ⟨z34, z35, s36, z37, z38, l39, l40, hr, h⟩ := h
                  first | refine .inr (.inl ⟨[], ?_⟩) | refine .inl ⟨[], ?_⟩
                  try cbv
                  refine call_with hM hI [] ((ih _ (by omega)) hr) rfl (by simp) trivial trivial (by simp) ?_
                  clear hr
                  try cbv
                  refine drawn ?_ ?_
                  · show _ = true
                    kernel_rfl
                  try cbv
                  refine seq_go ?_
                  try cbv
                  refine seq_join (T := Nat × Bool) (fun t => ⟨[(1, .v (.d (.list false 1 l7))), (3, .v (.c (.ptr (.loc 0) 0))), (6, .v (.c (.ptr (.loc 64) 0))), (7, .v (.d (.int .i64 0))), (9, .v (.c (.ptr (.loc 928) 0))), (10, .v (.d (.int .i64 z38))), (41, .v (.d (.bool t.2)))], [(.loc 0, .cells [.d (.int .u8 z1), .d (.int .i64 z2), .d (.str s3), .d (.list true 6 l4), .d (.int .i64 z5), .d (.list false 1 l6)]), (.loc 64, .cells [.d (.int .u8 0), .d (.int .i64 0), .d (.str ByteArray.empty), .nils true 6, .d (.int .i64 0), .nils false 1]), (.loc 928, .cells [.d (.int .u8 z34), .d (.int .i64 z35), .d (.str s36), .ow (.loc 800), .d (.int .i64 z37), .ow (.loc 801)]), (.loc 800, .tree .row true 6 l39 none), (.loc 801, .tree .row false 1 l40 none)], 1088⟩) (fun t => t.1 ≤ m2 ∧ L9_3 t.1 z1 z2 s3 l4 z5 l6 z23 z34 z35 s36 z37 z38 l39 l40 t.2 = some (r1, r2, r3, r4, r5, r6, r7)) ?_ ?_
                  · try cbv
                    refine splitI (fun e => ?_) (fun e => ?_)
                    · replace h := ite_t e h
                      clear e
                      try cbv
                      exact join_next (m2, false) [1, 3, 6, 7, 9, 10, 41] [.loc 0, .loc 64, .loc 928, .loc 800, .loc 801] 1088 ⟨by omega, h⟩ (by cbv)
                    · replace h := ite_f e h
                      clear e
                      try cbv
                      exact join_next (m2, true) [1, 3, 6, 7, 9, 10, 41] [.loc 0, .loc 64, .loc 928, .loc 800, .loc 801] 1088 ⟨by omega, h⟩ (by cbv)
                  · clear h
                    rintro ⟨m3, b41⟩ ⟨hm3, h⟩
                    replace hm3 : m3 ≤ m2 := hm3
                    cases m3 with
                    | zero =>
                      replace h : L9_3 0 z1 z2 s3 l4 z5 l6 z23 z34 z35 s36 z37 z38 l39 l40 b41 = some (r1, r2, r3, r4, r5, r6, r7) := h
                      rw [L9_3] at h
                      cases h
                    | succ m3 =>
                      replace h : L9_3 (m3 + 1) z1 z2 s3 l4 z5 l6 z23 z34 z35 s36 z37 z38 l39 l40 b41 = some (r1, r2, r3, r4, r5, r6, r7) := h
                      rw [L9_3] at h
                      try cbv
                      cases b41
                      · replace h := ite_f Bool.false_ne_true h
                        try cbv
                        refine seq_go ?_
                        try cbv
                        replace h := bO6_inv h
                        obtain ⟨z42, z43, s44, z45, l46, l47, hr, h⟩ := h
                        refine call_go rfl rfl ?_
                        try cbv
                        refine call_with hM hI [] (T5 _ hr) rfl (by simp) trivial trivial (by simp) ?_
                        clear hr
                        try cbv
                        refine seq_go ?_
                        try cbv
                        refine ⟨_, hx22.1, hx22.2, ?_⟩
                        try cbv
                        replace h := needF_inv h
                        obtain ⟨hn, h⟩ := h
                        refine ⟨(M.lock_iff _).2 hn, ?_⟩
                        clear hn
                        try cbv
                        refine ⟨[], ?_⟩
                        try cbv
                        replace h := getN_inv h
                        obtain ⟨x48, hx, h⟩ := h
                        replace h := ds_t25_inv h
                        obtain ⟨z49, z50, s51, l52, z53, l54, rfl, h⟩ := h
                        refine ⟨_, hx, ?_⟩
                        clear hx
                        try cbv
                        refine drawn ?_ ?_
                        · show _ = true
                          kernel_rfl
                        try cbv
                        refine seq_go ?_
                        try cbv
                        replace h := setF_inv h
                        obtain ⟨l55, hl55, h⟩ := h
                        obtain ⟨rfl, rfl, rfl, rfl, rfl, rfl, rfl⟩ := inj7 h
                        refine ⟨_, _, _, ⟨rfl, rfl, rfl⟩, [.close (.loc 1120)], ?_⟩
                        try cbv
                        refine ⟨l55, hl55, ?_⟩
                        clear hl55
                        try cbv
                        exact ⟨[.loc 1120, .loc 1121], rfl, rfl, trivial, ⟨rfl, ⟨rfl, trivial⟩⟩, trivial⟩
                      · replace h := ite_t rfl h
                        try cbv
                        refine seq_go ?_
                        try cbv
                        obtain ⟨rfl, rfl, rfl, rfl, rfl, rfl, rfl⟩ := inj7 h
                        refine ⟨_, _, _, ⟨rfl, rfl, rfl⟩, [.treeC (.loc 64) 3 true 6, .treeC (.loc 64) 5 false 1], ?_⟩
                        try cbv
                        exact ⟨[.loc 1216, .loc 1248], rfl, rfl, trivial, ⟨rfl, ⟨rfl, trivial⟩⟩, trivial⟩
                · replace h := ite_t rfl h
                  try cbv
                  refine seq_go ?_
                  try cbv
                  obtain ⟨rfl, rfl, rfl, rfl, rfl, rfl, rfl⟩ := inj7 h
                  refine ⟨_, _, _, ⟨rfl, rfl, rfl⟩, [.treeC (.loc 64) 3 true 6, .treeC (.loc 64) 5 false 1], ?_⟩
                  try cbv
                  exact ⟨[.loc 608, .loc 640], rfl, rfl, trivial, ⟨rfl, ⟨rfl, trivial⟩⟩, trivial⟩
          · replace h := ite_t rfl h
            try cbv
            refine seq_go ?_
            try cbv
            replace h := bO6_inv h
            obtain ⟨z16, z17, s18, z19, l20, l21, hr, h⟩ := h
            refine call_go rfl rfl ?_
            try cbv
            refine call_with hM hI [] (T5 _ hr) rfl (by simp) trivial trivial (by simp) ?_
            clear hr
            try cbv
            obtain ⟨rfl, rfl, rfl, rfl, rfl, rfl, rfl⟩ := inj7 h
            refine fin_go ?_
            try cbv
            exact ⟨[.loc 256, .loc 257], rfl, rfl, trivial, ⟨rfl, ⟨rfl, trivial⟩⟩, trivial⟩
end Go.Proofs.Ytagiiaejijihoaa
end

set_option linter.unusedVariables false
noncomputable section
namespace Go.Proofs.Ytagiiaejijihoaa
open Go Go.AM
set_option maxHeartbeats 40000000 in
mutual
def L3_1 : Nat → Int → Int → ByteArray → (List D) → Int → (List D) → Int → Int → ByteArray → (List D) → Int → (List D) → (List D) → Int → Int → ByteArray → Int → (List D) → (List D) → Int → Int → ByteArray → Int → (List D) → (List D) → Int → Option (Bool)
  | 0, _, _, _, _, _, _, _, _, _, _, _, _, _, _, _, _, _, _, _, _, _, _, _, _, _, _ => none
  | n + 1, z1, z2, s3, l4, z5, l6, z7, z8, s9, l10, z11, l12, l13, z15, z16, s17, z18, l19, l20, z21, z22, s23, z24, l25, l26, z27 =>
    (if z27 < (2 : Int) then L3_2 n z1 z2 s3 l4 z5 l6 z7 z8 s9 l10 z11 l12 l13 z15 z16 s17 z18 l19 l20 z21 z22 s23 z24 l25 l26 z27 true else L3_2 n z1 z2 s3 l4 z5 l6 z7 z8 s9 l10 z11 l12 l13 z15 z16 s17 z18 l19 l20 z21 z22 s23 z24 l25 l26 z27 false)
def L3_2 : Nat → Int → Int → ByteArray → (List D) → Int → (List D) → Int → Int → ByteArray → (List D) → Int → (List D) → (List D) → Int → Int → ByteArray → Int → (List D) → (List D) → Int → Int → ByteArray → Int → (List D) → (List D) → Int → Bool → Option (Bool)
  | 0, _, _, _, _, _, _, _, _, _, _, _, _, _, _, _, _, _, _, _, _, _, _, _, _, _, _, _ => none
  | n + 1, z1, z2, s3, l4, z5, l6, z7, z8, s9, l10, z11, l12, l13, z15, z16, s17, z18, l19, l20, z21, z22, s23, z24, l25, l26, z27, b28 =>
    (if b28 = true then bO7 (F6 n z15 z16 s17 l19 z18 l20 l13) fun z29 z30 s31 z32 z33 l34 l35 => bO7 (F7 n z1 z2 s3 l4 z5 l6 l13) fun z36 z37 s38 l39 z40 l41 z42 => bO7 (F8 n z15 z16 s17 l19 z18 l20 l13 z21 z22 s23 l25 z24 l26) fun z43 z44 s45 z46 z47 l48 l49 => bO7 (F9 n z1 z2 s3 l4 z5 l6 l13 z7 z8 s9 l10 z11 l12) fun z50 z51 s52 z53 z54 l55 l56 => bO3 (F10 n z29 z30 s31 z32 z36 z37 s38 l39 z40 l41 l34 l35) fun b57 l58 l59 => letB (!b57) fun b60 => (if b60 = true then L3_3 n z1 z2 s3 l4 z5 l6 z7 z8 s9 l10 z11 l12 l13 z15 z16 s17 z18 l19 l20 z21 z22 s23 z24 l25 l26 z27 z29 z30 s31 z32 z43 z44 s45 z46 true l58 l59 l48 l49 else letF (IntKind.wrap .i64 z33) fun z61 => (if z61 = z42 then bO5 (F10x1 n z43 z44 s45 z46 z50 z51 s52 z53 l48 l49 l55 l56) fun b62 l63 l64 l65 l66 => letB (!b62) fun b67 => (if b67 = true then L3_3 n z1 z2 s3 l4 z5 l6 z7 z8 s9 l10 z11 l12 l13 z15 z16 s17 z18 l19 l20 z21 z22 s23 z24 l25 l26 z27 z29 z30 s31 z32 z43 z44 s45 z46 true l58 l59 l63 l64 else letF (IntKind.wrap .i64 z47) fun z68 => (if z68 = z54 then bO1 (F10x2 n z15 z16 s17 l19 z18 l20 z1 z2 s3 l4 z5 l6) fun b69 => letB (!b69) fun b70 => (if b70 = true then L3_3 n z1 z2 s3 l4 z5 l6 z7 z8 s9 l10 z11 l12 l13 z15 z16 s17 z18 l19 l20 z21 z22 s23 z24 l25 l26 z27 z29 z30 s31 z32 z43 z44 s45 z46 true l58 l59 l63 l64 else bO1 (F10x2 n z21 z22 s23 l25 z24 l26 z7 z8 s9 l10 z11 l12) fun b71 => letB (!b71) fun b72 => L3_3 n z1 z2 s3 l4 z5 l6 z7 z8 s9 l10 z11 l12 l13 z15 z16 s17 z18 l19 l20 z21 z22 s23 z24 l25 l26 z27 z29 z30 s31 z32 z43 z44 s45 z46 b72 l58 l59 l63 l64) else L3_3 n z1 z2 s3 l4 z5 l6 z7 z8 s9 l10 z11 l12 l13 z15 z16 s17 z18 l19 l20 z21 z22 s23 z24 l25 l26 z27 z29 z30 s31 z32 z43 z44 s45 z46 true l58 l59 l63 l64)) else L3_3 n z1 z2 s3 l4 z5 l6 z7 z8 s9 l10 z11 l12 l13 z15 z16 s17 z18 l19 l20 z21 z22 s23 z24 l25 l26 z27 z29 z30 s31 z32 z43 z44 s45 z46 true l58 l59 l48 l49)) else some true)
def L3_3 : Nat → Int → Int → ByteArray → (List D) → Int → (List D) → Int → Int → ByteArray → (List D) → Int → (List D) → (List D) → Int → Int → ByteArray → Int → (List D) → (List D) → Int → Int → ByteArray → Int → (List D) → (List D) → Int → Int → Int → ByteArray → Int → Int → Int → ByteArray → Int → Bool → (List D) → (List D) → (List D) → (List D) → Option (Bool)
  | 0, _, _, _, _, _, _, _, _, _, _, _, _, _, _, _, _, _, _, _, _, _, _, _, _, _, _, _, _, _, _, _, _, _, _, _, _, _, _, _ => none
  | n + 1, z1, z2, s3, l4, z5, l6, z7, z8, s9, l10, z11, l12, l13, z15, z16, s17, z18, l19, l20, z21, z22, s23, z24, l25, l26, z27, z29, z30, s31, z32, z43, z44, s45, z46, b73, l74, l75, l76, l77 =>
    (if b73 = true then some false else bO2 (F11 n z29 z30 s31 z32 l74 l75) fun l78 l79 => bO2 (F11 n z43 z44 s45 z46 l76 l77) fun l80 l81 => letF (IntKind.wrap .i64 (z27 + 1)) fun z82 => L3_1 n z1 z2 s3 l4 z5 l6 z7 z8 s9 l10 z11 l12 l13 z15 z16 s17 z18 l19 l20 z21 z22 s23 z24 l25 l26 z82)
end
def F3 (n : Nat) (z1 : Int) (z2 : Int) (s3 : ByteArray) (l4 : List D) (z5 : Int) (l6 : List D) (z7 : Int) (z8 : Int) (s9 : ByteArray) (l10 : List D) (z11 : Int) (l12 : List D) (l13 : List D) : Option (Bool) :=
  bO1 (F4 n z1 z2 s3 l4 z5 l6 z7 z8 s9 l10 z11 l12 l13) fun b14 => (if b14 = true then some true else bO6 (F5 n z1 z2 s3 l4 z5 l6) fun z15 z16 s17 z18 l19 l20 => bO6 (F5 n z7 z8 s9 l10 z11 l12) fun z21 z22 s23 z24 l25 l26 => L3_1 n z1 z2 s3 l4 z5 l6 z7 z8 s9 l10 z11 l12 l13 z15 z16 s17 z18 l19 l20 z21 z22 s23 z24 l25 l26 (0 : Int))
set_option maxRecDepth 100000 in
set_option maxHeartbeats 40000000 in
theorem T3 (n : Nat) : ∀ ⦃z1 : Int⦄ ⦃z2 : Int⦄ ⦃s3 : ByteArray⦄ ⦃l4 : List D⦄ ⦃z5 : Int⦄ ⦃l6 : List D⦄ ⦃z7 : Int⦄ ⦃z8 : Int⦄ ⦃s9 : ByteArray⦄ ⦃l10 : List D⦄ ⦃z11 : Int⦄ ⦃l12 : List D⦄ ⦃l13 : List D⦄ ⦃r1 : Bool⦄, F3 n z1 z2 s3 l4 z5 l6 z7 z8 s9 l10 z11 l12 l13 = some r1 →
    Trip Try.prog inv 3 [.d (.agg [.int .u8 z1, .int .i64 z2, .str s3, .list true 6 l4, .int .i64 z5, .list false 1 l6]), .d (.agg [.int .u8 z7, .int .i64 z8, .str s9, .list true 6 l10, .int .i64 z11, .list false 1 l12]), .d (.list false 1 l13)] [] (.v (.d (.bool r1))) [] [] := by
  intro z1 z2 s3 l4 z5 l6 z7 z8 s9 l10 z11 l12 l13 r1 h
  unfold F3 at h
  refine Trip.of tab_ok tab_one fol Try.func3 rfl (by kernel_rfl) rfl rfl rfl (fun M hM hI => ?_)
  try cbv
  refine seq_go ?_
  try cbv
  refine seq_go ?_
  try cbv
  refine seq_go ?_
  try cbv
  replace h := bO1_inv h
  obtain ⟨b14, hr, h⟩ := h
  refine call_go rfl rfl ?_
  try cbv
  refine call_pure hM hI (T4 _ hr) rfl ?_
  clear hr
  try cbv
  cases b14
  · replace h := ite_f Bool.false_ne_true h
    try cbv
    refine seq_go ?_
    try cbv
    replace h := bO6_inv h
    obtain ⟨z15, z16, s17, z18, l19, l20, hr, h⟩ := h
    first | refine .inr (.inl ⟨[], ?_⟩) | refine .inl ⟨[], ?_⟩
    try cbv
    refine call_with hM hI [] (T5 _ hr) rfl (by simp) trivial trivial (by simp) ?_
    clear hr
    try cbv
    replace h := bO6_inv h
    obtain ⟨z21, z22, s23, z24, l25, l26, hr, h⟩ := h
    first | refine .inr (.inl ⟨[], ?_⟩) | refine .inl ⟨[], ?_⟩
    try cbv
    refine call_with hM hI [] (T5 _ hr) rfl (by simp) trivial trivial (by simp) ?_
    clear hr
    try cbv
    refine drawn ?_ ?_
    · show _ = true
      kernel_rfl
    try cbv
    refine seq_go ?_
    try cbv
    refine seq_go ?_
    try cbv
    refine loop_invG (T := Nat × Int) [.freeze (.loc 256), .freeze (.loc 257), .freeze (.loc 320), .freeze (.loc 321)] [] [2, 3, 4, 6, 7, 8, 9] [.loc 0, .loc 32, .loc 352, .loc 384] 512 (fun t => ⟨[(2, .v (.d (.list false 1 l13))), (3, .v (.c (.ptr (.loc 0) 0))), (4, .v (.c (.ptr (.loc 32) 0))), (6, .v (.d (.bool false))), (7, .v (.c (.ptr (.loc 352) 0))), (8, .v (.c (.ptr (.loc 384) 0))), (9, .v (.d (.int .i64 t.2)))], [(.loc 0, .cells [.d (.int .u8 z1), .d (.int .i64 z2), .d (.str s3), .d (.list true 6 l4), .d (.int .i64 z5), .d (.list false 1 l6)]), (.loc 32, .cells [.d (.int .u8 z7), .d (.int .i64 z8), .d (.str s9), .d (.list true 6 l10), .d (.int .i64 z11), .d (.list false 1 l12)]), (.loc 352, .cells [.d (.int .u8 z15), .d (.int .i64 z16), .d (.str s17), .d (.list true 6 l19), .d (.int .i64 z18), .d (.list false 1 l20)]), (.loc 384, .cells [.d (.int .u8 z21), .d (.int .i64 z22), .d (.str s23), .d (.list true 6 l25), .d (.int .i64 z24), .d (.list false 1 l26)])], 512⟩)
      (fun t => t.1 ≤ n ∧ L3_1 t.1 z1 z2 s3 l4 z5 l6 z7 z8 s9 l10 z11 l12 l13 z15 z16 s17 z18 l19 l20 z21 z22 s23 z24 l25 l26 t.2 = some r1) (fun t => t.1) (n, (0 : Int)) ⟨Nat.le_refl _, h⟩ (by cbv) ?_
    clear h
    rintro ⟨m1, z27⟩ ⟨hm1, h⟩
    replace hm1 : m1 ≤ n := hm1
    cases m1 with
    | zero =>
      replace h : L3_1 0 z1 z2 s3 l4 z5 l6 z7 z8 s9 l10 z11 l12 l13 z15 z16 s17 z18 l19 l20 z21 z22 s23 z24 l25 l26 z27 = some r1 := h
      rw [L3_1] at h
      cases h
    | succ m1 =>
      replace h : L3_1 (m1 + 1) z1 z2 s3 l4 z5 l6 z7 z8 s9 l10 z11 l12 l13 z15 z16 s17 z18 l19 l20 z21 z22 s23 z24 l25 l26 z27 = some r1 := h
      rw [L3_1] at h
      try cbv
      refine seq_go ?_
      try cbv
      refine seq_join (T := Nat × Bool) (fun t => ⟨[(2, .v (.d (.list false 1 l13))), (3, .v (.c (.ptr (.loc 0) 0))), (4, .v (.c (.ptr (.loc 32) 0))), (6, .v (.d (.bool false))), (7, .v (.c (.ptr (.loc 352) 0))), (8, .v (.c (.ptr (.loc 384) 0))), (9, .v (.d (.int .i64 z27))), (27, .v (.d (.bool t.2)))], [(.loc 0, .cells [.d (.int .u8 z1), .d (.int .i64 z2), .d (.str s3), .d (.list true 6 l4), .d (.int .i64 z5), .d (.list false 1 l6)]), (.loc 32, .cells [.d (.int .u8 z7), .d (.int .i64 z8), .d (.str s9), .d (.list true 6 l10), .d (.int .i64 z11), .d (.list false 1 l12)]), (.loc 352, .cells [.d (.int .u8 z15), .d (.int .i64 z16), .d (.str s17), .d (.list true 6 l19), .d (.int .i64 z18), .d (.list false 1 l20)]), (.loc 384, .cells [.d (.int .u8 z21), .d (.int .i64 z22), .d (.str s23), .d (.list true 6 l25), .d (.int .i64 z24), .d (.list false 1 l26)])], 576⟩) (fun t => t.1 ≤ m1 ∧ L3_2 t.1 z1 z2 s3 l4 z5 l6 z7 z8 s9 l10 z11 l12 l13 z15 z16 s17 z18 l19 l20 z21 z22 s23 z24 l25 l26 z27 t.2 = some r1) ?_ ?_
      · try cbv
        refine splitL (fun e => ?_) (fun e => ?_)
        · replace h := ite_t e h
          clear e
          try cbv
          exact join_next (m1, true) [2, 3, 4, 6, 7, 8, 9, 27] [.loc 0, .loc 32, .loc 352, .loc 384] 576 ⟨by omega, h⟩ (by cbv)
        · replace h := ite_f (Int.not_lt.2 e) h
          clear e
          try cbv
          exact join_next (m1, false) [2, 3, 4, 6, 7, 8, 9, 27] [.loc 0, .loc 32, .loc 352, .loc 384] 576 ⟨by omega, h⟩ (by cbv)
      · clear h
        rintro ⟨m2, b28⟩ ⟨hm2, h⟩
        replace hm2 : m2 ≤ m1 := hm2
        cases m2 with
        | zero =>
          replace h : L3_2 0 z1 z2 s3 l4 z5 l6 z7 z8 s9 l10 z11 l12 l13 z15 z16 s17 z18 l19 l20 z21 z22 s23 z24 l25 l26 z27 b28 = some r1 := h
          rw [L3_2] at h
          cases h
        | succ m2 =>
          replace h : L3_2 (m2 + 1) z1 z2 s3 l4 z5 l6 z7 z8 s9 l10 z11 l12 l13 z15 z16 s17 z18 l19 l20 z21 z22 s23 z24 l25 l26 z27 b28 = some r1 := h
          rw [L3_2] at h
          try cbv
          cases b28
          · replace h := ite_f Bool.false_ne_true h
            try cbv
            refine seq_go ?_
            try cbv
            obtain rfl := Option.some.inj h
            refine fin_go ?_
            try cbv
            exact ⟨[], rfl, rfl, trivial, trivial, trivial⟩
          · replace h := ite_t rfl h
            try cbv
            refine seq_go ?_
            try cbv
            refine seq_go ?_
            try cbv
            replace h := bO7_inv h
            obtain ⟨z29, z30, s31, z32, z33, l34, l35, hr, h⟩ := h
            refine call_go rfl rfl ?_
            try cbv
            refine call_with hM hI [] (T6 _ hr) rfl (by simp) trivial trivial (by simp) ?_
            clear hr
            try cbv
            refine seq_go ?_
            try cbv
            replace h := bO7_inv h
            obtain ⟨z36, z37, s38, l39, z40, l41, z42, hr, h⟩ := h
            refine call_go rfl rfl ?_
            try cbv
            refine call_pure hM hI (T7 _ hr) rfl ?_
            clear hr
            try cbv
            refine seq_go ?_
            try cbv
            replace h := bO7_inv h
            obtain ⟨z43, z44, s45, z46, z47, l48, l49, hr, h⟩ := h
            refine call_go rfl rfl ?_
            try cbv
            refine call_with hM hI [] (T8 _ hr) rfl (by simp) trivial trivial (by simp) ?_
            clear hr
            try cbv
            refine seq_go ?_
            try cbv
            replace h := bO7_inv h
            obtain ⟨z50, z51, s52, z53, z54, l55, l56, hr, h⟩ := h
            refine call_go rfl rfl ?_
            try cbv
            refine call_with hM hI [] (T9 _ hr) rfl (by simp) trivial trivial (by simp) ?_
            clear hr
            try cbv
            refine seq_go ?_
            try cbv
            refine seq_join (T := Nat × Bool × List D × List D × List D × List D) (fun t => ⟨[(2, .v (.d (.list false 1 l13))), (3, .v (.c (.ptr (.loc 0) 0))), (4, .v (.c (.ptr (.loc 32) 0))), (6, .v (.d (.bool false))), (7, .v (.c (.ptr (.loc 352) 0))), (8, .v (.c (.ptr (.loc 384) 0))), (9, .v (.d (.int .i64 z27))), (10, .v (.c (.ptr (.loc 768) 0))), (14, .v (.c (.ptr (.loc 1376) 0))), (89, .v (.d (.bool t.2.1)))], [(.loc 0, .cells [.d (.int .u8 z1), .d (.int .i64 z2), .d (.str s3), .d (.list true 6 l4), .d (.int .i64 z5), .d (.list false 1 l6)]), (.loc 32, .cells [.d (.int .u8 z7), .d (.int .i64 z8), .d (.str s9), .d (.list true 6 l10), .d (.int .i64 z11), .d (.list false 1 l12)]), (.loc 352, .cells [.d (.int .u8 z15), .d (.int .i64 z16), .d (.str s17), .d (.list true 6 l19), .d (.int .i64 z18), .d (.list false 1 l20)]), (.loc 384, .cells [.d (.int .u8 z21), .d (.int .i64 z22), .d (.str s23), .d (.list true 6 l25), .d (.int .i64 z24), .d (.list false 1 l26)]), (.loc 768, .cells [.d (.int .u8 z29), .d (.int .i64 z30), .d (.str s31), .ow (.loc 640), .d (.int .i64 z32), .ow (.loc 641)]), (.loc 640, .tree .row true 6 t.2.2.1 none), (.loc 641, .tree .row false 1 t.2.2.2.1 none), (.loc 1376, .cells [.d (.int .u8 z43), .d (.int .i64 z44), .d (.str s45), .ow (.loc 1248), .d (.int .i64 z46), .ow (.loc 1249)]), (.loc 1248, .tree .row true 6 t.2.2.2.2.1 none), (.loc 1249, .tree .row false 1 t.2.2.2.2.2 none)], 2880⟩) (fun t => t.1 ≤ m2 ∧ L3_3 t.1 z1 z2 s3 l4 z5 l6 z7 z8 s9 l10 z11 l12 l13 z15 z16 s17 z18 l19 l20 z21 z22 s23 z24 l25 l26 z27 z29 z30 s31 z32 z43 z44 s45 z46 t.2.1 t.2.2.1 t.2.2.2.1 t.2.2.2.2.1 t.2.2.2.2.2 = some r1) ?_ ?_
            · try cbv
              replace h := bO3_inv h
              obtain ⟨b57, l58, l59, hr, h⟩ := h
              refine call_go rfl rfl ?_
              try cbv
              refine call_with hM hI [.loc 640, .loc 641] (T10 _ hr) rfl (by simp) ⟨rfl, ⟨rfl, trivial⟩⟩ ⟨trivial, ⟨trivial, trivial⟩⟩ (by simp) ?_
              clear hr
              try cbv
              replace h := letB_inv h
              obtain ⟨b60, hz, h⟩ := h
              refine ⟨b60, not_eq' hz, ?_⟩
              clear hz
              try cbv
              cases b60
              · replace h := ite_f Bool.false_ne_true h
                try cbv
                replace h := letF_inv h
                obtain ⟨z61, hz, h⟩ := h
                refine ⟨z61, hz, ?_⟩
                clear hz
                try cbv
                refine splitI (fun e => ?_) (fun e => ?_)
                · replace h := ite_t e h
                  clear e
                  try cbv
                  replace h := bO5_inv h
                  obtain ⟨b62, l63, l64, l65, l66, hr, h⟩ := h
                  refine call_go rfl rfl ?_
                  try cbv
                  refine call_with hM hI [.loc 1248, .loc 1249, .loc 1568, .loc 1569] (T10x1 _ hr) rfl (by simp) ⟨rfl, ⟨rfl, ⟨rfl, ⟨rfl, trivial⟩⟩⟩⟩ ⟨trivial, ⟨trivial, ⟨trivial, ⟨trivial, trivial⟩⟩⟩⟩ (by simp) ?_
                  clear hr
                  try cbv
                  replace h := letB_inv h
                  obtain ⟨b67, hz, h⟩ := h
                  refine ⟨b67, not_eq' hz, ?_⟩
                  clear hz
                  try cbv
                  cases b67
                  · replace h := ite_f Bool.false_ne_true h
                    try cbv
                    replace h := letF_inv h
                    obtain ⟨z68, hz, h⟩ := h
                    refine ⟨z68, hz, ?_⟩
                    clear hz
                    try cbv
                    refine splitI (fun e => ?_) (fun e => ?_)
                    · replace h := ite_t e h
                      clear e
                      try cbv
                      replace h := bO1_inv h
                      obtain ⟨b69, hr, h⟩ := h
                      refine call_go rfl rfl ?_
                      try cbv
                      refine call_pure hM hI (T10x2 _ hr) rfl ?_
                      clear hr
                      try cbv
                      replace h := letB_inv h
                      obtain ⟨b70, hz, h⟩ := h
                      refine ⟨b70, not_eq' hz, ?_⟩
                      clear hz
                      try cbv
                      cases b70
                      · replace h := ite_f Bool.false_ne_true h
                        try cbv
                        replace h := bO1_inv h
                        obtain ⟨b71, hr, h⟩ := h
                        refine call_go rfl rfl ?_
                        try cbv
                        refine call_pure hM hI (T10x2 _ hr) rfl ?_
                        clear hr
                        try cbv
                        replace h := letB_inv h
                        obtain ⟨b72, hz, h⟩ := h
                        refine ⟨b72, not_eq' hz, ?_⟩
                        clear hz
                        try cbv
                        exact join_next (m2, (b72, l58, l59, l63, l64)) [2, 3, 4, 6, 7, 8, 9, 10, 14, 89] [.loc 0, .loc 32, .loc 352, .loc 384, .loc 768, .loc 640, .loc 641, .loc 1376, .loc 1248, .loc 1249] 2880 ⟨by omega, h⟩ (by cbv)
                      · replace h := ite_t rfl h
                        try cbv
                        exact join_next (m2, (true, l58, l59, l63, l64)) [2, 3, 4, 6, 7, 8, 9, 10, 14, 89] [.loc 0, .loc 32, .loc 352, .loc 384, .loc 768, .loc 640, .loc 641, .loc 1376, .loc 1248, .loc 1249] 2880 ⟨by omega, h⟩ (by cbv)
                    · replace h := ite_f e h
                      clear e
                      try cbv
                      exact join_next (m2, (true, l58, l59, l63, l64)) [2, 3, 4, 6, 7, 8, 9, 10, 14, 89] [.loc 0, .loc 32, .loc 352, .loc 384, .loc 768, .loc 640, .loc 641, .loc 1376, .loc 1248, .loc 1249] 2880 ⟨by omega, h⟩ (by cbv)
                  · replace h := ite_t rfl h
                    try cbv
                    exact join_next (m2, (true, l58, l59, l63, l64)) [2, 3, 4, 6, 7, 8, 9, 10, 14, 89] [.loc 0, .loc 32, .loc 352, .loc 384, .loc 768, .loc 640, .loc 641, .loc 1376, .loc 1248, .loc 1249] 2880 ⟨by omega, h⟩ (by cbv)
                · replace h := ite_f e h
                  clear e
                  try cbv
                  exact join_next (m2, (true, l58, l59, l48, l49)) [2, 3, 4, 6, 7, 8, 9, 10, 14, 89] [.loc 0, .loc 32, .loc 352, .loc 384, .loc 768, .loc 640, .loc 641, .loc 1376, .loc 1248, .loc 1249] 2880 ⟨by omega, h⟩ (by cbv)
              · replace h := ite_t rfl h
                try cbv
                exact join_next (m2, (true, l58, l59, l48, l49)) [2, 3, 4, 6, 7, 8, 9, 10, 14, 89] [.loc 0, .loc 32, .loc 352, .loc 384, .loc 768, .loc 640, .loc 641, .loc 1376, .loc 1248, .loc 1249] 2880 ⟨by omega, h⟩ (by cbv)
            · clear h
              rintro ⟨m3, b73, l74, l75, l76, l77⟩ ⟨hm3, h⟩
              replace hm3 : m3 ≤ m2 := hm3
              cases m3 with
              | zero =>
                replace h : L3_3 0 z1 z2 s3 l4 z5 l6 z7 z8 s9 l10 z11 l12 l13 z15 z16 s17 z18 l19 l20 z21 z22 s23 z24 l25 l26 z27 z29 z30 s31 z32 z43 z44 s45 z46 b73 l74 l75 l76 l77 = some r1 := h
                rw [L3_3] at h
                cases h
              | succ m3 =>
                replace h : L3_3 (m3 + 1) z1 z2 s3 l4 z5 l6 z7 z8 s9 l10 z11 l12 l13 z15 z16 s17 z18 l19 l20 z21 z22 s23 z24 l25 l26 z27 z29 z30 s31 z32 z43 z44 s45 z46 b73 l74 l75 l76 l77 = some r1 := h
                rw [L3_3] at h
                try cbv
                cases b73
                · replace h := ite_f Bool.false_ne_true h
                  try cbv
                  refine seq_go ?_
                  try cbv
                  replace h := bO2_inv h
                  obtain ⟨l78, l79, hr, h⟩ := h
                  refine call_go rfl rfl ?_
                  try cbv
                  refine call_with hM hI [.loc 640, .loc 641] (T11 _ hr) rfl (by simp) ⟨rfl, ⟨rfl, trivial⟩⟩ ⟨trivial, ⟨trivial, trivial⟩⟩ (by simp) ?_
                  clear hr
                  try cbv
                  replace h := bO2_inv h
                  obtain ⟨l80, l81, hr, h⟩ := h
                  refine call_go rfl rfl ?_
                  try cbv
                  refine call_with hM hI [.loc 1248, .loc 1249] (T11 _ hr) rfl (by simp) ⟨rfl, ⟨rfl, trivial⟩⟩ ⟨trivial, ⟨trivial, trivial⟩⟩ (by simp) ?_
                  clear hr
                  try cbv
                  replace h := letF_inv h
                  obtain ⟨z82, hz, h⟩ := h
                  refine ⟨z82, hz, ?_⟩
                  clear hz
                  try cbv
                  refine loop_nextG (m3, z82) [] [] [2, 3, 4, 6, 7, 8, 9] [.loc 0, .loc 32, .loc 352, .loc 384] 512 ⟨by omega, h⟩ (Nat.lt_succ_of_le (by omega)) ?_
                  try cbv
                · replace h := ite_t rfl h
                  try cbv
                  refine seq_go ?_
                  try cbv
                  obtain rfl := Option.some.inj h
                  refine fin_go ?_
                  try cbv
                  exact ⟨[], rfl, rfl, trivial, trivial, trivial⟩
  · replace h := ite_t rfl h
    try cbv
    refine seq_go ?_
    try cbv
    obtain rfl := Option.some.inj h
    refine fin_go ?_
    try cbv
    exact ⟨[], rfl, rfl, trivial, trivial, trivial⟩
end Go.Proofs.Ytagiiaejijihoaa
end

set_option linter.unusedVariables false
noncomputable section
namespace Go.Proofs.Ytagiiaejijihoaa
open Go Go.AM

theorem iw {z : Int} (h1 : -9223372036854775808 ≤ z) (h2 : z ≤ 9223372036854775807) : IntKind.i64.wrap z = z := IntWalk.i64_in _ (by omega)
theorem ilt {i n : Nat} (h : i < n) : (i : Int) < (n : Int) := by omega
theorem need_pos {γ : Type} {p : Prop} [Decidable p] (h : p) (x : Option γ) : needF p x = x := if_pos h
theorem appF_ok {γ : Type} {b : Nat} {L M : List D} {k : List D → Option γ} (h : L.length + M.length ≤ maxLen ∧ (L.length + M.length) * b ≤ 140737488355328) : appF b L M k = k (L ++ M) := by
  unfold appF
  exact if_pos h
theorem getN_some {γ : Type} {L : List D} {i : Nat} {x : D} {k : D → Option γ} (h : L[i]? = some x) : getN L i k = k x := by unfold getN; rw [h]

structure VV where
  k : Int
  i : Int
  nm : ByteArray
  fs : List D
  id : Int
  pt : List D
def VV.row (v : VV) : D := .agg [.int .u8 v.k, .int .i64 v.i, .str v.nm, .list true 6 v.fs, .int .i64 v.id, .list false 1 v.pt]
def zeroV : VV := ⟨0, 0, ByteArray.empty, [], 0, []⟩
def un : D → VV
  | .agg [.int _ a0, .int _ a1, .str a2, .list _ _ a3, .int _ a4, .list _ _ a5] => ⟨a0, a1, a2, a3, a4, a5⟩
  | _ => zeroV
theorem un_row (v : VV) : un v.row = v := rfl
theorem row_inj {v w : VV} (h : v.row = w.row) : v = w := by rw [← un_row v, h, un_row]
structure VT (v : VV) : Prop where
  k : (Lit.int .u8 v.k).wf = true
  i : (Lit.int .i64 v.i).wf = true
  nm : v.nm.size ≤ maxLen
  fs : ListS tab 25 v.fs
  id : (Lit.int .i64 v.id).wf = true
  pt : ListS tab 3 v.pt
inductive Sm : List D → Prop
  | mk {l : List D} (h : l.length ≤ 500) (hp : ∀ v : VV, v.row ∈ l → v.pt.length ≤ 5000) (hf : ∀ v : VV, v.row ∈ l → Sm v.fs) : Sm l
theorem Sm.len {l : List D} (h : Sm l) : l.length ≤ 500 := by cases h; assumption
theorem Sm.pt {l : List D} (h : Sm l) {v : VV} (hv : v.row ∈ l) : v.pt.length ≤ 5000 := by
  cases h with
  | mk h hp hf => exact hp v hv
theorem Sm.fs {l : List D} (h : Sm l) {v : VV} (hv : v.row ∈ l) : Sm v.fs := by
  cases h with
  | mk h hp hf => exact hf v hv
structure VS (v : VV) : Prop where
  t : VT v
  p : v.pt.length ≤ 5000
  f : Sm v.fs
theorem rowV {l : List D} (h : ListS tab 25 l) {i : Nat} (hi : i < l.length) : ∃ v : VV, l[i]? = some v.row ∧ v.row ∈ l ∧ VT v := by
  obtain ⟨x, hx, hm, hr⟩ := h.get hi
  obtain ⟨a0, a1, a2, a3, a4, a5, rfl, w0, w1, w2, w3, w4, w5⟩ := rs25 hr
  exact ⟨⟨a0, a1, a2, a3, a4, a5⟩, hx, hm, ⟨w0, w1, w2, w3, w4, w5⟩⟩
theorem ds25 {γ : Type} (v : VV) (k : Int → Int → ByteArray → List D → Int → List D → Option γ) : ds_t25 v.row k = k v.k v.i v.nm v.fs v.id v.pt := rfl
theorem size_fs {l : List D} {v : VV} (h : v.row ∈ l) : SizeOf.sizeOf v.fs < SizeOf.sizeOf l := size_row (ag := true) (sz := 6) h (by simp)
theorem intsS {l : List D} (h : ListS tab 3 l) : ∃ q : List Int, l = q.map (D.int .i64) ∧ ∀ z ∈ q, (Lit.int .i64 z).wf = true := by
  induction l with
  | nil => exact ⟨[], rfl, by simp⟩
  | cons x l ih =>
    obtain ⟨q, rfl, hq⟩ := ih ⟨by have := h.1; simp only [List.length_cons] at this; omega, fun y hy => h.2 y (List.mem_cons_of_mem _ hy)⟩
    obtain ⟨z, rfl, hz⟩ := rs3 (h.2 x (by simp))
    exact ⟨z :: q, rfl, fun y hy => by rcases List.mem_cons.1 hy with rfl | hy; exact hz; exact hq y hy⟩
abbrev pD (q : List Int) : List D := q.map (D.int .i64)

theorem ev24 (l : List D) : ListS tab 25 l → ∀ z : Int, -1 ≤ z → z ≤ 5000 → ∃ r, Ev (fun n => F12 n l z) r ∧ -1 ≤ r ∧ r ≤ z + 0 ∧ (0 ≤ r → Sm l ∧ 10 * (l.length : Int) ≤ z - r) := by
  refine list_ind (P := fun l => ListS tab 25 l → ∀ z : Int, -1 ≤ z → z ≤ 5000 → ∃ r, Ev (fun n => F12 n l z) r ∧ -1 ≤ r ∧ r ≤ z + 0 ∧ (0 ≤ r → Sm l ∧ 10 * (l.length : Int) ≤ z - r)) (fun l ih h => ?_) l
  have loop : ∀ i : Nat, i ≤ l.length → ∀ z : Int, -1 ≤ z → z ≤ 5000 → ∃ r, Ev (fun n => L12_1 n l z (i : Int)) r ∧ -1 ≤ r ∧ r ≤ z ∧
      (0 ≤ r → 10 * ((l.length : Int) - i) ≤ z - r ∧ ∀ j : Nat, i ≤ j → ∀ v : VV, l[j]? = some v.row → v.pt.length ≤ 5000 ∧ Sm v.fs) := by
    refine down l.length ?_ ?_
    · intro z h1 h2
      refine ⟨z, .succ ?_, h1, Int.le_refl _, fun _ => ⟨by omega, fun j hj v hv => absurd ((List.getElem?_eq_some_iff.1 hv).1) (by omega)⟩⟩
      simp only [L12_1, lenF, Int.lt_irrefl, if_false]
      exact .succ (by simp only [L12_2, Bool.false_eq_true, if_false]; exact .ret)
    · intro i hi ihd z h1 h2
      by_cases hz : 0 ≤ z
      · obtain ⟨v, hx, hm, hv⟩ := rowV h hi
        have hw := iw (z := z - 10) (by omega) (by omega)
        have fail : ∀ z14, ∃ r, Ev (fun n => L12_3 n l (i : Int) v.nm v.fs v.pt z14 true) r ∧ r = -1 := fun z14 => ⟨-1, .succ (by simp only [L12_3, if_true]; exact .ret), rfl⟩
        have hsz : v.nm.size = (v.nm.data.toList).length := (Array.length_toList (xs := v.nm.data)).symm
        by_cases c1 : z - 10 < 0
        · refine ⟨-1, .succ ?_, by omega, by omega, by omega⟩
          simp only [L12_1, lenF, if_pos (ilt hi), if_pos hz]
          refine .succ ?_
          simp only [L12_2, if_true, getF_nat hx, ds25, letF, hw, if_pos c1]
          exact .succ (by simp only [L12_3, if_true]; exact .ret)
        by_cases c2 : z - 10 < (v.nm.size : Int)
        · refine ⟨-1, .succ ?_, by omega, by omega, by omega⟩
          simp only [L12_1, lenF, if_pos (ilt hi), if_pos hz]
          refine .succ ?_
          simp only [L12_2, if_true, getF_nat hx, ds25, letF, hw, if_neg c1, szF, if_pos c2]
          exact .succ (by simp only [L12_3, if_true]; exact .ret)
        have hw2 := iw (z := z - 10 - (v.nm.size : Int)) (by omega) (by omega)
        by_cases c3 : z - 10 - (v.nm.size : Int) < (v.pt.length : Int)
        · refine ⟨-1, .succ ?_, by omega, by omega, by omega⟩
          simp only [L12_1, lenF, if_pos (ilt hi), if_pos hz]
          refine .succ ?_
          simp only [L12_2, if_true, getF_nat hx, ds25, letF, hw, if_neg c1, szF, if_neg c2, lenF, hw2, if_pos c3]
          exact .succ (by simp only [L12_3, if_true]; exact .ret)
        have hw3 := iw (z := z - 10 - (v.nm.size : Int) - (v.pt.length : Int)) (by omega) (by omega)
        obtain ⟨y, e1, e2, e3, e4⟩ := ih v.fs (size_fs hm) hv.fs (z - 10 - (v.nm.size : Int) - (v.pt.length : Int)) (by omega) (by omega)
        obtain ⟨r, k1, k2, k3, k4⟩ := ihd y (by omega) (by omega)
        refine ⟨r, .succ ?_, k2, by omega, fun hr => ⟨?_, ?_⟩⟩
        · simp only [L12_1, lenF, if_pos (ilt hi), if_pos hz]
          refine .succ ?_
          simp only [L12_2, if_true, getF_nat hx, ds25, letF, hw, if_neg c1, szF, if_neg c2, lenF, hw2, if_neg c3]
          refine .succ ?_
          simp only [L12_3, Bool.false_eq_true, if_false, szF, letF, hw2, lenF, hw3]
          refine Ev.bO1 e1 ?_
          simp only [letF, wrap_succ hi h.1]
          exact k1
        · have := (k4 hr).1
          have := (e4 (by omega)).2
          omega
        · intro j hj w hw'
          by_cases e : j = i
          · subst e
            rw [hx] at hw'
            obtain rfl := row_inj (Option.some.inj hw')
            exact ⟨by omega, (e4 (by omega)).1⟩
          · exact (k4 hr).2 j (by omega) w hw'
      · refine ⟨z, .succ ?_, h1, Int.le_refl _, by omega⟩
        simp only [L12_1, lenF, if_pos (ilt hi), if_neg hz]
        exact .succ (by simp only [L12_2, Bool.false_eq_true, if_false]; exact .ret)
  intro z h1 h2
  obtain ⟨r, k1, k2, k3, k4⟩ := loop 0 (Nat.zero_le _) z h1 h2
  refine ⟨r, .succ (by simp only [F12]; exact k1), k2, by omega, fun hr => ?_⟩
  obtain ⟨q1, q2⟩ := k4 hr
  refine ⟨.mk (by omega) (fun v hv => ?_) (fun v hv => ?_), by omega⟩
  · obtain ⟨j, hj⟩ := List.getElem?_of_mem hv
    exact (q2 j (Nat.zero_le _) v hj).1
  · obtain ⟨j, hj⟩ := List.getElem?_of_mem hv
    exact (q2 j (Nat.zero_le _) v hj).2
theorem VT.rowS {v : VV} (h : VT v) : RowS tab 25 v.row := mk25 h.k h.i h.nm h.fs h.id h.pt
theorem one_sm {v : VV} (h : Sm [v.row]) : v.pt.length ≤ 5000 ∧ Sm v.fs := ⟨h.pt (by simp), h.fs (by simp)⟩
theorem ev8 {v x : VV} (hv : VT v) (hx : VT x) (l : List D) : ∃ b, Ev (fun n => F4 n v.k v.i v.nm v.fs v.id v.pt x.k x.i x.nm x.fs x.id x.pt l) b ∧ (b = false → VS v ∧ VS x ∧ l.length ≤ 100) := by
  unfold F4
  by_cases c : (100 : Int) < (l.length : Int)
  · exact ⟨true, by simp only [lenF, if_pos c]; exact .ret, fun h => by cases h⟩
  · simp only [lenF, if_neg c]
    obtain ⟨y, e1, e2, e3, e4⟩ := ev24 [v.row] (.one hv.rowS) 5000 (by omega) (by omega)
    obtain ⟨r, k1, k2, k3, k4⟩ := ev24 [x.row] (.one hx.rowS) y (by omega) (by omega)
    by_cases hr : r < 0
    · exact ⟨true, Ev.bO1 e1 (Ev.bO1 k1 (by simp only [if_pos hr]; exact .ret)), fun h => by cases h⟩
    · refine ⟨false, Ev.bO1 e1 (Ev.bO1 k1 (by simp only [if_neg hr]; exact .ret)), fun _ => ?_⟩
      obtain ⟨p1, p2⟩ := one_sm (e4 (by omega)).1
      obtain ⟨q1, q2⟩ := one_sm (k4 (by omega)).1
      exact ⟨⟨hv, p1, p2⟩, ⟨hx, q1, q2⟩, by omega⟩

theorem Ev.nilF {l : List D} {A B : Nat → Option (List D)} {r : List D} (hB : Ev B r) (hA : l = [] → Ev A r) : Ev (fun n => nilF l (A n) (B n)) r := by
  by_cases e : l = []
  · obtain ⟨N, h1⟩ := hA e
    obtain ⟨M, h2⟩ := hB
    refine ⟨N + M, fun n hn => ?_⟩
    show AM.nilF l (A n) (B n) = some r
    rw [nilF_eq (fun _ => by rw [h1 n (by omega), h2 n (by omega)])]
    exact h2 n (by omega)
  · obtain ⟨M, h2⟩ := hB
    refine ⟨M, fun n hn => ?_⟩
    show AM.nilF l (A n) (B n) = some r
    rw [nilF_eq (fun h => absurd h e)]
    exact h2 n hn
theorem scal_ints {l : List D} (h : ListS tab 3 l) : scalB l = true := by
  obtain ⟨q, rfl, _⟩ := intsS h
  unfold scalB
  simp [D.cells, isCon]
theorem ev26 {l : List D} (h : ListS tab 3 l) (hl : l.length ≤ 5000) : Ev (fun n => F20 n l) l := by
  unfold F20
  refine Ev.nilF (.succ ?_) (fun e => ?_)
  · have hM : 5000 < maxLen := by decide
    simp only [L20_1, Bool.false_eq_true, if_false]
    rw [need_pos (scal_ints h)]
    unfold appF
    rw [if_pos (by simp only [List.length_nil]; omega)]
    exact .ret
  · subst e
    exact .succ (by simp only [L20_1, if_true]; exact .ret)
theorem ev10L (l : List D) : ListS tab 25 l → Sm l → ∀ (z1 z2 : Int) (s3 : ByteArray) (z5 : Int) (l6 : List D), ListS tab 3 l6 → l6.length ≤ 5000 → Ev (fun n => F15 n z1 z2 s3 l z5 l6) (z1, z2, s3, z5, l, l6) := by
  refine list_ind (P := fun l => ListS tab 25 l → Sm l → ∀ (z1 z2 : Int) (s3 : ByteArray) (z5 : Int) (l6 : List D), ListS tab 3 l6 → l6.length ≤ 5000 → Ev (fun n => F15 n z1 z2 s3 l z5 l6) (z1, z2, s3, z5, l, l6)) (fun l ih h hs z1 z2 s3 z5 l6 h6 h6' => ?_) l
  have hM : 5000 < maxLen := by decide
  have hl := hs.len
  have loop : ∀ i : Nat, i ≤ l.length → Ev (fun n => L15_1 n z1 z2 s3 l z5 l6 (l.length : Int) (i : Int) (l.take i)) (z1, z2, s3, z5, l, l6) := by
    refine down l.length ?_ ?_
    · refine .succ ?_
      simp only [L15_1, Int.lt_irrefl, if_false]
      refine .succ ?_
      simp only [L15_2, Bool.false_eq_true, if_false, List.take_length]
      exact Ev.bO1 (ev26 h6 h6') .ret
    · intro i hi ihd
      obtain ⟨v, hx, hm, hv⟩ := rowV h hi
      have ht : l.take (i + 1) = l.take i ++ [v.row] := by rw [List.take_add_one, hx]; rfl
      refine .succ ?_
      simp only [L15_1, if_pos (ilt hi)]
      refine .succ ?_
      simp only [L15_2, if_true, getF_nat hx, ds25]
      refine Ev.bO6 (ih v.fs (size_fs hm) hv.fs (hs.fs hm) v.k v.i v.nm v.id v.pt hv.pt (hs.pt hm)) ?_
      have hb : (l.take i).length + [v.row].length ≤ maxLen ∧ ((l.take i).length + [v.row].length) * 88 ≤ 140737488355328 := by simp only [List.length_take, List.length_cons, List.length_nil]; omega
      have ha : ∀ k : List D → Option (Int × Int × ByteArray × Int × List D × List D), appF 88 (l.take i) [.agg [.int .u8 v.k, .int .i64 v.i, .str v.nm, .list true 6 v.fs, .int .i64 v.id, .list false 1 v.pt]] k = k (l.take i ++ [v.row]) := fun k => appF_ok hb
      simp only [ha, letF, wrap_succ hi h.1]
      rw [ht] at ihd
      exact ihd
  refine .succ ?_
  simp only [F15, lenF]
  exact loop 0 (Nat.zero_le _)
theorem ev10 {v : VV} (h : VS v) : Ev (fun n => F15 n v.k v.i v.nm v.fs v.id v.pt) (v.k, v.i, v.nm, v.id, v.fs, v.pt) := ev10L v.fs h.t.fs h.f _ _ _ _ _ h.t.pt h.p

theorem ints_ev {q q' : List Int} (h : q.length ≤ maxLen) : Ev (fun n => F18x2 n (pD q) (pD q')) (decide (q = q')) := by
  unfold F18x2
  simp only [lenF, List.length_map]
  by_cases e : q.length = q'.length
  · simp only [if_pos (show (q.length : Int) = (q'.length : Int) by omega)]
    refine .succ ?_
    simp only [L18x2_1, Bool.false_eq_true, if_false]
    have loop : ∀ i : Nat, i ≤ q.length → Ev (fun n => L18x2_2 n (pD q) (pD q') (i : Int)) (decide (q.drop i = q'.drop i)) := by
      refine down _ ?_ (fun i hi ih => ?_)
      · refine .succ ?_
        simp only [L18x2_2, lenF, List.length_map, Int.lt_irrefl, if_false]
        rw [List.drop_length, e, List.drop_length, decide_eq_true rfl]
        exact .succ (by simp only [L18x2_3, Bool.false_eq_true, if_false]; exact .ret)
      · have hi' : i < q'.length := by omega
        have h1 : (pD q)[i]? = some (.int .i64 q[i]) := by simp [hi]
        have h2 : (pD q')[i]? = some (.int .i64 q'[i]) := by simp [hi']
        have d1 := List.drop_eq_getElem_cons hi
        have d2 := List.drop_eq_getElem_cons hi'
        refine .succ ?_
        simp only [L18x2_2, lenF, List.length_map, if_pos (ilt hi)]
        refine .succ ?_
        simp only [L18x2_3, if_true, getF_nat h1, getF_nat h2, ds_i64]
        by_cases c : q[i] = q'[i]
        · simp only [if_pos c]
          refine .succ ?_
          simp only [L18x2_4, Bool.false_eq_true, if_false, letF, wrap_succ hi h]
          have : decide (q.drop i = q'.drop i) = decide (q.drop (i + 1) = q'.drop (i + 1)) := by
            rw [d1, d2, c]; exact decide_eq_decide.2 ⟨fun h => (List.cons.inj h).2, fun h => by rw [h]⟩
          rw [this]
          exact ih
        · simp only [if_neg c]
          rw [decide_eq_false (by rw [d1, d2]; intro h; exact c (List.cons.inj h).1)]
          exact .succ (by simp only [L18x2_4, if_true]; exact .ret)
    have := loop 0 (Nat.zero_le _)
    simpa using this
  · simp only [if_neg (show ¬ (q.length : Int) = (q'.length : Int) by omega)]
    rw [decide_eq_false (fun h => e (congrArg _ h))]
    exact .succ (by simp only [L18x2_1, if_true]; exact .ret)
theorem pD_inj {q q' : List Int} (h : pD q = pD q') : q = q' := by
  induction q generalizing q' with
  | nil => cases q' <;> simp_all
  | cons a q ih =>
    cases q' with
    | nil => simp at h
    | cons b q' =>
      simp only [List.map_cons, List.cons.injEq, D.int.injEq, true_and] at h
      rw [h.1, ih h.2]
open Classical in
theorem same_of (v w : VV) (hv : VT v) (hw : VT w) (hfs : Ev (fun n => F19x2 n v.fs w.fs) (decide (v.fs = w.fs))) :
    Ev (fun n => F10x2 n v.k v.i v.nm v.fs v.id v.pt w.k w.i w.nm w.fs w.id w.pt) (decide (v = w)) := by
  have no : v ≠ w → Ev (fun _ => some false) (decide (v = w)) := fun h => by rw [decide_eq_false h]; exact .ret
  refine .succ ?_
  simp only [F10x2]
  by_cases c1 : v.k = w.k
  rotate_left
  · simp only [if_neg c1]; exact no (fun h => c1 (by rw [h]))
  by_cases c2 : v.i = w.i
  rotate_left
  · simp only [if_pos c1, if_neg c2]; exact no (fun h => c2 (by rw [h]))
  by_cases c3 : v.nm = w.nm
  rotate_left
  · simp only [if_pos c1, if_pos c2, if_neg c3]; exact no (fun h => c3 (by rw [h]))
  by_cases c4 : v.id = w.id
  rotate_left
  · simp only [if_pos c1, if_pos c2, if_pos c3, if_neg c4]; exact no (fun h => c4 (by rw [h]))
  simp only [if_pos c1, if_pos c2, if_pos c3, if_pos c4]
  obtain ⟨q, e1, _⟩ := intsS hv.pt
  obtain ⟨q', e2, _⟩ := intsS hw.pt
  have hq : q.length ≤ maxLen := by have := hv.pt.1; rw [e1] at this; simpa using this
  rw [e1, e2]
  refine Ev.bO1 (ints_ev hq) ?_
  by_cases c5 : q = q'
  rotate_left
  · simp only [decide_eq_false c5, Bool.false_eq_true, if_false]
    exact no (fun h => c5 (pD_inj (e1.symm.trans ((congrArg VV.pt h).trans e2))))
  simp only [decide_eq_true c5, if_true]
  refine Ev.bO1 hfs ?_
  have : decide (v.fs = w.fs) = decide (v = w) := by
    refine decide_eq_decide.2 ⟨fun h => ?_, fun h => by rw [h]⟩
    have e3 : v.pt = w.pt := by rw [e1, e2, c5]
    obtain ⟨a, b, c, d, e, f⟩ := v
    obtain ⟨a', b', c', d', e', f'⟩ := w
    simp only [VV.mk.injEq]
    exact ⟨c1, c2, c3, h, c4, e3⟩
  rw [this]
  exact .ret
open Classical in
theorem sameL (l : List D) : ∀ m, ListS tab 25 l → ListS tab 25 m → Ev (fun n => F19x2 n l m) (decide (l = m)) := by
  refine list_ind (P := fun l => ∀ m, ListS tab 25 l → ListS tab 25 m → Ev (fun n => F19x2 n l m) (decide (l = m))) (fun l ih m h hm => ?_) l
  refine .succ ?_
  simp only [F19x2, lenF]
  by_cases e : l.length = m.length
  rotate_left
  · simp only [if_neg (show ¬ (l.length : Int) = (m.length : Int) by omega)]
    rw [decide_eq_false (fun h => e (congrArg _ h))]
    exact .succ (by simp only [L19x2_1, if_true]; exact .ret)
  simp only [if_pos (show (l.length : Int) = (m.length : Int) by omega)]
  refine .succ ?_
  simp only [L19x2_1, Bool.false_eq_true, if_false]
  have loop : ∀ i : Nat, i ≤ l.length → Ev (fun n => L19x2_2 n l m (i : Int)) (decide (l.drop i = m.drop i)) := by
    refine down _ ?_ (fun i hi ihd => ?_)
    · refine .succ ?_
      simp only [L19x2_2, lenF, Int.lt_irrefl, if_false]
      rw [List.drop_length, e, List.drop_length, decide_eq_true rfl]
      exact .succ (by simp only [L19x2_3, Bool.false_eq_true, if_false]; exact .ret)
    · have hi' : i < m.length := by omega
      obtain ⟨v, hx, hvm, hv⟩ := rowV h hi
      obtain ⟨w, hy, hwm, hw⟩ := rowV hm hi'
      have d1 : l.drop i = v.row :: l.drop (i + 1) := by
        rw [List.drop_eq_getElem_cons hi]; congr 1
        rw [List.getElem?_eq_getElem hi] at hx; exact Option.some.inj hx
      have d2 : m.drop i = w.row :: m.drop (i + 1) := by
        rw [List.drop_eq_getElem_cons hi']; congr 1
        rw [List.getElem?_eq_getElem hi'] at hy; exact Option.some.inj hy
      refine .succ ?_
      simp only [L19x2_2, lenF, if_pos (ilt hi)]
      refine .succ ?_
      simp only [L19x2_3, if_true, getF_nat hx, getF_nat hy, ds25]
      refine Ev.bO1 (same_of v w hv hw (ih v.fs (size_fs hvm) w.fs hv.fs hw.fs)) ?_
      by_cases c : v = w
      · simp only [decide_eq_true c, letB, Bool.not_true, Bool.false_eq_true, if_false, letF, wrap_succ hi h.1]
        have : decide (l.drop i = m.drop i) = decide (l.drop (i + 1) = m.drop (i + 1)) := by
          rw [d1, d2, c]; exact decide_eq_decide.2 ⟨fun h => (List.cons.inj h).2, fun h => by rw [h]⟩
        rw [this]
        exact ihd
      · simp only [decide_eq_false c, letB, Bool.not_false, if_true]
        rw [decide_eq_false (by rw [d1, d2]; intro h; exact c (row_inj (List.cons.inj h).1))]
        exact .ret
  have := loop 0 (Nat.zero_le _)
  simpa using this
open Classical in
theorem ev11 {v w : VV} (hv : VT v) (hw : VT w) : Ev (fun n => F10x2 n v.k v.i v.nm v.fs v.id v.pt w.k w.i w.nm w.fs w.id w.pt) (decide (v = w)) :=
  same_of v w hv hw (sameL v.fs w.fs hv.fs hw.fs)

def leads (v : VV) (n : Int) : Int := if v.k = 0 then 3 else if (v.k = 4 ∨ v.k = 5) ∧ 0 ≤ n ∧ n < (v.fs.length : Int) then 0 else 6
theorem ev38 (v : VV) (n0 : Int) : Ev (fun n => F14 n v.k v.i v.nm v.fs v.id v.pt n0) (leads v n0) := by
  unfold F14 leads
  by_cases c : v.k = 0
  · simp only [if_pos c]; exact .succ (by simp only [L14_1, if_true]; exact .ret)
  · simp only [if_neg c]
    have t : Ev (fun n => L14_2 n true) 6 := .succ (by simp only [L14_2, if_true]; exact .ret)
    have f : Ev (fun n => L14_2 n false) 0 := .succ (by simp only [L14_2, Bool.false_eq_true, if_false]; exact .ret)
    refine .succ ?_
    simp only [L14_1, Bool.false_eq_true, if_false, lenF]
    by_cases c4 : v.k = 4
    · by_cases cn : n0 < 0
      · simp only [if_pos c4, if_pos cn]; rw [if_neg (by omega)]; exact t
      · by_cases cl : (v.fs.length : Int) ≤ n0
        · simp only [if_pos c4, if_neg cn, if_pos cl]; rw [if_neg (by omega)]; exact t
        · simp only [if_pos c4, if_neg cn, if_neg cl]; rw [if_pos (by omega)]; exact f
    · by_cases c5 : v.k = 5
      · by_cases cn : n0 < 0
        · simp only [if_neg c4, if_pos c5, if_pos cn]; rw [if_neg (by omega)]; exact t
        · by_cases cl : (v.fs.length : Int) ≤ n0
          · simp only [if_neg c4, if_pos c5, if_neg cn, if_pos cl]; rw [if_neg (by omega)]; exact t
          · simp only [if_neg c4, if_pos c5, if_neg cn, if_neg cl]; rw [if_pos (by omega)]; exact f
      · simp only [if_neg c4, if_neg c5]; rw [if_neg (by omega)]; exact t
theorem ev38x (v : VV) (n0 : Int) : Ev (fun n => F14x1 n v.k v.i v.nm v.id n0 v.fs v.pt) (leads v n0, v.fs, v.pt) := by
  unfold F14x1 leads
  by_cases c : v.k = 0
  · simp only [if_pos c]; exact .succ (by simp only [L14x1_1, if_true]; exact .ret)
  · simp only [if_neg c]
    have t : Ev (fun n => L14x1_2 n v.fs v.pt true) (6, v.fs, v.pt) := .succ (by simp only [L14x1_2, if_true]; exact .ret)
    have f : Ev (fun n => L14x1_2 n v.fs v.pt false) (0, v.fs, v.pt) := .succ (by simp only [L14x1_2, Bool.false_eq_true, if_false]; exact .ret)
    refine .succ ?_
    simp only [L14x1_1, Bool.false_eq_true, if_false, lenF]
    by_cases c4 : v.k = 4
    · by_cases cn : n0 < 0
      · simp only [if_pos c4, if_pos cn]; rw [if_neg (by omega)]; exact t
      · by_cases cl : (v.fs.length : Int) ≤ n0
        · simp only [if_pos c4, if_neg cn, if_pos cl]; rw [if_neg (by omega)]; exact t
        · simp only [if_pos c4, if_neg cn, if_neg cl]; rw [if_pos (by omega)]; exact f
    · by_cases c5 : v.k = 5
      · by_cases cn : n0 < 0
        · simp only [if_neg c4, if_pos c5, if_pos cn]; rw [if_neg (by omega)]; exact t
        · by_cases cl : (v.fs.length : Int) ≤ n0
          · simp only [if_neg c4, if_pos c5, if_neg cn, if_pos cl]; rw [if_neg (by omega)]; exact t
          · simp only [if_neg c4, if_pos c5, if_neg cn, if_neg cl]; rw [if_pos (by omega)]; exact f
      · simp only [if_neg c4, if_neg c5]; rw [if_neg (by omega)]; exact t
theorem leads_ok {v : VV} {n : Int} (h : leads v n = 0) : v.k ≠ 0 ∧ (v.k = 4 ∨ v.k = 5) ∧ 0 ≤ n ∧ n.toNat < v.fs.length := by
  unfold leads at h
  split at h
  · omega
  · split at h
    · rename_i h1 h2; exact ⟨h1, h2.1, h2.2.1, by omega⟩
    · omega
def part (v : VV) (n : Int) : VV := un (v.fs[n.toNat]?.getD (.bool false))
def setp (v : VV) (n : Int) (w : VV) : VV := { v with fs := v.fs.set n.toNat w.row }
def getS : List Int → VV → VV × Int
  | [], v => if v.k = 0 then (zeroV, 3) else (v, 0)
  | n :: p, v => if leads v n = 0 then getS p (part v n) else (zeroV, leads v n)
def setS : List Int → VV → VV → VV × Int
  | [], v, x => (x, 0)
  | n :: p, v, x => if leads v n = 0 then (setp v n (setS p (part v n) x).1, (setS p (part v n) x).2) else (v, leads v n)
theorem part_ok {v : VV} (hv : VS v) {n : Int} (h : leads v n = 0) : v.fs[n.toNat]? = some (part v n).row ∧ (part v n).row ∈ v.fs ∧ VS (part v n) := by
  obtain ⟨_, _, _, hl⟩ := leads_ok h
  obtain ⟨w, h1, h2, h3⟩ := rowV hv.t.fs hl
  have : part v n = w := by unfold part; rw [h1]; rfl
  rw [this]
  exact ⟨h1, h2, h3, hv.f.pt h2, hv.f.fs h2⟩
theorem VS.setp {v : VV} (hv : VS v) {w : VV} (hw : VS w) (n : Int) : VS (setp v n w) := by
  refine ⟨⟨hv.t.k, hv.t.i, hv.t.nm, hv.t.fs.set _ hw.t.rowS, hv.t.id, hv.t.pt⟩, hv.p, ?_⟩
  refine .mk (by show (v.fs.set _ _).length ≤ 500; rw [List.length_set]; exact hv.f.len) (fun u hu => ?_) (fun u hu => ?_)
  · rcases List.mem_or_eq_of_mem_set hu with hu | hu
    · exact hv.f.pt hu
    · rw [row_inj hu]; exact hw.p
  · rcases List.mem_or_eq_of_mem_set hu with hu | hu
    · exact hv.f.fs hu
    · rw [row_inj hu]; exact hw.f
theorem setS_VS {x : VV} (hx : VS x) : ∀ (p : List Int) {v : VV}, VS v → VS (setS p v x).1
  | [], v, hv => hx
  | n :: p, v, hv => by
    unfold setS
    by_cases c : leads v n = 0
    · rw [if_pos c]
      exact hv.setp (setS_VS hx p (part_ok hv c).2.2) n
    · rw [if_neg c]; exact hv
theorem getS_VS : ∀ (p : List Int) {v : VV}, VS v → (getS p v).2 = 0 → VS (getS p v).1
  | [], v, hv, h => by
    unfold getS at h ⊢
    by_cases c : v.k = 0
    · rw [if_pos c] at h; exact absurd h (by show ¬ (3 : Int) = 0; decide)
    · rw [if_neg c]; exact hv
  | n :: p, v, hv, h => by
    unfold getS at h ⊢
    by_cases c : leads v n = 0
    · rw [if_pos c] at h ⊢; exact getS_VS p (part_ok hv c).2.2 h
    · rw [if_neg c] at h; exact absurd h c
theorem zeroV_VT : VT zeroV := ⟨rfl, rfl, by decide, .nil, rfl, .nil⟩
theorem getS_VT (p : List Int) {v : VV} (hv : VS v) : VT (getS p v).1 := by
  by_cases h : (getS p v).2 = 0
  · exact (getS_VS p hv h).t
  · have : (getS p v).1 = zeroV := by
      clear hv
      induction p generalizing v with
      | nil =>
        unfold getS at h ⊢
        split
        · rfl
        · rename_i c; rw [if_neg c] at h; exact absurd rfl h
      | cons n p ih =>
        unfold getS at h ⊢
        by_cases c : leads v n = 0
        · rw [if_pos c] at h ⊢; exact ih h
        · rw [if_neg c]
    rw [this]; exact zeroV_VT
theorem ev20 (q : List Int) (hq : q.length ≤ maxLen) {v : VV} (hv : VS v) : Ev (fun n => F6 n v.k v.i v.nm v.fs v.id v.pt (pD q)) ((getS q v).1.k, (getS q v).1.i, (getS q v).1.nm, (getS q v).1.id, (getS q v).2, (getS q v).1.fs, (getS q v).1.pt) := by
  have loop : ∀ i : Nat, i ≤ q.length → ∀ v, VS v → Ev (fun n => L6_1 n (pD q) (q.length : Int) (i : Int) v.k v.i v.nm v.fs v.id v.pt) ((getS (q.drop i) v).1.k, (getS (q.drop i) v).1.i, (getS (q.drop i) v).1.nm, (getS (q.drop i) v).1.id, (getS (q.drop i) v).2, (getS (q.drop i) v).1.fs, (getS (q.drop i) v).1.pt) := by
    refine down _ (fun v hv => ?_) (fun i hi ih v hv => ?_)
    · rw [List.drop_length]
      refine .succ ?_
      simp only [L6_1, Int.lt_irrefl, if_false]
      refine .succ ?_
      simp only [L6_2, Bool.false_eq_true, if_false]
      unfold getS
      by_cases c : v.k = 0
      · simp only [if_pos c]
        exact .succ (by simp only [L6_4, if_true]; exact .ret)
      · simp only [if_neg c]
        exact .succ (by simp only [L6_4, Bool.false_eq_true, if_false]; exact Ev.bO6 (ev10 hv) .ret)
    · have h1 : (pD q)[i]? = some (.int .i64 q[i]) := by simp [hi]
      rw [List.drop_eq_getElem_cons hi]
      refine .succ ?_
      simp only [L6_1, if_pos (ilt hi)]
      refine .succ ?_
      simp only [L6_2, if_true, getF_nat h1, ds_i64]
      refine Ev.bO1 (ev38 v q[i]) ?_
      unfold getS
      by_cases c : leads v q[i] = 0
      · obtain ⟨e1, _, e3⟩ := part_ok hv c
        have hg : ∀ k : D → Option (Int × Int × ByteArray × Int × Int × List D × List D), getF v.fs q[i] k = k (part v q[i]).row := fun k => getF_some (leads_ok c).2.2.1 e1
        simp only [if_pos c]
        refine .succ ?_
        simp only [L6_3, Bool.false_eq_true, if_false, hg, ds25, letF, wrap_succ hi hq]
        exact ih _ e3
      · simp only [if_neg c]
        exact .succ (by simp only [L6_3, if_true]; exact .ret)
  unfold F6
  simp only [lenF, List.length_map]
  exact loop 0 (Nat.zero_le _) v hv
theorem ev37 {x : VV} (hx : VS x) : ∀ (q : List Int), q.length ≤ maxLen → (∀ z ∈ q, (Lit.int .i64 z).wf = true) → ∀ {v : VV}, VS v →
    Ev (fun n => F17 n v.k v.i v.nm v.id (pD q) v.fs v.pt x.k x.i x.nm x.fs x.id x.pt (0 : Int))
      ((setS q v x).1.k, (setS q v x).1.i, (setS q v x).1.nm, (setS q v x).1.id, x.k, x.i, x.nm, x.fs, x.id, x.pt, (setS q v x).2, (setS q v x).1.fs, (setS q v x).1.pt)
  | [], _, _, v, hv => by
    refine .succ ?_
    simp only [F17, lenF, List.map_nil, List.length_nil, show ((0 : Nat) : Int) = 0 from rfl, if_true]
    refine .succ ?_
    simp only [L17_1, if_true]
    exact Ev.bO6 (ev10 hx) .ret
  | z :: q, hq, hw, v, hv => by
    have hl : q.length ≤ maxLen := by simp only [List.length_cons] at hq; omega
    have h0 : (pD (z :: q))[0]? = some (.int .i64 z) := rfl
    have h0' : ∀ {γ : Type} (k : D → Option γ), getF (pD (z :: q)) 0 k = k (.int .i64 z) := fun k => getF_nat (i := 0) h0
    refine .succ ?_
    simp only [F17, lenF, List.length_map, if_neg (show ¬ ((z :: q).length : Int) = 0 by simp only [List.length_cons]; omega)]
    refine .succ ?_
    simp only [L17_1, Bool.false_eq_true, if_false, h0', ds_i64]
    refine Ev.bO3 (ev38x v z) ?_
    unfold setS
    by_cases c : leads v z = 0
    · obtain ⟨e1, _, e3⟩ := part_ok hv c
      obtain ⟨_, _, c1, c2⟩ := leads_ok c
      simp only [if_pos c, c]
      refine .succ ?_
      have hf : ∀ {γ : Type} (k : List D → Option γ), fromF (pD (z :: q)) (1 : Int) k = k (pD q) := by
        intro γ k
        unfold fromF
        rw [if_pos ⟨by omega, by simp only [List.length_map, List.length_cons]; omega⟩]
        rfl
      simp only [L17_2, if_true, need_pos (show 0 ≤ z ∧ z.toNat < v.fs.length from ⟨c1, c2⟩), getN_some e1, ds25, hf]
      refine Ev.bO13 (ev37 hx q hl (fun y hy => hw y (List.mem_cons_of_mem _ hy)) e3) ?_
      simp only [setF]
      exact .succ (by simp only [L17_3]; exact .ret)
    · simp only [if_neg c]
      refine .succ ?_
      simp only [L17_2, Bool.false_eq_true, if_false]
      exact .succ (by simp only [L17_3]; exact .ret)
def setR (q : List Int) (v x : VV) : VV × Int := if (setS q v x).2 = 0 then ((setS q v x).1, 0) else (zeroV, (setS q v x).2)
theorem ev19 {v x : VV} (hv : VS v) (hx : VS x) {q : List Int} (hq : q.length ≤ maxLen) (hw : ∀ z ∈ q, (Lit.int .i64 z).wf = true) :
    Ev (fun n => F8 n v.k v.i v.nm v.fs v.id v.pt (pD q) x.k x.i x.nm x.fs x.id x.pt) ((setR q v x).1.k, (setR q v x).1.i, (setR q v x).1.nm, (setR q v x).1.id, (setR q v x).2, (setR q v x).1.fs, (setR q v x).1.pt) := by
  unfold F8 setR
  refine Ev.bO6 (ev10 hv) (Ev.bO13 (ev37 hx q hq hw hv) ?_)
  by_cases c : (setS q v x).2 = 0
  · simp only [if_pos c]
    exact .succ (by simp only [L8_1, Bool.false_eq_true, if_false]; exact .ret)
  · simp only [if_neg c]
    exact .succ (by simp only [L8_1, if_true]; exact .ret)
end Go.Proofs.Ytagiiaejijihoaa

namespace Go.AM
open Go Go.RowKit Go.ChangeShapes Go.WideShapes

def Shapes (ti : Types) : List TypeId → List D → Prop
  | [], [] => True
  | t :: ts, x :: xs => Shape ti t x.cells ∧ (∀ y, ti t = some y → x.isAgg = rowD y.desc) ∧ Shapes ti ts xs
  | _, _ => False

theorem Shapes.length {ti : Types} : ∀ {ts : List TypeId} {xs : List D}, Shapes ti ts xs → xs.length = ts.length
  | [], [], _ => rfl
  | _ :: _, _ :: _, h => by simp [Shapes.length h.2.2]
  | [], _ :: _, h => h.elim
  | _ :: _, [], h => h.elim

section
variable {H : Type} {enc : TypeId × Value → H} {P : Program} {ti : Types} {T : List TypeId} {w : World}

theorem conv_arg (hti : TIok P ti) (hT : plainB ti T = true) {Z : Zone} (hZ : ∀ b o, ¬ Z b o) {base base' : Nat} {spare : Nat → Bool} {held : Bool} {r : Reach} {t : TypeId} {v : Value} {d : DataW H} {ps : List MemPlace} (ht : t ∈ T)
    (hok : Value.okWide P w r base' t v) (h : DataW.Trod enc P w base spare held t v d ps) : ∃ x : D, Shape ti t x.cells ∧ (∀ y, ti t = some y → x.isAgg = rowD y.desc) ∧ RelD w Z x v := by
  obtain ⟨fuel, h⟩ := h
  obtain ⟨ds, hs, h1, h2, h3⟩ := conv hti hT (Z := Z) hZ fuel t _ _ _ ht h
  have hp := List.all_eq_true.1 hT t ht
  split at hp
  · rename_i y hy
    have hu := (hti t y hy).1
    have single : rowD y.desc = false → v.cells.toList = [v] → ∃ x : D, Shape ti t x.cells ∧ (∀ y, ti t = some y → x.isAgg = rowD y.desc) ∧ RelD w Z x v := by
      intro hr hv
      rw [hv] at h1 h3
      obtain ⟨c, rfl⟩ := List.length_eq_one_iff.1 h1
      have hc := h2 c (by simp)
      have e : c.cells = [c] := by cases c <;> first | rfl | simp [D.isAgg] at hc
      refine ⟨c, by rw [e]; exact hs, fun y' hy' => ?_, h3 0 c v rfl rfl⟩
      rw [hy] at hy'
      obtain rfl : y = y' := by simpa using hy'
      rw [hc, hr]
    split at hp
    · rename_i hd
      rw [hd] at hu
      obtain ⟨b, rfl⟩ := okWide_bool hu hok
      exact single (by rw [hd]; rfl) rfl
    · rename_i k hd
      rw [hd] at hu
      obtain ⟨b, rfl⟩ := okWide_int hu hok
      exact single (by rw [hd]; rfl) rfl
    · rename_i hd
      rw [hd] at hu
      obtain ⟨b, rfl⟩ := okWide_string hu hok
      exact single (by rw [hd]; rfl) rfl
    · rename_i e hd
      rw [hd] at hu
      obtain ⟨a, l, c, rfl⟩ := okWide_slice hu hok
      exact single (by rw [hd]; rfl) rfl
    · rename_i fs hd
      rw [hd] at hu
      obtain ⟨cs, rfl, _⟩ := okWide_struct hu hok
      refine ⟨.agg ds, hs, fun y' hy' => ?_, .agg ds cs (by simpa [Value.cells] using h1.symm) h2 (fun j c u hc hu' => h3 j c u hc (by simpa [Value.cells] using hu'))⟩
      rw [hy] at hy'
      obtain rfl : y = y' := by simpa using hy'
      rw [hd]; rfl
    · simp at hp
  · simp at hp

theorem conv_args (hti : TIok P ti) (hT : plainB ti T = true) {Z : Zone} (hZ : ∀ b o, ¬ Z b o) {base base' : Nat} {spare : Nat → Bool} {held : Bool} {r : Reach} :
    ∀ (ts : List TypeId) (vs : List Value) (ds : List (DataW H)) (ps : List MemPlace), (∀ t ∈ ts, t ∈ T) → DataW.TrodAll enc P w base spare held ts vs ds ps →
      (∀ (j : Nat) t v, ts[j]? = some t → vs[j]? = some v → Value.okWide P w r base' t v) →
      ∃ xs, Shapes ti ts xs ∧ ∀ (j : Nat) x v, xs[j]? = some x → vs[j]? = some v → RelD w Z x v
  | [], vs, ds, ps, _, h, _ => ⟨[], trivial, by simp⟩
  | t :: ts, vs, ds, ps, ht, h, hok => by
    obtain ⟨v, vs1, d, ds1, a, b, rfl, rfl, rfl, h1, h2⟩ := trodAll_cons h
    obtain ⟨x, k1, k2, k3⟩ := conv_arg hti hT hZ (ht t (by simp)) (hok 0 t v rfl rfl) h1
    obtain ⟨xs, k4, k5⟩ := conv_args hti hT hZ ts vs1 ds1 b (fun t ht' => ht t (by simp [ht'])) h2 (fun j t v h1 h2 => hok (j + 1) t v (by simpa using h1) (by simpa using h2))
    refine ⟨x :: xs, ⟨k1, k2, k4⟩, fun j x' v' hx hv => ?_⟩
    match j with
    | 0 => simp at hx hv; subst hx; subst hv; exact k3
    | j + 1 => simp at hx hv; exact k5 j x' v' hx hv

theorem again_all (hl : laidOutB P = true) {W W' : World} (hb : Below W.heap.size W W') : ∀ (ts : List TypeId) (vs : List Value) (ds : List (DataW H)) (ps : List MemPlace),
    (∀ t ∈ ts, P.readableRec t = true ∧ t < P.types.size) → DataW.TrodAll enc P W 0 (fun _ => true) true ts vs ds ps → (∀ x ∈ ps, x.block < W.heap.size) →
    DataW.TrodAll enc P W' 0 (fun b => decide (b < W.heap.size)) true ts vs ds ps
  | [], vs, ds, ps, _, h, _ => by
    obtain ⟨rfl, rfl, rfl⟩ := trodAll_nil h
    exact rfl
  | t :: ts, vs, ds, ps, ht, h, hlt => by
    obtain ⟨v, vs1, d, ds1, a, b, rfl, rfl, rfl, h1, h2⟩ := trodAll_cons h
    have ht1 := ht t (by simp)
    exact ⟨a, b, Below.trod hl ht1.1 ht1.2 h1 hb (fun x hx => hlt x (by simp [hx])), again_all hl hb ts vs1 ds1 b (fun t ht' => ht t (by simp [ht'])) h2 (fun x hx => hlt x (by simp [hx])), rfl⟩

theorem law_calls {I : Inv} (hti : TIok P ti) (hT : plainB ti T = true) {s : ChangeSpec} {fn : Func} {f : FuncId} {ts : List TypeId} {bt : TypeId}
    (hp : fn.params.toList = ts) (hv : s.vars = []) (hr : fn.resultTypes = #[bt]) (hb : P.underlying bt = some .bool) (htT : ∀ t ∈ ts, t ∈ T)
    (hs : ∀ ds : List (DataW H), ds.length = ts.length → (s.fn H ds).results = [.lit (.bool true)] ∧ (s.fn H ds).args = ds ∧ (s.fn H ds).vars = [])
    (hl : laidOutB P = true) (hrec : ∀ t ∈ ts, P.readableRec t = true ∧ t < P.types.size)
    (hc : ∀ xs : List D, Shapes ti ts xs → Trip P I f (xs.map V1.d) [] (.v (.d (.bool true))) [] [])
    {W : World} {base : Nat} {args : Array Value} {ds gs : List (DataW H)} {before : List MemPlace}
    (hI : I.at W fun _ _ => False) (hval : ∀ (j : Nat) t v, fn.params[j]? = some t → args[j]? = some v → Value.okWide P W .any base t v)
    (hW : DataW.Whole enc P fn.params.toList s.vars false W args.toList ds gs before) :
    Calls P f args W fun e W' => ∃ v, e = .returned v ∧ s.post enc P fn false true false false W args v W' := by
  have hW' := hW
  obtain ⟨p, q, hA, hV, rfl, _, _⟩ := hW
  rw [hv] at hV
  obtain ⟨rfl, rfl⟩ : gs = [] ∧ q = [] := by
    cases gs with
    | nil => exact ⟨rfl, hV⟩
    | cons _ _ => exact hV.elim
  rw [hp] at hA
  obtain ⟨hlen, hdl⟩ := trodAll_length hA
  obtain ⟨xs, hsh, hrel⟩ := conv_args hti hT (Z := fun _ _ => False) (fun _ _ h => h) (r := .any) (base' := base) ts args.toList ds p htT hA (fun j t v h1 h2 => hval j t v (by
    rw [← Array.getElem?_toList, hp]; exact h1) (by simpa using h2))
  have hxl := hsh.length
  have hcall := hc xs hsh
  have hheap : ∀ i o, heapOf [] i = some o → False := by
    intro i o h
    cases i <;> simp [heapOf] at h
  have hzone : ∀ (g : Ghost) b o, ¬ zone g (heapOf []) b o := by
    rintro g b o ⟨i, ob, h, _⟩
    exact hheap i ob h
  refine (hcall.calls (w := W) (X := fun _ _ => False) (g := fun _ => undef) (vals := args) (fun _ _ h => h.elim) (hI.mono fun b o hz => hz.elim (hzone _ b o) id) ⟨fun i o h => (hheap i o h).elim, fun i _ _ _ _ h => (hheap i _ h).elim, fun i _ _ _ h => (hheap i _ h).elim⟩ (fun _ => rfl)
    (by simp at hlen; simp; omega) (fun j x v hx hvv => ?_)).mono ?_
  · simp only [List.getElem?_map, Option.map_eq_some_iff] at hx
    obtain ⟨d, hd, rfl⟩ := hx
    exact (hrel j d v hd (by simpa using hvv)).mono (fun b o u hu _ => ⟨hu, fun hz => hz.elim (hzone _ b o) id⟩)
  · rintro e W' ⟨v, g', rfl, hpost⟩
    obtain rfl : v = .bool true := by cases (show RelD _ _ (.bool true) v from hpost.res); rfl
    have hbel : Below W.heap.size W W' := ⟨hpost.frame.os, hpost.frame.tape, hpost.frame.output, hpost.frame.size, fun k hk => hpost.frame.block k hk (fun o => hzone _ k o)⟩
    obtain ⟨s1, s2, s3⟩ := hs (ds ++ []) (by simp [hdl])
    refine ⟨_, rfl, ds, [], p ++ [], [], p, [], hW', ?_, ?_, ?_, hbel.frame _, fun h => by cases h⟩
    · rw [s1, hr]
      exact trodAll_mk1 (shut_bool hb true)
    · rw [s2, hp, List.append_nil]
      exact again_all hl hbel ts args.toList ds p hrec hA (fun x hx => hW'.lt x (by simp [hx]))
    · rw [s3, hv]; rfl
end
end Go.AM
