/- TreeSame: whether any two programs, types, expressions are the same is what the chapter says. No condition. (Part 3 of 4: YtiiojajgajnhpaaW71, YtiiojajgajnhpaaW15, YtiiojajgajnhpaaW16, YtiiojajgajnhpaaW17, YtiiojajgajnhpaaW125, YtiiojajgajnhpaaW80, YtiiojajgajnhpaaW81, YtiiojajgajnhpaaW82, YtiiojajgajnhpaaW144, YtiiojajgajnhpaaW77, YtiiojajgajnhpaaW76, YtiiojajgajnhpaaW74, YtiiojajgajnhpaaW73, YtiiojajgajnhpaaW18, Ytii.) -/
import Derived.Test.YtiiojajgajnhpaaSameB
set_option linter.unusedVariables false
set_option linter.unusedSimpArgs false
/- Printed by lift.py: functional texts of functions, and their contracts. No condition. -/
set_option linter.unusedVariables false
namespace Go.Proofs.Ytiiojajgajnhpaa
open Go Go.AM
mutual
def L71_1 : Nat → (List D) → Int → Int → Option (Int)
  | 0, _, _, _ => none
  | n + 1, l1, z3, z4 =>
    lenF l1 fun z5 => (if z3 < z5 then (if (0 : Int) ≤ z4 then getF l1 z3 fun x6 => ds_t152 x6 fun z7 s8 s9 l10 z11 s12 l13 z14 s15 l16 l17 l18 l19 l20 z21 => bO1 (F68 n s8 z4) fun z22 => bO1 (F68 n s9 z22) fun z23 => bO1 (F120 n l10 z23) fun z24 => bO1 (F70 n z11 s12 l13 z24) fun z25 => bO1 (F121 n s15 l16 z25) fun z26 => L71_2 n l1 z3 l17 l18 l19 l20 (0 : Int) z26 else some z4) else some z4)
def L71_2 : Nat → (List D) → Int → (List D) → (List D) → (List D) → (List D) → Int → Int → Option (Int)
  | 0, _, _, _, _, _, _, _, _ => none
  | n + 1, l1, z3, l17, l18, l19, l20, z27, z28 =>
    lenF l17 fun z29 => (if z27 < z29 then (if (0 : Int) ≤ z28 then getF l17 z27 fun x30 => ds_t33 x30 fun z31 z32 s33 s34 s35 l36 l37 z38 => bO1 (F72 n z31 z32 s33 s34 s35 l36 l37 z38 z28) fun z39 => letF (IntKind.wrap .i64 (z27 + 1)) fun z40 => L71_2 n l1 z3 l17 l18 l19 l20 z40 z39 else (if z28 < (0 : Int) then some z28 else bO1 (F71 n l18 z28) fun z41 => bO1 (F71 n l19 z41) fun z42 => L71_3 n l1 z3 l20 (0 : Int) z42)) else (if z28 < (0 : Int) then some z28 else bO1 (F71 n l18 z28) fun z64 => bO1 (F71 n l19 z64) fun z65 => L71_3 n l1 z3 l20 (0 : Int) z65))
def L71_3 : Nat → (List D) → Int → (List D) → Int → Int → Option (Int)
  | 0, _, _, _, _, _ => none
  | n + 1, l1, z3, l20, z43, z44 =>
    lenF l20 fun z45 => (if z43 < z45 then (if (0 : Int) ≤ z44 then getF l20 z43 fun x46 => ds_t154 x46 fun s47 s48 l49 => bO1 (F68 n s47 z44) fun z50 => getF l20 z43 fun x51 => ds_t154 x51 fun s52 s53 l54 => bO1 (F68 n s53 z50) fun z55 => getF l20 z43 fun x56 => ds_t154 x56 fun s57 s58 l59 => bO1 (F71 n l59 z55) fun z60 => letF (IntKind.wrap .i64 (z43 + 1)) fun z61 => L71_3 n l1 z3 l20 z61 z60 else letF (IntKind.wrap .i64 (z3 + 1)) fun z62 => L71_1 n l1 z62 z44) else letF (IntKind.wrap .i64 (z3 + 1)) fun z63 => L71_1 n l1 z63 z44)
def F71 : Nat → (List D) → Int → Option (Int)
  | 0, _, _ => none
  | n + 1, l1, z2 =>
    L71_1 n l1 (0 : Int) z2
end
set_option maxRecDepth 100000 in
set_option maxHeartbeats 40000000 in
theorem T71 (n : Nat) : ∀ ⦃l1 : List D⦄ ⦃z2 : Int⦄ ⦃r1 : Int⦄, F71 n l1 z2 = some r1 →
    Trip Try.prog 71 [.c (.ptr (.ext 0) 0), .d (.list true 15 l1)] [.cells [.d (.int .i64 z2)]] (.t []) [.cells [.d (.int .i64 r1)]] [] := by
  induction n using Nat.strongRecOn with
  | _ n ih =>
    cases n with
    | zero =>
      intro l1 z2 r1 h
      cases (show (none : Option _) = some _ from h)
    | succ n =>
      intro l1 z2 r1 h
      rw [F71] at h
      refine Trip.of tab_ok tab_one fol Try.func71 rfl (by kernel_rfl) rfl rfl rfl (fun M hM => ?_)
      try cbv
      refine loop_inv (T := Nat × Int × Int) [0, 1, 4] [.ext 0] 8 (fun t => ⟨[(0, .v (.c (.ptr (.ext 0) 0))), (1, .v (.d (.list true 15 l1))), (4, .v (.d (.int .i64 t.2.1)))], [(.ext 0, .cells [.d (.int .i64 t.2.2)])], 8⟩)
        (fun t => t.1 ≤ n ∧ L71_1 t.1 l1 t.2.1 t.2.2 = some r1) (fun t => t.1) (n, ((0 : Int), z2)) ⟨Nat.le_refl _, h⟩ (by cbv) ?_
      clear h
      rintro ⟨m1, z3, z4⟩ ⟨hm1, h⟩
      replace hm1 : m1 ≤ n := hm1
      cases m1 with
      | zero => cases (show (none : Option _) = some _ from h)
      | succ m1 =>
        replace h : L71_1 (m1 + 1) l1 z3 z4 = some r1 := h
        rw [L71_1] at h
        try cbv
        obtain ⟨z5, hz, h⟩ := lenF_inv M h
        refine ⟨z5, hz, ?_⟩
        clear hz
        try cbv
        refine splitL (fun e => ?_) (fun e => ?_)
        · replace h := ite_t e h
          clear e
          try cbv
          refine splitLe (fun e => ?_) (fun e => ?_)
          · replace h := ite_t e h
            clear e
            try cbv
            obtain ⟨x6, ⟨hx0, hx⟩, h⟩ := getF_inv h
            refine ⟨x6, hx0, hx, ?_⟩
            clear hx0 hx
            obtain ⟨z7, s8, s9, l10, z11, s12, l13, z14, s15, l16, l17, l18, l19, l20, z21, rfl, h⟩ := ds_t152_inv h
            try cbv
            obtain ⟨z22, hr, h⟩ := bO1_inv h
            refine call_with hM [.ext 0] (T68 _ hr) rfl (by simp) ⟨rfl, trivial⟩ ⟨trivial, trivial⟩ (by simp) ?_
            clear hr
            try cbv
            obtain ⟨z23, hr, h⟩ := bO1_inv h
            refine call_with hM [.ext 0] (T68 _ hr) rfl (by simp) ⟨rfl, trivial⟩ ⟨trivial, trivial⟩ (by simp) ?_
            clear hr
            try cbv
            obtain ⟨z24, hr, h⟩ := bO1_inv h
            refine call_with hM [.ext 0] (T120 _ hr) rfl (by simp) ⟨rfl, trivial⟩ ⟨trivial, trivial⟩ (by simp) ?_
            clear hr
            try cbv
            obtain ⟨z25, hr, h⟩ := bO1_inv h
            refine call_with hM [.ext 0] (T70 _ hr) rfl (by simp) ⟨rfl, trivial⟩ ⟨trivial, trivial⟩ (by simp) ?_
            clear hr
            try cbv
            obtain ⟨z26, hr, h⟩ := bO1_inv h
            refine call_with hM [.ext 0] (T121 _ hr) rfl (by simp) ⟨rfl, trivial⟩ ⟨trivial, trivial⟩ (by simp) ?_
            clear hr
            try cbv
            refine loop_inv (T := Nat × Int × Int) [0, 1, 4, 5, 6] [.ext 0, .loc 128] 312 (fun t => ⟨[(0, .v (.c (.ptr (.ext 0) 0))), (1, .v (.d (.list true 15 l1))), (4, .v (.d (.int .i64 z3))), (5, .v (.c (.ptr (.loc 128) 0))), (6, .v (.d (.int .i64 t.2.1)))], [(.ext 0, .cells [.d (.int .i64 t.2.2)]), (.loc 128, .cells [.d (.int .u8 z7), .d (.str s8), .d (.str s9), .d (.list false 1 l10), .d (.int .u8 z11), .d (.str s12), .d (.list true 3 l13), .d (.int .i64 z14), .d (.str s15), .d (.list false 1 l16), .d (.list true 8 l17), .d (.list true 15 l18), .d (.list true 15 l19), .d (.list true 3 l20), .d (.int .i64 z21)])], 312⟩)
              (fun t => t.1 ≤ m1 ∧ L71_2 t.1 l1 z3 l17 l18 l19 l20 t.2.1 t.2.2 = some r1) (fun t => t.1) (m1, ((0 : Int), z26)) ⟨Nat.le_refl _, h⟩ (by cbv) ?_
            clear h
            rintro ⟨m2, z27, z28⟩ ⟨hm2, h⟩
            replace hm2 : m2 ≤ m1 := hm2
            cases m2 with
            | zero => cases (show (none : Option _) = some _ from h)
            | succ m2 =>
              replace h : L71_2 (m2 + 1) l1 z3 l17 l18 l19 l20 z27 z28 = some r1 := h
              rw [L71_2] at h
              try cbv
              obtain ⟨z29, hz, h⟩ := lenF_inv M h
              refine ⟨z29, hz, ?_⟩
              clear hz
              try cbv
              refine splitL (fun e => ?_) (fun e => ?_)
              · replace h := ite_t e h
                clear e
                try cbv
                refine splitLe (fun e => ?_) (fun e => ?_)
                · replace h := ite_t e h
                  clear e
                  try cbv
                  obtain ⟨x30, ⟨hx0, hx⟩, h⟩ := getF_inv h
                  refine ⟨x30, hx0, hx, ?_⟩
                  clear hx0 hx
                  obtain ⟨z31, z32, s33, s34, s35, l36, l37, z38, rfl, h⟩ := ds_t33_inv h
                  try cbv
                  obtain ⟨z39, hr, h⟩ := bO1_inv h
                  refine call_with hM [.ext 0] (T72 _ hr) rfl (by simp) ⟨rfl, trivial⟩ ⟨trivial, trivial⟩ (by simp) ?_
                  clear hr
                  try cbv
                  obtain ⟨z40, hz, h⟩ := letF_inv h
                  refine ⟨z40, hz, ?_⟩
                  clear hz
                  try cbv
                  exact loop_next (m2, (z40, z39)) [0, 1, 4, 5, 6] [.ext 0, .loc 128] 312 ⟨by omega, h⟩ (Nat.lt_succ_of_le (by omega)) (by cbv)
                · replace h := ite_f (Int.not_le.2 e) h
                  clear e
                  try cbv
                  refine splitL (fun e => ?_) (fun e => ?_)
                  · replace h := ite_t e h
                    clear e
                    try cbv
                    obtain rfl := Option.some.inj h
                    exact ⟨[], List.nodup_nil, rfl, ⟨rfl, trivial⟩, trivial⟩
                  · replace h := ite_f (Int.not_lt.2 e) h
                    clear e
                    try cbv
                    obtain ⟨z41, hr, h⟩ := bO1_inv h
                    refine call_with hM [.ext 0] ((ih _ (by omega)) hr) rfl (by simp) ⟨rfl, trivial⟩ ⟨trivial, trivial⟩ (by simp) ?_
                    clear hr
                    try cbv
                    obtain ⟨z42, hr, h⟩ := bO1_inv h
                    refine call_with hM [.ext 0] ((ih _ (by omega)) hr) rfl (by simp) ⟨rfl, trivial⟩ ⟨trivial, trivial⟩ (by simp) ?_
                    clear hr
                    try cbv
                    refine loop_inv (T := Nat × Int × Int) [0, 1, 4, 5, 6, 7] [.ext 0, .loc 128] 520 (fun t => ⟨[(0, .v (.c (.ptr (.ext 0) 0))), (1, .v (.d (.list true 15 l1))), (4, .v (.d (.int .i64 z3))), (5, .v (.c (.ptr (.loc 128) 0))), (6, .v (.d (.int .i64 z27))), (7, .v (.d (.int .i64 t.2.1)))], [(.ext 0, .cells [.d (.int .i64 t.2.2)]), (.loc 128, .cells [.d (.int .u8 z7), .d (.str s8), .d (.str s9), .d (.list false 1 l10), .d (.int .u8 z11), .d (.str s12), .d (.list true 3 l13), .d (.int .i64 z14), .d (.str s15), .d (.list false 1 l16), .d (.list true 8 l17), .d (.list true 15 l18), .d (.list true 15 l19), .d (.list true 3 l20), .d (.int .i64 z21)])], 520⟩)
                      (fun t => t.1 ≤ m2 ∧ L71_3 t.1 l1 z3 l20 t.2.1 t.2.2 = some r1) (fun t => t.1) (m2, ((0 : Int), z42)) ⟨Nat.le_refl _, h⟩ (by cbv) ?_
                    clear h
                    rintro ⟨m3, z43, z44⟩ ⟨hm3, h⟩
                    replace hm3 : m3 ≤ m2 := hm3
                    cases m3 with
                    | zero => cases (show (none : Option _) = some _ from h)
                    | succ m3 =>
                      replace h : L71_3 (m3 + 1) l1 z3 l20 z43 z44 = some r1 := h
                      rw [L71_3] at h
                      try cbv
                      obtain ⟨z45, hz, h⟩ := lenF_inv M h
                      refine ⟨z45, hz, ?_⟩
                      clear hz
                      try cbv
                      refine splitL (fun e => ?_) (fun e => ?_)
                      · replace h := ite_t e h
                        clear e
                        try cbv
                        refine splitLe (fun e => ?_) (fun e => ?_)
                        · replace h := ite_t e h
                          clear e
                          try cbv
                          obtain ⟨x46, ⟨hx0, hx⟩, h⟩ := getF_inv h
                          refine ⟨x46, hx0, hx, ?_⟩
                          clear hx0 hx
                          obtain ⟨s47, s48, l49, rfl, h⟩ := ds_t154_inv h
                          try cbv
                          obtain ⟨z50, hr, h⟩ := bO1_inv h
                          refine call_with hM [.ext 0] (T68 _ hr) rfl (by simp) ⟨rfl, trivial⟩ ⟨trivial, trivial⟩ (by simp) ?_
                          clear hr
                          try cbv
                          obtain ⟨x51, ⟨hx0, hx⟩, h⟩ := getF_inv h
                          refine ⟨x51, hx0, hx, ?_⟩
                          clear hx0 hx
                          obtain ⟨s52, s53, l54, rfl, h⟩ := ds_t154_inv h
                          try cbv
                          obtain ⟨z55, hr, h⟩ := bO1_inv h
                          refine call_with hM [.ext 0] (T68 _ hr) rfl (by simp) ⟨rfl, trivial⟩ ⟨trivial, trivial⟩ (by simp) ?_
                          clear hr
                          try cbv
                          obtain ⟨x56, ⟨hx0, hx⟩, h⟩ := getF_inv h
                          refine ⟨x56, hx0, hx, ?_⟩
                          clear hx0 hx
                          obtain ⟨s57, s58, l59, rfl, h⟩ := ds_t154_inv h
                          try cbv
                          obtain ⟨z60, hr, h⟩ := bO1_inv h
                          refine call_with hM [.ext 0] ((ih _ (by omega)) hr) rfl (by simp) ⟨rfl, trivial⟩ ⟨trivial, trivial⟩ (by simp) ?_
                          clear hr
                          try cbv
                          obtain ⟨z61, hz, h⟩ := letF_inv h
                          refine ⟨z61, hz, ?_⟩
                          clear hz
                          try cbv
                          exact loop_next (m3, (z61, z60)) [0, 1, 4, 5, 6, 7] [.ext 0, .loc 128] 520 ⟨by omega, h⟩ (Nat.lt_succ_of_le (by omega)) (by cbv)
                        · replace h := ite_f (Int.not_le.2 e) h
                          clear e
                          try cbv
                          obtain ⟨z62, hz, h⟩ := letF_inv h
                          refine ⟨z62, hz, ?_⟩
                          clear hz
                          try cbv
                          exact loop_next (m3, (z62, z44)) [0, 1, 4] [.ext 0] 8 ⟨by omega, h⟩ (Nat.lt_succ_of_le (by omega)) (by cbv)
                      · replace h := ite_f (Int.not_lt.2 e) h
                        clear e
                        try cbv
                        obtain ⟨z63, hz, h⟩ := letF_inv h
                        refine ⟨z63, hz, ?_⟩
                        clear hz
                        try cbv
                        exact loop_next (m3, (z63, z44)) [0, 1, 4] [.ext 0] 8 ⟨by omega, h⟩ (Nat.lt_succ_of_le (by omega)) (by cbv)
              · replace h := ite_f (Int.not_lt.2 e) h
                clear e
                try cbv
                refine splitL (fun e => ?_) (fun e => ?_)
                · replace h := ite_t e h
                  clear e
                  try cbv
                  obtain rfl := Option.some.inj h
                  exact ⟨[], List.nodup_nil, rfl, ⟨rfl, trivial⟩, trivial⟩
                · replace h := ite_f (Int.not_lt.2 e) h
                  clear e
                  try cbv
                  obtain ⟨z64, hr, h⟩ := bO1_inv h
                  refine call_with hM [.ext 0] ((ih _ (by omega)) hr) rfl (by simp) ⟨rfl, trivial⟩ ⟨trivial, trivial⟩ (by simp) ?_
                  clear hr
                  try cbv
                  obtain ⟨z65, hr, h⟩ := bO1_inv h
                  refine call_with hM [.ext 0] ((ih _ (by omega)) hr) rfl (by simp) ⟨rfl, trivial⟩ ⟨trivial, trivial⟩ (by simp) ?_
                  clear hr
                  try cbv
                  refine loop_inv (T := Nat × Int × Int) [0, 1, 4, 5, 6, 7] [.ext 0, .loc 128] 520 (fun t => ⟨[(0, .v (.c (.ptr (.ext 0) 0))), (1, .v (.d (.list true 15 l1))), (4, .v (.d (.int .i64 z3))), (5, .v (.c (.ptr (.loc 128) 0))), (6, .v (.d (.int .i64 z27))), (7, .v (.d (.int .i64 t.2.1)))], [(.ext 0, .cells [.d (.int .i64 t.2.2)]), (.loc 128, .cells [.d (.int .u8 z7), .d (.str s8), .d (.str s9), .d (.list false 1 l10), .d (.int .u8 z11), .d (.str s12), .d (.list true 3 l13), .d (.int .i64 z14), .d (.str s15), .d (.list false 1 l16), .d (.list true 8 l17), .d (.list true 15 l18), .d (.list true 15 l19), .d (.list true 3 l20), .d (.int .i64 z21)])], 520⟩)
                    (fun t => t.1 ≤ m2 ∧ L71_3 t.1 l1 z3 l20 t.2.1 t.2.2 = some r1) (fun t => t.1) (m2, ((0 : Int), z65)) ⟨Nat.le_refl _, h⟩ (by cbv) ?_
                  clear h
                  rintro ⟨m4, z66, z67⟩ ⟨hm4, h⟩
                  replace hm4 : m4 ≤ m2 := hm4
                  cases m4 with
                  | zero => cases (show (none : Option _) = some _ from h)
                  | succ m4 =>
                    replace h : L71_3 (m4 + 1) l1 z3 l20 z66 z67 = some r1 := h
                    rw [L71_3] at h
                    try cbv
                    obtain ⟨z68, hz, h⟩ := lenF_inv M h
                    refine ⟨z68, hz, ?_⟩
                    clear hz
                    try cbv
                    refine splitL (fun e => ?_) (fun e => ?_)
                    · replace h := ite_t e h
                      clear e
                      try cbv
                      refine splitLe (fun e => ?_) (fun e => ?_)
                      · replace h := ite_t e h
                        clear e
                        try cbv
                        obtain ⟨x69, ⟨hx0, hx⟩, h⟩ := getF_inv h
                        refine ⟨x69, hx0, hx, ?_⟩
                        clear hx0 hx
                        obtain ⟨s70, s71, l72, rfl, h⟩ := ds_t154_inv h
                        try cbv
                        obtain ⟨z73, hr, h⟩ := bO1_inv h
                        refine call_with hM [.ext 0] (T68 _ hr) rfl (by simp) ⟨rfl, trivial⟩ ⟨trivial, trivial⟩ (by simp) ?_
                        clear hr
                        try cbv
                        obtain ⟨x74, ⟨hx0, hx⟩, h⟩ := getF_inv h
                        refine ⟨x74, hx0, hx, ?_⟩
                        clear hx0 hx
                        obtain ⟨s75, s76, l77, rfl, h⟩ := ds_t154_inv h
                        try cbv
                        obtain ⟨z78, hr, h⟩ := bO1_inv h
                        refine call_with hM [.ext 0] (T68 _ hr) rfl (by simp) ⟨rfl, trivial⟩ ⟨trivial, trivial⟩ (by simp) ?_
                        clear hr
                        try cbv
                        obtain ⟨x79, ⟨hx0, hx⟩, h⟩ := getF_inv h
                        refine ⟨x79, hx0, hx, ?_⟩
                        clear hx0 hx
                        obtain ⟨s80, s81, l82, rfl, h⟩ := ds_t154_inv h
                        try cbv
                        obtain ⟨z83, hr, h⟩ := bO1_inv h
                        refine call_with hM [.ext 0] ((ih _ (by omega)) hr) rfl (by simp) ⟨rfl, trivial⟩ ⟨trivial, trivial⟩ (by simp) ?_
                        clear hr
                        try cbv
                        obtain ⟨z84, hz, h⟩ := letF_inv h
                        refine ⟨z84, hz, ?_⟩
                        clear hz
                        try cbv
                        exact loop_next (m4, (z84, z83)) [0, 1, 4, 5, 6, 7] [.ext 0, .loc 128] 520 ⟨by omega, h⟩ (Nat.lt_succ_of_le (by omega)) (by cbv)
                      · replace h := ite_f (Int.not_le.2 e) h
                        clear e
                        try cbv
                        obtain ⟨z85, hz, h⟩ := letF_inv h
                        refine ⟨z85, hz, ?_⟩
                        clear hz
                        try cbv
                        exact loop_next (m4, (z85, z67)) [0, 1, 4] [.ext 0] 8 ⟨by omega, h⟩ (Nat.lt_succ_of_le (by omega)) (by cbv)
                    · replace h := ite_f (Int.not_lt.2 e) h
                      clear e
                      try cbv
                      obtain ⟨z86, hz, h⟩ := letF_inv h
                      refine ⟨z86, hz, ?_⟩
                      clear hz
                      try cbv
                      exact loop_next (m4, (z86, z67)) [0, 1, 4] [.ext 0] 8 ⟨by omega, h⟩ (Nat.lt_succ_of_le (by omega)) (by cbv)
          · replace h := ite_f (Int.not_le.2 e) h
            clear e
            try cbv
            obtain rfl := Option.some.inj h
            exact ⟨[], List.nodup_nil, rfl, ⟨rfl, trivial⟩, trivial⟩
        · replace h := ite_f (Int.not_lt.2 e) h
          clear e
          try cbv
          obtain rfl := Option.some.inj h
          exact ⟨[], List.nodup_nil, rfl, ⟨rfl, trivial⟩, trivial⟩
end Go.Proofs.Ytiiojajgajnhpaa

/- Printed by lift.py: functional texts of functions, and their contracts. No condition. -/
set_option linter.unusedVariables false
namespace Go.Proofs.Ytiiojajgajnhpaa
open Go Go.AM
def L15_1 : Nat → (List D) → Int → Int → Option (Bool)
  | 0, _, _, _ => none
  | n + 1, l1, z2, z3 =>
    lenF l1 fun z4 => (if z2 < z4 then (if (0 : Int) ≤ z3 then getF l1 z2 fun x5 => ds_t126 x5 fun z6 s7 l8 z9 s10 l11 l12 z13 z14 s15 s16 s17 l18 l19 z20 z21 => bO1 (F68 n s7 z3) fun z22 => bO1 (F69 n l8 z22) fun z23 => bO1 (F70 n z9 s10 l11 z23) fun z24 => bO1 (F71 n l12 z24) fun z25 => bO1 (F72 n z13 z14 s15 s16 s17 l18 l19 z20 z25) fun z26 => letF (IntKind.wrap .i64 (z2 + 1)) fun z27 => L15_1 n l1 z27 z26 else (if z3 < (0 : Int) then some true else some false)) else (if z3 < (0 : Int) then some true else some false))
def F15 (n : Nat) (l1 : List D) : Option (Bool) :=
  L15_1 n l1 (0 : Int) (20000 : Int)
set_option maxRecDepth 100000 in
set_option maxHeartbeats 40000000 in
theorem T15 (n : Nat) : ∀ ⦃l1 : List D⦄ ⦃r1 : Bool⦄, F15 n l1 = some r1 →
    Trip Try.prog 15 [.d (.agg [.list true 16 l1])] [] (.v (.d (.bool r1))) [] [] := by
  intro l1 r1 h
  unfold F15 at h
  refine Trip.of tab_ok tab_one fol Try.func15 rfl (by kernel_rfl) rfl rfl rfl (fun M hM => ?_)
  try cbv
  refine loop_inv (T := Nat × Int × Int) [1, 2, 3, 4] [.loc 0, .loc 24] 48 (fun t => ⟨[(1, .v (.c (.ptr (.loc 0) 0))), (2, .v (.d (.bool false))), (3, .v (.c (.ptr (.loc 24) 0))), (4, .v (.d (.int .i64 t.2.1)))], [(.loc 0, .cells [.d (.list true 16 l1)]), (.loc 24, .cells [.d (.int .i64 t.2.2)])], 48⟩)
    (fun t => t.1 ≤ n ∧ L15_1 t.1 l1 t.2.1 t.2.2 = some r1) (fun t => t.1) (n, ((0 : Int), (20000 : Int))) ⟨Nat.le_refl _, h⟩ (by cbv) ?_
  clear h
  rintro ⟨m1, z2, z3⟩ ⟨hm1, h⟩
  replace hm1 : m1 ≤ n := hm1
  cases m1 with
  | zero => cases (show (none : Option _) = some _ from h)
  | succ m1 =>
    replace h : L15_1 (m1 + 1) l1 z2 z3 = some r1 := h
    rw [L15_1] at h
    try cbv
    obtain ⟨z4, hz, h⟩ := lenF_inv M h
    refine ⟨z4, hz, ?_⟩
    clear hz
    try cbv
    refine splitL (fun e => ?_) (fun e => ?_)
    · replace h := ite_t e h
      clear e
      try cbv
      refine splitLe (fun e => ?_) (fun e => ?_)
      · replace h := ite_t e h
        clear e
        try cbv
        obtain ⟨x5, ⟨hx0, hx⟩, h⟩ := getF_inv h
        refine ⟨x5, hx0, hx, ?_⟩
        clear hx0 hx
        obtain ⟨z6, s7, l8, z9, s10, l11, l12, z13, z14, s15, s16, s17, l18, l19, z20, z21, rfl, h⟩ := ds_t126_inv h
        try cbv
        obtain ⟨z22, hr, h⟩ := bO1_inv h
        refine call_with hM [.loc 24] (T68 _ hr) rfl (by simp) ⟨rfl, trivial⟩ ⟨trivial, trivial⟩ (by simp) ?_
        clear hr
        try cbv
        obtain ⟨z23, hr, h⟩ := bO1_inv h
        refine call_with hM [.loc 24] (T69 _ hr) rfl (by simp) ⟨rfl, trivial⟩ ⟨trivial, trivial⟩ (by simp) ?_
        clear hr
        try cbv
        obtain ⟨z24, hr, h⟩ := bO1_inv h
        refine call_with hM [.loc 24] (T70 _ hr) rfl (by simp) ⟨rfl, trivial⟩ ⟨trivial, trivial⟩ (by simp) ?_
        clear hr
        try cbv
        obtain ⟨z25, hr, h⟩ := bO1_inv h
        refine call_with hM [.loc 24] (T71 _ hr) rfl (by simp) ⟨rfl, trivial⟩ ⟨trivial, trivial⟩ (by simp) ?_
        clear hr
        try cbv
        obtain ⟨z26, hr, h⟩ := bO1_inv h
        refine call_with hM [.loc 24] (T72 _ hr) rfl (by simp) ⟨rfl, trivial⟩ ⟨trivial, trivial⟩ (by simp) ?_
        clear hr
        try cbv
        obtain ⟨z27, hz, h⟩ := letF_inv h
        refine ⟨z27, hz, ?_⟩
        clear hz
        try cbv
        exact loop_next (m1, (z27, z26)) [1, 2, 3, 4] [.loc 0, .loc 24] 48 ⟨by omega, h⟩ (Nat.lt_succ_of_le (by omega)) (by cbv)
      · replace h := ite_f (Int.not_le.2 e) h
        clear e
        try cbv
        refine splitL (fun e => ?_) (fun e => ?_)
        · replace h := ite_t e h
          clear e
          try cbv
          obtain rfl := Option.some.inj h
          exact ⟨[], List.nodup_nil, rfl, trivial, trivial⟩
        · replace h := ite_f (Int.not_lt.2 e) h
          clear e
          try cbv
          obtain rfl := Option.some.inj h
          exact ⟨[], List.nodup_nil, rfl, trivial, trivial⟩
    · replace h := ite_f (Int.not_lt.2 e) h
      clear e
      try cbv
      refine splitL (fun e => ?_) (fun e => ?_)
      · replace h := ite_t e h
        clear e
        try cbv
        obtain rfl := Option.some.inj h
        exact ⟨[], List.nodup_nil, rfl, trivial, trivial⟩
      · replace h := ite_f (Int.not_lt.2 e) h
        clear e
        try cbv
        obtain rfl := Option.some.inj h
        exact ⟨[], List.nodup_nil, rfl, trivial, trivial⟩
end Go.Proofs.Ytiiojajgajnhpaa

/- Printed by lift.py: functional texts of functions, and their contracts. No condition. -/
set_option linter.unusedVariables false
namespace Go.Proofs.Ytiiojajgajnhpaa
open Go Go.AM
def F16 (n : Nat) (z1 : Int) (s2 : ByteArray) (l3 : List D) : Option (Bool) :=
  bO1 (F70 n z1 s2 l3 (20000 : Int)) fun z4 => (if z4 < (0 : Int) then some true else some false)
set_option maxRecDepth 100000 in
set_option maxHeartbeats 40000000 in
theorem T16 (n : Nat) : ∀ ⦃z1 : Int⦄ ⦃s2 : ByteArray⦄ ⦃l3 : List D⦄ ⦃r1 : Bool⦄, F16 n z1 s2 l3 = some r1 →
    Trip Try.prog 16 [.d (.agg [.int .u8 z1, .str s2, .list true 3 l3])] [] (.v (.d (.bool r1))) [] [] := by
  intro z1 s2 l3 r1 h
  unfold F16 at h
  refine Trip.of tab_ok tab_one fol Try.func16 rfl (by kernel_rfl) rfl rfl rfl (fun M hM => ?_)
  try cbv
  obtain ⟨z4, hr, h⟩ := bO1_inv h
  refine call_with hM [.loc 24] (T70 _ hr) rfl (by simp) ⟨rfl, trivial⟩ ⟨trivial, trivial⟩ (by simp) ?_
  clear hr
  try cbv
  refine splitL (fun e => ?_) (fun e => ?_)
  · replace h := ite_t e h
    clear e
    try cbv
    obtain rfl := Option.some.inj h
    exact ⟨[], List.nodup_nil, rfl, trivial, trivial⟩
  · replace h := ite_f (Int.not_lt.2 e) h
    clear e
    try cbv
    obtain rfl := Option.some.inj h
    exact ⟨[], List.nodup_nil, rfl, trivial, trivial⟩
end Go.Proofs.Ytiiojajgajnhpaa

/- Printed by lift.py: functional texts of functions, and their contracts. No condition. -/
set_option linter.unusedVariables false
namespace Go.Proofs.Ytiiojajgajnhpaa
open Go Go.AM
def F17 (n : Nat) (z1 : Int) (z2 : Int) (s3 : ByteArray) (s4 : ByteArray) (s5 : ByteArray) (l6 : List D) (l7 : List D) (z8 : Int) : Option (Bool) :=
  bO1 (F72 n z1 z2 s3 s4 s5 l6 l7 z8 (20000 : Int)) fun z9 => (if z9 < (0 : Int) then some true else some false)
set_option maxRecDepth 100000 in
set_option maxHeartbeats 40000000 in
theorem T17 (n : Nat) : ∀ ⦃z1 : Int⦄ ⦃z2 : Int⦄ ⦃s3 : ByteArray⦄ ⦃s4 : ByteArray⦄ ⦃s5 : ByteArray⦄ ⦃l6 : List D⦄ ⦃l7 : List D⦄ ⦃z8 : Int⦄ ⦃r1 : Bool⦄, F17 n z1 z2 s3 s4 s5 l6 l7 z8 = some r1 →
    Trip Try.prog 17 [.d (.agg [.int .u8 z1, .int .i64 z2, .str s3, .str s4, .str s5, .list false 1 l6, .list true 8 l7, .int .i64 z8])] [] (.v (.d (.bool r1))) [] [] := by
  intro z1 z2 s3 s4 s5 l6 l7 z8 r1 h
  unfold F17 at h
  refine Trip.of tab_ok tab_one fol Try.func17 rfl (by kernel_rfl) rfl rfl rfl (fun M hM => ?_)
  try cbv
  obtain ⟨z9, hr, h⟩ := bO1_inv h
  refine call_with hM [.loc 24] (T72 _ hr) rfl (by simp) ⟨rfl, trivial⟩ ⟨trivial, trivial⟩ (by simp) ?_
  clear hr
  try cbv
  refine splitL (fun e => ?_) (fun e => ?_)
  · replace h := ite_t e h
    clear e
    try cbv
    obtain rfl := Option.some.inj h
    exact ⟨[], List.nodup_nil, rfl, trivial, trivial⟩
  · replace h := ite_f (Int.not_lt.2 e) h
    clear e
    try cbv
    obtain rfl := Option.some.inj h
    exact ⟨[], List.nodup_nil, rfl, trivial, trivial⟩
end Go.Proofs.Ytiiojajgajnhpaa

/- Printed by lift.py: functional texts of functions, and their contracts. No condition. -/
set_option linter.unusedVariables false
namespace Go.Proofs.Ytiiojajgajnhpaa
open Go Go.AM
def L125_1 : Nat → (List D) → (List D) → Int → Int → Option (Bool)
  | 0, _, _, _, _ => none
  | n + 1, l1, l2, z5, z6 =>
    (if z6 < z5 then getF l1 z6 fun x7 => ds_str x7 fun s8 => getF l2 z6 fun x9 => ds_str x9 fun s10 => (if s8 = s10 then letF (IntKind.wrap .i64 (z6 + 1)) fun z11 => L125_1 n l1 l2 z5 z11 else some false) else some true)
def F125 (n : Nat) (l1 : List D) (l2 : List D) : Option (Bool) :=
  lenF l1 fun z3 => lenF l2 fun z4 => (if z3 = z4 then lenF l1 fun z5 => L125_1 n l1 l2 z5 (0 : Int) else some false)
set_option maxRecDepth 100000 in
set_option maxHeartbeats 40000000 in
theorem T125 (n : Nat) : ∀ ⦃l1 : List D⦄ ⦃l2 : List D⦄ ⦃r1 : Bool⦄, F125 n l1 l2 = some r1 →
    Trip Try.prog 125 [.d (.list false 1 l1), .d (.list false 1 l2)] [] (.v (.d (.bool r1))) [] [] := by
  intro l1 l2 r1 h
  unfold F125 at h
  refine Trip.of tab_ok tab_one fol Try.func125 rfl (by kernel_rfl) rfl rfl rfl (fun M hM => ?_)
  try cbv
  obtain ⟨z3, hz, h⟩ := lenF_inv M h
  refine ⟨z3, hz, ?_⟩
  clear hz
  try cbv
  obtain ⟨z4, hz, h⟩ := lenF_inv M h
  refine ⟨z4, hz, ?_⟩
  clear hz
  try cbv
  refine splitI (fun e => ?_) (fun e => ?_)
  · replace h := ite_t e h
    clear e
    try cbv
    obtain ⟨z5, hz, h⟩ := lenF_inv M h
    refine ⟨z5, hz, ?_⟩
    clear hz
    try cbv
    refine loop_inv (T := Nat × Int) [0, 1, 4, 12, 13] [] 72 (fun t => ⟨[(0, .v (.d (.list false 1 l1))), (1, .v (.d (.list false 1 l2))), (4, .v (.d (.bool false))), (12, .v (.d (.int .i64 z5))), (13, .v (.d (.int .i64 t.2)))], [], 72⟩)
      (fun t => t.1 ≤ n ∧ L125_1 t.1 l1 l2 z5 t.2 = some r1) (fun t => t.1) (n, (0 : Int)) ⟨Nat.le_refl _, h⟩ (by cbv) ?_
    clear h
    rintro ⟨m1, z6⟩ ⟨hm1, h⟩
    replace hm1 : m1 ≤ n := hm1
    cases m1 with
    | zero => cases (show (none : Option _) = some _ from h)
    | succ m1 =>
      replace h : L125_1 (m1 + 1) l1 l2 z5 z6 = some r1 := h
      rw [L125_1] at h
      try cbv
      refine splitL (fun e => ?_) (fun e => ?_)
      · replace h := ite_t e h
        clear e
        try cbv
        obtain ⟨x7, ⟨hx0, hx⟩, h⟩ := getF_inv h
        refine ⟨x7, hx0, hx, ?_⟩
        clear hx0 hx
        obtain ⟨s8, rfl, h⟩ := ds_str_inv h
        try cbv
        obtain ⟨x9, ⟨hx0, hx⟩, h⟩ := getF_inv h
        refine ⟨x9, hx0, hx, ?_⟩
        clear hx0 hx
        obtain ⟨s10, rfl, h⟩ := ds_str_inv h
        try cbv
        refine splitS (fun e => ?_) (fun e => ?_)
        · replace h := ite_t (bytes_eq.1 e) h
          clear e
          try cbv
          refine drawn ?_ ?_
          · show _ = true
            kernel_rfl
          try cbv
          obtain ⟨z11, hz, h⟩ := letF_inv h
          refine ⟨z11, hz, ?_⟩
          clear hz
          try cbv
          exact loop_next (m1, z11) [0, 1, 4, 12, 13] [] 72 ⟨by omega, h⟩ (Nat.lt_succ_of_le (by omega)) (by cbv)
        · replace h := ite_f (bytes_ne.1 e) h
          clear e
          try cbv
          refine drawn ?_ ?_
          · show _ = true
            kernel_rfl
          try cbv
          obtain rfl := Option.some.inj h
          exact ⟨[], List.nodup_nil, rfl, trivial, trivial⟩
      · replace h := ite_f (Int.not_lt.2 e) h
        clear e
        try cbv
        obtain rfl := Option.some.inj h
        exact ⟨[], List.nodup_nil, rfl, trivial, trivial⟩
  · replace h := ite_f e h
    clear e
    try cbv
    obtain rfl := Option.some.inj h
    exact ⟨[], List.nodup_nil, rfl, trivial, trivial⟩
end Go.Proofs.Ytiiojajgajnhpaa

/- Printed by lift.py: functional texts of functions, and their contracts. No condition. -/
set_option linter.unusedVariables false
namespace Go.Proofs.Ytiiojajgajnhpaa
open Go Go.AM
mutual
def L80_1 : Nat → (List D) → (List D) → Int → Int → Option (Bool)
  | 0, _, _, _, _ => none
  | n + 1, l1, l2, z5, z6 =>
    (if z6 < z5 then getF l1 z6 fun x7 => ds_t27 x7 fun z8 s9 l10 => getF l2 z6 fun x11 => ds_t27 x11 fun z12 s13 l14 => bO1 (F20 n z8 s9 l10 z12 s13 l14) fun b15 => (if b15 = true then letF (IntKind.wrap .i64 (z6 + 1)) fun z16 => L80_1 n l1 l2 z5 z16 else some false) else some true)
def F80 : Nat → (List D) → (List D) → Option (Bool)
  | 0, _, _ => none
  | n + 1, l1, l2 =>
    lenF l1 fun z3 => lenF l2 fun z4 => (if z3 = z4 then lenF l1 fun z5 => L80_1 n l1 l2 z5 (0 : Int) else some false)
def F20 : Nat → Int → ByteArray → (List D) → Int → ByteArray → (List D) → Option (Bool)
  | 0, _, _, _, _, _, _ => none
  | n + 1, z1, s2, l3, z4, s5, l6 =>
    (if z1 = z4 then (if s2 = s5 then bO1 (F80 n l3 l6) fun b7 => some b7 else some false) else some false)
end
set_option maxRecDepth 100000 in
set_option maxHeartbeats 40000000 in
theorem G80 (n : Nat) : (∀ ⦃l1 : List D⦄ ⦃l2 : List D⦄ ⦃r1 : Bool⦄, F80 n l1 l2 = some r1 →
    Trip Try.prog 80 [.d (.list true 3 l1), .d (.list true 3 l2), .c (.fn 20 [])] [] (.v (.d (.bool r1))) [] []) ∧
    (∀ ⦃z1 : Int⦄ ⦃s2 : ByteArray⦄ ⦃l3 : List D⦄ ⦃z4 : Int⦄ ⦃s5 : ByteArray⦄ ⦃l6 : List D⦄ ⦃r1 : Bool⦄, F20 n z1 s2 l3 z4 s5 l6 = some r1 →
    Trip Try.prog 20 [.d (.agg [.int .u8 z1, .str s2, .list true 3 l3]), .d (.agg [.int .u8 z4, .str s5, .list true 3 l6])] [] (.v (.d (.bool r1))) [] []) := by
  induction n using Nat.strongRecOn with
  | _ n ih =>
    cases n with
    | zero =>
      refine ⟨?_, ?_⟩
      · intro l1 l2 r1 h
        cases (show (none : Option _) = some _ from h)
      · intro z1 s2 l3 z4 s5 l6 r1 h
        cases (show (none : Option _) = some _ from h)
    | succ n =>
      refine ⟨?_, ?_⟩
      · intro l1 l2 r1 h
        rw [F80] at h
        refine Trip.of tab_ok tab_one fol Try.func80 rfl (by kernel_rfl) rfl rfl rfl (fun M hM => ?_)
        try cbv
        obtain ⟨z3, hz, h⟩ := lenF_inv M h
        refine ⟨z3, hz, ?_⟩
        clear hz
        try cbv
        obtain ⟨z4, hz, h⟩ := lenF_inv M h
        refine ⟨z4, hz, ?_⟩
        clear hz
        try cbv
        refine splitI (fun e => ?_) (fun e => ?_)
        · replace h := ite_t e h
          clear e
          try cbv
          obtain ⟨z5, hz, h⟩ := lenF_inv M h
          refine ⟨z5, hz, ?_⟩
          clear hz
          try cbv
          refine loop_inv (T := Nat × Int) [1, 2, 6, 15, 16, 17] [] 72 (fun t => ⟨[(1, .v (.d (.list true 3 l2))), (2, .v (.c (.fn 20 []))), (6, .v (.d (.bool false))), (15, .v (.d (.list true 3 l1))), (16, .v (.d (.int .i64 z5))), (17, .v (.d (.int .i64 t.2)))], [], 72⟩)
            (fun t => t.1 ≤ n ∧ L80_1 t.1 l1 l2 z5 t.2 = some r1) (fun t => t.1) (n, (0 : Int)) ⟨Nat.le_refl _, h⟩ (by cbv) ?_
          clear h
          rintro ⟨m1, z6⟩ ⟨hm1, h⟩
          replace hm1 : m1 ≤ n := hm1
          cases m1 with
          | zero => cases (show (none : Option _) = some _ from h)
          | succ m1 =>
            replace h : L80_1 (m1 + 1) l1 l2 z5 z6 = some r1 := h
            rw [L80_1] at h
            try cbv
            refine splitL (fun e => ?_) (fun e => ?_)
            · replace h := ite_t e h
              clear e
              try cbv
              obtain ⟨x7, ⟨hx0, hx⟩, h⟩ := getF_inv h
              refine ⟨x7, hx0, hx, ?_⟩
              clear hx0 hx
              obtain ⟨z8, s9, l10, rfl, h⟩ := ds_t27_inv h
              try cbv
              obtain ⟨x11, ⟨hx0, hx⟩, h⟩ := getF_inv h
              refine ⟨x11, hx0, hx, ?_⟩
              clear hx0 hx
              obtain ⟨z12, s13, l14, rfl, h⟩ := ds_t27_inv h
              try cbv
              obtain ⟨b15, hr, h⟩ := bO1_inv h
              refine call_pure hM ((ih _ (by omega)).2 hr) rfl ?_
              clear hr
              try cbv
              cases b15
              · replace h := ite_f Bool.false_ne_true h
                try cbv
                obtain rfl := Option.some.inj h
                exact ⟨[], List.nodup_nil, rfl, trivial, trivial⟩
              · replace h := ite_t rfl h
                try cbv
                obtain ⟨z16, hz, h⟩ := letF_inv h
                refine ⟨z16, hz, ?_⟩
                clear hz
                try cbv
                exact loop_next (m1, z16) [1, 2, 6, 15, 16, 17] [] 72 ⟨by omega, h⟩ (Nat.lt_succ_of_le (by omega)) (by cbv)
            · replace h := ite_f (Int.not_lt.2 e) h
              clear e
              try cbv
              obtain rfl := Option.some.inj h
              exact ⟨[], List.nodup_nil, rfl, trivial, trivial⟩
        · replace h := ite_f e h
          clear e
          try cbv
          obtain rfl := Option.some.inj h
          exact ⟨[], List.nodup_nil, rfl, trivial, trivial⟩
      · intro z1 s2 l3 z4 s5 l6 r1 h
        rw [F20] at h
        refine Trip.of tab_ok tab_one fol Try.func20 rfl (by kernel_rfl) rfl rfl rfl (fun M hM => ?_)
        try cbv
        refine splitI (fun e => ?_) (fun e => ?_)
        · replace h := ite_t e h
          clear e
          try cbv
          refine splitS (fun e => ?_) (fun e => ?_)
          · replace h := ite_t (bytes_eq.1 e) h
            clear e
            try cbv
            obtain ⟨b7, hr, h⟩ := bO1_inv h
            refine call_pure hM ((ih _ (by omega)).1 hr) rfl ?_
            clear hr
            try cbv
            obtain rfl := Option.some.inj h
            exact ⟨[], List.nodup_nil, rfl, trivial, trivial⟩
          · replace h := ite_f (bytes_ne.1 e) h
            clear e
            try cbv
            obtain rfl := Option.some.inj h
            exact ⟨[], List.nodup_nil, rfl, trivial, trivial⟩
        · replace h := ite_f e h
          clear e
          try cbv
          obtain rfl := Option.some.inj h
          exact ⟨[], List.nodup_nil, rfl, trivial, trivial⟩
theorem T80 (n : Nat) : ∀ ⦃l1 : List D⦄ ⦃l2 : List D⦄ ⦃r1 : Bool⦄, F80 n l1 l2 = some r1 →
    Trip Try.prog 80 [.d (.list true 3 l1), .d (.list true 3 l2), .c (.fn 20 [])] [] (.v (.d (.bool r1))) [] [] := (G80 n).1
theorem T20 (n : Nat) : ∀ ⦃z1 : Int⦄ ⦃s2 : ByteArray⦄ ⦃l3 : List D⦄ ⦃z4 : Int⦄ ⦃s5 : ByteArray⦄ ⦃l6 : List D⦄ ⦃r1 : Bool⦄, F20 n z1 s2 l3 z4 s5 l6 = some r1 →
    Trip Try.prog 20 [.d (.agg [.int .u8 z1, .str s2, .list true 3 l3]), .d (.agg [.int .u8 z4, .str s5, .list true 3 l6])] [] (.v (.d (.bool r1))) [] [] := (G80 n).2
end Go.Proofs.Ytiiojajgajnhpaa

/- Printed by lift.py: functional texts of functions, and their contracts. No condition. -/
set_option linter.unusedVariables false
namespace Go.Proofs.Ytiiojajgajnhpaa
open Go Go.AM
def F81 (n : Nat) (s1 : ByteArray) (l2 : List D) (s3 : ByteArray) (l4 : List D) : Option (Bool) :=
  (if s1 = s3 then bO1 (F125 n l2 l4) fun b5 => some b5 else some false)
set_option maxRecDepth 100000 in
set_option maxHeartbeats 40000000 in
theorem T81 (n : Nat) : ∀ ⦃s1 : ByteArray⦄ ⦃l2 : List D⦄ ⦃s3 : ByteArray⦄ ⦃l4 : List D⦄ ⦃r1 : Bool⦄, F81 n s1 l2 s3 l4 = some r1 →
    Trip Try.prog 81 [.d (.agg [.str s1, .list false 1 l2]), .d (.agg [.str s3, .list false 1 l4])] [] (.v (.d (.bool r1))) [] [] := by
  intro s1 l2 s3 l4 r1 h
  unfold F81 at h
  refine Trip.of tab_ok tab_one fol Try.func81 rfl (by kernel_rfl) rfl rfl rfl (fun M hM => ?_)
  try cbv
  refine splitS (fun e => ?_) (fun e => ?_)
  · replace h := ite_t (bytes_eq.1 e) h
    clear e
    try cbv
    obtain ⟨b5, hr, h⟩ := bO1_inv h
    refine call_pure hM (T125 _ hr) rfl ?_
    clear hr
    try cbv
    obtain rfl := Option.some.inj h
    exact ⟨[], List.nodup_nil, rfl, trivial, trivial⟩
  · replace h := ite_f (bytes_ne.1 e) h
    clear e
    try cbv
    obtain rfl := Option.some.inj h
    exact ⟨[], List.nodup_nil, rfl, trivial, trivial⟩
end Go.Proofs.Ytiiojajgajnhpaa

/- Printed by lift.py: functional texts of functions, and their contracts. No condition. -/
set_option linter.unusedVariables false
namespace Go.Proofs.Ytiiojajgajnhpaa
open Go Go.AM
mutual
def L82_1 : Nat → (List D) → (List D) → Int → Int → Option (Bool)
  | 0, _, _, _, _ => none
  | n + 1, l1, l2, z5, z6 =>
    (if z6 < z5 then getF l1 z6 fun x7 => ds_t33 x7 fun z8 z9 s10 s11 s12 l13 l14 z15 => getF l2 z6 fun x16 => ds_t33 x16 fun z17 z18 s19 s20 s21 l22 l23 z24 => bO1 (F22 n z8 z9 s10 s11 s12 l13 l14 z15 z17 z18 s19 s20 s21 l22 l23 z24) fun b25 => (if b25 = true then letF (IntKind.wrap .i64 (z6 + 1)) fun z26 => L82_1 n l1 l2 z5 z26 else some false) else some true)
def F82 : Nat → (List D) → (List D) → Option (Bool)
  | 0, _, _ => none
  | n + 1, l1, l2 =>
    lenF l1 fun z3 => lenF l2 fun z4 => (if z3 = z4 then lenF l1 fun z5 => L82_1 n l1 l2 z5 (0 : Int) else some false)
def F22 : Nat → Int → Int → ByteArray → ByteArray → ByteArray → (List D) → (List D) → Int → Int → Int → ByteArray → ByteArray → ByteArray → (List D) → (List D) → Int → Option (Bool)
  | 0, _, _, _, _, _, _, _, _, _, _, _, _, _, _, _, _ => none
  | n + 1, z1, z2, s3, s4, s5, l6, l7, z8, z9, z10, s11, s12, s13, l14, l15, z16 =>
    (if z1 = z9 then (if z2 = z10 then (if s3 = s11 then (if s4 = s12 then bO1 (F81 n s5 l6 s13 l14) fun b17 => (if b17 = true then bO1 (F82 n l7 l15) fun b18 => some b18 else some false) else some false) else some false) else some false) else some false)
end
set_option maxRecDepth 100000 in
set_option maxHeartbeats 40000000 in
theorem G82 (n : Nat) : (∀ ⦃l1 : List D⦄ ⦃l2 : List D⦄ ⦃r1 : Bool⦄, F82 n l1 l2 = some r1 →
    Trip Try.prog 82 [.d (.list true 8 l1), .d (.list true 8 l2), .c (.fn 22 [])] [] (.v (.d (.bool r1))) [] []) ∧
    (∀ ⦃z1 : Int⦄ ⦃z2 : Int⦄ ⦃s3 : ByteArray⦄ ⦃s4 : ByteArray⦄ ⦃s5 : ByteArray⦄ ⦃l6 : List D⦄ ⦃l7 : List D⦄ ⦃z8 : Int⦄ ⦃z9 : Int⦄ ⦃z10 : Int⦄ ⦃s11 : ByteArray⦄ ⦃s12 : ByteArray⦄ ⦃s13 : ByteArray⦄ ⦃l14 : List D⦄ ⦃l15 : List D⦄ ⦃z16 : Int⦄ ⦃r1 : Bool⦄, F22 n z1 z2 s3 s4 s5 l6 l7 z8 z9 z10 s11 s12 s13 l14 l15 z16 = some r1 →
    Trip Try.prog 22 [.d (.agg [.int .u8 z1, .int .i64 z2, .str s3, .str s4, .str s5, .list false 1 l6, .list true 8 l7, .int .i64 z8]), .d (.agg [.int .u8 z9, .int .i64 z10, .str s11, .str s12, .str s13, .list false 1 l14, .list true 8 l15, .int .i64 z16])] [] (.v (.d (.bool r1))) [] []) := by
  induction n using Nat.strongRecOn with
  | _ n ih =>
    cases n with
    | zero =>
      refine ⟨?_, ?_⟩
      · intro l1 l2 r1 h
        cases (show (none : Option _) = some _ from h)
      · intro z1 z2 s3 s4 s5 l6 l7 z8 z9 z10 s11 s12 s13 l14 l15 z16 r1 h
        cases (show (none : Option _) = some _ from h)
    | succ n =>
      refine ⟨?_, ?_⟩
      · intro l1 l2 r1 h
        rw [F82] at h
        refine Trip.of tab_ok tab_one fol Try.func82 rfl (by kernel_rfl) rfl rfl rfl (fun M hM => ?_)
        try cbv
        obtain ⟨z3, hz, h⟩ := lenF_inv M h
        refine ⟨z3, hz, ?_⟩
        clear hz
        try cbv
        obtain ⟨z4, hz, h⟩ := lenF_inv M h
        refine ⟨z4, hz, ?_⟩
        clear hz
        try cbv
        refine splitI (fun e => ?_) (fun e => ?_)
        · replace h := ite_t e h
          clear e
          try cbv
          obtain ⟨z5, hz, h⟩ := lenF_inv M h
          refine ⟨z5, hz, ?_⟩
          clear hz
          try cbv
          refine loop_inv (T := Nat × Int) [1, 2, 6, 15, 16, 17] [] 72 (fun t => ⟨[(1, .v (.d (.list true 8 l2))), (2, .v (.c (.fn 22 []))), (6, .v (.d (.bool false))), (15, .v (.d (.list true 8 l1))), (16, .v (.d (.int .i64 z5))), (17, .v (.d (.int .i64 t.2)))], [], 72⟩)
            (fun t => t.1 ≤ n ∧ L82_1 t.1 l1 l2 z5 t.2 = some r1) (fun t => t.1) (n, (0 : Int)) ⟨Nat.le_refl _, h⟩ (by cbv) ?_
          clear h
          rintro ⟨m1, z6⟩ ⟨hm1, h⟩
          replace hm1 : m1 ≤ n := hm1
          cases m1 with
          | zero => cases (show (none : Option _) = some _ from h)
          | succ m1 =>
            replace h : L82_1 (m1 + 1) l1 l2 z5 z6 = some r1 := h
            rw [L82_1] at h
            try cbv
            refine splitL (fun e => ?_) (fun e => ?_)
            · replace h := ite_t e h
              clear e
              try cbv
              obtain ⟨x7, ⟨hx0, hx⟩, h⟩ := getF_inv h
              refine ⟨x7, hx0, hx, ?_⟩
              clear hx0 hx
              obtain ⟨z8, z9, s10, s11, s12, l13, l14, z15, rfl, h⟩ := ds_t33_inv h
              try cbv
              obtain ⟨x16, ⟨hx0, hx⟩, h⟩ := getF_inv h
              refine ⟨x16, hx0, hx, ?_⟩
              clear hx0 hx
              obtain ⟨z17, z18, s19, s20, s21, l22, l23, z24, rfl, h⟩ := ds_t33_inv h
              try cbv
              obtain ⟨b25, hr, h⟩ := bO1_inv h
              refine call_pure hM ((ih _ (by omega)).2 hr) rfl ?_
              clear hr
              try cbv
              cases b25
              · replace h := ite_f Bool.false_ne_true h
                try cbv
                obtain rfl := Option.some.inj h
                exact ⟨[], List.nodup_nil, rfl, trivial, trivial⟩
              · replace h := ite_t rfl h
                try cbv
                obtain ⟨z26, hz, h⟩ := letF_inv h
                refine ⟨z26, hz, ?_⟩
                clear hz
                try cbv
                exact loop_next (m1, z26) [1, 2, 6, 15, 16, 17] [] 72 ⟨by omega, h⟩ (Nat.lt_succ_of_le (by omega)) (by cbv)
            · replace h := ite_f (Int.not_lt.2 e) h
              clear e
              try cbv
              obtain rfl := Option.some.inj h
              exact ⟨[], List.nodup_nil, rfl, trivial, trivial⟩
        · replace h := ite_f e h
          clear e
          try cbv
          obtain rfl := Option.some.inj h
          exact ⟨[], List.nodup_nil, rfl, trivial, trivial⟩
      · intro z1 z2 s3 s4 s5 l6 l7 z8 z9 z10 s11 s12 s13 l14 l15 z16 r1 h
        rw [F22] at h
        refine Trip.of tab_ok tab_one fol Try.func22 rfl (by kernel_rfl) rfl rfl rfl (fun M hM => ?_)
        try cbv
        refine splitI (fun e => ?_) (fun e => ?_)
        · replace h := ite_t e h
          clear e
          try cbv
          refine splitI (fun e => ?_) (fun e => ?_)
          · replace h := ite_t e h
            clear e
            try cbv
            refine splitS (fun e => ?_) (fun e => ?_)
            · replace h := ite_t (bytes_eq.1 e) h
              clear e
              try cbv
              refine splitS (fun e => ?_) (fun e => ?_)
              · replace h := ite_t (bytes_eq.1 e) h
                clear e
                try cbv
                obtain ⟨b17, hr, h⟩ := bO1_inv h
                refine call_pure hM (T81 _ hr) rfl ?_
                clear hr
                try cbv
                cases b17
                · replace h := ite_f Bool.false_ne_true h
                  try cbv
                  obtain rfl := Option.some.inj h
                  exact ⟨[], List.nodup_nil, rfl, trivial, trivial⟩
                · replace h := ite_t rfl h
                  try cbv
                  obtain ⟨b18, hr, h⟩ := bO1_inv h
                  refine call_pure hM ((ih _ (by omega)).1 hr) rfl ?_
                  clear hr
                  try cbv
                  obtain rfl := Option.some.inj h
                  exact ⟨[], List.nodup_nil, rfl, trivial, trivial⟩
              · replace h := ite_f (bytes_ne.1 e) h
                clear e
                try cbv
                obtain rfl := Option.some.inj h
                exact ⟨[], List.nodup_nil, rfl, trivial, trivial⟩
            · replace h := ite_f (bytes_ne.1 e) h
              clear e
              try cbv
              obtain rfl := Option.some.inj h
              exact ⟨[], List.nodup_nil, rfl, trivial, trivial⟩
          · replace h := ite_f e h
            clear e
            try cbv
            obtain rfl := Option.some.inj h
            exact ⟨[], List.nodup_nil, rfl, trivial, trivial⟩
        · replace h := ite_f e h
          clear e
          try cbv
          obtain rfl := Option.some.inj h
          exact ⟨[], List.nodup_nil, rfl, trivial, trivial⟩
theorem T82 (n : Nat) : ∀ ⦃l1 : List D⦄ ⦃l2 : List D⦄ ⦃r1 : Bool⦄, F82 n l1 l2 = some r1 →
    Trip Try.prog 82 [.d (.list true 8 l1), .d (.list true 8 l2), .c (.fn 22 [])] [] (.v (.d (.bool r1))) [] [] := (G82 n).1
theorem T22 (n : Nat) : ∀ ⦃z1 : Int⦄ ⦃z2 : Int⦄ ⦃s3 : ByteArray⦄ ⦃s4 : ByteArray⦄ ⦃s5 : ByteArray⦄ ⦃l6 : List D⦄ ⦃l7 : List D⦄ ⦃z8 : Int⦄ ⦃z9 : Int⦄ ⦃z10 : Int⦄ ⦃s11 : ByteArray⦄ ⦃s12 : ByteArray⦄ ⦃s13 : ByteArray⦄ ⦃l14 : List D⦄ ⦃l15 : List D⦄ ⦃z16 : Int⦄ ⦃r1 : Bool⦄, F22 n z1 z2 s3 s4 s5 l6 l7 z8 z9 z10 s11 s12 s13 l14 l15 z16 = some r1 →
    Trip Try.prog 22 [.d (.agg [.int .u8 z1, .int .i64 z2, .str s3, .str s4, .str s5, .list false 1 l6, .list true 8 l7, .int .i64 z8]), .d (.agg [.int .u8 z9, .int .i64 z10, .str s11, .str s12, .str s13, .list false 1 l14, .list true 8 l15, .int .i64 z16])] [] (.v (.d (.bool r1))) [] [] := (G82 n).2
end Go.Proofs.Ytiiojajgajnhpaa

/- Printed by lift.py: functional texts of functions, and their contracts. No condition. -/
set_option linter.unusedVariables false
namespace Go.Proofs.Ytiiojajgajnhpaa
open Go Go.AM
mutual
def F144 : Nat → ByteArray → ByteArray → (List D) → ByteArray → ByteArray → (List D) → Option (Bool)
  | 0, _, _, _, _, _, _ => none
  | n + 1, s1, s2, l3, s4, s5, l6 =>
    (if s1 = s4 then (if s2 = s5 then bO1 (F75 n l3 l6) fun b7 => some b7 else some false) else some false)
def L143_1 : Nat → (List D) → (List D) → Int → Int → Option (Bool)
  | 0, _, _, _, _ => none
  | n + 1, l1, l2, z5, z6 =>
    (if z6 < z5 then getF l1 z6 fun x7 => ds_t154 x7 fun s8 s9 l10 => getF l2 z6 fun x11 => ds_t154 x11 fun s12 s13 l14 => bO1 (F144 n s8 s9 l10 s12 s13 l14) fun b15 => (if b15 = true then letF (IntKind.wrap .i64 (z6 + 1)) fun z16 => L143_1 n l1 l2 z5 z16 else some false) else some true)
def F143 : Nat → (List D) → (List D) → Option (Bool)
  | 0, _, _ => none
  | n + 1, l1, l2 =>
    lenF l1 fun z3 => lenF l2 fun z4 => (if z3 = z4 then lenF l1 fun z5 => L143_1 n l1 l2 z5 (0 : Int) else some false)
def F123 : Nat → Int → ByteArray → ByteArray → (List D) → Int → ByteArray → (List D) → Int → ByteArray → (List D) → (List D) → (List D) → (List D) → (List D) → Int → Int → ByteArray → ByteArray → (List D) → Int → ByteArray → (List D) → Int → ByteArray → (List D) → (List D) → (List D) → (List D) → (List D) → Int → Option (Bool)
  | 0, _, _, _, _, _, _, _, _, _, _, _, _, _, _, _, _, _, _, _, _, _, _, _, _, _, _, _, _, _, _ => none
  | n + 1, z1, s2, s3, l4, z5, s6, l7, z8, s9, l10, l11, l12, l13, l14, z15, z16, s17, s18, l19, z20, s21, l22, z23, s24, l25, l26, l27, l28, l29, z30 =>
    (if z1 = z16 then (if s2 = s17 then (if s3 = s18 then bO1 (F125 n l4 l19) fun b31 => (if b31 = true then bO1 (F20 n z5 s6 l7 z20 s21 l22) fun b32 => (if b32 = true then (if z8 = z23 then bO1 (F81 n s9 l10 s24 l25) fun b33 => (if b33 = true then bO1 (F82 n l11 l26) fun b34 => (if b34 = true then bO1 (F75 n l12 l27) fun b35 => (if b35 = true then bO1 (F75 n l13 l28) fun b36 => (if b36 = true then bO1 (F143 n l14 l29) fun b37 => some b37 else some false) else some false) else some false) else some false) else some false) else some false) else some false) else some false) else some false) else some false)
def L122_1 : Nat → (List D) → (List D) → Int → Int → Option (Bool)
  | 0, _, _, _, _ => none
  | n + 1, l1, l2, z5, z6 =>
    (if z6 < z5 then getF l1 z6 fun x7 => ds_t152 x7 fun z8 s9 s10 l11 z12 s13 l14 z15 s16 l17 l18 l19 l20 l21 z22 => getF l2 z6 fun x23 => ds_t152 x23 fun z24 s25 s26 l27 z28 s29 l30 z31 s32 l33 l34 l35 l36 l37 z38 => bO1 (F123 n z8 s9 s10 l11 z12 s13 l14 z15 s16 l17 l18 l19 l20 l21 z22 z24 s25 s26 l27 z28 s29 l30 z31 s32 l33 l34 l35 l36 l37 z38) fun b39 => (if b39 = true then letF (IntKind.wrap .i64 (z6 + 1)) fun z40 => L122_1 n l1 l2 z5 z40 else some false) else some true)
def F122 : Nat → (List D) → (List D) → Option (Bool)
  | 0, _, _ => none
  | n + 1, l1, l2 =>
    lenF l1 fun z3 => lenF l2 fun z4 => (if z3 = z4 then lenF l1 fun z5 => L122_1 n l1 l2 z5 (0 : Int) else some false)
def F75 : Nat → (List D) → (List D) → Option (Bool)
  | 0, _, _ => none
  | n + 1, l1, l2 =>
    bO1 (F122 n l1 l2) fun b3 => some b3
end
set_option maxRecDepth 100000 in
set_option maxHeartbeats 40000000 in
theorem G144 (n : Nat) : (∀ ⦃s1 : ByteArray⦄ ⦃s2 : ByteArray⦄ ⦃l3 : List D⦄ ⦃s4 : ByteArray⦄ ⦃s5 : ByteArray⦄ ⦃l6 : List D⦄ ⦃r1 : Bool⦄, F144 n s1 s2 l3 s4 s5 l6 = some r1 →
    Trip Try.prog 144 [.d (.agg [.str s1, .str s2, .list true 15 l3]), .d (.agg [.str s4, .str s5, .list true 15 l6])] [] (.v (.d (.bool r1))) [] []) ∧
    (∀ ⦃l1 : List D⦄ ⦃l2 : List D⦄ ⦃r1 : Bool⦄, F143 n l1 l2 = some r1 →
    Trip Try.prog 143 [.d (.list true 3 l1), .d (.list true 3 l2), .c (.fn 144 [])] [] (.v (.d (.bool r1))) [] []) ∧
    (∀ ⦃z1 : Int⦄ ⦃s2 : ByteArray⦄ ⦃s3 : ByteArray⦄ ⦃l4 : List D⦄ ⦃z5 : Int⦄ ⦃s6 : ByteArray⦄ ⦃l7 : List D⦄ ⦃z8 : Int⦄ ⦃s9 : ByteArray⦄ ⦃l10 : List D⦄ ⦃l11 : List D⦄ ⦃l12 : List D⦄ ⦃l13 : List D⦄ ⦃l14 : List D⦄ ⦃z15 : Int⦄ ⦃z16 : Int⦄ ⦃s17 : ByteArray⦄ ⦃s18 : ByteArray⦄ ⦃l19 : List D⦄ ⦃z20 : Int⦄ ⦃s21 : ByteArray⦄ ⦃l22 : List D⦄ ⦃z23 : Int⦄ ⦃s24 : ByteArray⦄ ⦃l25 : List D⦄ ⦃l26 : List D⦄ ⦃l27 : List D⦄ ⦃l28 : List D⦄ ⦃l29 : List D⦄ ⦃z30 : Int⦄ ⦃r1 : Bool⦄, F123 n z1 s2 s3 l4 z5 s6 l7 z8 s9 l10 l11 l12 l13 l14 z15 z16 s17 s18 l19 z20 s21 l22 z23 s24 l25 l26 l27 l28 l29 z30 = some r1 →
    Trip Try.prog 123 [.d (.agg [.int .u8 z1, .str s2, .str s3, .list false 1 l4, .int .u8 z5, .str s6, .list true 3 l7, .int .i64 z8, .str s9, .list false 1 l10, .list true 8 l11, .list true 15 l12, .list true 15 l13, .list true 3 l14, .int .i64 z15]), .d (.agg [.int .u8 z16, .str s17, .str s18, .list false 1 l19, .int .u8 z20, .str s21, .list true 3 l22, .int .i64 z23, .str s24, .list false 1 l25, .list true 8 l26, .list true 15 l27, .list true 15 l28, .list true 3 l29, .int .i64 z30])] [] (.v (.d (.bool r1))) [] []) ∧
    (∀ ⦃l1 : List D⦄ ⦃l2 : List D⦄ ⦃r1 : Bool⦄, F122 n l1 l2 = some r1 →
    Trip Try.prog 122 [.d (.list true 15 l1), .d (.list true 15 l2), .c (.fn 123 [])] [] (.v (.d (.bool r1))) [] []) ∧
    (∀ ⦃l1 : List D⦄ ⦃l2 : List D⦄ ⦃r1 : Bool⦄, F75 n l1 l2 = some r1 →
    Trip Try.prog 75 [.d (.list true 15 l1), .d (.list true 15 l2)] [] (.v (.d (.bool r1))) [] []) := by
  induction n using Nat.strongRecOn with
  | _ n ih =>
    cases n with
    | zero =>
      refine ⟨?_, ?_, ?_, ?_, ?_⟩
      · intro s1 s2 l3 s4 s5 l6 r1 h
        cases (show (none : Option _) = some _ from h)
      · intro l1 l2 r1 h
        cases (show (none : Option _) = some _ from h)
      · intro z1 s2 s3 l4 z5 s6 l7 z8 s9 l10 l11 l12 l13 l14 z15 z16 s17 s18 l19 z20 s21 l22 z23 s24 l25 l26 l27 l28 l29 z30 r1 h
        cases (show (none : Option _) = some _ from h)
      · intro l1 l2 r1 h
        cases (show (none : Option _) = some _ from h)
      · intro l1 l2 r1 h
        cases (show (none : Option _) = some _ from h)
    | succ n =>
      refine ⟨?_, ?_, ?_, ?_, ?_⟩
      · intro s1 s2 l3 s4 s5 l6 r1 h
        rw [F144] at h
        refine Trip.of tab_ok tab_one fol Try.func144 rfl (by kernel_rfl) rfl rfl rfl (fun M hM => ?_)
        try cbv
        refine splitS (fun e => ?_) (fun e => ?_)
        · replace h := ite_t (bytes_eq.1 e) h
          clear e
          try cbv
          refine splitS (fun e => ?_) (fun e => ?_)
          · replace h := ite_t (bytes_eq.1 e) h
            clear e
            try cbv
            obtain ⟨b7, hr, h⟩ := bO1_inv h
            refine call_pure hM ((ih _ (by omega)).2.2.2.2 hr) rfl ?_
            clear hr
            try cbv
            obtain rfl := Option.some.inj h
            exact ⟨[], List.nodup_nil, rfl, trivial, trivial⟩
          · replace h := ite_f (bytes_ne.1 e) h
            clear e
            try cbv
            obtain rfl := Option.some.inj h
            exact ⟨[], List.nodup_nil, rfl, trivial, trivial⟩
        · replace h := ite_f (bytes_ne.1 e) h
          clear e
          try cbv
          obtain rfl := Option.some.inj h
          exact ⟨[], List.nodup_nil, rfl, trivial, trivial⟩
      · intro l1 l2 r1 h
        rw [F143] at h
        refine Trip.of tab_ok tab_one fol Try.func143 rfl (by kernel_rfl) rfl rfl rfl (fun M hM => ?_)
        try cbv
        obtain ⟨z3, hz, h⟩ := lenF_inv M h
        refine ⟨z3, hz, ?_⟩
        clear hz
        try cbv
        obtain ⟨z4, hz, h⟩ := lenF_inv M h
        refine ⟨z4, hz, ?_⟩
        clear hz
        try cbv
        refine splitI (fun e => ?_) (fun e => ?_)
        · replace h := ite_t e h
          clear e
          try cbv
          obtain ⟨z5, hz, h⟩ := lenF_inv M h
          refine ⟨z5, hz, ?_⟩
          clear hz
          try cbv
          refine loop_inv (T := Nat × Int) [1, 2, 6, 15, 16, 17] [] 72 (fun t => ⟨[(1, .v (.d (.list true 3 l2))), (2, .v (.c (.fn 144 []))), (6, .v (.d (.bool false))), (15, .v (.d (.list true 3 l1))), (16, .v (.d (.int .i64 z5))), (17, .v (.d (.int .i64 t.2)))], [], 72⟩)
            (fun t => t.1 ≤ n ∧ L143_1 t.1 l1 l2 z5 t.2 = some r1) (fun t => t.1) (n, (0 : Int)) ⟨Nat.le_refl _, h⟩ (by cbv) ?_
          clear h
          rintro ⟨m1, z6⟩ ⟨hm1, h⟩
          replace hm1 : m1 ≤ n := hm1
          cases m1 with
          | zero => cases (show (none : Option _) = some _ from h)
          | succ m1 =>
            replace h : L143_1 (m1 + 1) l1 l2 z5 z6 = some r1 := h
            rw [L143_1] at h
            try cbv
            refine splitL (fun e => ?_) (fun e => ?_)
            · replace h := ite_t e h
              clear e
              try cbv
              obtain ⟨x7, ⟨hx0, hx⟩, h⟩ := getF_inv h
              refine ⟨x7, hx0, hx, ?_⟩
              clear hx0 hx
              obtain ⟨s8, s9, l10, rfl, h⟩ := ds_t154_inv h
              try cbv
              obtain ⟨x11, ⟨hx0, hx⟩, h⟩ := getF_inv h
              refine ⟨x11, hx0, hx, ?_⟩
              clear hx0 hx
              obtain ⟨s12, s13, l14, rfl, h⟩ := ds_t154_inv h
              try cbv
              obtain ⟨b15, hr, h⟩ := bO1_inv h
              refine call_pure hM ((ih _ (by omega)).1 hr) rfl ?_
              clear hr
              try cbv
              cases b15
              · replace h := ite_f Bool.false_ne_true h
                try cbv
                obtain rfl := Option.some.inj h
                exact ⟨[], List.nodup_nil, rfl, trivial, trivial⟩
              · replace h := ite_t rfl h
                try cbv
                obtain ⟨z16, hz, h⟩ := letF_inv h
                refine ⟨z16, hz, ?_⟩
                clear hz
                try cbv
                exact loop_next (m1, z16) [1, 2, 6, 15, 16, 17] [] 72 ⟨by omega, h⟩ (Nat.lt_succ_of_le (by omega)) (by cbv)
            · replace h := ite_f (Int.not_lt.2 e) h
              clear e
              try cbv
              obtain rfl := Option.some.inj h
              exact ⟨[], List.nodup_nil, rfl, trivial, trivial⟩
        · replace h := ite_f e h
          clear e
          try cbv
          obtain rfl := Option.some.inj h
          exact ⟨[], List.nodup_nil, rfl, trivial, trivial⟩
      · intro z1 s2 s3 l4 z5 s6 l7 z8 s9 l10 l11 l12 l13 l14 z15 z16 s17 s18 l19 z20 s21 l22 z23 s24 l25 l26 l27 l28 l29 z30 r1 h
        rw [F123] at h
        refine Trip.of tab_ok tab_one fol Try.func123 rfl (by kernel_rfl) rfl rfl rfl (fun M hM => ?_)
        try cbv
        refine splitI (fun e => ?_) (fun e => ?_)
        · replace h := ite_t e h
          clear e
          try cbv
          refine splitS (fun e => ?_) (fun e => ?_)
          · replace h := ite_t (bytes_eq.1 e) h
            clear e
            try cbv
            refine splitS (fun e => ?_) (fun e => ?_)
            · replace h := ite_t (bytes_eq.1 e) h
              clear e
              try cbv
              obtain ⟨b31, hr, h⟩ := bO1_inv h
              refine call_pure hM (T125 _ hr) rfl ?_
              clear hr
              try cbv
              cases b31
              · replace h := ite_f Bool.false_ne_true h
                try cbv
                obtain rfl := Option.some.inj h
                exact ⟨[], List.nodup_nil, rfl, trivial, trivial⟩
              · replace h := ite_t rfl h
                try cbv
                obtain ⟨b32, hr, h⟩ := bO1_inv h
                refine call_pure hM (T20 _ hr) rfl ?_
                clear hr
                try cbv
                cases b32
                · replace h := ite_f Bool.false_ne_true h
                  try cbv
                  obtain rfl := Option.some.inj h
                  exact ⟨[], List.nodup_nil, rfl, trivial, trivial⟩
                · replace h := ite_t rfl h
                  try cbv
                  refine splitI (fun e => ?_) (fun e => ?_)
                  · replace h := ite_t e h
                    clear e
                    try cbv
                    obtain ⟨b33, hr, h⟩ := bO1_inv h
                    refine call_pure hM (T81 _ hr) rfl ?_
                    clear hr
                    try cbv
                    cases b33
                    · replace h := ite_f Bool.false_ne_true h
                      try cbv
                      obtain rfl := Option.some.inj h
                      exact ⟨[], List.nodup_nil, rfl, trivial, trivial⟩
                    · replace h := ite_t rfl h
                      try cbv
                      obtain ⟨b34, hr, h⟩ := bO1_inv h
                      refine call_pure hM (T82 _ hr) rfl ?_
                      clear hr
                      try cbv
                      cases b34
                      · replace h := ite_f Bool.false_ne_true h
                        try cbv
                        obtain rfl := Option.some.inj h
                        exact ⟨[], List.nodup_nil, rfl, trivial, trivial⟩
                      · replace h := ite_t rfl h
                        try cbv
                        obtain ⟨b35, hr, h⟩ := bO1_inv h
                        refine call_pure hM ((ih _ (by omega)).2.2.2.2 hr) rfl ?_
                        clear hr
                        try cbv
                        cases b35
                        · replace h := ite_f Bool.false_ne_true h
                          try cbv
                          obtain rfl := Option.some.inj h
                          exact ⟨[], List.nodup_nil, rfl, trivial, trivial⟩
                        · replace h := ite_t rfl h
                          try cbv
                          obtain ⟨b36, hr, h⟩ := bO1_inv h
                          refine call_pure hM ((ih _ (by omega)).2.2.2.2 hr) rfl ?_
                          clear hr
                          try cbv
                          cases b36
                          · replace h := ite_f Bool.false_ne_true h
                            try cbv
                            obtain rfl := Option.some.inj h
                            exact ⟨[], List.nodup_nil, rfl, trivial, trivial⟩
                          · replace h := ite_t rfl h
                            try cbv
                            obtain ⟨b37, hr, h⟩ := bO1_inv h
                            refine call_pure hM ((ih _ (by omega)).2.1 hr) rfl ?_
                            clear hr
                            try cbv
                            obtain rfl := Option.some.inj h
                            exact ⟨[], List.nodup_nil, rfl, trivial, trivial⟩
                  · replace h := ite_f e h
                    clear e
                    try cbv
                    obtain rfl := Option.some.inj h
                    exact ⟨[], List.nodup_nil, rfl, trivial, trivial⟩
            · replace h := ite_f (bytes_ne.1 e) h
              clear e
              try cbv
              obtain rfl := Option.some.inj h
              exact ⟨[], List.nodup_nil, rfl, trivial, trivial⟩
          · replace h := ite_f (bytes_ne.1 e) h
            clear e
            try cbv
            obtain rfl := Option.some.inj h
            exact ⟨[], List.nodup_nil, rfl, trivial, trivial⟩
        · replace h := ite_f e h
          clear e
          try cbv
          obtain rfl := Option.some.inj h
          exact ⟨[], List.nodup_nil, rfl, trivial, trivial⟩
      · intro l1 l2 r1 h
        rw [F122] at h
        refine Trip.of tab_ok tab_one fol Try.func122 rfl (by kernel_rfl) rfl rfl rfl (fun M hM => ?_)
        try cbv
        obtain ⟨z3, hz, h⟩ := lenF_inv M h
        refine ⟨z3, hz, ?_⟩
        clear hz
        try cbv
        obtain ⟨z4, hz, h⟩ := lenF_inv M h
        refine ⟨z4, hz, ?_⟩
        clear hz
        try cbv
        refine splitI (fun e => ?_) (fun e => ?_)
        · replace h := ite_t e h
          clear e
          try cbv
          obtain ⟨z5, hz, h⟩ := lenF_inv M h
          refine ⟨z5, hz, ?_⟩
          clear hz
          try cbv
          refine loop_inv (T := Nat × Int) [1, 2, 6, 15, 16, 17] [] 72 (fun t => ⟨[(1, .v (.d (.list true 15 l2))), (2, .v (.c (.fn 123 []))), (6, .v (.d (.bool false))), (15, .v (.d (.list true 15 l1))), (16, .v (.d (.int .i64 z5))), (17, .v (.d (.int .i64 t.2)))], [], 72⟩)
            (fun t => t.1 ≤ n ∧ L122_1 t.1 l1 l2 z5 t.2 = some r1) (fun t => t.1) (n, (0 : Int)) ⟨Nat.le_refl _, h⟩ (by cbv) ?_
          clear h
          rintro ⟨m1, z6⟩ ⟨hm1, h⟩
          replace hm1 : m1 ≤ n := hm1
          cases m1 with
          | zero => cases (show (none : Option _) = some _ from h)
          | succ m1 =>
            replace h : L122_1 (m1 + 1) l1 l2 z5 z6 = some r1 := h
            rw [L122_1] at h
            try cbv
            refine splitL (fun e => ?_) (fun e => ?_)
            · replace h := ite_t e h
              clear e
              try cbv
              obtain ⟨x7, ⟨hx0, hx⟩, h⟩ := getF_inv h
              refine ⟨x7, hx0, hx, ?_⟩
              clear hx0 hx
              obtain ⟨z8, s9, s10, l11, z12, s13, l14, z15, s16, l17, l18, l19, l20, l21, z22, rfl, h⟩ := ds_t152_inv h
              try cbv
              obtain ⟨x23, ⟨hx0, hx⟩, h⟩ := getF_inv h
              refine ⟨x23, hx0, hx, ?_⟩
              clear hx0 hx
              obtain ⟨z24, s25, s26, l27, z28, s29, l30, z31, s32, l33, l34, l35, l36, l37, z38, rfl, h⟩ := ds_t152_inv h
              try cbv
              obtain ⟨b39, hr, h⟩ := bO1_inv h
              refine call_pure hM ((ih _ (by omega)).2.2.1 hr) rfl ?_
              clear hr
              try cbv
              cases b39
              · replace h := ite_f Bool.false_ne_true h
                try cbv
                obtain rfl := Option.some.inj h
                exact ⟨[], List.nodup_nil, rfl, trivial, trivial⟩
              · replace h := ite_t rfl h
                try cbv
                obtain ⟨z40, hz, h⟩ := letF_inv h
                refine ⟨z40, hz, ?_⟩
                clear hz
                try cbv
                exact loop_next (m1, z40) [1, 2, 6, 15, 16, 17] [] 72 ⟨by omega, h⟩ (Nat.lt_succ_of_le (by omega)) (by cbv)
            · replace h := ite_f (Int.not_lt.2 e) h
              clear e
              try cbv
              obtain rfl := Option.some.inj h
              exact ⟨[], List.nodup_nil, rfl, trivial, trivial⟩
        · replace h := ite_f e h
          clear e
          try cbv
          obtain rfl := Option.some.inj h
          exact ⟨[], List.nodup_nil, rfl, trivial, trivial⟩
      · intro l1 l2 r1 h
        rw [F75] at h
        refine Trip.of tab_ok tab_one fol Try.func75 rfl (by kernel_rfl) rfl rfl rfl (fun M hM => ?_)
        try cbv
        obtain ⟨b3, hr, h⟩ := bO1_inv h
        refine call_pure hM ((ih _ (by omega)).2.2.2.1 hr) rfl ?_
        clear hr
        try cbv
        obtain rfl := Option.some.inj h
        exact ⟨[], List.nodup_nil, rfl, trivial, trivial⟩
theorem T144 (n : Nat) : ∀ ⦃s1 : ByteArray⦄ ⦃s2 : ByteArray⦄ ⦃l3 : List D⦄ ⦃s4 : ByteArray⦄ ⦃s5 : ByteArray⦄ ⦃l6 : List D⦄ ⦃r1 : Bool⦄, F144 n s1 s2 l3 s4 s5 l6 = some r1 →
    Trip Try.prog 144 [.d (.agg [.str s1, .str s2, .list true 15 l3]), .d (.agg [.str s4, .str s5, .list true 15 l6])] [] (.v (.d (.bool r1))) [] [] := (G144 n).1
theorem T143 (n : Nat) : ∀ ⦃l1 : List D⦄ ⦃l2 : List D⦄ ⦃r1 : Bool⦄, F143 n l1 l2 = some r1 →
    Trip Try.prog 143 [.d (.list true 3 l1), .d (.list true 3 l2), .c (.fn 144 [])] [] (.v (.d (.bool r1))) [] [] := (G144 n).2.1
theorem T123 (n : Nat) : ∀ ⦃z1 : Int⦄ ⦃s2 : ByteArray⦄ ⦃s3 : ByteArray⦄ ⦃l4 : List D⦄ ⦃z5 : Int⦄ ⦃s6 : ByteArray⦄ ⦃l7 : List D⦄ ⦃z8 : Int⦄ ⦃s9 : ByteArray⦄ ⦃l10 : List D⦄ ⦃l11 : List D⦄ ⦃l12 : List D⦄ ⦃l13 : List D⦄ ⦃l14 : List D⦄ ⦃z15 : Int⦄ ⦃z16 : Int⦄ ⦃s17 : ByteArray⦄ ⦃s18 : ByteArray⦄ ⦃l19 : List D⦄ ⦃z20 : Int⦄ ⦃s21 : ByteArray⦄ ⦃l22 : List D⦄ ⦃z23 : Int⦄ ⦃s24 : ByteArray⦄ ⦃l25 : List D⦄ ⦃l26 : List D⦄ ⦃l27 : List D⦄ ⦃l28 : List D⦄ ⦃l29 : List D⦄ ⦃z30 : Int⦄ ⦃r1 : Bool⦄, F123 n z1 s2 s3 l4 z5 s6 l7 z8 s9 l10 l11 l12 l13 l14 z15 z16 s17 s18 l19 z20 s21 l22 z23 s24 l25 l26 l27 l28 l29 z30 = some r1 →
    Trip Try.prog 123 [.d (.agg [.int .u8 z1, .str s2, .str s3, .list false 1 l4, .int .u8 z5, .str s6, .list true 3 l7, .int .i64 z8, .str s9, .list false 1 l10, .list true 8 l11, .list true 15 l12, .list true 15 l13, .list true 3 l14, .int .i64 z15]), .d (.agg [.int .u8 z16, .str s17, .str s18, .list false 1 l19, .int .u8 z20, .str s21, .list true 3 l22, .int .i64 z23, .str s24, .list false 1 l25, .list true 8 l26, .list true 15 l27, .list true 15 l28, .list true 3 l29, .int .i64 z30])] [] (.v (.d (.bool r1))) [] [] := (G144 n).2.2.1
theorem T122 (n : Nat) : ∀ ⦃l1 : List D⦄ ⦃l2 : List D⦄ ⦃r1 : Bool⦄, F122 n l1 l2 = some r1 →
    Trip Try.prog 122 [.d (.list true 15 l1), .d (.list true 15 l2), .c (.fn 123 [])] [] (.v (.d (.bool r1))) [] [] := (G144 n).2.2.2.1
theorem T75 (n : Nat) : ∀ ⦃l1 : List D⦄ ⦃l2 : List D⦄ ⦃r1 : Bool⦄, F75 n l1 l2 = some r1 →
    Trip Try.prog 75 [.d (.list true 15 l1), .d (.list true 15 l2)] [] (.v (.d (.bool r1))) [] [] := (G144 n).2.2.2.2
end Go.Proofs.Ytiiojajgajnhpaa

/- Printed by lift.py: functional texts of functions, and their contracts. No condition. -/
set_option linter.unusedVariables false
namespace Go.Proofs.Ytiiojajgajnhpaa
open Go Go.AM
def F77 (n : Nat) (s1 : ByteArray) (z2 : Int) (s3 : ByteArray) (l4 : List D) (s5 : ByteArray) (z6 : Int) (s7 : ByteArray) (l8 : List D) : Option (Bool) :=
  (if s1 = s5 then bO1 (F20 n z2 s3 l4 z6 s7 l8) fun b9 => some b9 else some false)
set_option maxRecDepth 100000 in
set_option maxHeartbeats 40000000 in
theorem T77 (n : Nat) : ∀ ⦃s1 : ByteArray⦄ ⦃z2 : Int⦄ ⦃s3 : ByteArray⦄ ⦃l4 : List D⦄ ⦃s5 : ByteArray⦄ ⦃z6 : Int⦄ ⦃s7 : ByteArray⦄ ⦃l8 : List D⦄ ⦃r1 : Bool⦄, F77 n s1 z2 s3 l4 s5 z6 s7 l8 = some r1 →
    Trip Try.prog 77 [.d (.agg [.str s1, .int .u8 z2, .str s3, .list true 3 l4]), .d (.agg [.str s5, .int .u8 z6, .str s7, .list true 3 l8])] [] (.v (.d (.bool r1))) [] [] := by
  intro s1 z2 s3 l4 s5 z6 s7 l8 r1 h
  unfold F77 at h
  refine Trip.of tab_ok tab_one fol Try.func77 rfl (by kernel_rfl) rfl rfl rfl (fun M hM => ?_)
  try cbv
  refine splitS (fun e => ?_) (fun e => ?_)
  · replace h := ite_t (bytes_eq.1 e) h
    clear e
    try cbv
    obtain ⟨b9, hr, h⟩ := bO1_inv h
    refine call_pure hM (T20 _ hr) rfl ?_
    clear hr
    try cbv
    obtain rfl := Option.some.inj h
    exact ⟨[], List.nodup_nil, rfl, trivial, trivial⟩
  · replace h := ite_f (bytes_ne.1 e) h
    clear e
    try cbv
    obtain rfl := Option.some.inj h
    exact ⟨[], List.nodup_nil, rfl, trivial, trivial⟩
end Go.Proofs.Ytiiojajgajnhpaa

/- Printed by lift.py: functional texts of functions, and their contracts. No condition. -/
set_option linter.unusedVariables false
namespace Go.Proofs.Ytiiojajgajnhpaa
open Go Go.AM
def L76_1 : Nat → (List D) → (List D) → Int → Int → Option (Bool)
  | 0, _, _, _, _ => none
  | n + 1, l1, l2, z5, z6 =>
    (if z6 < z5 then getF l1 z6 fun x7 => ds_t136 x7 fun s8 z9 s10 l11 => getF l2 z6 fun x12 => ds_t136 x12 fun s13 z14 s15 l16 => bO1 (F77 n s8 z9 s10 l11 s13 z14 s15 l16) fun b17 => (if b17 = true then letF (IntKind.wrap .i64 (z6 + 1)) fun z18 => L76_1 n l1 l2 z5 z18 else some false) else some true)
def F76 (n : Nat) (l1 : List D) (l2 : List D) : Option (Bool) :=
  lenF l1 fun z3 => lenF l2 fun z4 => (if z3 = z4 then lenF l1 fun z5 => L76_1 n l1 l2 z5 (0 : Int) else some false)
set_option maxRecDepth 100000 in
set_option maxHeartbeats 40000000 in
theorem T76 (n : Nat) : ∀ ⦃l1 : List D⦄ ⦃l2 : List D⦄ ⦃r1 : Bool⦄, F76 n l1 l2 = some r1 →
    Trip Try.prog 76 [.d (.list true 4 l1), .d (.list true 4 l2), .c (.fn 77 [])] [] (.v (.d (.bool r1))) [] [] := by
  intro l1 l2 r1 h
  unfold F76 at h
  refine Trip.of tab_ok tab_one fol Try.func76 rfl (by kernel_rfl) rfl rfl rfl (fun M hM => ?_)
  try cbv
  obtain ⟨z3, hz, h⟩ := lenF_inv M h
  refine ⟨z3, hz, ?_⟩
  clear hz
  try cbv
  obtain ⟨z4, hz, h⟩ := lenF_inv M h
  refine ⟨z4, hz, ?_⟩
  clear hz
  try cbv
  refine splitI (fun e => ?_) (fun e => ?_)
  · replace h := ite_t e h
    clear e
    try cbv
    obtain ⟨z5, hz, h⟩ := lenF_inv M h
    refine ⟨z5, hz, ?_⟩
    clear hz
    try cbv
    refine loop_inv (T := Nat × Int) [1, 2, 6, 15, 16, 17] [] 72 (fun t => ⟨[(1, .v (.d (.list true 4 l2))), (2, .v (.c (.fn 77 []))), (6, .v (.d (.bool false))), (15, .v (.d (.list true 4 l1))), (16, .v (.d (.int .i64 z5))), (17, .v (.d (.int .i64 t.2)))], [], 72⟩)
      (fun t => t.1 ≤ n ∧ L76_1 t.1 l1 l2 z5 t.2 = some r1) (fun t => t.1) (n, (0 : Int)) ⟨Nat.le_refl _, h⟩ (by cbv) ?_
    clear h
    rintro ⟨m1, z6⟩ ⟨hm1, h⟩
    replace hm1 : m1 ≤ n := hm1
    cases m1 with
    | zero => cases (show (none : Option _) = some _ from h)
    | succ m1 =>
      replace h : L76_1 (m1 + 1) l1 l2 z5 z6 = some r1 := h
      rw [L76_1] at h
      try cbv
      refine splitL (fun e => ?_) (fun e => ?_)
      · replace h := ite_t e h
        clear e
        try cbv
        obtain ⟨x7, ⟨hx0, hx⟩, h⟩ := getF_inv h
        refine ⟨x7, hx0, hx, ?_⟩
        clear hx0 hx
        obtain ⟨s8, z9, s10, l11, rfl, h⟩ := ds_t136_inv h
        try cbv
        obtain ⟨x12, ⟨hx0, hx⟩, h⟩ := getF_inv h
        refine ⟨x12, hx0, hx, ?_⟩
        clear hx0 hx
        obtain ⟨s13, z14, s15, l16, rfl, h⟩ := ds_t136_inv h
        try cbv
        obtain ⟨b17, hr, h⟩ := bO1_inv h
        refine call_pure hM (T77 _ hr) rfl ?_
        clear hr
        try cbv
        cases b17
        · replace h := ite_f Bool.false_ne_true h
          try cbv
          obtain rfl := Option.some.inj h
          exact ⟨[], List.nodup_nil, rfl, trivial, trivial⟩
        · replace h := ite_t rfl h
          try cbv
          obtain ⟨z18, hz, h⟩ := letF_inv h
          refine ⟨z18, hz, ?_⟩
          clear hz
          try cbv
          exact loop_next (m1, z18) [1, 2, 6, 15, 16, 17] [] 72 ⟨by omega, h⟩ (Nat.lt_succ_of_le (by omega)) (by cbv)
      · replace h := ite_f (Int.not_lt.2 e) h
        clear e
        try cbv
        obtain rfl := Option.some.inj h
        exact ⟨[], List.nodup_nil, rfl, trivial, trivial⟩
  · replace h := ite_f e h
    clear e
    try cbv
    obtain rfl := Option.some.inj h
    exact ⟨[], List.nodup_nil, rfl, trivial, trivial⟩
end Go.Proofs.Ytiiojajgajnhpaa

/- Printed by lift.py: functional texts of functions, and their contracts. No condition. -/
set_option linter.unusedVariables false
namespace Go.Proofs.Ytiiojajgajnhpaa
open Go Go.AM
def F74 (n : Nat) (z1 : Int) (s2 : ByteArray) (l3 : List D) (z4 : Int) (s5 : ByteArray) (l6 : List D) (l7 : List D) (z8 : Int) (z9 : Int) (s10 : ByteArray) (s11 : ByteArray) (s12 : ByteArray) (l13 : List D) (l14 : List D) (z15 : Int) (z16 : Int) (z17 : Int) (s18 : ByteArray) (l19 : List D) (z20 : Int) (s21 : ByteArray) (l22 : List D) (l23 : List D) (z24 : Int) (z25 : Int) (s26 : ByteArray) (s27 : ByteArray) (s28 : ByteArray) (l29 : List D) (l30 : List D) (z31 : Int) (z32 : Int) : Option (Bool) :=
  (if z1 = z17 then (if s2 = s18 then bO1 (F20 n z4 s5 l6 z20 s21 l22) fun b33 => (if b33 = true then bO1 (F22 n z8 z9 s10 s11 s12 l13 l14 z15 z24 z25 s26 s27 s28 l29 l30 z31) fun b34 => (if b34 = true then bO1 (F75 n l7 l23) fun b35 => (if b35 = true then bO1 (F76 n l3 l19) fun b36 => some b36 else some false) else some false) else some false) else some false) else some false)
set_option maxRecDepth 100000 in
set_option maxHeartbeats 40000000 in
theorem T74 (n : Nat) : ∀ ⦃z1 : Int⦄ ⦃s2 : ByteArray⦄ ⦃l3 : List D⦄ ⦃z4 : Int⦄ ⦃s5 : ByteArray⦄ ⦃l6 : List D⦄ ⦃l7 : List D⦄ ⦃z8 : Int⦄ ⦃z9 : Int⦄ ⦃s10 : ByteArray⦄ ⦃s11 : ByteArray⦄ ⦃s12 : ByteArray⦄ ⦃l13 : List D⦄ ⦃l14 : List D⦄ ⦃z15 : Int⦄ ⦃z16 : Int⦄ ⦃z17 : Int⦄ ⦃s18 : ByteArray⦄ ⦃l19 : List D⦄ ⦃z20 : Int⦄ ⦃s21 : ByteArray⦄ ⦃l22 : List D⦄ ⦃l23 : List D⦄ ⦃z24 : Int⦄ ⦃z25 : Int⦄ ⦃s26 : ByteArray⦄ ⦃s27 : ByteArray⦄ ⦃s28 : ByteArray⦄ ⦃l29 : List D⦄ ⦃l30 : List D⦄ ⦃z31 : Int⦄ ⦃z32 : Int⦄ ⦃r1 : Bool⦄, F74 n z1 s2 l3 z4 s5 l6 l7 z8 z9 s10 s11 s12 l13 l14 z15 z16 z17 s18 l19 z20 s21 l22 l23 z24 z25 s26 s27 s28 l29 l30 z31 z32 = some r1 →
    Trip Try.prog 74 [.d (.agg [.int .u8 z1, .str s2, .list true 4 l3, .int .u8 z4, .str s5, .list true 3 l6, .list true 15 l7, .int .u8 z8, .int .i64 z9, .str s10, .str s11, .str s12, .list false 1 l13, .list true 8 l14, .int .i64 z15, .int .i64 z16]), .d (.agg [.int .u8 z17, .str s18, .list true 4 l19, .int .u8 z20, .str s21, .list true 3 l22, .list true 15 l23, .int .u8 z24, .int .i64 z25, .str s26, .str s27, .str s28, .list false 1 l29, .list true 8 l30, .int .i64 z31, .int .i64 z32])] [] (.v (.d (.bool r1))) [] [] := by
  intro z1 s2 l3 z4 s5 l6 l7 z8 z9 s10 s11 s12 l13 l14 z15 z16 z17 s18 l19 z20 s21 l22 l23 z24 z25 s26 s27 s28 l29 l30 z31 z32 r1 h
  unfold F74 at h
  refine Trip.of tab_ok tab_one fol Try.func74 rfl (by kernel_rfl) rfl rfl rfl (fun M hM => ?_)
  try cbv
  refine splitI (fun e => ?_) (fun e => ?_)
  · replace h := ite_t e h
    clear e
    try cbv
    refine splitS (fun e => ?_) (fun e => ?_)
    · replace h := ite_t (bytes_eq.1 e) h
      clear e
      try cbv
      obtain ⟨b33, hr, h⟩ := bO1_inv h
      refine call_pure hM (T20 _ hr) rfl ?_
      clear hr
      try cbv
      cases b33
      · replace h := ite_f Bool.false_ne_true h
        try cbv
        obtain rfl := Option.some.inj h
        exact ⟨[], List.nodup_nil, rfl, trivial, trivial⟩
      · replace h := ite_t rfl h
        try cbv
        obtain ⟨b34, hr, h⟩ := bO1_inv h
        refine call_pure hM (T22 _ hr) rfl ?_
        clear hr
        try cbv
        cases b34
        · replace h := ite_f Bool.false_ne_true h
          try cbv
          obtain rfl := Option.some.inj h
          exact ⟨[], List.nodup_nil, rfl, trivial, trivial⟩
        · replace h := ite_t rfl h
          try cbv
          obtain ⟨b35, hr, h⟩ := bO1_inv h
          refine call_pure hM (T75 _ hr) rfl ?_
          clear hr
          try cbv
          cases b35
          · replace h := ite_f Bool.false_ne_true h
            try cbv
            obtain rfl := Option.some.inj h
            exact ⟨[], List.nodup_nil, rfl, trivial, trivial⟩
          · replace h := ite_t rfl h
            try cbv
            obtain ⟨b36, hr, h⟩ := bO1_inv h
            refine call_pure hM (T76 _ hr) rfl ?_
            clear hr
            try cbv
            obtain rfl := Option.some.inj h
            exact ⟨[], List.nodup_nil, rfl, trivial, trivial⟩
    · replace h := ite_f (bytes_ne.1 e) h
      clear e
      try cbv
      obtain rfl := Option.some.inj h
      exact ⟨[], List.nodup_nil, rfl, trivial, trivial⟩
  · replace h := ite_f e h
    clear e
    try cbv
    obtain rfl := Option.some.inj h
    exact ⟨[], List.nodup_nil, rfl, trivial, trivial⟩
end Go.Proofs.Ytiiojajgajnhpaa

/- Printed by lift.py: functional texts of functions, and their contracts. No condition. -/
set_option linter.unusedVariables false
namespace Go.Proofs.Ytiiojajgajnhpaa
open Go Go.AM
def L73_1 : Nat → (List D) → (List D) → Int → Int → Option (Bool)
  | 0, _, _, _, _ => none
  | n + 1, l1, l2, z5, z6 =>
    (if z6 < z5 then getF l1 z6 fun x7 => ds_t126 x7 fun z8 s9 l10 z11 s12 l13 l14 z15 z16 s17 s18 s19 l20 l21 z22 z23 => getF l2 z6 fun x24 => ds_t126 x24 fun z25 s26 l27 z28 s29 l30 l31 z32 z33 s34 s35 s36 l37 l38 z39 z40 => bO1 (F74 n z8 s9 l10 z11 s12 l13 l14 z15 z16 s17 s18 s19 l20 l21 z22 z23 z25 s26 l27 z28 s29 l30 l31 z32 z33 s34 s35 s36 l37 l38 z39 z40) fun b41 => (if b41 = true then letF (IntKind.wrap .i64 (z6 + 1)) fun z42 => L73_1 n l1 l2 z5 z42 else some false) else some true)
def F73 (n : Nat) (l1 : List D) (l2 : List D) : Option (Bool) :=
  lenF l1 fun z3 => lenF l2 fun z4 => (if z3 = z4 then lenF l1 fun z5 => L73_1 n l1 l2 z5 (0 : Int) else some false)
set_option maxRecDepth 100000 in
set_option maxHeartbeats 40000000 in
theorem T73 (n : Nat) : ∀ ⦃l1 : List D⦄ ⦃l2 : List D⦄ ⦃r1 : Bool⦄, F73 n l1 l2 = some r1 →
    Trip Try.prog 73 [.d (.list true 16 l1), .d (.list true 16 l2), .c (.fn 74 [])] [] (.v (.d (.bool r1))) [] [] := by
  intro l1 l2 r1 h
  unfold F73 at h
  refine Trip.of tab_ok tab_one fol Try.func73 rfl (by kernel_rfl) rfl rfl rfl (fun M hM => ?_)
  try cbv
  obtain ⟨z3, hz, h⟩ := lenF_inv M h
  refine ⟨z3, hz, ?_⟩
  clear hz
  try cbv
  obtain ⟨z4, hz, h⟩ := lenF_inv M h
  refine ⟨z4, hz, ?_⟩
  clear hz
  try cbv
  refine splitI (fun e => ?_) (fun e => ?_)
  · replace h := ite_t e h
    clear e
    try cbv
    obtain ⟨z5, hz, h⟩ := lenF_inv M h
    refine ⟨z5, hz, ?_⟩
    clear hz
    try cbv
    refine loop_inv (T := Nat × Int) [1, 2, 6, 15, 16, 17] [] 72 (fun t => ⟨[(1, .v (.d (.list true 16 l2))), (2, .v (.c (.fn 74 []))), (6, .v (.d (.bool false))), (15, .v (.d (.list true 16 l1))), (16, .v (.d (.int .i64 z5))), (17, .v (.d (.int .i64 t.2)))], [], 72⟩)
      (fun t => t.1 ≤ n ∧ L73_1 t.1 l1 l2 z5 t.2 = some r1) (fun t => t.1) (n, (0 : Int)) ⟨Nat.le_refl _, h⟩ (by cbv) ?_
    clear h
    rintro ⟨m1, z6⟩ ⟨hm1, h⟩
    replace hm1 : m1 ≤ n := hm1
    cases m1 with
    | zero => cases (show (none : Option _) = some _ from h)
    | succ m1 =>
      replace h : L73_1 (m1 + 1) l1 l2 z5 z6 = some r1 := h
      rw [L73_1] at h
      try cbv
      refine splitL (fun e => ?_) (fun e => ?_)
      · replace h := ite_t e h
        clear e
        try cbv
        obtain ⟨x7, ⟨hx0, hx⟩, h⟩ := getF_inv h
        refine ⟨x7, hx0, hx, ?_⟩
        clear hx0 hx
        obtain ⟨z8, s9, l10, z11, s12, l13, l14, z15, z16, s17, s18, s19, l20, l21, z22, z23, rfl, h⟩ := ds_t126_inv h
        try cbv
        obtain ⟨x24, ⟨hx0, hx⟩, h⟩ := getF_inv h
        refine ⟨x24, hx0, hx, ?_⟩
        clear hx0 hx
        obtain ⟨z25, s26, l27, z28, s29, l30, l31, z32, z33, s34, s35, s36, l37, l38, z39, z40, rfl, h⟩ := ds_t126_inv h
        try cbv
        obtain ⟨b41, hr, h⟩ := bO1_inv h
        refine call_pure hM (T74 _ hr) rfl ?_
        clear hr
        try cbv
        cases b41
        · replace h := ite_f Bool.false_ne_true h
          try cbv
          obtain rfl := Option.some.inj h
          exact ⟨[], List.nodup_nil, rfl, trivial, trivial⟩
        · replace h := ite_t rfl h
          try cbv
          obtain ⟨z42, hz, h⟩ := letF_inv h
          refine ⟨z42, hz, ?_⟩
          clear hz
          try cbv
          exact loop_next (m1, z42) [1, 2, 6, 15, 16, 17] [] 72 ⟨by omega, h⟩ (Nat.lt_succ_of_le (by omega)) (by cbv)
      · replace h := ite_f (Int.not_lt.2 e) h
        clear e
        try cbv
        obtain rfl := Option.some.inj h
        exact ⟨[], List.nodup_nil, rfl, trivial, trivial⟩
  · replace h := ite_f e h
    clear e
    try cbv
    obtain rfl := Option.some.inj h
    exact ⟨[], List.nodup_nil, rfl, trivial, trivial⟩
end Go.Proofs.Ytiiojajgajnhpaa

/- Printed by lift.py: functional texts of functions, and their contracts. No condition. -/
set_option linter.unusedVariables false
namespace Go.Proofs.Ytiiojajgajnhpaa
open Go Go.AM
def F18 (n : Nat) (l1 : List D) (l2 : List D) : Option (Bool) :=
  bO1 (F73 n l1 l2) fun b3 => some b3
set_option maxRecDepth 100000 in
set_option maxHeartbeats 40000000 in
theorem T18 (n : Nat) : ∀ ⦃l1 : List D⦄ ⦃l2 : List D⦄ ⦃r1 : Bool⦄, F18 n l1 l2 = some r1 →
    Trip Try.prog 18 [.d (.agg [.list true 16 l1]), .d (.agg [.list true 16 l2])] [] (.v (.d (.bool r1))) [] [] := by
  intro l1 l2 r1 h
  unfold F18 at h
  refine Trip.of tab_ok tab_one fol Try.func18 rfl (by kernel_rfl) rfl rfl rfl (fun M hM => ?_)
  try cbv
  obtain ⟨b3, hr, h⟩ := bO1_inv h
  refine call_pure hM (T73 _ hr) rfl ?_
  clear hr
  try cbv
  obtain rfl := Option.some.inj h
  exact ⟨[], List.nodup_nil, rfl, trivial, trivial⟩
end Go.Proofs.Ytiiojajgajnhpaa

/- Printed by lift.py: functional texts of functions, and their contracts. No condition. -/
set_option linter.unusedVariables false
namespace Go.Proofs.Ytiiojajgajnhpaa
open Go Go.AM
mutual
def L21_1 : Nat → (List D) → (List D) → Int → Option (Bool)
  | 0, _, _, _ => none
  | n + 1, l3, l6, z9 =>
    lenF l3 fun z10 => (if z9 < z10 then getF l3 z9 fun x11 => ds_t27 x11 fun z12 s13 l14 => getF l6 z9 fun x15 => ds_t27 x15 fun z16 s17 l18 => bO1 (F21 n z12 s13 l14 z16 s17 l18) fun b19 => (if b19 = true then letF (IntKind.wrap .i64 (z9 + 1)) fun z20 => L21_1 n l3 l6 z20 else some false) else some true)
def F21 : Nat → Int → ByteArray → (List D) → Int → ByteArray → (List D) → Option (Bool)
  | 0, _, _, _, _, _, _ => none
  | n + 1, z1, s2, l3, z4, s5, l6 =>
    (if z1 = z4 then (if s2 = s5 then lenF l3 fun z7 => lenF l6 fun z8 => (if z7 = z8 then L21_1 n l3 l6 (0 : Int) else some false) else some false) else some false)
end
set_option maxRecDepth 100000 in
set_option maxHeartbeats 40000000 in
theorem T21 (n : Nat) : ∀ ⦃z1 : Int⦄ ⦃s2 : ByteArray⦄ ⦃l3 : List D⦄ ⦃z4 : Int⦄ ⦃s5 : ByteArray⦄ ⦃l6 : List D⦄ ⦃r1 : Bool⦄, F21 n z1 s2 l3 z4 s5 l6 = some r1 →
    Trip Try.prog 21 [.d (.agg [.int .u8 z1, .str s2, .list true 3 l3]), .d (.agg [.int .u8 z4, .str s5, .list true 3 l6])] [] (.v (.d (.bool r1))) [] [] := by
  induction n using Nat.strongRecOn with
  | _ n ih =>
    cases n with
    | zero =>
      intro z1 s2 l3 z4 s5 l6 r1 h
      cases (show (none : Option _) = some _ from h)
    | succ n =>
      intro z1 s2 l3 z4 s5 l6 r1 h
      rw [F21] at h
      refine Trip.of tab_ok tab_one fol Try.func21 rfl (by kernel_rfl) rfl rfl rfl (fun M hM => ?_)
      try cbv
      refine splitI (fun e => ?_) (fun e => ?_)
      · replace h := ite_t e h
        clear e
        try cbv
        refine splitS (fun e => ?_) (fun e => ?_)
        · replace h := ite_t (bytes_eq.1 e) h
          clear e
          try cbv
          obtain ⟨z7, hz, h⟩ := lenF_inv M h
          refine ⟨z7, hz, ?_⟩
          clear hz
          try cbv
          obtain ⟨z8, hz, h⟩ := lenF_inv M h
          refine ⟨z8, hz, ?_⟩
          clear hz
          try cbv
          refine splitI (fun e => ?_) (fun e => ?_)
          · replace h := ite_t e h
            clear e
            try cbv
            refine loop_inv (T := Nat × Int) [2, 3, 4, 5] [.loc 0, .loc 8] 200 (fun t => ⟨[(2, .v (.c (.ptr (.loc 0) 0))), (3, .v (.c (.ptr (.loc 8) 0))), (4, .v (.d (.bool false))), (5, .v (.d (.int .i64 t.2)))], [(.loc 0, .cells [.d (.int .u8 z1), .d (.str s2), .d (.list true 3 l3)]), (.loc 8, .cells [.d (.int .u8 z4), .d (.str s5), .d (.list true 3 l6)])], 200⟩)
              (fun t => t.1 ≤ n ∧ L21_1 t.1 l3 l6 t.2 = some r1) (fun t => t.1) (n, (0 : Int)) ⟨Nat.le_refl _, h⟩ (by cbv) ?_
            clear h
            rintro ⟨m1, z9⟩ ⟨hm1, h⟩
            replace hm1 : m1 ≤ n := hm1
            cases m1 with
            | zero => cases (show (none : Option _) = some _ from h)
            | succ m1 =>
              replace h : L21_1 (m1 + 1) l3 l6 z9 = some r1 := h
              rw [L21_1] at h
              try cbv
              obtain ⟨z10, hz, h⟩ := lenF_inv M h
              refine ⟨z10, hz, ?_⟩
              clear hz
              try cbv
              refine splitL (fun e => ?_) (fun e => ?_)
              · replace h := ite_t e h
                clear e
                try cbv
                obtain ⟨x11, ⟨hx0, hx⟩, h⟩ := getF_inv h
                refine ⟨x11, hx0, hx, ?_⟩
                clear hx0 hx
                obtain ⟨z12, s13, l14, rfl, h⟩ := ds_t27_inv h
                try cbv
                obtain ⟨x15, ⟨hx0, hx⟩, h⟩ := getF_inv h
                refine ⟨x15, hx0, hx, ?_⟩
                clear hx0 hx
                obtain ⟨z16, s17, l18, rfl, h⟩ := ds_t27_inv h
                try cbv
                obtain ⟨b19, hr, h⟩ := bO1_inv h
                refine call_pure hM ((ih _ (by omega)) hr) rfl ?_
                clear hr
                try cbv
                cases b19
                · replace h := ite_f Bool.false_ne_true h
                  try cbv
                  refine drawn ?_ ?_
                  · show _ = true
                    kernel_rfl
                  try cbv
                  obtain rfl := Option.some.inj h
                  exact ⟨[], List.nodup_nil, rfl, trivial, trivial⟩
                · replace h := ite_t rfl h
                  try cbv
                  refine drawn ?_ ?_
                  · show _ = true
                    kernel_rfl
                  try cbv
                  obtain ⟨z20, hz, h⟩ := letF_inv h
                  refine ⟨z20, hz, ?_⟩
                  clear hz
                  try cbv
                  exact loop_next (m1, z20) [2, 3, 4, 5] [.loc 0, .loc 8] 200 ⟨by omega, h⟩ (Nat.lt_succ_of_le (by omega)) (by cbv)
              · replace h := ite_f (Int.not_lt.2 e) h
                clear e
                try cbv
                obtain rfl := Option.some.inj h
                exact ⟨[], List.nodup_nil, rfl, trivial, trivial⟩
          · replace h := ite_f e h
            clear e
            try cbv
            obtain rfl := Option.some.inj h
            exact ⟨[], List.nodup_nil, rfl, trivial, trivial⟩
        · replace h := ite_f (bytes_ne.1 e) h
          clear e
          try cbv
          obtain rfl := Option.some.inj h
          exact ⟨[], List.nodup_nil, rfl, trivial, trivial⟩
      · replace h := ite_f e h
        clear e
        try cbv
        obtain rfl := Option.some.inj h
        exact ⟨[], List.nodup_nil, rfl, trivial, trivial⟩
end Go.Proofs.Ytiiojajgajnhpaa

/- Printed by lift.py: functional texts of functions, and their contracts. No condition. -/
set_option linter.unusedVariables false
namespace Go.Proofs.Ytiiojajgajnhpaa
open Go Go.AM
def L124_1 : Nat → (List D) → (List D) → Int → Option (Bool)
  | 0, _, _, _ => none
  | n + 1, l1, l2, z5 =>
    lenF l1 fun z6 => (if z5 < z6 then getF l1 z5 fun x7 => ds_str x7 fun s8 => getF l2 z5 fun x9 => ds_str x9 fun s10 => (if s8 = s10 then letF (IntKind.wrap .i64 (z5 + 1)) fun z11 => L124_1 n l1 l2 z11 else some false) else some true)
def F124 (n : Nat) (l1 : List D) (l2 : List D) : Option (Bool) :=
  lenF l1 fun z3 => lenF l2 fun z4 => (if z3 = z4 then L124_1 n l1 l2 (0 : Int) else some false)
set_option maxRecDepth 100000 in
set_option maxHeartbeats 40000000 in
theorem T124 (n : Nat) : ∀ ⦃l1 : List D⦄ ⦃l2 : List D⦄ ⦃r1 : Bool⦄, F124 n l1 l2 = some r1 →
    Trip Try.prog 124 [.d (.list false 1 l1), .d (.list false 1 l2)] [] (.v (.d (.bool r1))) [] [] := by
  intro l1 l2 r1 h
  unfold F124 at h
  refine Trip.of tab_ok tab_one fol Try.func124 rfl (by kernel_rfl) rfl rfl rfl (fun M hM => ?_)
  try cbv
  obtain ⟨z3, hz, h⟩ := lenF_inv M h
  refine ⟨z3, hz, ?_⟩
  clear hz
  try cbv
  obtain ⟨z4, hz, h⟩ := lenF_inv M h
  refine ⟨z4, hz, ?_⟩
  clear hz
  try cbv
  refine splitI (fun e => ?_) (fun e => ?_)
  · replace h := ite_t e h
    clear e
    try cbv
    refine loop_inv (T := Nat × Int) [0, 1, 4, 5] [] 56 (fun t => ⟨[(0, .v (.d (.list false 1 l1))), (1, .v (.d (.list false 1 l2))), (4, .v (.d (.bool false))), (5, .v (.d (.int .i64 t.2)))], [], 56⟩)
      (fun t => t.1 ≤ n ∧ L124_1 t.1 l1 l2 t.2 = some r1) (fun t => t.1) (n, (0 : Int)) ⟨Nat.le_refl _, h⟩ (by cbv) ?_
    clear h
    rintro ⟨m1, z5⟩ ⟨hm1, h⟩
    replace hm1 : m1 ≤ n := hm1
    cases m1 with
    | zero => cases (show (none : Option _) = some _ from h)
    | succ m1 =>
      replace h : L124_1 (m1 + 1) l1 l2 z5 = some r1 := h
      rw [L124_1] at h
      try cbv
      obtain ⟨z6, hz, h⟩ := lenF_inv M h
      refine ⟨z6, hz, ?_⟩
      clear hz
      try cbv
      refine splitL (fun e => ?_) (fun e => ?_)
      · replace h := ite_t e h
        clear e
        try cbv
        obtain ⟨x7, ⟨hx0, hx⟩, h⟩ := getF_inv h
        refine ⟨x7, hx0, hx, ?_⟩
        clear hx0 hx
        obtain ⟨s8, rfl, h⟩ := ds_str_inv h
        try cbv
        obtain ⟨x9, ⟨hx0, hx⟩, h⟩ := getF_inv h
        refine ⟨x9, hx0, hx, ?_⟩
        clear hx0 hx
        obtain ⟨s10, rfl, h⟩ := ds_str_inv h
        try cbv
        refine splitS (fun e => ?_) (fun e => ?_)
        · replace h := ite_t (bytes_eq.1 e) h
          clear e
          try cbv
          refine drawn ?_ ?_
          · show _ = true
            kernel_rfl
          try cbv
          obtain ⟨z11, hz, h⟩ := letF_inv h
          refine ⟨z11, hz, ?_⟩
          clear hz
          try cbv
          exact loop_next (m1, z11) [0, 1, 4, 5] [] 56 ⟨by omega, h⟩ (Nat.lt_succ_of_le (by omega)) (by cbv)
        · replace h := ite_f (bytes_ne.1 e) h
          clear e
          try cbv
          refine drawn ?_ ?_
          · show _ = true
            kernel_rfl
          try cbv
          obtain rfl := Option.some.inj h
          exact ⟨[], List.nodup_nil, rfl, trivial, trivial⟩
      · replace h := ite_f (Int.not_lt.2 e) h
        clear e
        try cbv
        obtain rfl := Option.some.inj h
        exact ⟨[], List.nodup_nil, rfl, trivial, trivial⟩
  · replace h := ite_f e h
    clear e
    try cbv
    obtain rfl := Option.some.inj h
    exact ⟨[], List.nodup_nil, rfl, trivial, trivial⟩
end Go.Proofs.Ytiiojajgajnhpaa

/- Printed by lift.py: functional texts of functions, and their contracts. No condition. -/
set_option linter.unusedVariables false
namespace Go.Proofs.Ytiiojajgajnhpaa
open Go Go.AM
def F83 (n : Nat) (s1 : ByteArray) (l2 : List D) (s3 : ByteArray) (l4 : List D) : Option (Bool) :=
  (if s1 = s3 then bO1 (F124 n l2 l4) fun b5 => some b5 else some false)
set_option maxRecDepth 100000 in
set_option maxHeartbeats 40000000 in
theorem T83 (n : Nat) : ∀ ⦃s1 : ByteArray⦄ ⦃l2 : List D⦄ ⦃s3 : ByteArray⦄ ⦃l4 : List D⦄ ⦃r1 : Bool⦄, F83 n s1 l2 s3 l4 = some r1 →
    Trip Try.prog 83 [.d (.agg [.str s1, .list false 1 l2]), .d (.agg [.str s3, .list false 1 l4])] [] (.v (.d (.bool r1))) [] [] := by
  intro s1 l2 s3 l4 r1 h
  unfold F83 at h
  refine Trip.of tab_ok tab_one fol Try.func83 rfl (by kernel_rfl) rfl rfl rfl (fun M hM => ?_)
  try cbv
  refine splitS (fun e => ?_) (fun e => ?_)
  · replace h := ite_t (bytes_eq.1 e) h
    clear e
    try cbv
    obtain ⟨b5, hr, h⟩ := bO1_inv h
    refine call_pure hM (T124 _ hr) rfl ?_
    clear hr
    try cbv
    obtain rfl := Option.some.inj h
    exact ⟨[], List.nodup_nil, rfl, trivial, trivial⟩
  · replace h := ite_f (bytes_ne.1 e) h
    clear e
    try cbv
    obtain rfl := Option.some.inj h
    exact ⟨[], List.nodup_nil, rfl, trivial, trivial⟩
end Go.Proofs.Ytiiojajgajnhpaa

/- Printed by lift.py: functional texts of functions, and their contracts. No condition. -/
set_option linter.unusedVariables false
namespace Go.Proofs.Ytiiojajgajnhpaa
open Go Go.AM
mutual
def F23 : Nat → Int → Int → ByteArray → ByteArray → ByteArray → (List D) → (List D) → Int → Int → Int → ByteArray → ByteArray → ByteArray → (List D) → (List D) → Int → Bool → Option (Bool)
  | 0, _, _, _, _, _, _, _, _, _, _, _, _, _, _, _, _, _ => none
  | n + 1, z1, z2, s3, s4, s5, l6, l7, z8, z9, z10, s11, s12, s13, l14, l15, z16, b17 =>
    (if z1 = z9 then (if z2 = z10 then (if s3 = s11 then (if s4 = s12 then (if b17 = true then (if z8 = z16 then bO1 (F83 n s5 l6 s13 l14) fun b18 => (if b18 = true then bO1 (F84 n l7 l15 b17) fun b19 => some b19 else some false) else some false) else bO1 (F83 n s5 l6 s13 l14) fun b20 => (if b20 = true then bO1 (F84 n l7 l15 b17) fun b21 => some b21 else some false)) else some false) else some false) else some false) else some false)
def L84_1 : Nat → (List D) → (List D) → Bool → Int → Option (Bool)
  | 0, _, _, _, _ => none
  | n + 1, l1, l2, b3, z6 =>
    lenF l1 fun z7 => (if z6 < z7 then getF l1 z6 fun x8 => ds_t33 x8 fun z9 z10 s11 s12 s13 l14 l15 z16 => getF l2 z6 fun x17 => ds_t33 x17 fun z18 z19 s20 s21 s22 l23 l24 z25 => bO1 (F23 n z9 z10 s11 s12 s13 l14 l15 z16 z18 z19 s20 s21 s22 l23 l24 z25 b3) fun b26 => (if b26 = true then letF (IntKind.wrap .i64 (z6 + 1)) fun z27 => L84_1 n l1 l2 b3 z27 else some false) else some true)
def F84 : Nat → (List D) → (List D) → Bool → Option (Bool)
  | 0, _, _, _ => none
  | n + 1, l1, l2, b3 =>
    lenF l1 fun z4 => lenF l2 fun z5 => (if z4 = z5 then L84_1 n l1 l2 b3 (0 : Int) else some false)
end
set_option maxRecDepth 100000 in
set_option maxHeartbeats 40000000 in
theorem G23 (n : Nat) : (∀ ⦃z1 : Int⦄ ⦃z2 : Int⦄ ⦃s3 : ByteArray⦄ ⦃s4 : ByteArray⦄ ⦃s5 : ByteArray⦄ ⦃l6 : List D⦄ ⦃l7 : List D⦄ ⦃z8 : Int⦄ ⦃z9 : Int⦄ ⦃z10 : Int⦄ ⦃s11 : ByteArray⦄ ⦃s12 : ByteArray⦄ ⦃s13 : ByteArray⦄ ⦃l14 : List D⦄ ⦃l15 : List D⦄ ⦃z16 : Int⦄ ⦃b17 : Bool⦄ ⦃r1 : Bool⦄, F23 n z1 z2 s3 s4 s5 l6 l7 z8 z9 z10 s11 s12 s13 l14 l15 z16 b17 = some r1 →
    Trip Try.prog 23 [.d (.agg [.int .u8 z1, .int .i64 z2, .str s3, .str s4, .str s5, .list false 1 l6, .list true 8 l7, .int .i64 z8]), .d (.agg [.int .u8 z9, .int .i64 z10, .str s11, .str s12, .str s13, .list false 1 l14, .list true 8 l15, .int .i64 z16]), .d (.bool b17)] [] (.v (.d (.bool r1))) [] []) ∧
    (∀ ⦃l1 : List D⦄ ⦃l2 : List D⦄ ⦃b3 : Bool⦄ ⦃r1 : Bool⦄, F84 n l1 l2 b3 = some r1 →
    Trip Try.prog 84 [.d (.list true 8 l1), .d (.list true 8 l2), .d (.bool b3)] [] (.v (.d (.bool r1))) [] []) := by
  induction n using Nat.strongRecOn with
  | _ n ih =>
    cases n with
    | zero =>
      refine ⟨?_, ?_⟩
      · intro z1 z2 s3 s4 s5 l6 l7 z8 z9 z10 s11 s12 s13 l14 l15 z16 b17 r1 h
        cases (show (none : Option _) = some _ from h)
      · intro l1 l2 b3 r1 h
        cases (show (none : Option _) = some _ from h)
    | succ n =>
      refine ⟨?_, ?_⟩
      · intro z1 z2 s3 s4 s5 l6 l7 z8 z9 z10 s11 s12 s13 l14 l15 z16 b17 r1 h
        rw [F23] at h
        refine Trip.of tab_ok tab_one fol Try.func23 rfl (by kernel_rfl) rfl rfl rfl (fun M hM => ?_)
        try cbv
        refine splitI (fun e => ?_) (fun e => ?_)
        · replace h := ite_t e h
          clear e
          try cbv
          refine splitI (fun e => ?_) (fun e => ?_)
          · replace h := ite_t e h
            clear e
            try cbv
            refine splitS (fun e => ?_) (fun e => ?_)
            · replace h := ite_t (bytes_eq.1 e) h
              clear e
              try cbv
              refine splitS (fun e => ?_) (fun e => ?_)
              · replace h := ite_t (bytes_eq.1 e) h
                clear e
                try cbv
                cases b17
                · replace h := ite_f Bool.false_ne_true h
                  try cbv
                  obtain ⟨b20, hr, h⟩ := bO1_inv h
                  refine call_pure hM (T83 _ hr) rfl ?_
                  clear hr
                  try cbv
                  cases b20
                  · replace h := ite_f Bool.false_ne_true h
                    try cbv
                    obtain rfl := Option.some.inj h
                    exact ⟨[], List.nodup_nil, rfl, trivial, trivial⟩
                  · replace h := ite_t rfl h
                    try cbv
                    obtain ⟨b21, hr, h⟩ := bO1_inv h
                    refine call_pure hM ((ih _ (by omega)).2 hr) rfl ?_
                    clear hr
                    try cbv
                    obtain rfl := Option.some.inj h
                    exact ⟨[], List.nodup_nil, rfl, trivial, trivial⟩
                · replace h := ite_t rfl h
                  try cbv
                  refine splitI (fun e => ?_) (fun e => ?_)
                  · replace h := ite_t e h
                    clear e
                    try cbv
                    obtain ⟨b18, hr, h⟩ := bO1_inv h
                    refine call_pure hM (T83 _ hr) rfl ?_
                    clear hr
                    try cbv
                    cases b18
                    · replace h := ite_f Bool.false_ne_true h
                      try cbv
                      obtain rfl := Option.some.inj h
                      exact ⟨[], List.nodup_nil, rfl, trivial, trivial⟩
                    · replace h := ite_t rfl h
                      try cbv
                      obtain ⟨b19, hr, h⟩ := bO1_inv h
                      refine call_pure hM ((ih _ (by omega)).2 hr) rfl ?_
                      clear hr
                      try cbv
                      obtain rfl := Option.some.inj h
                      exact ⟨[], List.nodup_nil, rfl, trivial, trivial⟩
                  · replace h := ite_f e h
                    clear e
                    try cbv
                    obtain rfl := Option.some.inj h
                    exact ⟨[], List.nodup_nil, rfl, trivial, trivial⟩
              · replace h := ite_f (bytes_ne.1 e) h
                clear e
                try cbv
                obtain rfl := Option.some.inj h
                exact ⟨[], List.nodup_nil, rfl, trivial, trivial⟩
            · replace h := ite_f (bytes_ne.1 e) h
              clear e
              try cbv
              obtain rfl := Option.some.inj h
              exact ⟨[], List.nodup_nil, rfl, trivial, trivial⟩
          · replace h := ite_f e h
            clear e
            try cbv
            obtain rfl := Option.some.inj h
            exact ⟨[], List.nodup_nil, rfl, trivial, trivial⟩
        · replace h := ite_f e h
          clear e
          try cbv
          obtain rfl := Option.some.inj h
          exact ⟨[], List.nodup_nil, rfl, trivial, trivial⟩
      · intro l1 l2 b3 r1 h
        rw [F84] at h
        refine Trip.of tab_ok tab_one fol Try.func84 rfl (by kernel_rfl) rfl rfl rfl (fun M hM => ?_)
        try cbv
        obtain ⟨z4, hz, h⟩ := lenF_inv M h
        refine ⟨z4, hz, ?_⟩
        clear hz
        try cbv
        obtain ⟨z5, hz, h⟩ := lenF_inv M h
        refine ⟨z5, hz, ?_⟩
        clear hz
        try cbv
        refine splitI (fun e => ?_) (fun e => ?_)
        · replace h := ite_t e h
          clear e
          try cbv
          refine loop_inv (T := Nat × Int) [0, 1, 2, 6, 7] [] 56 (fun t => ⟨[(0, .v (.d (.list true 8 l1))), (1, .v (.d (.list true 8 l2))), (2, .v (.d (.bool b3))), (6, .v (.d (.bool false))), (7, .v (.d (.int .i64 t.2)))], [], 56⟩)
            (fun t => t.1 ≤ n ∧ L84_1 t.1 l1 l2 b3 t.2 = some r1) (fun t => t.1) (n, (0 : Int)) ⟨Nat.le_refl _, h⟩ (by cbv) ?_
          clear h
          rintro ⟨m1, z6⟩ ⟨hm1, h⟩
          replace hm1 : m1 ≤ n := hm1
          cases m1 with
          | zero => cases (show (none : Option _) = some _ from h)
          | succ m1 =>
            replace h : L84_1 (m1 + 1) l1 l2 b3 z6 = some r1 := h
            rw [L84_1] at h
            try cbv
            obtain ⟨z7, hz, h⟩ := lenF_inv M h
            refine ⟨z7, hz, ?_⟩
            clear hz
            try cbv
            refine splitL (fun e => ?_) (fun e => ?_)
            · replace h := ite_t e h
              clear e
              try cbv
              obtain ⟨x8, ⟨hx0, hx⟩, h⟩ := getF_inv h
              refine ⟨x8, hx0, hx, ?_⟩
              clear hx0 hx
              obtain ⟨z9, z10, s11, s12, s13, l14, l15, z16, rfl, h⟩ := ds_t33_inv h
              try cbv
              obtain ⟨x17, ⟨hx0, hx⟩, h⟩ := getF_inv h
              refine ⟨x17, hx0, hx, ?_⟩
              clear hx0 hx
              obtain ⟨z18, z19, s20, s21, s22, l23, l24, z25, rfl, h⟩ := ds_t33_inv h
              try cbv
              obtain ⟨b26, hr, h⟩ := bO1_inv h
              refine call_pure hM ((ih _ (by omega)).1 hr) rfl ?_
              clear hr
              try cbv
              cases b26
              · replace h := ite_f Bool.false_ne_true h
                try cbv
                refine drawn ?_ ?_
                · show _ = true
                  kernel_rfl
                try cbv
                obtain rfl := Option.some.inj h
                exact ⟨[], List.nodup_nil, rfl, trivial, trivial⟩
              · replace h := ite_t rfl h
                try cbv
                refine drawn ?_ ?_
                · show _ = true
                  kernel_rfl
                try cbv
                obtain ⟨z27, hz, h⟩ := letF_inv h
                refine ⟨z27, hz, ?_⟩
                clear hz
                try cbv
                exact loop_next (m1, z27) [0, 1, 2, 6, 7] [] 56 ⟨by omega, h⟩ (Nat.lt_succ_of_le (by omega)) (by cbv)
            · replace h := ite_f (Int.not_lt.2 e) h
              clear e
              try cbv
              obtain rfl := Option.some.inj h
              exact ⟨[], List.nodup_nil, rfl, trivial, trivial⟩
        · replace h := ite_f e h
          clear e
          try cbv
          obtain rfl := Option.some.inj h
          exact ⟨[], List.nodup_nil, rfl, trivial, trivial⟩
theorem T23 (n : Nat) : ∀ ⦃z1 : Int⦄ ⦃z2 : Int⦄ ⦃s3 : ByteArray⦄ ⦃s4 : ByteArray⦄ ⦃s5 : ByteArray⦄ ⦃l6 : List D⦄ ⦃l7 : List D⦄ ⦃z8 : Int⦄ ⦃z9 : Int⦄ ⦃z10 : Int⦄ ⦃s11 : ByteArray⦄ ⦃s12 : ByteArray⦄ ⦃s13 : ByteArray⦄ ⦃l14 : List D⦄ ⦃l15 : List D⦄ ⦃z16 : Int⦄ ⦃b17 : Bool⦄ ⦃r1 : Bool⦄, F23 n z1 z2 s3 s4 s5 l6 l7 z8 z9 z10 s11 s12 s13 l14 l15 z16 b17 = some r1 →
    Trip Try.prog 23 [.d (.agg [.int .u8 z1, .int .i64 z2, .str s3, .str s4, .str s5, .list false 1 l6, .list true 8 l7, .int .i64 z8]), .d (.agg [.int .u8 z9, .int .i64 z10, .str s11, .str s12, .str s13, .list false 1 l14, .list true 8 l15, .int .i64 z16]), .d (.bool b17)] [] (.v (.d (.bool r1))) [] [] := (G23 n).1
theorem T84 (n : Nat) : ∀ ⦃l1 : List D⦄ ⦃l2 : List D⦄ ⦃b3 : Bool⦄ ⦃r1 : Bool⦄, F84 n l1 l2 b3 = some r1 →
    Trip Try.prog 84 [.d (.list true 8 l1), .d (.list true 8 l2), .d (.bool b3)] [] (.v (.d (.bool r1))) [] [] := (G23 n).2
end Go.Proofs.Ytiiojajgajnhpaa

/- Printed by lift.py: functional texts of functions, and their contracts. No condition. -/
set_option linter.unusedVariables false
namespace Go.Proofs.Ytiiojajgajnhpaa
open Go Go.AM
def L78_1 : Nat → (List D) → (List D) → Int → Option (Bool)
  | 0, _, _, _ => none
  | n + 1, l1, l2, z5 =>
    lenF l1 fun z6 => (if z5 < z6 then getF l1 z5 fun x7 => ds_t136 x7 fun s8 z9 s10 l11 => getF l2 z5 fun x12 => ds_t136 x12 fun s13 z14 s15 l16 => (if s8 = s13 then getF l1 z5 fun x17 => ds_t136 x17 fun s18 z19 s20 l21 => getF l2 z5 fun x22 => ds_t136 x22 fun s23 z24 s25 l26 => bO1 (F21 n z19 s20 l21 z24 s25 l26) fun b27 => (if b27 = true then letF (IntKind.wrap .i64 (z5 + 1)) fun z28 => L78_1 n l1 l2 z28 else some false) else some false) else some true)
def F78 (n : Nat) (l1 : List D) (l2 : List D) : Option (Bool) :=
  lenF l1 fun z3 => lenF l2 fun z4 => (if z3 = z4 then L78_1 n l1 l2 (0 : Int) else some false)
set_option maxRecDepth 100000 in
set_option maxHeartbeats 40000000 in
theorem T78 (n : Nat) : ∀ ⦃l1 : List D⦄ ⦃l2 : List D⦄ ⦃r1 : Bool⦄, F78 n l1 l2 = some r1 →
    Trip Try.prog 78 [.d (.list true 4 l1), .d (.list true 4 l2)] [] (.v (.d (.bool r1))) [] [] := by
  intro l1 l2 r1 h
  unfold F78 at h
  refine Trip.of tab_ok tab_one fol Try.func78 rfl (by kernel_rfl) rfl rfl rfl (fun M hM => ?_)
  try cbv
  obtain ⟨z3, hz, h⟩ := lenF_inv M h
  refine ⟨z3, hz, ?_⟩
  clear hz
  try cbv
  obtain ⟨z4, hz, h⟩ := lenF_inv M h
  refine ⟨z4, hz, ?_⟩
  clear hz
  try cbv
  refine splitI (fun e => ?_) (fun e => ?_)
  · replace h := ite_t e h
    clear e
    try cbv
    refine loop_inv (T := Nat × Int) [0, 1, 4, 5] [] 56 (fun t => ⟨[(0, .v (.d (.list true 4 l1))), (1, .v (.d (.list true 4 l2))), (4, .v (.d (.bool false))), (5, .v (.d (.int .i64 t.2)))], [], 56⟩)
      (fun t => t.1 ≤ n ∧ L78_1 t.1 l1 l2 t.2 = some r1) (fun t => t.1) (n, (0 : Int)) ⟨Nat.le_refl _, h⟩ (by cbv) ?_
    clear h
    rintro ⟨m1, z5⟩ ⟨hm1, h⟩
    replace hm1 : m1 ≤ n := hm1
    cases m1 with
    | zero => cases (show (none : Option _) = some _ from h)
    | succ m1 =>
      replace h : L78_1 (m1 + 1) l1 l2 z5 = some r1 := h
      rw [L78_1] at h
      try cbv
      obtain ⟨z6, hz, h⟩ := lenF_inv M h
      refine ⟨z6, hz, ?_⟩
      clear hz
      try cbv
      refine splitL (fun e => ?_) (fun e => ?_)
      · replace h := ite_t e h
        clear e
        try cbv
        obtain ⟨x7, ⟨hx0, hx⟩, h⟩ := getF_inv h
        refine ⟨x7, hx0, hx, ?_⟩
        clear hx0 hx
        obtain ⟨s8, z9, s10, l11, rfl, h⟩ := ds_t136_inv h
        try cbv
        obtain ⟨x12, ⟨hx0, hx⟩, h⟩ := getF_inv h
        refine ⟨x12, hx0, hx, ?_⟩
        clear hx0 hx
        obtain ⟨s13, z14, s15, l16, rfl, h⟩ := ds_t136_inv h
        try cbv
        refine splitS (fun e => ?_) (fun e => ?_)
        · replace h := ite_t (bytes_eq.1 e) h
          clear e
          try cbv
          obtain ⟨x17, ⟨hx0, hx⟩, h⟩ := getF_inv h
          refine ⟨x17, hx0, hx, ?_⟩
          clear hx0 hx
          obtain ⟨s18, z19, s20, l21, rfl, h⟩ := ds_t136_inv h
          try cbv
          obtain ⟨x22, ⟨hx0, hx⟩, h⟩ := getF_inv h
          refine ⟨x22, hx0, hx, ?_⟩
          clear hx0 hx
          obtain ⟨s23, z24, s25, l26, rfl, h⟩ := ds_t136_inv h
          try cbv
          obtain ⟨b27, hr, h⟩ := bO1_inv h
          refine call_pure hM (T21 _ hr) rfl ?_
          clear hr
          try cbv
          cases b27
          · replace h := ite_f Bool.false_ne_true h
            try cbv
            refine drawn ?_ ?_
            · show _ = true
              kernel_rfl
            try cbv
            obtain rfl := Option.some.inj h
            exact ⟨[], List.nodup_nil, rfl, trivial, trivial⟩
          · replace h := ite_t rfl h
            try cbv
            refine drawn ?_ ?_
            · show _ = true
              kernel_rfl
            try cbv
            obtain ⟨z28, hz, h⟩ := letF_inv h
            refine ⟨z28, hz, ?_⟩
            clear hz
            try cbv
            exact loop_next (m1, z28) [0, 1, 4, 5] [] 56 ⟨by omega, h⟩ (Nat.lt_succ_of_le (by omega)) (by cbv)
        · replace h := ite_f (bytes_ne.1 e) h
          clear e
          try cbv
          refine drawn ?_ ?_
          · show _ = true
            kernel_rfl
          try cbv
          obtain rfl := Option.some.inj h
          exact ⟨[], List.nodup_nil, rfl, trivial, trivial⟩
      · replace h := ite_f (Int.not_lt.2 e) h
        clear e
        try cbv
        obtain rfl := Option.some.inj h
        exact ⟨[], List.nodup_nil, rfl, trivial, trivial⟩
  · replace h := ite_f e h
    clear e
    try cbv
    obtain rfl := Option.some.inj h
    exact ⟨[], List.nodup_nil, rfl, trivial, trivial⟩
end Go.Proofs.Ytiiojajgajnhpaa

/- Printed by lift.py: functional texts of functions, and their contracts. No condition. -/
set_option linter.unusedVariables false
namespace Go.Proofs.Ytiiojajgajnhpaa
open Go Go.AM
mutual
def L79_1 : Nat → (List D) → (List D) → Bool → Int → Option (Bool)
  | 0, _, _, _, _ => none
  | n + 1, l1, l2, b3, z6 =>
    lenF l1 fun z7 => (if z6 < z7 then getF l1 z6 fun x8 => ds_t152 x8 fun z9 s10 s11 l12 z13 s14 l15 z16 s17 l18 l19 l20 l21 l22 z23 => getF l2 z6 fun x24 => ds_t152 x24 fun z25 s26 s27 l28 z29 s30 l31 z32 s33 l34 l35 l36 l37 l38 z39 => (if z9 = z25 then (if s10 = s26 then (if s11 = s27 then (if z16 = z32 then (if b3 = true then (if z23 = z39 then lenF l22 fun z40 => lenF l38 fun z41 => (if z40 = z41 then bO1 (F124 n l12 l28) fun b42 => (if b42 = true then bO1 (F21 n z13 s14 l15 z29 s30 l31) fun b43 => (if b43 = true then bO1 (F83 n s17 l18 s33 l34) fun b44 => (if b44 = true then bO1 (F84 n l19 l35 b3) fun b45 => (if b45 = true then bO1 (F79 n l20 l36 b3) fun b46 => (if b46 = true then bO1 (F79 n l21 l37 b3) fun b47 => (if b47 = true then L79_2 n l1 l2 b3 z6 l22 l38 (0 : Int) else some false) else some false) else some false) else some false) else some false) else some false) else some false) else some false) else lenF l22 fun z77 => lenF l38 fun z78 => (if z77 = z78 then bO1 (F124 n l12 l28) fun b79 => (if b79 = true then bO1 (F21 n z13 s14 l15 z29 s30 l31) fun b80 => (if b80 = true then bO1 (F83 n s17 l18 s33 l34) fun b81 => (if b81 = true then bO1 (F84 n l19 l35 b3) fun b82 => (if b82 = true then bO1 (F79 n l20 l36 b3) fun b83 => (if b83 = true then bO1 (F79 n l21 l37 b3) fun b84 => (if b84 = true then L79_2 n l1 l2 b3 z6 l22 l38 (0 : Int) else some false) else some false) else some false) else some false) else some false) else some false) else some false)) else some false) else some false) else some false) else some false) else some true)
def L79_2 : Nat → (List D) → (List D) → Bool → Int → (List D) → (List D) → Int → Option (Bool)
  | 0, _, _, _, _, _, _, _ => none
  | n + 1, l1, l2, b3, z6, l22, l38, z48 =>
    lenF l22 fun z49 => (if z48 < z49 then getF l22 z48 fun x50 => ds_t154 x50 fun s51 s52 l53 => getF l38 z48 fun x54 => ds_t154 x54 fun s55 s56 l57 => (if s51 = s55 then getF l22 z48 fun x58 => ds_t154 x58 fun s59 s60 l61 => getF l38 z48 fun x62 => ds_t154 x62 fun s63 s64 l65 => (if s60 = s64 then getF l22 z48 fun x66 => ds_t154 x66 fun s67 s68 l69 => getF l38 z48 fun x70 => ds_t154 x70 fun s71 s72 l73 => bO1 (F79 n l69 l73 b3) fun b74 => (if b74 = true then letF (IntKind.wrap .i64 (z48 + 1)) fun z75 => L79_2 n l1 l2 b3 z6 l22 l38 z75 else some false) else some false) else some false) else letF (IntKind.wrap .i64 (z6 + 1)) fun z76 => L79_1 n l1 l2 b3 z76)
def F79 : Nat → (List D) → (List D) → Bool → Option (Bool)
  | 0, _, _, _ => none
  | n + 1, l1, l2, b3 =>
    lenF l1 fun z4 => lenF l2 fun z5 => (if z4 = z5 then L79_1 n l1 l2 b3 (0 : Int) else some false)
end
set_option maxRecDepth 100000 in
set_option maxHeartbeats 40000000 in
theorem T79 (n : Nat) : ∀ ⦃l1 : List D⦄ ⦃l2 : List D⦄ ⦃b3 : Bool⦄ ⦃r1 : Bool⦄, F79 n l1 l2 b3 = some r1 →
    Trip Try.prog 79 [.d (.list true 15 l1), .d (.list true 15 l2), .d (.bool b3)] [] (.v (.d (.bool r1))) [] [] := by
  induction n using Nat.strongRecOn with
  | _ n ih =>
    cases n with
    | zero =>
      intro l1 l2 b3 r1 h
      cases (show (none : Option _) = some _ from h)
    | succ n =>
      intro l1 l2 b3 r1 h
      rw [F79] at h
      refine Trip.of tab_ok tab_one fol Try.func79 rfl (by kernel_rfl) rfl rfl rfl (fun M hM => ?_)
      try cbv
      obtain ⟨z4, hz, h⟩ := lenF_inv M h
      refine ⟨z4, hz, ?_⟩
      clear hz
      try cbv
      obtain ⟨z5, hz, h⟩ := lenF_inv M h
      refine ⟨z5, hz, ?_⟩
      clear hz
      try cbv
      refine splitI (fun e => ?_) (fun e => ?_)
      · replace h := ite_t e h
        clear e
        try cbv
        refine loop_inv (T := Nat × Int) [0, 1, 2, 6, 7] [] 56 (fun t => ⟨[(0, .v (.d (.list true 15 l1))), (1, .v (.d (.list true 15 l2))), (2, .v (.d (.bool b3))), (6, .v (.d (.bool false))), (7, .v (.d (.int .i64 t.2)))], [], 56⟩)
          (fun t => t.1 ≤ n ∧ L79_1 t.1 l1 l2 b3 t.2 = some r1) (fun t => t.1) (n, (0 : Int)) ⟨Nat.le_refl _, h⟩ (by cbv) ?_
        clear h
        rintro ⟨m1, z6⟩ ⟨hm1, h⟩
        replace hm1 : m1 ≤ n := hm1
        cases m1 with
        | zero => cases (show (none : Option _) = some _ from h)
        | succ m1 =>
          replace h : L79_1 (m1 + 1) l1 l2 b3 z6 = some r1 := h
          rw [L79_1] at h
          try cbv
          obtain ⟨z7, hz, h⟩ := lenF_inv M h
          refine ⟨z7, hz, ?_⟩
          clear hz
          try cbv
          refine splitL (fun e => ?_) (fun e => ?_)
          · replace h := ite_t e h
            clear e
            try cbv
            obtain ⟨x8, ⟨hx0, hx⟩, h⟩ := getF_inv h
            refine ⟨x8, hx0, hx, ?_⟩
            clear hx0 hx
            obtain ⟨z9, s10, s11, l12, z13, s14, l15, z16, s17, l18, l19, l20, l21, l22, z23, rfl, h⟩ := ds_t152_inv h
            try cbv
            obtain ⟨x24, ⟨hx0, hx⟩, h⟩ := getF_inv h
            refine ⟨x24, hx0, hx, ?_⟩
            clear hx0 hx
            obtain ⟨z25, s26, s27, l28, z29, s30, l31, z32, s33, l34, l35, l36, l37, l38, z39, rfl, h⟩ := ds_t152_inv h
            try cbv
            refine drawn ?_ ?_
            · show _ = true
              kernel_rfl
            try cbv
            refine splitI (fun e => ?_) (fun e => ?_)
            · replace h := ite_t e h
              clear e
              try cbv
              refine splitS (fun e => ?_) (fun e => ?_)
              · replace h := ite_t (bytes_eq.1 e) h
                clear e
                try cbv
                refine splitS (fun e => ?_) (fun e => ?_)
                · replace h := ite_t (bytes_eq.1 e) h
                  clear e
                  try cbv
                  refine splitI (fun e => ?_) (fun e => ?_)
                  · replace h := ite_t e h
                    clear e
                    try cbv
                    cases b3
                    · replace h := ite_f Bool.false_ne_true h
                      try cbv
                      obtain ⟨z77, hz, h⟩ := lenF_inv M h
                      refine ⟨z77, hz, ?_⟩
                      clear hz
                      try cbv
                      obtain ⟨z78, hz, h⟩ := lenF_inv M h
                      refine ⟨z78, hz, ?_⟩
                      clear hz
                      try cbv
                      refine splitI (fun e => ?_) (fun e => ?_)
                      · replace h := ite_t e h
                        clear e
                        try cbv
                        obtain ⟨b79, hr, h⟩ := bO1_inv h
                        refine call_pure hM (T124 _ hr) rfl ?_
                        clear hr
                        try cbv
                        cases b79
                        · replace h := ite_f Bool.false_ne_true h
                          try cbv
                          obtain rfl := Option.some.inj h
                          exact ⟨[], List.nodup_nil, rfl, trivial, trivial⟩
                        · replace h := ite_t rfl h
                          try cbv
                          obtain ⟨b80, hr, h⟩ := bO1_inv h
                          refine call_pure hM (T21 _ hr) rfl ?_
                          clear hr
                          try cbv
                          cases b80
                          · replace h := ite_f Bool.false_ne_true h
                            try cbv
                            obtain rfl := Option.some.inj h
                            exact ⟨[], List.nodup_nil, rfl, trivial, trivial⟩
                          · replace h := ite_t rfl h
                            try cbv
                            obtain ⟨b81, hr, h⟩ := bO1_inv h
                            refine call_pure hM (T83 _ hr) rfl ?_
                            clear hr
                            try cbv
                            cases b81
                            · replace h := ite_f Bool.false_ne_true h
                              try cbv
                              obtain rfl := Option.some.inj h
                              exact ⟨[], List.nodup_nil, rfl, trivial, trivial⟩
                            · replace h := ite_t rfl h
                              try cbv
                              obtain ⟨b82, hr, h⟩ := bO1_inv h
                              refine call_pure hM (T84 _ hr) rfl ?_
                              clear hr
                              try cbv
                              cases b82
                              · replace h := ite_f Bool.false_ne_true h
                                try cbv
                                obtain rfl := Option.some.inj h
                                exact ⟨[], List.nodup_nil, rfl, trivial, trivial⟩
                              · replace h := ite_t rfl h
                                try cbv
                                obtain ⟨b83, hr, h⟩ := bO1_inv h
                                refine call_pure hM ((ih _ (by omega)) hr) rfl ?_
                                clear hr
                                try cbv
                                cases b83
                                · replace h := ite_f Bool.false_ne_true h
                                  try cbv
                                  obtain rfl := Option.some.inj h
                                  exact ⟨[], List.nodup_nil, rfl, trivial, trivial⟩
                                · replace h := ite_t rfl h
                                  try cbv
                                  obtain ⟨b84, hr, h⟩ := bO1_inv h
                                  refine call_pure hM ((ih _ (by omega)) hr) rfl ?_
                                  clear hr
                                  try cbv
                                  cases b84
                                  · replace h := ite_f Bool.false_ne_true h
                                    try cbv
                                    obtain rfl := Option.some.inj h
                                    exact ⟨[], List.nodup_nil, rfl, trivial, trivial⟩
                                  · replace h := ite_t rfl h
                                    try cbv
                                    refine loop_inv (T := Nat × Int) [0, 1, 2, 6, 7, 8, 9, 10] [.loc 152, .loc 160] 944 (fun t => ⟨[(0, .v (.d (.list true 15 l1))), (1, .v (.d (.list true 15 l2))), (2, .v (.d (.bool false))), (6, .v (.d (.bool false))), (7, .v (.d (.int .i64 z6))), (8, .v (.c (.ptr (.loc 152) 0))), (9, .v (.c (.ptr (.loc 160) 0))), (10, .v (.d (.int .i64 t.2)))], [(.loc 152, .cells [.d (.int .u8 z9), .d (.str s10), .d (.str s11), .d (.list false 1 l12), .d (.int .u8 z13), .d (.str s14), .d (.list true 3 l15), .d (.int .i64 z16), .d (.str s17), .d (.list false 1 l18), .d (.list true 8 l19), .d (.list true 15 l20), .d (.list true 15 l21), .d (.list true 3 l22), .d (.int .i64 z23)]), (.loc 160, .cells [.d (.int .u8 z25), .d (.str s26), .d (.str s27), .d (.list false 1 l28), .d (.int .u8 z29), .d (.str s30), .d (.list true 3 l31), .d (.int .i64 z32), .d (.str s33), .d (.list false 1 l34), .d (.list true 8 l35), .d (.list true 15 l36), .d (.list true 15 l37), .d (.list true 3 l38), .d (.int .i64 z39)])], 944⟩)
                                      (fun t => t.1 ≤ m1 ∧ L79_2 t.1 l1 l2 false z6 l22 l38 t.2 = some r1) (fun t => t.1) (m1, (0 : Int)) ⟨Nat.le_refl _, h⟩ (by cbv) ?_
                                    clear h
                                    rintro ⟨m3, z85⟩ ⟨hm3, h⟩
                                    replace hm3 : m3 ≤ m1 := hm3
                                    cases m3 with
                                    | zero => cases (show (none : Option _) = some _ from h)
                                    | succ m3 =>
                                      replace h : L79_2 (m3 + 1) l1 l2 false z6 l22 l38 z85 = some r1 := h
                                      rw [L79_2] at h
                                      try cbv
                                      obtain ⟨z86, hz, h⟩ := lenF_inv M h
                                      refine ⟨z86, hz, ?_⟩
                                      clear hz
                                      try cbv
                                      refine splitL (fun e => ?_) (fun e => ?_)
                                      · replace h := ite_t e h
                                        clear e
                                        try cbv
                                        obtain ⟨x87, ⟨hx0, hx⟩, h⟩ := getF_inv h
                                        refine ⟨x87, hx0, hx, ?_⟩
                                        clear hx0 hx
                                        obtain ⟨s88, s89, l90, rfl, h⟩ := ds_t154_inv h
                                        try cbv
                                        obtain ⟨x91, ⟨hx0, hx⟩, h⟩ := getF_inv h
                                        refine ⟨x91, hx0, hx, ?_⟩
                                        clear hx0 hx
                                        obtain ⟨s92, s93, l94, rfl, h⟩ := ds_t154_inv h
                                        try cbv
                                        refine splitS (fun e => ?_) (fun e => ?_)
                                        · replace h := ite_t (bytes_eq.1 e) h
                                          clear e
                                          try cbv
                                          obtain ⟨x95, ⟨hx0, hx⟩, h⟩ := getF_inv h
                                          refine ⟨x95, hx0, hx, ?_⟩
                                          clear hx0 hx
                                          obtain ⟨s96, s97, l98, rfl, h⟩ := ds_t154_inv h
                                          try cbv
                                          obtain ⟨x99, ⟨hx0, hx⟩, h⟩ := getF_inv h
                                          refine ⟨x99, hx0, hx, ?_⟩
                                          clear hx0 hx
                                          obtain ⟨s100, s101, l102, rfl, h⟩ := ds_t154_inv h
                                          try cbv
                                          refine splitS (fun e => ?_) (fun e => ?_)
                                          · replace h := ite_t (bytes_eq.1 e) h
                                            clear e
                                            try cbv
                                            obtain ⟨x103, ⟨hx0, hx⟩, h⟩ := getF_inv h
                                            refine ⟨x103, hx0, hx, ?_⟩
                                            clear hx0 hx
                                            obtain ⟨s104, s105, l106, rfl, h⟩ := ds_t154_inv h
                                            try cbv
                                            obtain ⟨x107, ⟨hx0, hx⟩, h⟩ := getF_inv h
                                            refine ⟨x107, hx0, hx, ?_⟩
                                            clear hx0 hx
                                            obtain ⟨s108, s109, l110, rfl, h⟩ := ds_t154_inv h
                                            try cbv
                                            obtain ⟨b111, hr, h⟩ := bO1_inv h
                                            refine call_pure hM ((ih _ (by omega)) hr) rfl ?_
                                            clear hr
                                            try cbv
                                            cases b111
                                            · replace h := ite_f Bool.false_ne_true h
                                              try cbv
                                              refine drawn ?_ ?_
                                              · show _ = true
                                                kernel_rfl
                                              try cbv
                                              obtain rfl := Option.some.inj h
                                              exact ⟨[], List.nodup_nil, rfl, trivial, trivial⟩
                                            · replace h := ite_t rfl h
                                              try cbv
                                              refine drawn ?_ ?_
                                              · show _ = true
                                                kernel_rfl
                                              try cbv
                                              obtain ⟨z112, hz, h⟩ := letF_inv h
                                              refine ⟨z112, hz, ?_⟩
                                              clear hz
                                              try cbv
                                              exact loop_next (m3, z112) [0, 1, 2, 6, 7, 8, 9, 10] [.loc 152, .loc 160] 944 ⟨by omega, h⟩ (Nat.lt_succ_of_le (by omega)) (by cbv)
                                          · replace h := ite_f (bytes_ne.1 e) h
                                            clear e
                                            try cbv
                                            refine drawn ?_ ?_
                                            · show _ = true
                                              kernel_rfl
                                            try cbv
                                            obtain rfl := Option.some.inj h
                                            exact ⟨[], List.nodup_nil, rfl, trivial, trivial⟩
                                        · replace h := ite_f (bytes_ne.1 e) h
                                          clear e
                                          try cbv
                                          refine drawn ?_ ?_
                                          · show _ = true
                                            kernel_rfl
                                          try cbv
                                          obtain rfl := Option.some.inj h
                                          exact ⟨[], List.nodup_nil, rfl, trivial, trivial⟩
                                      · replace h := ite_f (Int.not_lt.2 e) h
                                        clear e
                                        try cbv
                                        obtain ⟨z113, hz, h⟩ := letF_inv h
                                        refine ⟨z113, hz, ?_⟩
                                        clear hz
                                        try cbv
                                        exact loop_next (m3, z113) [0, 1, 2, 6, 7] [] 56 ⟨by omega, h⟩ (Nat.lt_succ_of_le (by omega)) (by cbv)
                      · replace h := ite_f e h
                        clear e
                        try cbv
                        obtain rfl := Option.some.inj h
                        exact ⟨[], List.nodup_nil, rfl, trivial, trivial⟩
                    · replace h := ite_t rfl h
                      try cbv
                      refine splitI (fun e => ?_) (fun e => ?_)
                      · replace h := ite_t e h
                        clear e
                        try cbv
                        obtain ⟨z40, hz, h⟩ := lenF_inv M h
                        refine ⟨z40, hz, ?_⟩
                        clear hz
                        try cbv
                        obtain ⟨z41, hz, h⟩ := lenF_inv M h
                        refine ⟨z41, hz, ?_⟩
                        clear hz
                        try cbv
                        refine splitI (fun e => ?_) (fun e => ?_)
                        · replace h := ite_t e h
                          clear e
                          try cbv
                          obtain ⟨b42, hr, h⟩ := bO1_inv h
                          refine call_pure hM (T124 _ hr) rfl ?_
                          clear hr
                          try cbv
                          cases b42
                          · replace h := ite_f Bool.false_ne_true h
                            try cbv
                            obtain rfl := Option.some.inj h
                            exact ⟨[], List.nodup_nil, rfl, trivial, trivial⟩
                          · replace h := ite_t rfl h
                            try cbv
                            obtain ⟨b43, hr, h⟩ := bO1_inv h
                            refine call_pure hM (T21 _ hr) rfl ?_
                            clear hr
                            try cbv
                            cases b43
                            · replace h := ite_f Bool.false_ne_true h
                              try cbv
                              obtain rfl := Option.some.inj h
                              exact ⟨[], List.nodup_nil, rfl, trivial, trivial⟩
                            · replace h := ite_t rfl h
                              try cbv
                              obtain ⟨b44, hr, h⟩ := bO1_inv h
                              refine call_pure hM (T83 _ hr) rfl ?_
                              clear hr
                              try cbv
                              cases b44
                              · replace h := ite_f Bool.false_ne_true h
                                try cbv
                                obtain rfl := Option.some.inj h
                                exact ⟨[], List.nodup_nil, rfl, trivial, trivial⟩
                              · replace h := ite_t rfl h
                                try cbv
                                obtain ⟨b45, hr, h⟩ := bO1_inv h
                                refine call_pure hM (T84 _ hr) rfl ?_
                                clear hr
                                try cbv
                                cases b45
                                · replace h := ite_f Bool.false_ne_true h
                                  try cbv
                                  obtain rfl := Option.some.inj h
                                  exact ⟨[], List.nodup_nil, rfl, trivial, trivial⟩
                                · replace h := ite_t rfl h
                                  try cbv
                                  obtain ⟨b46, hr, h⟩ := bO1_inv h
                                  refine call_pure hM ((ih _ (by omega)) hr) rfl ?_
                                  clear hr
                                  try cbv
                                  cases b46
                                  · replace h := ite_f Bool.false_ne_true h
                                    try cbv
                                    obtain rfl := Option.some.inj h
                                    exact ⟨[], List.nodup_nil, rfl, trivial, trivial⟩
                                  · replace h := ite_t rfl h
                                    try cbv
                                    obtain ⟨b47, hr, h⟩ := bO1_inv h
                                    refine call_pure hM ((ih _ (by omega)) hr) rfl ?_
                                    clear hr
                                    try cbv
                                    cases b47
                                    · replace h := ite_f Bool.false_ne_true h
                                      try cbv
                                      obtain rfl := Option.some.inj h
                                      exact ⟨[], List.nodup_nil, rfl, trivial, trivial⟩
                                    · replace h := ite_t rfl h
                                      try cbv
                                      refine loop_inv (T := Nat × Int) [0, 1, 2, 6, 7, 8, 9, 10] [.loc 152, .loc 160] 944 (fun t => ⟨[(0, .v (.d (.list true 15 l1))), (1, .v (.d (.list true 15 l2))), (2, .v (.d (.bool true))), (6, .v (.d (.bool false))), (7, .v (.d (.int .i64 z6))), (8, .v (.c (.ptr (.loc 152) 0))), (9, .v (.c (.ptr (.loc 160) 0))), (10, .v (.d (.int .i64 t.2)))], [(.loc 152, .cells [.d (.int .u8 z9), .d (.str s10), .d (.str s11), .d (.list false 1 l12), .d (.int .u8 z13), .d (.str s14), .d (.list true 3 l15), .d (.int .i64 z16), .d (.str s17), .d (.list false 1 l18), .d (.list true 8 l19), .d (.list true 15 l20), .d (.list true 15 l21), .d (.list true 3 l22), .d (.int .i64 z23)]), (.loc 160, .cells [.d (.int .u8 z25), .d (.str s26), .d (.str s27), .d (.list false 1 l28), .d (.int .u8 z29), .d (.str s30), .d (.list true 3 l31), .d (.int .i64 z32), .d (.str s33), .d (.list false 1 l34), .d (.list true 8 l35), .d (.list true 15 l36), .d (.list true 15 l37), .d (.list true 3 l38), .d (.int .i64 z39)])], 944⟩)
                                        (fun t => t.1 ≤ m1 ∧ L79_2 t.1 l1 l2 true z6 l22 l38 t.2 = some r1) (fun t => t.1) (m1, (0 : Int)) ⟨Nat.le_refl _, h⟩ (by cbv) ?_
                                      clear h
                                      rintro ⟨m2, z48⟩ ⟨hm2, h⟩
                                      replace hm2 : m2 ≤ m1 := hm2
                                      cases m2 with
                                      | zero => cases (show (none : Option _) = some _ from h)
                                      | succ m2 =>
                                        replace h : L79_2 (m2 + 1) l1 l2 true z6 l22 l38 z48 = some r1 := h
                                        rw [L79_2] at h
                                        try cbv
                                        obtain ⟨z49, hz, h⟩ := lenF_inv M h
                                        refine ⟨z49, hz, ?_⟩
                                        clear hz
                                        try cbv
                                        refine splitL (fun e => ?_) (fun e => ?_)
                                        · replace h := ite_t e h
                                          clear e
                                          try cbv
                                          obtain ⟨x50, ⟨hx0, hx⟩, h⟩ := getF_inv h
                                          refine ⟨x50, hx0, hx, ?_⟩
                                          clear hx0 hx
                                          obtain ⟨s51, s52, l53, rfl, h⟩ := ds_t154_inv h
                                          try cbv
                                          obtain ⟨x54, ⟨hx0, hx⟩, h⟩ := getF_inv h
                                          refine ⟨x54, hx0, hx, ?_⟩
                                          clear hx0 hx
                                          obtain ⟨s55, s56, l57, rfl, h⟩ := ds_t154_inv h
                                          try cbv
                                          refine splitS (fun e => ?_) (fun e => ?_)
                                          · replace h := ite_t (bytes_eq.1 e) h
                                            clear e
                                            try cbv
                                            obtain ⟨x58, ⟨hx0, hx⟩, h⟩ := getF_inv h
                                            refine ⟨x58, hx0, hx, ?_⟩
                                            clear hx0 hx
                                            obtain ⟨s59, s60, l61, rfl, h⟩ := ds_t154_inv h
                                            try cbv
                                            obtain ⟨x62, ⟨hx0, hx⟩, h⟩ := getF_inv h
                                            refine ⟨x62, hx0, hx, ?_⟩
                                            clear hx0 hx
                                            obtain ⟨s63, s64, l65, rfl, h⟩ := ds_t154_inv h
                                            try cbv
                                            refine splitS (fun e => ?_) (fun e => ?_)
                                            · replace h := ite_t (bytes_eq.1 e) h
                                              clear e
                                              try cbv
                                              obtain ⟨x66, ⟨hx0, hx⟩, h⟩ := getF_inv h
                                              refine ⟨x66, hx0, hx, ?_⟩
                                              clear hx0 hx
                                              obtain ⟨s67, s68, l69, rfl, h⟩ := ds_t154_inv h
                                              try cbv
                                              obtain ⟨x70, ⟨hx0, hx⟩, h⟩ := getF_inv h
                                              refine ⟨x70, hx0, hx, ?_⟩
                                              clear hx0 hx
                                              obtain ⟨s71, s72, l73, rfl, h⟩ := ds_t154_inv h
                                              try cbv
                                              obtain ⟨b74, hr, h⟩ := bO1_inv h
                                              refine call_pure hM ((ih _ (by omega)) hr) rfl ?_
                                              clear hr
                                              try cbv
                                              cases b74
                                              · replace h := ite_f Bool.false_ne_true h
                                                try cbv
                                                refine drawn ?_ ?_
                                                · show _ = true
                                                  kernel_rfl
                                                try cbv
                                                obtain rfl := Option.some.inj h
                                                exact ⟨[], List.nodup_nil, rfl, trivial, trivial⟩
                                              · replace h := ite_t rfl h
                                                try cbv
                                                refine drawn ?_ ?_
                                                · show _ = true
                                                  kernel_rfl
                                                try cbv
                                                obtain ⟨z75, hz, h⟩ := letF_inv h
                                                refine ⟨z75, hz, ?_⟩
                                                clear hz
                                                try cbv
                                                exact loop_next (m2, z75) [0, 1, 2, 6, 7, 8, 9, 10] [.loc 152, .loc 160] 944 ⟨by omega, h⟩ (Nat.lt_succ_of_le (by omega)) (by cbv)
                                            · replace h := ite_f (bytes_ne.1 e) h
                                              clear e
                                              try cbv
                                              refine drawn ?_ ?_
                                              · show _ = true
                                                kernel_rfl
                                              try cbv
                                              obtain rfl := Option.some.inj h
                                              exact ⟨[], List.nodup_nil, rfl, trivial, trivial⟩
                                          · replace h := ite_f (bytes_ne.1 e) h
                                            clear e
                                            try cbv
                                            refine drawn ?_ ?_
                                            · show _ = true
                                              kernel_rfl
                                            try cbv
                                            obtain rfl := Option.some.inj h
                                            exact ⟨[], List.nodup_nil, rfl, trivial, trivial⟩
                                        · replace h := ite_f (Int.not_lt.2 e) h
                                          clear e
                                          try cbv
                                          obtain ⟨z76, hz, h⟩ := letF_inv h
                                          refine ⟨z76, hz, ?_⟩
                                          clear hz
                                          try cbv
                                          exact loop_next (m2, z76) [0, 1, 2, 6, 7] [] 56 ⟨by omega, h⟩ (Nat.lt_succ_of_le (by omega)) (by cbv)
                        · replace h := ite_f e h
                          clear e
                          try cbv
                          obtain rfl := Option.some.inj h
                          exact ⟨[], List.nodup_nil, rfl, trivial, trivial⟩
                      · replace h := ite_f e h
                        clear e
                        try cbv
                        obtain rfl := Option.some.inj h
                        exact ⟨[], List.nodup_nil, rfl, trivial, trivial⟩
                  · replace h := ite_f e h
                    clear e
                    try cbv
                    obtain rfl := Option.some.inj h
                    exact ⟨[], List.nodup_nil, rfl, trivial, trivial⟩
                · replace h := ite_f (bytes_ne.1 e) h
                  clear e
                  try cbv
                  obtain rfl := Option.some.inj h
                  exact ⟨[], List.nodup_nil, rfl, trivial, trivial⟩
              · replace h := ite_f (bytes_ne.1 e) h
                clear e
                try cbv
                obtain rfl := Option.some.inj h
                exact ⟨[], List.nodup_nil, rfl, trivial, trivial⟩
            · replace h := ite_f e h
              clear e
              try cbv
              obtain rfl := Option.some.inj h
              exact ⟨[], List.nodup_nil, rfl, trivial, trivial⟩
          · replace h := ite_f (Int.not_lt.2 e) h
            clear e
            try cbv
            obtain rfl := Option.some.inj h
            exact ⟨[], List.nodup_nil, rfl, trivial, trivial⟩
      · replace h := ite_f e h
        clear e
        try cbv
        obtain rfl := Option.some.inj h
        exact ⟨[], List.nodup_nil, rfl, trivial, trivial⟩
end Go.Proofs.Ytiiojajgajnhpaa

/- Printed by lift.py: functional texts of functions, and their contracts. No condition. -/
set_option linter.unusedVariables false
namespace Go.Proofs.Ytiiojajgajnhpaa
open Go Go.AM
def L19_1 : Nat → (List D) → (List D) → Bool → Int → Option (Bool)
  | 0, _, _, _, _ => none
  | n + 1, l1, l2, b3, z6 =>
    lenF l1 fun z7 => (if z6 < z7 then getF l1 z6 fun x8 => ds_t126 x8 fun z9 s10 l11 z12 s13 l14 l15 z16 z17 s18 s19 s20 l21 l22 z23 z24 => getF l2 z6 fun x25 => ds_t126 x25 fun z26 s27 l28 z29 s30 l31 l32 z33 z34 s35 s36 s37 l38 l39 z40 z41 => (if z9 = z26 then (if s10 = s27 then (if b3 = true then (if z24 = z41 then bO1 (F78 n l11 l28) fun b42 => (if b42 = true then bO1 (F21 n z12 s13 l14 z29 s30 l31) fun b43 => (if b43 = true then bO1 (F79 n l15 l32 b3) fun b44 => (if b44 = true then bO1 (F23 n z16 z17 s18 s19 s20 l21 l22 z23 z33 z34 s35 s36 s37 l38 l39 z40 b3) fun b45 => (if b45 = true then letF (IntKind.wrap .i64 (z6 + 1)) fun z46 => L19_1 n l1 l2 b3 z46 else some false) else some false) else some false) else some false) else some false) else bO1 (F78 n l11 l28) fun b47 => (if b47 = true then bO1 (F21 n z12 s13 l14 z29 s30 l31) fun b48 => (if b48 = true then bO1 (F79 n l15 l32 b3) fun b49 => (if b49 = true then bO1 (F23 n z16 z17 s18 s19 s20 l21 l22 z23 z33 z34 s35 s36 s37 l38 l39 z40 b3) fun b50 => (if b50 = true then letF (IntKind.wrap .i64 (z6 + 1)) fun z51 => L19_1 n l1 l2 b3 z51 else some false) else some false) else some false) else some false)) else some false) else some false) else some true)
def F19 (n : Nat) (l1 : List D) (l2 : List D) (b3 : Bool) : Option (Bool) :=
  lenF l1 fun z4 => lenF l2 fun z5 => (if z4 = z5 then L19_1 n l1 l2 b3 (0 : Int) else some false)
set_option maxRecDepth 100000 in
set_option maxHeartbeats 40000000 in
theorem T19 (n : Nat) : ∀ ⦃l1 : List D⦄ ⦃l2 : List D⦄ ⦃b3 : Bool⦄ ⦃r1 : Bool⦄, F19 n l1 l2 b3 = some r1 →
    Trip Try.prog 19 [.d (.agg [.list true 16 l1]), .d (.agg [.list true 16 l2]), .d (.bool b3)] [] (.v (.d (.bool r1))) [] [] := by
  intro l1 l2 b3 r1 h
  unfold F19 at h
  refine Trip.of tab_ok tab_one fol Try.func19 rfl (by kernel_rfl) rfl rfl rfl (fun M hM => ?_)
  try cbv
  obtain ⟨z4, hz, h⟩ := lenF_inv M h
  refine ⟨z4, hz, ?_⟩
  clear hz
  try cbv
  obtain ⟨z5, hz, h⟩ := lenF_inv M h
  refine ⟨z5, hz, ?_⟩
  clear hz
  try cbv
  refine splitI (fun e => ?_) (fun e => ?_)
  · replace h := ite_t e h
    clear e
    try cbv
    refine loop_inv (T := Nat × Int) [2, 3, 4, 6, 7] [.loc 0, .loc 8] 88 (fun t => ⟨[(2, .v (.d (.bool b3))), (3, .v (.c (.ptr (.loc 0) 0))), (4, .v (.c (.ptr (.loc 8) 0))), (6, .v (.d (.bool false))), (7, .v (.d (.int .i64 t.2)))], [(.loc 0, .cells [.d (.list true 16 l1)]), (.loc 8, .cells [.d (.list true 16 l2)])], 88⟩)
      (fun t => t.1 ≤ n ∧ L19_1 t.1 l1 l2 b3 t.2 = some r1) (fun t => t.1) (n, (0 : Int)) ⟨Nat.le_refl _, h⟩ (by cbv) ?_
    clear h
    rintro ⟨m1, z6⟩ ⟨hm1, h⟩
    replace hm1 : m1 ≤ n := hm1
    cases m1 with
    | zero => cases (show (none : Option _) = some _ from h)
    | succ m1 =>
      replace h : L19_1 (m1 + 1) l1 l2 b3 z6 = some r1 := h
      rw [L19_1] at h
      try cbv
      obtain ⟨z7, hz, h⟩ := lenF_inv M h
      refine ⟨z7, hz, ?_⟩
      clear hz
      try cbv
      refine splitL (fun e => ?_) (fun e => ?_)
      · replace h := ite_t e h
        clear e
        try cbv
        obtain ⟨x8, ⟨hx0, hx⟩, h⟩ := getF_inv h
        refine ⟨x8, hx0, hx, ?_⟩
        clear hx0 hx
        obtain ⟨z9, s10, l11, z12, s13, l14, l15, z16, z17, s18, s19, s20, l21, l22, z23, z24, rfl, h⟩ := ds_t126_inv h
        try cbv
        obtain ⟨x25, ⟨hx0, hx⟩, h⟩ := getF_inv h
        refine ⟨x25, hx0, hx, ?_⟩
        clear hx0 hx
        obtain ⟨z26, s27, l28, z29, s30, l31, l32, z33, z34, s35, s36, s37, l38, l39, z40, z41, rfl, h⟩ := ds_t126_inv h
        try cbv
        refine drawn ?_ ?_
        · show _ = true
          kernel_rfl
        try cbv
        refine splitI (fun e => ?_) (fun e => ?_)
        · replace h := ite_t e h
          clear e
          try cbv
          refine splitS (fun e => ?_) (fun e => ?_)
          · replace h := ite_t (bytes_eq.1 e) h
            clear e
            try cbv
            cases b3
            · replace h := ite_f Bool.false_ne_true h
              try cbv
              obtain ⟨b47, hr, h⟩ := bO1_inv h
              refine call_pure hM (T78 _ hr) rfl ?_
              clear hr
              try cbv
              cases b47
              · replace h := ite_f Bool.false_ne_true h
                try cbv
                obtain rfl := Option.some.inj h
                exact ⟨[], List.nodup_nil, rfl, trivial, trivial⟩
              · replace h := ite_t rfl h
                try cbv
                obtain ⟨b48, hr, h⟩ := bO1_inv h
                refine call_pure hM (T21 _ hr) rfl ?_
                clear hr
                try cbv
                cases b48
                · replace h := ite_f Bool.false_ne_true h
                  try cbv
                  obtain rfl := Option.some.inj h
                  exact ⟨[], List.nodup_nil, rfl, trivial, trivial⟩
                · replace h := ite_t rfl h
                  try cbv
                  obtain ⟨b49, hr, h⟩ := bO1_inv h
                  refine call_pure hM (T79 _ hr) rfl ?_
                  clear hr
                  try cbv
                  cases b49
                  · replace h := ite_f Bool.false_ne_true h
                    try cbv
                    obtain rfl := Option.some.inj h
                    exact ⟨[], List.nodup_nil, rfl, trivial, trivial⟩
                  · replace h := ite_t rfl h
                    try cbv
                    obtain ⟨b50, hr, h⟩ := bO1_inv h
                    refine call_pure hM (T23 _ hr) rfl ?_
                    clear hr
                    try cbv
                    cases b50
                    · replace h := ite_f Bool.false_ne_true h
                      try cbv
                      obtain rfl := Option.some.inj h
                      exact ⟨[], List.nodup_nil, rfl, trivial, trivial⟩
                    · replace h := ite_t rfl h
                      try cbv
                      obtain ⟨z51, hz, h⟩ := letF_inv h
                      refine ⟨z51, hz, ?_⟩
                      clear hz
                      try cbv
                      exact loop_next (m1, z51) [2, 3, 4, 6, 7] [.loc 0, .loc 8] 88 ⟨by omega, h⟩ (Nat.lt_succ_of_le (by omega)) (by cbv)
            · replace h := ite_t rfl h
              try cbv
              refine splitI (fun e => ?_) (fun e => ?_)
              · replace h := ite_t e h
                clear e
                try cbv
                obtain ⟨b42, hr, h⟩ := bO1_inv h
                refine call_pure hM (T78 _ hr) rfl ?_
                clear hr
                try cbv
                cases b42
                · replace h := ite_f Bool.false_ne_true h
                  try cbv
                  obtain rfl := Option.some.inj h
                  exact ⟨[], List.nodup_nil, rfl, trivial, trivial⟩
                · replace h := ite_t rfl h
                  try cbv
                  obtain ⟨b43, hr, h⟩ := bO1_inv h
                  refine call_pure hM (T21 _ hr) rfl ?_
                  clear hr
                  try cbv
                  cases b43
                  · replace h := ite_f Bool.false_ne_true h
                    try cbv
                    obtain rfl := Option.some.inj h
                    exact ⟨[], List.nodup_nil, rfl, trivial, trivial⟩
                  · replace h := ite_t rfl h
                    try cbv
                    obtain ⟨b44, hr, h⟩ := bO1_inv h
                    refine call_pure hM (T79 _ hr) rfl ?_
                    clear hr
                    try cbv
                    cases b44
                    · replace h := ite_f Bool.false_ne_true h
                      try cbv
                      obtain rfl := Option.some.inj h
                      exact ⟨[], List.nodup_nil, rfl, trivial, trivial⟩
                    · replace h := ite_t rfl h
                      try cbv
                      obtain ⟨b45, hr, h⟩ := bO1_inv h
                      refine call_pure hM (T23 _ hr) rfl ?_
                      clear hr
                      try cbv
                      cases b45
                      · replace h := ite_f Bool.false_ne_true h
                        try cbv
                        obtain rfl := Option.some.inj h
                        exact ⟨[], List.nodup_nil, rfl, trivial, trivial⟩
                      · replace h := ite_t rfl h
                        try cbv
                        obtain ⟨z46, hz, h⟩ := letF_inv h
                        refine ⟨z46, hz, ?_⟩
                        clear hz
                        try cbv
                        exact loop_next (m1, z46) [2, 3, 4, 6, 7] [.loc 0, .loc 8] 88 ⟨by omega, h⟩ (Nat.lt_succ_of_le (by omega)) (by cbv)
              · replace h := ite_f e h
                clear e
                try cbv
                obtain rfl := Option.some.inj h
                exact ⟨[], List.nodup_nil, rfl, trivial, trivial⟩
          · replace h := ite_f (bytes_ne.1 e) h
            clear e
            try cbv
            obtain rfl := Option.some.inj h
            exact ⟨[], List.nodup_nil, rfl, trivial, trivial⟩
        · replace h := ite_f e h
          clear e
          try cbv
          obtain rfl := Option.some.inj h
          exact ⟨[], List.nodup_nil, rfl, trivial, trivial⟩
      · replace h := ite_f (Int.not_lt.2 e) h
        clear e
        try cbv
        obtain rfl := Option.some.inj h
        exact ⟨[], List.nodup_nil, rfl, trivial, trivial⟩
  · replace h := ite_f e h
    clear e
    try cbv
    obtain rfl := Option.some.inj h
    exact ⟨[], List.nodup_nil, rfl, trivial, trivial⟩
end Go.Proofs.Ytiiojajgajnhpaa

/- Printed by lift.py: functional texts of functions, and their contracts. No condition. -/
set_option linter.unusedVariables false
namespace Go.Proofs.Ytiiojajgajnhpaa
open Go Go.AM
def F3 (n : Nat) (l1 : List D) (l2 : List D) (z3 : Int) (s4 : ByteArray) (l5 : List D) (z6 : Int) (s7 : ByteArray) (l8 : List D) (z9 : Int) (z10 : Int) (s11 : ByteArray) (s12 : ByteArray) (s13 : ByteArray) (l14 : List D) (l15 : List D) (z16 : Int) (z17 : Int) (z18 : Int) (s19 : ByteArray) (s20 : ByteArray) (s21 : ByteArray) (l22 : List D) (l23 : List D) (z24 : Int) : Option (Bool) :=
  bO1 (F15 n l1) fun b25 => (if b25 = true then some true else bO1 (F15 n l2) fun b26 => (if b26 = true then some true else bO1 (F16 n z3 s4 l5) fun b27 => (if b27 = true then some true else bO1 (F16 n z6 s7 l8) fun b28 => (if b28 = true then some true else bO1 (F17 n z9 z10 s11 s12 s13 l14 l15 z16) fun b29 => (if b29 = true then some true else bO1 (F17 n z17 z18 s19 s20 s21 l22 l23 z24) fun b30 => (if b30 = true then some true else bO1 (F18 n l1 l2) fun b31 => bO1 (F19 n l1 l2 false) fun b32 => (if b31 = true then (if b32 = true then bO1 (F20 n z3 s4 l5 z6 s7 l8) fun b33 => bO1 (F21 n z3 s4 l5 z6 s7 l8) fun b34 => (if b33 = true then (if b34 = true then bO1 (F22 n z9 z10 s11 s12 s13 l14 l15 z16 z17 z18 s19 s20 s21 l22 l23 z24) fun b35 => bO1 (F23 n z9 z10 s11 s12 s13 l14 l15 z16 z17 z18 s19 s20 s21 l22 l23 z24 false) fun b36 => (if b35 = true then (if b36 = true then some true else some false) else (if b36 = true then some false else some true)) else some false) else (if b34 = true then some false else bO1 (F22 n z9 z10 s11 s12 s13 l14 l15 z16 z17 z18 s19 s20 s21 l22 l23 z24) fun b37 => bO1 (F23 n z9 z10 s11 s12 s13 l14 l15 z16 z17 z18 s19 s20 s21 l22 l23 z24 false) fun b38 => (if b37 = true then (if b38 = true then some true else some false) else (if b38 = true then some false else some true)))) else some false) else (if b32 = true then some false else bO1 (F20 n z3 s4 l5 z6 s7 l8) fun b39 => bO1 (F21 n z3 s4 l5 z6 s7 l8) fun b40 => (if b39 = true then (if b40 = true then bO1 (F22 n z9 z10 s11 s12 s13 l14 l15 z16 z17 z18 s19 s20 s21 l22 l23 z24) fun b41 => bO1 (F23 n z9 z10 s11 s12 s13 l14 l15 z16 z17 z18 s19 s20 s21 l22 l23 z24 false) fun b42 => (if b41 = true then (if b42 = true then some true else some false) else (if b42 = true then some false else some true)) else some false) else (if b40 = true then some false else bO1 (F22 n z9 z10 s11 s12 s13 l14 l15 z16 z17 z18 s19 s20 s21 l22 l23 z24) fun b43 => bO1 (F23 n z9 z10 s11 s12 s13 l14 l15 z16 z17 z18 s19 s20 s21 l22 l23 z24 false) fun b44 => (if b43 = true then (if b44 = true then some true else some false) else (if b44 = true then some false else some true))))))))))))
set_option maxRecDepth 100000 in
set_option maxHeartbeats 40000000 in
theorem T3 (n : Nat) : ∀ ⦃l1 : List D⦄ ⦃l2 : List D⦄ ⦃z3 : Int⦄ ⦃s4 : ByteArray⦄ ⦃l5 : List D⦄ ⦃z6 : Int⦄ ⦃s7 : ByteArray⦄ ⦃l8 : List D⦄ ⦃z9 : Int⦄ ⦃z10 : Int⦄ ⦃s11 : ByteArray⦄ ⦃s12 : ByteArray⦄ ⦃s13 : ByteArray⦄ ⦃l14 : List D⦄ ⦃l15 : List D⦄ ⦃z16 : Int⦄ ⦃z17 : Int⦄ ⦃z18 : Int⦄ ⦃s19 : ByteArray⦄ ⦃s20 : ByteArray⦄ ⦃s21 : ByteArray⦄ ⦃l22 : List D⦄ ⦃l23 : List D⦄ ⦃z24 : Int⦄ ⦃r1 : Bool⦄, F3 n l1 l2 z3 s4 l5 z6 s7 l8 z9 z10 s11 s12 s13 l14 l15 z16 z17 z18 s19 s20 s21 l22 l23 z24 = some r1 →
    Trip Try.prog 3 [.d (.agg [.list true 16 l1]), .d (.agg [.list true 16 l2]), .d (.agg [.int .u8 z3, .str s4, .list true 3 l5]), .d (.agg [.int .u8 z6, .str s7, .list true 3 l8]), .d (.agg [.int .u8 z9, .int .i64 z10, .str s11, .str s12, .str s13, .list false 1 l14, .list true 8 l15, .int .i64 z16]), .d (.agg [.int .u8 z17, .int .i64 z18, .str s19, .str s20, .str s21, .list false 1 l22, .list true 8 l23, .int .i64 z24])] [] (.v (.d (.bool r1))) [] [] := by
  intro l1 l2 z3 s4 l5 z6 s7 l8 z9 z10 s11 s12 s13 l14 l15 z16 z17 z18 s19 s20 s21 l22 l23 z24 r1 h
  unfold F3 at h
  refine Trip.of tab_ok tab_one fol Try.func3 rfl (by kernel_rfl) rfl rfl rfl (fun M hM => ?_)
  try cbv
  obtain ⟨b25, hr, h⟩ := bO1_inv h
  refine call_pure hM (T15 _ hr) rfl ?_
  clear hr
  try cbv
  cases b25
  · replace h := ite_f Bool.false_ne_true h
    try cbv
    obtain ⟨b26, hr, h⟩ := bO1_inv h
    refine call_pure hM (T15 _ hr) rfl ?_
    clear hr
    try cbv
    cases b26
    · replace h := ite_f Bool.false_ne_true h
      try cbv
      obtain ⟨b27, hr, h⟩ := bO1_inv h
      refine call_pure hM (T16 _ hr) rfl ?_
      clear hr
      try cbv
      cases b27
      · replace h := ite_f Bool.false_ne_true h
        try cbv
        obtain ⟨b28, hr, h⟩ := bO1_inv h
        refine call_pure hM (T16 _ hr) rfl ?_
        clear hr
        try cbv
        cases b28
        · replace h := ite_f Bool.false_ne_true h
          try cbv
          obtain ⟨b29, hr, h⟩ := bO1_inv h
          refine call_pure hM (T17 _ hr) rfl ?_
          clear hr
          try cbv
          cases b29
          · replace h := ite_f Bool.false_ne_true h
            try cbv
            obtain ⟨b30, hr, h⟩ := bO1_inv h
            refine call_pure hM (T17 _ hr) rfl ?_
            clear hr
            try cbv
            cases b30
            · replace h := ite_f Bool.false_ne_true h
              try cbv
              obtain ⟨b31, hr, h⟩ := bO1_inv h
              refine call_pure hM (T18 _ hr) rfl ?_
              clear hr
              try cbv
              obtain ⟨b32, hr, h⟩ := bO1_inv h
              refine call_pure hM (T19 _ hr) rfl ?_
              clear hr
              try cbv
              cases b31
              · replace h := ite_f Bool.false_ne_true h
                try cbv
                cases b32
                · replace h := ite_f Bool.false_ne_true h
                  try cbv
                  obtain ⟨b39, hr, h⟩ := bO1_inv h
                  refine call_pure hM (T20 _ hr) rfl ?_
                  clear hr
                  try cbv
                  obtain ⟨b40, hr, h⟩ := bO1_inv h
                  refine call_pure hM (T21 _ hr) rfl ?_
                  clear hr
                  try cbv
                  cases b39
                  · replace h := ite_f Bool.false_ne_true h
                    try cbv
                    cases b40
                    · replace h := ite_f Bool.false_ne_true h
                      try cbv
                      obtain ⟨b43, hr, h⟩ := bO1_inv h
                      refine call_pure hM (T22 _ hr) rfl ?_
                      clear hr
                      try cbv
                      obtain ⟨b44, hr, h⟩ := bO1_inv h
                      refine call_pure hM (T23 _ hr) rfl ?_
                      clear hr
                      try cbv
                      cases b43
                      · replace h := ite_f Bool.false_ne_true h
                        try cbv
                        cases b44
                        · replace h := ite_f Bool.false_ne_true h
                          try cbv
                          refine drawn ?_ ?_
                          · show _ = true
                            kernel_rfl
                          try cbv
                          obtain rfl := Option.some.inj h
                          exact ⟨[], List.nodup_nil, rfl, trivial, trivial⟩
                        · replace h := ite_t rfl h
                          try cbv
                          refine drawn ?_ ?_
                          · show _ = true
                            kernel_rfl
                          try cbv
                          obtain rfl := Option.some.inj h
                          exact ⟨[], List.nodup_nil, rfl, trivial, trivial⟩
                      · replace h := ite_t rfl h
                        try cbv
                        cases b44
                        · replace h := ite_f Bool.false_ne_true h
                          try cbv
                          refine drawn ?_ ?_
                          · show _ = true
                            kernel_rfl
                          try cbv
                          obtain rfl := Option.some.inj h
                          exact ⟨[], List.nodup_nil, rfl, trivial, trivial⟩
                        · replace h := ite_t rfl h
                          try cbv
                          refine drawn ?_ ?_
                          · show _ = true
                            kernel_rfl
                          try cbv
                          obtain rfl := Option.some.inj h
                          exact ⟨[], List.nodup_nil, rfl, trivial, trivial⟩
                    · replace h := ite_t rfl h
                      try cbv
                      refine drawn ?_ ?_
                      · show _ = true
                        kernel_rfl
                      try cbv
                      obtain rfl := Option.some.inj h
                      exact ⟨[], List.nodup_nil, rfl, trivial, trivial⟩
                  · replace h := ite_t rfl h
                    try cbv
                    cases b40
                    · replace h := ite_f Bool.false_ne_true h
                      try cbv
                      refine drawn ?_ ?_
                      · show _ = true
                        kernel_rfl
                      try cbv
                      obtain rfl := Option.some.inj h
                      exact ⟨[], List.nodup_nil, rfl, trivial, trivial⟩
                    · replace h := ite_t rfl h
                      try cbv
                      obtain ⟨b41, hr, h⟩ := bO1_inv h
                      refine call_pure hM (T22 _ hr) rfl ?_
                      clear hr
                      try cbv
                      obtain ⟨b42, hr, h⟩ := bO1_inv h
                      refine call_pure hM (T23 _ hr) rfl ?_
                      clear hr
                      try cbv
                      cases b41
                      · replace h := ite_f Bool.false_ne_true h
                        try cbv
                        cases b42
                        · replace h := ite_f Bool.false_ne_true h
                          try cbv
                          refine drawn ?_ ?_
                          · show _ = true
                            kernel_rfl
                          try cbv
                          obtain rfl := Option.some.inj h
                          exact ⟨[], List.nodup_nil, rfl, trivial, trivial⟩
                        · replace h := ite_t rfl h
                          try cbv
                          refine drawn ?_ ?_
                          · show _ = true
                            kernel_rfl
                          try cbv
                          obtain rfl := Option.some.inj h
                          exact ⟨[], List.nodup_nil, rfl, trivial, trivial⟩
                      · replace h := ite_t rfl h
                        try cbv
                        cases b42
                        · replace h := ite_f Bool.false_ne_true h
                          try cbv
                          refine drawn ?_ ?_
                          · show _ = true
                            kernel_rfl
                          try cbv
                          obtain rfl := Option.some.inj h
                          exact ⟨[], List.nodup_nil, rfl, trivial, trivial⟩
                        · replace h := ite_t rfl h
                          try cbv
                          refine drawn ?_ ?_
                          · show _ = true
                            kernel_rfl
                          try cbv
                          obtain rfl := Option.some.inj h
                          exact ⟨[], List.nodup_nil, rfl, trivial, trivial⟩
                · replace h := ite_t rfl h
                  try cbv
                  refine drawn ?_ ?_
                  · show _ = true
                    kernel_rfl
                  try cbv
                  obtain rfl := Option.some.inj h
                  exact ⟨[], List.nodup_nil, rfl, trivial, trivial⟩
              · replace h := ite_t rfl h
                try cbv
                cases b32
                · replace h := ite_f Bool.false_ne_true h
                  try cbv
                  refine drawn ?_ ?_
                  · show _ = true
                    kernel_rfl
                  try cbv
                  obtain rfl := Option.some.inj h
                  exact ⟨[], List.nodup_nil, rfl, trivial, trivial⟩
                · replace h := ite_t rfl h
                  try cbv
                  obtain ⟨b33, hr, h⟩ := bO1_inv h
                  refine call_pure hM (T20 _ hr) rfl ?_
                  clear hr
                  try cbv
                  obtain ⟨b34, hr, h⟩ := bO1_inv h
                  refine call_pure hM (T21 _ hr) rfl ?_
                  clear hr
                  try cbv
                  cases b33
                  · replace h := ite_f Bool.false_ne_true h
                    try cbv
                    cases b34
                    · replace h := ite_f Bool.false_ne_true h
                      try cbv
                      obtain ⟨b37, hr, h⟩ := bO1_inv h
                      refine call_pure hM (T22 _ hr) rfl ?_
                      clear hr
                      try cbv
                      obtain ⟨b38, hr, h⟩ := bO1_inv h
                      refine call_pure hM (T23 _ hr) rfl ?_
                      clear hr
                      try cbv
                      cases b37
                      · replace h := ite_f Bool.false_ne_true h
                        try cbv
                        cases b38
                        · replace h := ite_f Bool.false_ne_true h
                          try cbv
                          refine drawn ?_ ?_
                          · show _ = true
                            kernel_rfl
                          try cbv
                          obtain rfl := Option.some.inj h
                          exact ⟨[], List.nodup_nil, rfl, trivial, trivial⟩
                        · replace h := ite_t rfl h
                          try cbv
                          refine drawn ?_ ?_
                          · show _ = true
                            kernel_rfl
                          try cbv
                          obtain rfl := Option.some.inj h
                          exact ⟨[], List.nodup_nil, rfl, trivial, trivial⟩
                      · replace h := ite_t rfl h
                        try cbv
                        cases b38
                        · replace h := ite_f Bool.false_ne_true h
                          try cbv
                          refine drawn ?_ ?_
                          · show _ = true
                            kernel_rfl
                          try cbv
                          obtain rfl := Option.some.inj h
                          exact ⟨[], List.nodup_nil, rfl, trivial, trivial⟩
                        · replace h := ite_t rfl h
                          try cbv
                          refine drawn ?_ ?_
                          · show _ = true
                            kernel_rfl
                          try cbv
                          obtain rfl := Option.some.inj h
                          exact ⟨[], List.nodup_nil, rfl, trivial, trivial⟩
                    · replace h := ite_t rfl h
                      try cbv
                      refine drawn ?_ ?_
                      · show _ = true
                        kernel_rfl
                      try cbv
                      obtain rfl := Option.some.inj h
                      exact ⟨[], List.nodup_nil, rfl, trivial, trivial⟩
                  · replace h := ite_t rfl h
                    try cbv
                    cases b34
                    · replace h := ite_f Bool.false_ne_true h
                      try cbv
                      refine drawn ?_ ?_
                      · show _ = true
                        kernel_rfl
                      try cbv
                      obtain rfl := Option.some.inj h
                      exact ⟨[], List.nodup_nil, rfl, trivial, trivial⟩
                    · replace h := ite_t rfl h
                      try cbv
                      obtain ⟨b35, hr, h⟩ := bO1_inv h
                      refine call_pure hM (T22 _ hr) rfl ?_
                      clear hr
                      try cbv
                      obtain ⟨b36, hr, h⟩ := bO1_inv h
                      refine call_pure hM (T23 _ hr) rfl ?_
                      clear hr
                      try cbv
                      cases b35
                      · replace h := ite_f Bool.false_ne_true h
                        try cbv
                        cases b36
                        · replace h := ite_f Bool.false_ne_true h
                          try cbv
                          refine drawn ?_ ?_
                          · show _ = true
                            kernel_rfl
                          try cbv
                          obtain rfl := Option.some.inj h
                          exact ⟨[], List.nodup_nil, rfl, trivial, trivial⟩
                        · replace h := ite_t rfl h
                          try cbv
                          refine drawn ?_ ?_
                          · show _ = true
                            kernel_rfl
                          try cbv
                          obtain rfl := Option.some.inj h
                          exact ⟨[], List.nodup_nil, rfl, trivial, trivial⟩
                      · replace h := ite_t rfl h
                        try cbv
                        cases b36
                        · replace h := ite_f Bool.false_ne_true h
                          try cbv
                          refine drawn ?_ ?_
                          · show _ = true
                            kernel_rfl
                          try cbv
                          obtain rfl := Option.some.inj h
                          exact ⟨[], List.nodup_nil, rfl, trivial, trivial⟩
                        · replace h := ite_t rfl h
                          try cbv
                          refine drawn ?_ ?_
                          · show _ = true
                            kernel_rfl
                          try cbv
                          obtain rfl := Option.some.inj h
                          exact ⟨[], List.nodup_nil, rfl, trivial, trivial⟩
            · replace h := ite_t rfl h
              try cbv
              obtain rfl := Option.some.inj h
              exact ⟨[], List.nodup_nil, rfl, trivial, trivial⟩
          · replace h := ite_t rfl h
            try cbv
            obtain rfl := Option.some.inj h
            exact ⟨[], List.nodup_nil, rfl, trivial, trivial⟩
        · replace h := ite_t rfl h
          try cbv
          obtain rfl := Option.some.inj h
          exact ⟨[], List.nodup_nil, rfl, trivial, trivial⟩
      · replace h := ite_t rfl h
        try cbv
        obtain rfl := Option.some.inj h
        exact ⟨[], List.nodup_nil, rfl, trivial, trivial⟩
    · replace h := ite_t rfl h
      try cbv
      obtain rfl := Option.some.inj h
      exact ⟨[], List.nodup_nil, rfl, trivial, trivial⟩
  · replace h := ite_t rfl h
    try cbv
    obtain rfl := Option.some.inj h
    exact ⟨[], List.nodup_nil, rfl, trivial, trivial⟩
end Go.Proofs.Ytiiojajgajnhpaa

/- TreeSame, the plain law, part A: the room's functions come to an end. No condition. -/
namespace Go.Proofs.Ytiiojajgajnhpaa
open Go Go.AM

theorem ilt {i N : Nat} (h : i < N) : (i : Int) < (N : Int) := Int.ofNat_lt.2 h

theorem tot68 (s : ByteArray) (z : Int) : ∃ r, Ev (fun n => F68 n s z) r := by
  simp only [F68, szF, letF]
  by_cases h : z < 5
  · exact ⟨_, by simp only [if_pos h]; exact Ev.ret⟩
  · by_cases h2 : IntKind.i64.wrap (z - 5) < s.size
    · exact ⟨_, by simp only [if_neg h, if_pos h2]; exact Ev.ret⟩
    · exact ⟨_, by simp only [if_neg h, if_neg h2]; exact Ev.ret⟩

theorem totL120 {L : List D} (hL : ListS tab 9 L) : ∀ i, i ≤ L.length → ∀ z, ∃ r, Ev (fun n => L120_1 n L (i : Int) z) r := by
  refine down L.length (fun z => ⟨z, Ev.succ (by simp [L120_1, lenF, Ev.ret])⟩) (fun i hi ih z => ?_)
  obtain ⟨x, hx, hm, hr⟩ := hL.get hi
  obtain ⟨s, rfl, _⟩ := rs9 hr
  by_cases hz : 0 ≤ z
  · obtain ⟨z', h1⟩ := tot68 s z
    obtain ⟨r, h2⟩ := ih z'
    refine ⟨r, Ev.succ ?_⟩
    simp only [L120_1, lenF, letF, if_pos (ilt hi), if_pos hz, getF_nat hx, ds_str, wrap_succ hi hL.1]
    exact Ev.bO1 h1 h2
  · exact ⟨z, Ev.succ (by simp only [L120_1, lenF, if_pos (ilt hi), if_neg hz]; exact Ev.ret)⟩
theorem tot120 {L : List D} (hL : ListS tab 9 L) (z : Int) : ∃ r, Ev (fun n => F120 n L z) r := by
  simp only [F120, letF]
  exact totL120 hL 0 (Nat.zero_le _) _
theorem tot121 (s : ByteArray) {L : List D} (hL : ListS tab 9 L) (z : Int) : ∃ r, Ev (fun n => F121 n s L z) r := by
  obtain ⟨a, h1⟩ := tot68 s z
  obtain ⟨b, h2⟩ := tot120 hL a
  refine ⟨b, ?_⟩
  simp only [F121]
  exact Ev.bO1 h1 (Ev.bO1 h2 Ev.ret)

theorem tot70 (L : List D) : ListS tab 27 L → ∀ k s z, ∃ r, Ev (fun n => F70 n k s L z) r := by
  induction L using list_ind with
  | H L IH =>
  intro hL k s z
  have loop : ∀ i, i ≤ L.length → ∀ z, ∃ r, Ev (fun n => L70_1 n L (i : Int) z) r := by
    refine down L.length (fun z => ⟨z, Ev.succ (by simp [L70_1, lenF, Ev.ret])⟩) (fun i hi ih z => ?_)
    obtain ⟨x, hx, hm, hr⟩ := hL.get hi
    obtain ⟨k, s, M, rfl, _, _, hM⟩ := rs27 hr
    by_cases hz : 0 ≤ z
    · obtain ⟨z', h1⟩ := IH M (size_row (ag := true) (sz := 3) hm (by simp)) hM k s z
      obtain ⟨r, h2⟩ := ih z'
      refine ⟨r, Ev.succ ?_⟩
      simp only [L70_1, lenF, letF, if_pos (ilt hi), if_pos hz, getF_nat hx, ds_t27, wrap_succ hi hL.1]
      exact Ev.bO1 h1 h2
    · exact ⟨z, Ev.succ (by simp only [L70_1, lenF, if_pos (ilt hi), if_neg hz]; exact Ev.ret)⟩
  obtain ⟨a, h1⟩ := tot68 s z
  obtain ⟨b, h2⟩ := loop 0 (Nat.zero_le _) a
  refine ⟨b, Ev.succ ?_⟩
  simp only [F70]
  exact Ev.bO1 h1 h2

theorem totL69 {L : List D} (hL : ListS tab 136 L) : ∀ i, i ≤ L.length → ∀ z, ∃ r, Ev (fun n => L69_1 n L (i : Int) z) r := by
  refine down L.length (fun z => ⟨z, Ev.succ (by simp [L69_1, lenF, Ev.ret])⟩) (fun i hi ih z => ?_)
  obtain ⟨x, hx, hm, hr⟩ := hL.get hi
  obtain ⟨s, k, s', M, rfl, _, _, _, hM⟩ := rs136 hr
  by_cases hz : 0 ≤ z
  · obtain ⟨z', h1⟩ := tot68 s z
    obtain ⟨z'', h3⟩ := tot70 M hM k s' z'
    obtain ⟨r, h2⟩ := ih z''
    refine ⟨r, Ev.succ ?_⟩
    simp only [L69_1, lenF, letF, if_pos (ilt hi), if_pos hz, getF_nat hx, ds_t136, wrap_succ hi hL.1]
    exact Ev.bO1 h1 (Ev.bO1 h3 h2)
  · exact ⟨z, Ev.succ (by simp only [L69_1, lenF, if_pos (ilt hi), if_neg hz]; exact Ev.ret)⟩
theorem tot69 {L : List D} (hL : ListS tab 136 L) (z : Int) : ∃ r, Ev (fun n => F69 n L z) r := by
  simp only [F69]
  exact totL69 hL 0 (Nat.zero_le _) _

theorem tot72 (L : List D) : ListS tab 33 L → ∀ k i s t p P, ListS tab 9 P → ∀ a z, ∃ r, Ev (fun n => F72 n k i s t p P L a z) r := by
  induction L using list_ind with
  | H L IH =>
  intro hL k i s t p P hP a z
  have loop : ∀ i, i ≤ L.length → ∀ z, ∃ r, Ev (fun n => L72_1 n L (i : Int) z) r := by
    refine down L.length (fun z => ⟨z, Ev.succ (by simp [L72_1, lenF, Ev.ret])⟩) (fun i hi ih z => ?_)
    obtain ⟨x, hx, hm, hr⟩ := hL.get hi
    obtain ⟨k, j, s, t, p, P, M, a, rfl, _, _, _, _, _, hP, hM, _⟩ := rs33 hr
    by_cases hz : 0 ≤ z
    · obtain ⟨z', h1⟩ := IH M (size_row (ag := true) (sz := 8) hm (by simp)) hM k j s t p P hP a z
      obtain ⟨r, h2⟩ := ih z'
      refine ⟨r, Ev.succ ?_⟩
      simp only [L72_1, lenF, letF, if_pos (ilt hi), if_pos hz, getF_nat hx, ds_t33, wrap_succ hi hL.1]
      exact Ev.bO1 h1 h2
    · exact ⟨z, Ev.succ (by simp only [L72_1, lenF, if_pos (ilt hi), if_neg hz]; exact Ev.ret)⟩
  obtain ⟨z1, h1⟩ := tot68 s z
  obtain ⟨z2, h2⟩ := tot68 t z1
  obtain ⟨z3, h3⟩ := tot121 p hP z2
  obtain ⟨b, h4⟩ := loop 0 (Nat.zero_le _) z3
  refine ⟨b, Ev.succ ?_⟩
  simp only [F72]
  exact Ev.bO1 h1 (Ev.bO1 h2 (Ev.bO1 h3 h4))

theorem tot71 (L : List D) : ListS tab 152 L → ∀ z, ∃ r, Ev (fun n => F71 n L z) r := by
  induction L using list_ind with
  | H L IH =>
  intro hL z
  have loop : ∀ i, i ≤ L.length → ∀ z, ∃ r, Ev (fun n => L71_1 n L (i : Int) z) r := by
    refine down L.length (fun z => ⟨z, Ev.succ (by simp [L71_1, lenF, Ev.ret])⟩) (fun i hi ih z => ?_)
    obtain ⟨x, hx, hm, hr⟩ := hL.get hi
    obtain ⟨op, s1, s2, N, tk, tn, tl, v, pn, pp, E, B, C, R, at_, rfl, _, _, _, hN, _, _, htl, _, _, hpp, hE, hB, hC, hR, _⟩ := rs152 hr
    have nx : ∀ z, ∃ r, Ev (fun n => L71_1 n L (IntKind.i64.wrap ((i : Int) + 1)) z) r := by rw [wrap_succ hi hL.1]; exact ih
    have arms : ∀ k, k ≤ R.length → ∀ z, ∃ r, Ev (fun n => L71_3 n L (i : Int) R (k : Int) z) r := by
      refine down R.length (fun z => ?_) (fun k hk ihk z => ?_)
      · obtain ⟨r, h⟩ := nx z
        exact ⟨r, Ev.succ (by simpa [L71_3, lenF, letF] using h)⟩
      · obtain ⟨y, hy, hmy, hry⟩ := hR.get hk
        obtain ⟨v1, v2, M, rfl, _, _, hM⟩ := rs154 hry
        by_cases hz : 0 ≤ z
        · obtain ⟨z1, h1⟩ := tot68 v1 z
          obtain ⟨z2, h2⟩ := tot68 v2 z1
          obtain ⟨z3, h3⟩ := IH M (Nat.lt_trans (size_row (ag := true) (sz := 15) hmy (by simp)) (size_row (ag := true) (sz := 3) hm (by simp))) hM z2
          obtain ⟨r, h4⟩ := ihk z3
          refine ⟨r, Ev.succ ?_⟩
          simp only [L71_3, lenF, letF, if_pos (ilt hk), if_pos hz, getF_nat hy, ds_t154, wrap_succ hk hR.1]
          exact Ev.bO1 h1 (Ev.bO1 h2 (Ev.bO1 h3 h4))
        · obtain ⟨r, h⟩ := nx z
          exact ⟨r, Ev.succ (by simp only [L71_3, lenF, letF, if_pos (ilt hk), if_neg hz]; exact h)⟩
    have tail : ∀ z, ∃ r, Ev (fun n => if z < 0 then some z else bO1 (F71 n B z) fun a => bO1 (F71 n C a) fun b => L71_3 n L (i : Int) R 0 b) r := by
      intro z
      by_cases hz : z < 0
      · exact ⟨z, by simp only [if_pos hz]; exact Ev.ret⟩
      · obtain ⟨z1, h1⟩ := IH B (size_row (ag := true) (sz := 15) hm (by simp)) hB z
        obtain ⟨z2, h2⟩ := IH C (size_row (ag := true) (sz := 15) hm (by simp)) hC z1
        obtain ⟨r, h3⟩ := arms 0 (Nat.zero_le _) z2
        exact ⟨r, by simp only [if_neg hz]; exact Ev.bO1 h1 (Ev.bO1 h2 h3)⟩
    have exprs : ∀ k, k ≤ E.length → ∀ z, ∃ r, Ev (fun n => L71_2 n L (i : Int) E B C R (k : Int) z) r := by
      refine down E.length (fun z => ?_) (fun k hk ihk z => ?_)
      · obtain ⟨r, h⟩ := tail z
        exact ⟨r, Ev.succ (by simpa [L71_2, lenF] using h)⟩
      · obtain ⟨y, hy, hmy, hry⟩ := hE.get hk
        obtain ⟨e0, e1, e2, e3, e4, e5, e6, e7, rfl, _, _, _, _, _, h5, h6, _⟩ := rs33 hry
        by_cases hz : 0 ≤ z
        · obtain ⟨z1, h1⟩ := tot72 e6 h6 e0 e1 e2 e3 e4 e5 h5 e7 z
          obtain ⟨r, h4⟩ := ihk z1
          refine ⟨r, Ev.succ ?_⟩
          simp only [L71_2, lenF, letF, if_pos (ilt hk), if_pos hz, getF_nat hy, ds_t33, wrap_succ hk hE.1]
          exact Ev.bO1 h1 h4
        · obtain ⟨r, h⟩ := tail z
          exact ⟨r, Ev.succ (by simp only [L71_2, lenF, if_pos (ilt hk), if_neg hz]; exact h)⟩
    by_cases hz : 0 ≤ z
    · obtain ⟨z1, h1⟩ := tot68 s1 z
      obtain ⟨z2, h2⟩ := tot68 s2 z1
      obtain ⟨z3, h3⟩ := tot120 hN z2
      obtain ⟨z4, h4⟩ := tot70 tl htl tk tn z3
      obtain ⟨z5, h5⟩ := tot121 pn hpp z4
      obtain ⟨r, h6⟩ := exprs 0 (Nat.zero_le _) z5
      refine ⟨r, Ev.succ ?_⟩
      simp only [L71_1, lenF, if_pos (ilt hi), if_pos hz, getF_nat hx, ds_t152]
      exact Ev.bO1 h1 (Ev.bO1 h2 (Ev.bO1 h3 (Ev.bO1 h4 (Ev.bO1 h5 h6))))
    · exact ⟨z, Ev.succ (by simp only [L71_1, lenF, if_pos (ilt hi), if_neg hz]; exact Ev.ret)⟩
  obtain ⟨r, h⟩ := loop 0 (Nat.zero_le _) z
  exact ⟨r, Ev.succ (by simp only [F71]; exact h)⟩

theorem fin0 (z : Int) : ∃ r, Ev (fun _ => if z < (0 : Int) then some true else some false) r := by
  by_cases h : z < 0
  · exact ⟨_, by simp only [if_pos h]; exact Ev.ret⟩
  · exact ⟨_, by simp only [if_neg h]; exact Ev.ret⟩
theorem tot15 {L : List D} (hL : ListS tab 126 L) : ∃ r, Ev (fun n => F15 n L) r := by
  have loop : ∀ i, i ≤ L.length → ∀ z, ∃ r, Ev (fun n => L15_1 n L (i : Int) z) r := by
    refine down L.length (fun z => ?_) (fun i hi ih z => ?_)
    · obtain ⟨r, h⟩ := fin0 z
      exact ⟨r, Ev.succ (by simpa [L15_1, lenF] using h)⟩
    · obtain ⟨x, hx, hm, hr⟩ := hL.get hi
      obtain ⟨k, nm, Fs, rk, rn, rl, B, e0, e1, e2, e3, e4, e5, e6, e7, at_, rfl, _, _, hF, _, _, hrl, hB, _, _, _, _, _, h5, h6, _, _⟩ := rs126 hr
      by_cases hz : 0 ≤ z
      · obtain ⟨z1, h1⟩ := tot68 nm z
        obtain ⟨z2, h2⟩ := tot69 hF z1
        obtain ⟨z3, h3⟩ := tot70 rl hrl rk rn z2
        obtain ⟨z4, h4⟩ := tot71 B hB z3
        obtain ⟨z5, h5⟩ := tot72 e6 h6 e0 e1 e2 e3 e4 e5 h5 e7 z4
        obtain ⟨r, h6⟩ := ih z5
        refine ⟨r, Ev.succ ?_⟩
        simp only [L15_1, lenF, letF, if_pos (ilt hi), if_pos hz, getF_nat hx, ds_t126, wrap_succ hi hL.1]
        exact Ev.bO1 h1 (Ev.bO1 h2 (Ev.bO1 h3 (Ev.bO1 h4 (Ev.bO1 h5 h6))))
      · obtain ⟨r, h⟩ := fin0 z
        exact ⟨r, Ev.succ (by simp only [L15_1, lenF, if_pos (ilt hi), if_neg hz]; exact h)⟩
  simp only [F15]
  exact loop 0 (Nat.zero_le _) _
theorem tot16 {L : List D} (hL : ListS tab 27 L) (k : Int) (s : ByteArray) : ∃ r, Ev (fun n => F16 n k s L) r := by
  obtain ⟨a, h1⟩ := tot70 L hL k s 20000
  obtain ⟨b, h2⟩ := fin0 a
  exact ⟨b, by simp only [F16]; exact Ev.bO1 h1 h2⟩
theorem tot17 {P L : List D} (hP : ListS tab 9 P) (hL : ListS tab 33 L) (k i : Int) (s t p : ByteArray) (a : Int) : ∃ r, Ev (fun n => F17 n k i s t p P L a) r := by
  obtain ⟨z, h1⟩ := tot72 L hL k i s t p P hP a 20000
  obtain ⟨b, h2⟩ := fin0 z
  exact ⟨b, by simp only [F17]; exact Ev.bO1 h1 h2⟩
end Go.Proofs.Ytiiojajgajnhpaa

/- TreeSame, the plain law, part B: the program's answer and the document's are one. No condition. -/
namespace Go.Proofs.Ytiiojajgajnhpaa
open Go Go.AM

/-- Two truths one behind the other. -/
theorem and_ret {a : Bool} : Ev (fun _ => some a) a := Ev.ret

theorem len_ne_cast {a b : Nat} (h : a ≠ b) : ¬ (a : Int) = (b : Int) := fun e => h (Int.ofNat.inj e)

theorem agNames {L M : List D} (hL : ListS tab 9 L) (hM : ListS tab 9 M) : ∃ r, Ev (fun n => F125 n L M) r ∧ Ev (fun n => F124 n L M) r := by
  by_cases he : L.length = M.length
  · have loop : ∀ i, i ≤ L.length → ∃ r, Ev (fun n => L125_1 n L M (L.length : Int) (i : Int)) r ∧ Ev (fun n => L124_1 n L M (i : Int)) r := by
      refine down L.length ⟨true, Ev.succ (by simp [L125_1, Ev.ret]), Ev.succ (by simp [L124_1, lenF, Ev.ret])⟩ (fun i hi ih => ?_)
      obtain ⟨x, hx, hm, hr⟩ := hL.get hi
      obtain ⟨s, rfl, _⟩ := rs9 hr
      obtain ⟨y, hy, hm', hr'⟩ := hM.get (he ▸ hi)
      obtain ⟨t, rfl, _⟩ := rs9 hr'
      obtain ⟨r, h1, h2⟩ := ih
      by_cases h : s = t
      · refine ⟨r, Ev.succ ?_, Ev.succ ?_⟩
        · simpa only [L125_1, letF, if_pos (ilt hi), getF_nat hx, getF_nat hy, ds_str, if_pos h, wrap_succ hi hL.1] using h1
        · simpa only [L124_1, lenF, letF, if_pos (ilt hi), getF_nat hx, getF_nat hy, ds_str, if_pos h, wrap_succ hi hL.1] using h2
      · refine ⟨false, Ev.succ ?_, Ev.succ ?_⟩
        · simp only [L125_1, if_pos (ilt hi), getF_nat hx, getF_nat hy, ds_str, if_neg h]; exact Ev.ret
        · simp only [L124_1, lenF, if_pos (ilt hi), getF_nat hx, getF_nat hy, ds_str, if_neg h]; exact Ev.ret
    obtain ⟨r, h1, h2⟩ := loop 0 (Nat.zero_le _)
    refine ⟨r, ?_, ?_⟩
    · simpa only [F125, lenF, he, if_true] using (he ▸ h1)
    · simp only [F124, lenF, he, if_true]; exact h2
  · refine ⟨false, ?_, ?_⟩
    · simp only [F125, lenF, if_neg (len_ne_cast he)]; exact Ev.ret
    · simp only [F124, lenF, if_neg (len_ne_cast he)]; exact Ev.ret

theorem agPlace (s t : ByteArray) {L M : List D} (hL : ListS tab 9 L) (hM : ListS tab 9 M) : ∃ r, Ev (fun n => F81 n s L t M) r ∧ Ev (fun n => F83 n s L t M) r := by
  by_cases h : s = t
  · obtain ⟨r, h1, h2⟩ := agNames hL hM
    refine ⟨r, ?_, ?_⟩
    · simp only [F81, if_pos h]; exact Ev.bO1 h1 Ev.ret
    · simp only [F83, if_pos h]; exact Ev.bO1 h2 Ev.ret
  · refine ⟨false, ?_, ?_⟩
    · simp only [F81, if_neg h]; exact Ev.ret
    · simp only [F83, if_neg h]; exact Ev.ret

theorem agType (L : List D) : ListS tab 27 L → ∀ (M : List D), ListS tab 27 M → ∀ k s k' s', ∃ r, Ev (fun n => F20 n k s L k' s' M) r ∧ Ev (fun n => F21 n k s L k' s' M) r := by
  induction L using list_ind with
  | H L IH =>
  intro hL M hM k s k' s'
  by_cases hk : k = k'
  · by_cases hs : s = s'
    · by_cases he : L.length = M.length
      · have loop : ∀ i, i ≤ L.length → ∃ r, Ev (fun n => L80_1 n L M (L.length : Int) (i : Int)) r ∧ Ev (fun n => L21_1 n L M (i : Int)) r := by
          refine down L.length ⟨true, Ev.succ (by simp [L80_1, Ev.ret]), Ev.succ (by simp [L21_1, lenF, Ev.ret])⟩ (fun i hi ih => ?_)
          obtain ⟨x, hx, hm, hr⟩ := hL.get hi
          obtain ⟨a, b, A, rfl, _, _, hA⟩ := rs27 hr
          obtain ⟨y, hy, hm', hr'⟩ := hM.get (he ▸ hi)
          obtain ⟨a', b', A', rfl, _, _, hA'⟩ := rs27 hr'
          obtain ⟨r, h1, h2⟩ := ih
          obtain ⟨q, h3, h4⟩ := IH A (size_row (ag := true) (sz := 3) hm (by simp)) hA A' hA' a b a' b'
          cases q
          · refine ⟨false, Ev.succ ?_, Ev.succ ?_⟩
            · simp only [L80_1, if_pos (ilt hi), getF_nat hx, getF_nat hy, ds_t27]; exact Ev.bO1 h3 Ev.ret
            · simp only [L21_1, lenF, if_pos (ilt hi), getF_nat hx, getF_nat hy, ds_t27]; exact Ev.bO1 h4 Ev.ret
          · refine ⟨r, Ev.succ ?_, Ev.succ ?_⟩
            · simp only [L80_1, letF, if_pos (ilt hi), getF_nat hx, getF_nat hy, ds_t27, wrap_succ hi hL.1]; exact Ev.bO1 h3 h1
            · simp only [L21_1, lenF, letF, if_pos (ilt hi), getF_nat hx, getF_nat hy, ds_t27, wrap_succ hi hL.1]; exact Ev.bO1 h4 h2
        obtain ⟨r, h1, h2⟩ := loop 0 (Nat.zero_le _)
        refine ⟨r, Ev.succ ?_, Ev.succ ?_⟩
        · simp only [F20, if_pos hk, if_pos hs]
          refine Ev.bO1 (Ev.succ ?_) Ev.ret
          simpa only [F80, lenF, he, if_true] using (he ▸ h1)
        · simp only [F21, lenF, if_pos hk, if_pos hs, he, if_true]; exact h2
      · refine ⟨false, Ev.succ ?_, Ev.succ ?_⟩
        · simp only [F20, if_pos hk, if_pos hs]
          refine Ev.bO1 (Ev.succ ?_) Ev.ret
          simp only [F80, lenF, if_neg (len_ne_cast he)]; exact Ev.ret
        · simp only [F21, lenF, if_pos hk, if_pos hs, if_neg (len_ne_cast he)]; exact Ev.ret
    · refine ⟨false, Ev.succ ?_, Ev.succ ?_⟩
      · simp only [F20, if_pos hk, if_neg hs]; exact Ev.ret
      · simp only [F21, if_pos hk, if_neg hs]; exact Ev.ret
  · refine ⟨false, Ev.succ ?_, Ev.succ ?_⟩
    · simp only [F20, if_neg hk]; exact Ev.ret
    · simp only [F21, if_neg hk]; exact Ev.ret

theorem agExpr (L : List D) : ListS tab 33 L → ∀ (M : List D), ListS tab 33 M → ∀ P Q, ListS tab 9 P → ListS tab 9 Q → ∀ k i s t p z k' i' s' t' p' z',
    ∃ r, Ev (fun n => F22 n k i s t p P L z k' i' s' t' p' Q M z') r ∧ Ev (fun n => F23 n k i s t p P L z k' i' s' t' p' Q M z' false) r := by
  induction L using list_ind with
  | H L IH =>
  intro hL M hM P Q hP hQ k i s t p z k' i' s' t' p' z'
  obtain ⟨q, h3, h4⟩ := agPlace p p' hP hQ
  have lists : ∃ r, Ev (fun n => F82 n L M) r ∧ Ev (fun n => F84 n L M false) r := by
    by_cases he : L.length = M.length
    · have loop : ∀ i, i ≤ L.length → ∃ r, Ev (fun n => L82_1 n L M (L.length : Int) (i : Int)) r ∧ Ev (fun n => L84_1 n L M false (i : Int)) r := by
        refine down L.length ⟨true, Ev.succ (by simp [L82_1, Ev.ret]), Ev.succ (by simp [L84_1, lenF, Ev.ret])⟩ (fun i hi ih => ?_)
        obtain ⟨x, hx, hm, hr⟩ := hL.get hi
        obtain ⟨a0, a1, a2, a3, a4, a5, a6, a7, rfl, _, _, _, _, _, h5, h6, _⟩ := rs33 hr
        obtain ⟨y, hy, hm', hr'⟩ := hM.get (he ▸ hi)
        obtain ⟨b0, b1, b2, b3, b4, b5, b6, b7, rfl, _, _, _, _, _, h5', h6', _⟩ := rs33 hr'
        obtain ⟨r, h1, h2⟩ := ih
        obtain ⟨q, h3, h4⟩ := IH a6 (size_row (ag := true) (sz := 8) hm (by simp)) h6 b6 h6' a5 b5 h5 h5' a0 a1 a2 a3 a4 a7 b0 b1 b2 b3 b4 b7
        cases q
        · refine ⟨false, Ev.succ ?_, Ev.succ ?_⟩
          · simp only [L82_1, if_pos (ilt hi), getF_nat hx, getF_nat hy, ds_t33]; exact Ev.bO1 h3 Ev.ret
          · simp only [L84_1, lenF, if_pos (ilt hi), getF_nat hx, getF_nat hy, ds_t33]; exact Ev.bO1 h4 Ev.ret
        · refine ⟨r, Ev.succ ?_, Ev.succ ?_⟩
          · simp only [L82_1, letF, if_pos (ilt hi), getF_nat hx, getF_nat hy, ds_t33, wrap_succ hi hL.1]; exact Ev.bO1 h3 h1
          · simp only [L84_1, lenF, letF, if_pos (ilt hi), getF_nat hx, getF_nat hy, ds_t33, wrap_succ hi hL.1]; exact Ev.bO1 h4 h2
      obtain ⟨r, h1, h2⟩ := loop 0 (Nat.zero_le _)
      refine ⟨r, Ev.succ ?_, Ev.succ ?_⟩
      · simpa only [F82, lenF, he, if_true] using (he ▸ h1)
      · simp only [F84, lenF, he, if_true]; exact h2
    · refine ⟨false, Ev.succ ?_, Ev.succ ?_⟩
      · simp only [F82, lenF, if_neg (len_ne_cast he)]; exact Ev.ret
      · simp only [F84, lenF, if_neg (len_ne_cast he)]; exact Ev.ret
  obtain ⟨r, h1, h2⟩ := lists
  by_cases c : k = k' ∧ i = i' ∧ s = s' ∧ t = t'
  · obtain ⟨c1, c2, c3, c4⟩ := c
    cases q
    · refine ⟨false, Ev.succ ?_, Ev.succ ?_⟩
      · simp only [F22, if_pos c1, if_pos c2, if_pos c3, if_pos c4]; exact Ev.bO1 h3 Ev.ret
      · simp only [F23, if_pos c1, if_pos c2, if_pos c3, if_pos c4, Bool.false_eq_true, if_false]; exact Ev.bO1 h4 Ev.ret
    · refine ⟨r, Ev.succ ?_, Ev.succ ?_⟩
      · simp only [F22, if_pos c1, if_pos c2, if_pos c3, if_pos c4]; exact Ev.bO1 h3 (Ev.bO1 h1 Ev.ret)
      · simp only [F23, if_pos c1, if_pos c2, if_pos c3, if_pos c4, Bool.false_eq_true, if_false]; exact Ev.bO1 h4 (Ev.bO1 h2 Ev.ret)
  · refine ⟨false, Ev.succ ?_, Ev.succ ?_⟩
    · by_cases c1 : k = k' <;> by_cases c2 : i = i' <;> by_cases c3 : s = s' <;> by_cases c4 : t = t' <;> simp_all [F22, Ev.ret]
    · by_cases c1 : k = k' <;> by_cases c2 : i = i' <;> by_cases c3 : s = s' <;> by_cases c4 : t = t' <;> simp_all [F23, Ev.ret]

theorem agExprs {L M : List D} (hL : ListS tab 33 L) (hM : ListS tab 33 M) : ∃ r, Ev (fun n => F82 n L M) r ∧ Ev (fun n => F84 n L M false) r := by
  by_cases he : L.length = M.length
  · have loop : ∀ i, i ≤ L.length → ∃ r, Ev (fun n => L82_1 n L M (L.length : Int) (i : Int)) r ∧ Ev (fun n => L84_1 n L M false (i : Int)) r := by
      refine down L.length ⟨true, Ev.succ (by simp [L82_1, Ev.ret]), Ev.succ (by simp [L84_1, lenF, Ev.ret])⟩ (fun i hi ih => ?_)
      obtain ⟨x, hx, hm, hr⟩ := hL.get hi
      obtain ⟨a0, a1, a2, a3, a4, a5, a6, a7, rfl, _, _, _, _, _, h5, h6, _⟩ := rs33 hr
      obtain ⟨y, hy, hm', hr'⟩ := hM.get (he ▸ hi)
      obtain ⟨b0, b1, b2, b3, b4, b5, b6, b7, rfl, _, _, _, _, _, h5', h6', _⟩ := rs33 hr'
      obtain ⟨r, h1, h2⟩ := ih
      obtain ⟨q, h3, h4⟩ := agExpr a6 h6 b6 h6' a5 b5 h5 h5' a0 a1 a2 a3 a4 a7 b0 b1 b2 b3 b4 b7
      cases q
      · refine ⟨false, Ev.succ ?_, Ev.succ ?_⟩
        · simp only [L82_1, if_pos (ilt hi), getF_nat hx, getF_nat hy, ds_t33]; exact Ev.bO1 h3 Ev.ret
        · simp only [L84_1, lenF, if_pos (ilt hi), getF_nat hx, getF_nat hy, ds_t33]; exact Ev.bO1 h4 Ev.ret
      · refine ⟨r, Ev.succ ?_, Ev.succ ?_⟩
        · simp only [L82_1, letF, if_pos (ilt hi), getF_nat hx, getF_nat hy, ds_t33, wrap_succ hi hL.1]; exact Ev.bO1 h3 h1
        · simp only [L84_1, lenF, letF, if_pos (ilt hi), getF_nat hx, getF_nat hy, ds_t33, wrap_succ hi hL.1]; exact Ev.bO1 h4 h2
    obtain ⟨r, h1, h2⟩ := loop 0 (Nat.zero_le _)
    refine ⟨r, Ev.succ ?_, Ev.succ ?_⟩
    · simpa only [F82, lenF, he, if_true] using (he ▸ h1)
    · simp only [F84, lenF, he, if_true]; exact h2
  · refine ⟨false, Ev.succ ?_, Ev.succ ?_⟩
    · simp only [F82, lenF, if_neg (len_ne_cast he)]; exact Ev.ret
    · simp only [F84, lenF, if_neg (len_ne_cast he)]; exact Ev.ret
end Go.Proofs.Ytiiojajgajnhpaa
