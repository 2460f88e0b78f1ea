/- HeapApart of chapter 20 holds. No condition. (Part 5: YtiiojajgajnhpaaX65, YtiiojajgajnhpaaX56, YtiiojajgajnhpaaX66, YtiiojajgajnhpaaX67, YtiiojajgajnhpaaX14, HaA, HaB, AmR, HaC, HaD, HaE, HaRa.) -/
import Derived.Carry
import Derived.ChangeSame
import Derived.ChangeOld
import Derived.ChangeCalls
import Derived.WideShapes
import Derived.Test.YtiiojajgajnhpaaRows
import Derived.JoinedOf
import Derived.JoinedAt
import Derived.RowKit
import Derived.RowKit2
import Derived.ReadAgain
import Derived.ChangeAlike
import Derived.Test.YtiiojajgajnhpaaHpaD
set_option linter.unusedVariables false
set_option linter.unusedSimpArgs false
set_option linter.unusedVariables false
noncomputable section
namespace Go.Proofs.Ytiiojajgajnhpaa
open Go Go.AM
def F65 (n : Nat) : Option (Bool) :=
  bO0 (F60 n) (bO1 (F119 n (5 : Int)) fun z1 => bO4 (F51 n (1 : Int) z1 ByteArray.empty ([] : List D) (0 : Int) ([] : List D) (0 : Int) ([] : List D)) fun z2 z3 z4 l5 => bO1 (F119 n (1 : Int)) fun z6 => bO4 (F51 n (4 : Int) (0 : Int) k_S ([.agg [.int .u8 1, .int .i64 z6, .str ByteArray.empty, .list true 6 [], .int .i64 0, .list false 1 []], .agg [.int .u8 0, .int .i64 0, .str ByteArray.empty, .list true 6 [], .int .i64 0, .list false 1 []]]) (0 : Int) ([] : List D) z4 l5) fun z7 z8 z9 l10 => bO9 (F52 n (1 : Int) ([.int .i64 1]) z9 l10) fun z11 z12 s13 l14 z15 l16 z17 z18 l19 => bO9 (F52 n (2 : Int) ([] : List D) z18 l19) fun z20 z21 s22 l23 z24 l25 z26 z27 l28 => bO1 (F119 n (7 : Int)) fun z29 => bO3 (F55 n (1 : Int) ([.int .i64 1]) (1 : Int) z29 ByteArray.empty ([] : List D) (0 : Int) ([] : List D) z27 l28) fun z30 z31 l32 => bO1 (F119 n (8 : Int)) fun z33 => bO3 (F55 n (1 : Int) ([.int .i64 1]) (1 : Int) z33 ByteArray.empty ([] : List D) (0 : Int) ([] : List D) z31 l32) fun z34 z35 l36 => bO9 (F115 n (1 : Int) ([.int .i64 0]) z35 l36) fun z37 z38 s39 l40 z41 l42 z43 z44 l45 => bO9 (F115 n (1 : Int) ([.int .i64 0]) z44 l45) fun z46 z47 s48 l49 z50 l51 z52 z53 l54 => bO1 (F119 n (9 : Int)) fun z55 => bO9 (F53 n (1 : Int) ([.int .i64 1]) (1 : Int) z55 ByteArray.empty ([] : List D) (0 : Int) ([] : List D) z53 l54) fun z56 z57 s58 l59 z60 l61 z62 z63 l64 => bO9 (F54 n (0 : Int) z63 l64) fun z65 z66 s67 l68 z69 l70 z71 z72 l73 => bO9 (F54 n (0 : Int) z72 l73) fun z74 z75 s76 l77 z78 l79 z80 z81 l82 => bO9 (F52 n (0 : Int) ([] : List D) z81 l82) fun z83 z84 s85 l86 z87 l88 z89 z90 l91 => (if z2 = (0 : Int) then (if z3 = (0 : Int) then (if z7 = (1 : Int) then (if z8 = (0 : Int) then (if z17 = (3 : Int) then (if z26 = (6 : Int) then (if z30 = (0 : Int) then (if z34 = (6 : Int) then (if z38 = (1 : Int) then (if z43 = (0 : Int) then (if z52 = (3 : Int) then (if z57 = (7 : Int) then (if z62 = (0 : Int) then (if z66 = (5 : Int) then (if z71 = (0 : Int) then (if z80 = (2 : Int) then (if z89 = (1 : Int) then bO3 (F57 n z90 l91) fun z92 z93 l94 => (if z92 = (2 : Int) then bO3 (F58 n z93 l94) fun z95 z96 l97 => (if z95 = (1 : Int) then bO3 (F59 n z96 l97) fun z98 z99 l100 => (if z98 = (998 : Int) then some true else some false) else some false) else some false) else some false) else some false) else some false) else some false) else some false) else some false) else some false) else some false) else some false) else some false) else some false) else some false) else some false) else some false) else some false) else some false) else some false))
set_option maxRecDepth 100000 in
set_option maxHeartbeats 40000000 in
theorem T65 (n : Nat) : ∀ ⦃r1 : Bool⦄, F65 n = some r1 →
    Trip Try.prog inv 65 [] [] (.v (.d (.bool r1))) [] [] := by
  intro r1 h
  unfold F65 at h
  refine Trip.of tab_ok tab_one fol Try.func65 rfl (by kernel_rfl) rfl rfl rfl (fun M hM hI => ?_)
  try cbv
  refine seq_go ?_
  try cbv
  refine seq_go ?_
  try cbv
  replace h := bO0_inv h
  obtain ⟨hr, h⟩ := h
  refine call_go rfl rfl ?_
  try cbv
  refine call_with hM hI [] (T60 _ hr) rfl (by simp) trivial trivial (by simp) ?_
  clear hr
  try cbv
  refine seq_go ?_
  try cbv
  replace h := bO1_inv h
  obtain ⟨z1, hr, h⟩ := h
  refine call_go rfl rfl ?_
  try cbv
  refine call_pure hM hI (T119 _ hr) rfl ?_
  clear hr
  try cbv
  replace h := bO4_inv h
  obtain ⟨z2, z3, z4, l5, hr, h⟩ := h
  refine call_go rfl rfl ?_
  try cbv
  refine call_with hM hI [.loc 32, .loc 33] (T51 _ hr) rfl (by simp) ⟨rfl, ⟨rfl, trivial⟩⟩ ⟨trivial, ⟨trivial, trivial⟩⟩ (by simp) ?_
  clear hr
  try cbv
  refine seq_go ?_
  try cbv
  replace h := bO1_inv h
  obtain ⟨z6, hr, h⟩ := h
  refine call_go rfl rfl ?_
  try cbv
  refine call_pure hM hI (T119 _ hr) rfl ?_
  clear hr
  try cbv
  refine ⟨false, ?_⟩
  try cbv
  refine ⟨true, ?_⟩
  try cbv
  replace h := bO4_inv h
  obtain ⟨z7, z8, z9, l10, hr, h⟩ := h
  refine call_go rfl rfl ?_
  try cbv
  refine call_with hM hI [.loc 32, .loc 33] (T51 _ hr) rfl (by simp) ⟨rfl, ⟨rfl, trivial⟩⟩ ⟨trivial, ⟨trivial, trivial⟩⟩ (by simp) ?_
  clear hr
  try cbv
  refine seq_go ?_
  try cbv
  refine ⟨false, ?_⟩
  try cbv
  refine ⟨true, ?_⟩
  try cbv
  replace h := bO9_inv h
  obtain ⟨z11, z12, s13, l14, z15, l16, z17, z18, l19, hr, h⟩ := h
  refine call_go rfl rfl ?_
  try cbv
  refine call_with hM hI [.loc 32, .loc 33] (T52 _ hr) rfl (by simp) ⟨rfl, ⟨rfl, trivial⟩⟩ ⟨trivial, ⟨trivial, trivial⟩⟩ (by simp) ?_
  clear hr
  try cbv
  refine seq_go ?_
  try cbv
  replace h := bO9_inv h
  obtain ⟨z20, z21, s22, l23, z24, l25, z26, z27, l28, hr, h⟩ := h
  refine call_go rfl rfl ?_
  try cbv
  refine call_with hM hI [.loc 32, .loc 33] (T52 _ hr) rfl (by simp) ⟨rfl, ⟨rfl, trivial⟩⟩ ⟨trivial, ⟨trivial, trivial⟩⟩ (by simp) ?_
  clear hr
  try cbv
  refine seq_go ?_
  try cbv
  refine ⟨false, ?_⟩
  try cbv
  refine ⟨true, ?_⟩
  try cbv
  replace h := bO1_inv h
  obtain ⟨z29, hr, h⟩ := h
  refine call_go rfl rfl ?_
  try cbv
  refine call_pure hM hI (T119 _ hr) rfl ?_
  clear hr
  try cbv
  replace h := bO3_inv h
  obtain ⟨z30, z31, l32, hr, h⟩ := h
  refine call_go rfl rfl ?_
  try cbv
  refine call_with hM hI [.loc 32, .loc 33] (T55 _ hr) rfl (by simp) ⟨rfl, ⟨rfl, trivial⟩⟩ ⟨trivial, ⟨trivial, trivial⟩⟩ (by simp) ?_
  clear hr
  try cbv
  refine ⟨false, ?_⟩
  try cbv
  refine ⟨true, ?_⟩
  try cbv
  replace h := bO1_inv h
  obtain ⟨z33, hr, h⟩ := h
  refine call_go rfl rfl ?_
  try cbv
  refine call_pure hM hI (T119 _ hr) rfl ?_
  clear hr
  try cbv
  replace h := bO3_inv h
  obtain ⟨z34, z35, l36, hr, h⟩ := h
  refine call_go rfl rfl ?_
  try cbv
  refine call_with hM hI [.loc 32, .loc 33] (T55 _ hr) rfl (by simp) ⟨rfl, ⟨rfl, trivial⟩⟩ ⟨trivial, ⟨trivial, trivial⟩⟩ (by simp) ?_
  clear hr
  try cbv
  refine seq_go ?_
  try cbv
  refine ⟨false, ?_⟩
  try cbv
  refine ⟨true, ?_⟩
  try cbv
  replace h := bO9_inv h
  obtain ⟨z37, z38, s39, l40, z41, l42, z43, z44, l45, hr, h⟩ := h
  refine call_go rfl rfl ?_
  try cbv
  refine call_with hM hI [.loc 32, .loc 33] (T115 _ hr) rfl (by simp) ⟨rfl, ⟨rfl, trivial⟩⟩ ⟨trivial, ⟨trivial, trivial⟩⟩ (by simp) ?_
  clear hr
  try cbv
  refine seq_go ?_
  try cbv
  refine ⟨false, ?_⟩
  try cbv
  refine ⟨true, ?_⟩
  try cbv
  replace h := bO9_inv h
  obtain ⟨z46, z47, s48, l49, z50, l51, z52, z53, l54, hr, h⟩ := h
  refine call_go rfl rfl ?_
  try cbv
  refine call_with hM hI [.loc 32, .loc 33] (T115 _ hr) rfl (by simp) ⟨rfl, ⟨rfl, trivial⟩⟩ ⟨trivial, ⟨trivial, trivial⟩⟩ (by simp) ?_
  clear hr
  try cbv
  refine seq_go ?_
  try cbv
  refine ⟨false, ?_⟩
  try cbv
  refine ⟨true, ?_⟩
  try cbv
  replace h := bO1_inv h
  obtain ⟨z55, hr, h⟩ := h
  refine call_go rfl rfl ?_
  try cbv
  refine call_pure hM hI (T119 _ hr) rfl ?_
  clear hr
  try cbv
  replace h := bO9_inv h
  obtain ⟨z56, z57, s58, l59, z60, l61, z62, z63, l64, hr, h⟩ := h
  refine call_go rfl rfl ?_
  try cbv
  refine call_with hM hI [.loc 32, .loc 33] (T53 _ hr) rfl (by simp) ⟨rfl, ⟨rfl, trivial⟩⟩ ⟨trivial, ⟨trivial, trivial⟩⟩ (by simp) ?_
  clear hr
  try cbv
  refine seq_go ?_
  try cbv
  replace h := bO9_inv h
  obtain ⟨z65, z66, s67, l68, z69, l70, z71, z72, l73, hr, h⟩ := h
  refine call_go rfl rfl ?_
  try cbv
  refine call_with hM hI [.loc 32, .loc 33] (T54 _ hr) rfl (by simp) ⟨rfl, ⟨rfl, trivial⟩⟩ ⟨trivial, ⟨trivial, trivial⟩⟩ (by simp) ?_
  clear hr
  try cbv
  refine seq_go ?_
  try cbv
  replace h := bO9_inv h
  obtain ⟨z74, z75, s76, l77, z78, l79, z80, z81, l82, hr, h⟩ := h
  refine call_go rfl rfl ?_
  try cbv
  refine call_with hM hI [.loc 32, .loc 33] (T54 _ hr) rfl (by simp) ⟨rfl, ⟨rfl, trivial⟩⟩ ⟨trivial, ⟨trivial, trivial⟩⟩ (by simp) ?_
  clear hr
  try cbv
  refine seq_go ?_
  try cbv
  replace h := bO9_inv h
  obtain ⟨z83, z84, s85, l86, z87, l88, z89, z90, l91, hr, h⟩ := h
  refine call_go rfl rfl ?_
  try cbv
  refine call_with hM hI [.loc 32, .loc 33] (T52 _ hr) rfl (by simp) ⟨rfl, ⟨rfl, trivial⟩⟩ ⟨trivial, ⟨trivial, trivial⟩⟩ (by simp) ?_
  clear hr
  try cbv
  refine seq_go ?_
  try cbv
  refine splitI (fun e => ?_) (fun e => ?_)
  · replace h := ite_t e h
    clear e
    try cbv
    refine splitI (fun e => ?_) (fun e => ?_)
    · replace h := ite_t e h
      clear e
      try cbv
      refine splitI (fun e => ?_) (fun e => ?_)
      · replace h := ite_t e h
        clear e
        try cbv
        refine splitI (fun e => ?_) (fun e => ?_)
        · replace h := ite_t e h
          clear e
          try cbv
          refine splitI (fun e => ?_) (fun e => ?_)
          · replace h := ite_t e h
            clear e
            try cbv
            refine splitI (fun e => ?_) (fun e => ?_)
            · replace h := ite_t e h
              clear e
              try cbv
              refine splitI (fun e => ?_) (fun e => ?_)
              · replace h := ite_t e h
                clear e
                try cbv
                refine splitI (fun e => ?_) (fun e => ?_)
                · replace h := ite_t e h
                  clear e
                  try cbv
                  refine splitI (fun e => ?_) (fun e => ?_)
                  · replace h := ite_t e h
                    clear e
                    try cbv
                    refine splitI (fun e => ?_) (fun e => ?_)
                    · replace h := ite_t e h
                      clear e
                      try cbv
                      refine splitI (fun e => ?_) (fun e => ?_)
                      · replace h := ite_t e h
                        clear e
                        try cbv
                        refine splitI (fun e => ?_) (fun e => ?_)
                        · replace h := ite_t e h
                          clear e
                          try cbv
                          refine splitI (fun e => ?_) (fun e => ?_)
                          · replace h := ite_t e h
                            clear e
                            try cbv
                            refine splitI (fun e => ?_) (fun e => ?_)
                            · replace h := ite_t e h
                              clear e
                              try cbv
                              refine splitI (fun e => ?_) (fun e => ?_)
                              · replace h := ite_t e h
                                clear e
                                try cbv
                                refine splitI (fun e => ?_) (fun e => ?_)
                                · replace h := ite_t e h
                                  clear e
                                  try cbv
                                  refine splitI (fun e => ?_) (fun e => ?_)
                                  · replace h := ite_t e h
                                    clear e
                                    try cbv
                                    replace h := bO3_inv h
                                    obtain ⟨z92, z93, l94, hr, h⟩ := h
                                    refine call_go rfl rfl ?_
                                    try cbv
                                    refine call_with hM hI [.loc 32, .loc 33] (T57 _ hr) rfl (by simp) ⟨rfl, ⟨rfl, trivial⟩⟩ ⟨trivial, ⟨trivial, trivial⟩⟩ (by simp) ?_
                                    clear hr
                                    try cbv
                                    refine splitI (fun e => ?_) (fun e => ?_)
                                    · replace h := ite_t e h
                                      clear e
                                      try cbv
                                      replace h := bO3_inv h
                                      obtain ⟨z95, z96, l97, hr, h⟩ := h
                                      refine call_go rfl rfl ?_
                                      try cbv
                                      refine call_with hM hI [.loc 32, .loc 33] (T58 _ hr) rfl (by simp) ⟨rfl, ⟨rfl, trivial⟩⟩ ⟨trivial, ⟨trivial, trivial⟩⟩ (by simp) ?_
                                      clear hr
                                      try cbv
                                      refine splitI (fun e => ?_) (fun e => ?_)
                                      · replace h := ite_t e h
                                        clear e
                                        try cbv
                                        replace h := bO3_inv h
                                        obtain ⟨z98, z99, l100, hr, h⟩ := h
                                        refine call_go rfl rfl ?_
                                        try cbv
                                        refine call_with hM hI [.loc 32, .loc 33] (T59 _ hr) rfl (by simp) ⟨rfl, ⟨rfl, trivial⟩⟩ ⟨trivial, ⟨trivial, trivial⟩⟩ (by simp) ?_
                                        clear hr
                                        try cbv
                                        refine splitI (fun e => ?_) (fun e => ?_)
                                        · replace h := ite_t e h
                                          clear e
                                          try cbv
                                          obtain rfl := Option.some.inj h
                                          refine fin_go ?_
                                          try cbv
                                          exact ⟨[], rfl, rfl, trivial, trivial, trivial⟩
                                        · replace h := ite_f e h
                                          clear e
                                          try cbv
                                          obtain rfl := Option.some.inj h
                                          refine fin_go ?_
                                          try cbv
                                          exact ⟨[], rfl, rfl, trivial, trivial, trivial⟩
                                      · replace h := ite_f e h
                                        clear e
                                        try cbv
                                        obtain rfl := Option.some.inj h
                                        refine fin_go ?_
                                        try cbv
                                        exact ⟨[], rfl, rfl, trivial, trivial, trivial⟩
                                    · replace h := ite_f e h
                                      clear e
                                      try cbv
                                      obtain rfl := Option.some.inj h
                                      refine fin_go ?_
                                      try cbv
                                      exact ⟨[], rfl, rfl, trivial, trivial, trivial⟩
                                  · replace h := ite_f e h
                                    clear e
                                    try cbv
                                    obtain rfl := Option.some.inj h
                                    refine fin_go ?_
                                    try cbv
                                    exact ⟨[], rfl, rfl, trivial, trivial, trivial⟩
                                · replace h := ite_f e h
                                  clear e
                                  try cbv
                                  obtain rfl := Option.some.inj h
                                  refine fin_go ?_
                                  try cbv
                                  exact ⟨[], rfl, rfl, trivial, trivial, trivial⟩
                              · replace h := ite_f e h
                                clear e
                                try cbv
                                obtain rfl := Option.some.inj h
                                refine fin_go ?_
                                try cbv
                                exact ⟨[], rfl, rfl, trivial, trivial, trivial⟩
                            · replace h := ite_f e h
                              clear e
                              try cbv
                              obtain rfl := Option.some.inj h
                              refine fin_go ?_
                              try cbv
                              exact ⟨[], rfl, rfl, trivial, trivial, trivial⟩
                          · replace h := ite_f e h
                            clear e
                            try cbv
                            obtain rfl := Option.some.inj h
                            refine fin_go ?_
                            try cbv
                            exact ⟨[], rfl, rfl, trivial, trivial, trivial⟩
                        · replace h := ite_f e h
                          clear e
                          try cbv
                          obtain rfl := Option.some.inj h
                          refine fin_go ?_
                          try cbv
                          exact ⟨[], rfl, rfl, trivial, trivial, trivial⟩
                      · replace h := ite_f e h
                        clear e
                        try cbv
                        obtain rfl := Option.some.inj h
                        refine fin_go ?_
                        try cbv
                        exact ⟨[], rfl, rfl, trivial, trivial, trivial⟩
                    · replace h := ite_f e h
                      clear e
                      try cbv
                      obtain rfl := Option.some.inj h
                      refine fin_go ?_
                      try cbv
                      exact ⟨[], rfl, rfl, trivial, trivial, trivial⟩
                  · replace h := ite_f e h
                    clear e
                    try cbv
                    obtain rfl := Option.some.inj h
                    refine fin_go ?_
                    try cbv
                    exact ⟨[], rfl, rfl, trivial, trivial, trivial⟩
                · replace h := ite_f e h
                  clear e
                  try cbv
                  obtain rfl := Option.some.inj h
                  refine fin_go ?_
                  try cbv
                  exact ⟨[], rfl, rfl, trivial, trivial, trivial⟩
              · replace h := ite_f e h
                clear e
                try cbv
                obtain rfl := Option.some.inj h
                refine fin_go ?_
                try cbv
                exact ⟨[], rfl, rfl, trivial, trivial, trivial⟩
            · replace h := ite_f e h
              clear e
              try cbv
              obtain rfl := Option.some.inj h
              refine fin_go ?_
              try cbv
              exact ⟨[], rfl, rfl, trivial, trivial, trivial⟩
          · replace h := ite_f e h
            clear e
            try cbv
            obtain rfl := Option.some.inj h
            refine fin_go ?_
            try cbv
            exact ⟨[], rfl, rfl, trivial, trivial, trivial⟩
        · replace h := ite_f e h
          clear e
          try cbv
          obtain rfl := Option.some.inj h
          refine fin_go ?_
          try cbv
          exact ⟨[], rfl, rfl, trivial, trivial, trivial⟩
      · replace h := ite_f e h
        clear e
        try cbv
        obtain rfl := Option.some.inj h
        refine fin_go ?_
        try cbv
        exact ⟨[], rfl, rfl, trivial, trivial, trivial⟩
    · replace h := ite_f e h
      clear e
      try cbv
      obtain rfl := Option.some.inj h
      refine fin_go ?_
      try cbv
      exact ⟨[], rfl, rfl, trivial, trivial, trivial⟩
  · replace h := ite_f e h
    clear e
    try cbv
    obtain rfl := Option.some.inj h
    refine fin_go ?_
    try cbv
    exact ⟨[], rfl, rfl, trivial, trivial, trivial⟩
end Go.Proofs.Ytiiojajgajnhpaa
end

set_option linter.unusedVariables false
noncomputable section
namespace Go.Proofs.Ytiiojajgajnhpaa
open Go Go.AM
def F56 (n : Nat) (z1 : Int) (z2 : Int) (l3 : List D) : Option (Bool × Int × List D) :=
  bO9 (F108 n z1 z2 l3) fun z4 z5 s6 l7 z8 l9 z10 z11 l12 => (if z10 = (0 : Int) then some (true, z11, l12) else some (false, z11, l12))
set_option maxRecDepth 100000 in
set_option maxHeartbeats 40000000 in
theorem T56 (n : Nat) : ∀ ⦃z1 : Int⦄ ⦃z2 : Int⦄ ⦃l3 : List D⦄ ⦃r1 : Bool⦄ ⦃r2 : Int⦄ ⦃r3 : List D⦄, F56 n z1 z2 l3 = some (r1, r2, r3) →
    Trip Try.prog inv 56 [.c (.ptr (.ext 0) 0), .d (.int .i64 z1)] [.cells [.ow (.ext 1), .d (.int .i64 z2)], .tree (.fmap true) true 8 l3 none] (.v (.d (.bool r1))) [.cells [.ow (.ext 1), .d (.int .i64 r2)], .tree (.fmap true) true 8 r3 none] [] := by
  intro z1 z2 l3 r1 r2 r3 h
  unfold F56 at h
  refine Trip.of tab_ok tab_one fol Try.func56 rfl (by kernel_rfl) rfl rfl rfl (fun M hM hI => ?_)
  try cbv
  refine seq_go ?_
  try cbv
  refine seq_go ?_
  try cbv
  replace h := bO9_inv h
  obtain ⟨z4, z5, s6, l7, z8, l9, z10, z11, l12, hr, h⟩ := h
  refine call_go rfl rfl ?_
  try cbv
  refine call_with hM hI [.ext 0, .ext 1] (T108 _ hr) rfl (by simp) ⟨rfl, ⟨rfl, trivial⟩⟩ ⟨trivial, ⟨trivial, trivial⟩⟩ (by simp) ?_
  clear hr
  try cbv
  refine seq_go ?_
  try cbv
  refine splitI (fun e => ?_) (fun e => ?_)
  · replace h := ite_t e h
    clear e
    try cbv
    obtain ⟨rfl, rfl, rfl⟩ := inj3 h
    refine fin_go ?_
    try cbv
    exact ⟨[], rfl, rfl, ⟨rfl, ⟨rfl, trivial⟩⟩, trivial, trivial⟩
  · replace h := ite_f e h
    clear e
    try cbv
    obtain ⟨rfl, rfl, rfl⟩ := inj3 h
    refine fin_go ?_
    try cbv
    exact ⟨[], rfl, rfl, ⟨rfl, ⟨rfl, trivial⟩⟩, trivial, trivial⟩
end Go.Proofs.Ytiiojajgajnhpaa
end

set_option linter.unusedVariables false
noncomputable section
namespace Go.Proofs.Ytiiojajgajnhpaa
open Go Go.AM
mutual
def L66_1 : Nat → (List D) → (List D) → Int → Int → (List D) → Option (List D × List D × Int × List D)
  | 0, _, _, _, _, _ => none
  | n + 1, l3, l4, z5, z6, l7 =>
    bO3 (F57 n z6 l7) fun z8 z9 l10 => (if z5 < z8 then L66_2 n l3 l4 z5 true z9 l10 else L66_2 n l3 l4 z5 false z9 l10)
def L66_2 : Nat → (List D) → (List D) → Int → Bool → Int → (List D) → Option (List D × List D × Int × List D)
  | 0, _, _, _, _, _, _ => none
  | n + 1, l3, l4, z5, b11, z12, l13 =>
    (if b11 = true then bO9 (F52 n z5 ([] : List D) z12 l13) fun z14 z15 s16 l17 z18 l19 z20 z21 l22 => appF 88 l3 ([.agg [.int .u8 z14, .int .i64 z15, .str s16, .list true 6 l17, .int .i64 z18, .list false 1 l19]]) fun l23 => bO3 (F56 n z5 z21 l22) fun b24 z25 l26 => appF 1 l4 ([.bool b24]) fun l27 => letF (IntKind.wrap .i64 (z5 + 1)) fun z28 => L66_1 n l23 l27 z28 z25 l26 else some (l3, l4, z12, l13))
end
def F66 (n : Nat) (z1 : Int) (l2 : List D) : Option (List D × List D × Int × List D) :=
  L66_1 n ([] : List D) ([] : List D) (0 : Int) z1 l2
set_option maxRecDepth 100000 in
set_option maxHeartbeats 40000000 in
theorem T66 (n : Nat) : ∀ ⦃z1 : Int⦄ ⦃l2 : List D⦄ ⦃r1 : List D⦄ ⦃r2 : List D⦄ ⦃r3 : Int⦄ ⦃r4 : List D⦄, F66 n z1 l2 = some (r1, r2, r3, r4) →
    Trip Try.prog inv 66 [.c (.ptr (.ext 0) 0)] [.cells [.ow (.ext 1), .d (.int .i64 z1)], .tree (.fmap true) true 8 l2 none] (.t [.d (.list true 6 r1), .d (.list false 1 r2)]) [.cells [.ow (.ext 1), .d (.int .i64 r3)], .tree (.fmap true) true 8 r4 none] [] := by
  intro z1 l2 r1 r2 r3 r4 h
  unfold F66 at h
  refine Trip.of tab_ok tab_one fol Try.func66 rfl (by kernel_rfl) rfl rfl rfl (fun M hM hI => ?_)
  try cbv
  refine seq_go ?_
  try cbv
  refine seq_go ?_
  try cbv
  refine seq_go ?_
  try cbv
  refine seq_go ?_
  try cbv
  refine seq_go ?_
  try cbv
  refine loop_invG (T := Nat × List D × List D × Int × Int × List D) [.tokS 4 true 6 49, .tokS 5 false 1 4] [] [0, 2, 3, 4, 5, 6] [.ext 0, .ext 1, .loc 160, .loc 192] 224 (fun t => ⟨[(0, .v (.c (.ptr (.ext 0) 0))), (2, .v (.c (.nils true 6))), (3, .v (.c (.nils false 1))), (4, .v (.c (.lst (.loc 160) true 6 t.2.1))), (5, .v (.c (.lst (.loc 192) false 1 t.2.2.1))), (6, .v (.d (.int .i64 t.2.2.2.1)))], [(.ext 0, .cells [.ow (.ext 1), .d (.int .i64 t.2.2.2.2.1)]), (.ext 1, .tree (.fmap true) true 8 t.2.2.2.2.2 none), (.loc 160, .tok t.2.1.length 6 49), (.loc 192, .tok t.2.2.1.length 1 4)], 224⟩)
    (fun t => t.1 ≤ n ∧ L66_1 t.1 t.2.1 t.2.2.1 t.2.2.2.1 t.2.2.2.2.1 t.2.2.2.2.2 = some (r1, r2, r3, r4)) (fun t => t.1) (n, (([] : List D), ([] : List D), (0 : Int), z1, l2)) ⟨Nat.le_refl _, h⟩ (by cbv) ?_
  clear h
  rintro ⟨m1, l3, l4, z5, z6, l7⟩ ⟨hm1, h⟩
  replace hm1 : m1 ≤ n := hm1
  cases m1 with
  | zero =>
    replace h : L66_1 0 l3 l4 z5 z6 l7 = some (r1, r2, r3, r4) := h
    rw [L66_1] at h
    cases h
  | succ m1 =>
    replace h : L66_1 (m1 + 1) l3 l4 z5 z6 l7 = some (r1, r2, r3, r4) := h
    rw [L66_1] at h
    try cbv
    refine seq_go ?_
    try cbv
    refine seq_join (T := Nat × Bool × Int × List D) (fun t => ⟨[(0, .v (.c (.ptr (.ext 0) 0))), (2, .v (.c (.nils true 6))), (3, .v (.c (.nils false 1))), (4, .v (.c (.lst (.loc 160) true 6 l3))), (5, .v (.c (.lst (.loc 192) false 1 l4))), (6, .v (.d (.int .i64 z5))), (12, .v (.d (.bool t.2.1)))], [(.ext 0, .cells [.ow (.ext 1), .d (.int .i64 t.2.2.1)]), (.ext 1, .tree (.fmap true) true 8 t.2.2.2 none), (.loc 160, .tok l3.length 6 49), (.loc 192, .tok l4.length 1 4)], 352⟩) (fun t => t.1 ≤ m1 ∧ L66_2 t.1 l3 l4 z5 t.2.1 t.2.2.1 t.2.2.2 = some (r1, r2, r3, r4)) ?_ ?_
    · try cbv
      replace h := bO3_inv h
      obtain ⟨z8, z9, l10, hr, h⟩ := h
      refine call_go rfl rfl ?_
      try cbv
      refine call_with hM hI [.ext 0, .ext 1] (T57 _ hr) rfl (by simp) ⟨rfl, ⟨rfl, trivial⟩⟩ ⟨trivial, ⟨trivial, trivial⟩⟩ (by simp) ?_
      clear hr
      try cbv
      refine splitL (fun e => ?_) (fun e => ?_)
      · replace h := ite_t e h
        clear e
        try cbv
        exact join_next (m1, (true, z9, l10)) [0, 2, 3, 4, 5, 6, 12] [.ext 0, .ext 1, .loc 160, .loc 192] 352 ⟨by omega, h⟩ (by cbv)
      · replace h := ite_f (Int.not_lt.2 e) h
        clear e
        try cbv
        exact join_next (m1, (false, z9, l10)) [0, 2, 3, 4, 5, 6, 12] [.ext 0, .ext 1, .loc 160, .loc 192] 352 ⟨by omega, h⟩ (by cbv)
    · clear h
      rintro ⟨m2, b11, z12, l13⟩ ⟨hm2, h⟩
      replace hm2 : m2 ≤ m1 := hm2
      cases m2 with
      | zero =>
        replace h : L66_2 0 l3 l4 z5 b11 z12 l13 = some (r1, r2, r3, r4) := h
        rw [L66_2] at h
        cases h
      | succ m2 =>
        replace h : L66_2 (m2 + 1) l3 l4 z5 b11 z12 l13 = some (r1, r2, r3, r4) := h
        rw [L66_2] at h
        try cbv
        cases b11
        · replace h := ite_f Bool.false_ne_true h
          try cbv
          refine seq_go ?_
          try cbv
          obtain ⟨rfl, rfl, rfl, rfl⟩ := inj4 h
          refine fin_go ?_
          try cbv
          exact ⟨[], rfl, rfl, ⟨rfl, ⟨rfl, trivial⟩⟩, trivial, trivial⟩
        · replace h := ite_t rfl h
          try cbv
          refine seq_go ?_
          try cbv
          refine seq_go ?_
          try cbv
          replace h := bO9_inv h
          obtain ⟨z14, z15, s16, l17, z18, l19, z20, z21, l22, hr, h⟩ := h
          refine call_go rfl rfl ?_
          try cbv
          refine call_with hM hI [.ext 0, .ext 1] (T52 _ hr) rfl (by simp) ⟨rfl, ⟨rfl, trivial⟩⟩ ⟨trivial, ⟨trivial, trivial⟩⟩ (by simp) ?_
          clear hr
          try cbv
          refine seq_go ?_
          try cbv
          refine ⟨false, ?_⟩
          try cbv
          refine ⟨true, ?_⟩
          try cbv
          replace h := appF_inv h
          obtain ⟨l23, hb, hz, h⟩ := h
          refine ⟨false, ?_⟩
          try cbv
          first | refine ⟨rfl, (M.lock_iff _).2 hb, l23, hz, ?_⟩ | refine ⟨(M.lock_iff _).2 hb, l23, hz, ?_⟩
          clear hb hz
          try cbv
          replace h := bO3_inv h
          obtain ⟨b24, z25, l26, hr, h⟩ := h
          refine call_go rfl rfl ?_
          try cbv
          refine call_with hM hI [.ext 0, .ext 1] (T56 _ hr) rfl (by simp) ⟨rfl, ⟨rfl, trivial⟩⟩ ⟨trivial, ⟨trivial, trivial⟩⟩ (by simp) ?_
          clear hr
          try cbv
          refine ⟨false, ?_⟩
          try cbv
          refine ⟨true, ?_⟩
          try cbv
          replace h := appF_inv h
          obtain ⟨l27, hb, hz, h⟩ := h
          refine ⟨false, ?_⟩
          try cbv
          first | refine ⟨rfl, (M.lock_iff _).2 hb, l27, hz, ?_⟩ | refine ⟨(M.lock_iff _).2 hb, l27, hz, ?_⟩
          clear hb hz
          try cbv
          replace h := letF_inv h
          obtain ⟨z28, hz, h⟩ := h
          refine ⟨z28, hz, ?_⟩
          clear hz
          try cbv
          refine loop_nextG (m2, (l23, l27, z28, z25, l26)) [] [] [0, 2, 3, 4, 5, 6] [.ext 0, .ext 1, .loc 160, .loc 192] 224 ⟨by omega, h⟩ (Nat.lt_succ_of_le (by omega)) ?_
          try cbv
end Go.Proofs.Ytiiojajgajnhpaa
end

set_option linter.unusedVariables false
noncomputable section
namespace Go.Proofs.Ytiiojajgajnhpaa
open Go Go.AM
def L67_6 : Nat → Int → Int → (List D) → Option (Bool × Int × List D)
  | 0, _, _, _ => none
  | n + 1, z60, z61, l62 =>
    (if z60 = (0 : Int) then some (true, z61, l62) else some (false, z61, l62))
def L67_5 : Nat → Int → Int → Int → ByteArray → (List D) → Int → (List D) → Int → (List D) → Bool → Option (Bool × Int × List D)
  | 0, _, _, _, _, _, _, _, _, _, _ => none
  | n + 1, z2, z4, z5, s6, l7, z8, l9, z10, l11, b46 =>
    (if b46 = true then bO9 (F54 n z2 z10 l11) fun z47 z48 s49 l50 z51 l52 z53 z54 l55 => L67_6 n z53 z54 l55 else bO4 (F51 n z4 z5 s6 l7 z8 l9 z10 l11) fun z56 z57 z58 l59 => (if z57 = (0 : Int) then some (true, z58, l59) else some (false, z58, l59)))
def L67_4 : Nat → Int → Int → (List D) → Int → Int → ByteArray → (List D) → Int → (List D) → Int → (List D) → Bool → Option (Bool × Int × List D)
  | 0, _, _, _, _, _, _, _, _, _, _, _, _ => none
  | n + 1, z1, z2, l3, z4, z5, s6, l7, z8, l9, z10, l11, b36 =>
    (if b36 = true then bO9 (F53 n z2 l3 z4 z5 s6 l7 z8 l9 z10 l11) fun z37 z38 s39 l40 z41 l42 z43 z44 l45 => L67_6 n z43 z44 l45 else (if z1 = (6 : Int) then L67_5 n z2 z4 z5 s6 l7 z8 l9 z10 l11 true else L67_5 n z2 z4 z5 s6 l7 z8 l9 z10 l11 false))
def L67_3 : Nat → Int → Int → (List D) → Int → Int → ByteArray → (List D) → Int → (List D) → Int → (List D) → Bool → Option (Bool × Int × List D)
  | 0, _, _, _, _, _, _, _, _, _, _, _, _ => none
  | n + 1, z1, z2, l3, z4, z5, s6, l7, z8, l9, z10, l11, b26 =>
    (if b26 = true then bO9 (F115 n z2 l3 z10 l11) fun z27 z28 s29 l30 z31 l32 z33 z34 l35 => L67_6 n z33 z34 l35 else (if z1 = (5 : Int) then L67_4 n z1 z2 l3 z4 z5 s6 l7 z8 l9 z10 l11 true else L67_4 n z1 z2 l3 z4 z5 s6 l7 z8 l9 z10 l11 false))
def L67_2 : Nat → Int → Int → (List D) → Int → Int → ByteArray → (List D) → Int → (List D) → Int → (List D) → Bool → Option (Bool × Int × List D)
  | 0, _, _, _, _, _, _, _, _, _, _, _, _ => none
  | n + 1, z1, z2, l3, z4, z5, s6, l7, z8, l9, z10, l11, b22 =>
    (if b22 = true then bO3 (F55 n z2 l3 z4 z5 s6 l7 z8 l9 z10 l11) fun z23 z24 l25 => L67_6 n z23 z24 l25 else (if z1 = (4 : Int) then L67_3 n z1 z2 l3 z4 z5 s6 l7 z8 l9 z10 l11 true else L67_3 n z1 z2 l3 z4 z5 s6 l7 z8 l9 z10 l11 false))
def L67_1 : Nat → Int → Int → (List D) → Int → Int → ByteArray → (List D) → Int → (List D) → Int → (List D) → Bool → Option (Bool × Int × List D)
  | 0, _, _, _, _, _, _, _, _, _, _, _, _ => none
  | n + 1, z1, z2, l3, z4, z5, s6, l7, z8, l9, z10, l11, b12 =>
    (if b12 = true then bO9 (F52 n z2 l3 z10 l11) fun z13 z14 s15 l16 z17 l18 z19 z20 l21 => L67_6 n z19 z20 l21 else (if z1 = (3 : Int) then L67_2 n z1 z2 l3 z4 z5 s6 l7 z8 l9 z10 l11 true else L67_2 n z1 z2 l3 z4 z5 s6 l7 z8 l9 z10 l11 false))
def F67 (n : Nat) (z1 : Int) (z2 : Int) (l3 : List D) (z4 : Int) (z5 : Int) (s6 : ByteArray) (l7 : List D) (z8 : Int) (l9 : List D) (z10 : Int) (l11 : List D) : Option (Bool × Int × List D) :=
  (if z1 = (2 : Int) then L67_1 n z1 z2 l3 z4 z5 s6 l7 z8 l9 z10 l11 true else L67_1 n z1 z2 l3 z4 z5 s6 l7 z8 l9 z10 l11 false)
set_option maxRecDepth 100000 in
set_option maxHeartbeats 40000000 in
theorem T67 (n : Nat) : ∀ ⦃z1 : Int⦄ ⦃z2 : Int⦄ ⦃l3 : List D⦄ ⦃z4 : Int⦄ ⦃z5 : Int⦄ ⦃s6 : ByteArray⦄ ⦃l7 : List D⦄ ⦃z8 : Int⦄ ⦃l9 : List D⦄ ⦃z10 : Int⦄ ⦃l11 : List D⦄ ⦃r1 : Bool⦄ ⦃r2 : Int⦄ ⦃r3 : List D⦄, F67 n z1 z2 l3 z4 z5 s6 l7 z8 l9 z10 l11 = some (r1, r2, r3) →
    Trip Try.prog inv 67 [.c (.ptr (.ext 0) 0), .d (.agg [.int .i64 z1, .int .i64 z2, .list false 1 l3, .int .u8 z4, .int .i64 z5, .str s6, .list true 6 l7, .int .i64 z8, .list false 1 l9])] [.cells [.ow (.ext 1), .d (.int .i64 z10)], .tree (.fmap true) true 8 l11 none] (.v (.d (.bool r1))) [.cells [.ow (.ext 1), .d (.int .i64 r2)], .tree (.fmap true) true 8 r3 none] [] := by
  intro z1 z2 l3 z4 z5 s6 l7 z8 l9 z10 l11 r1 r2 r3 h
  unfold F67 at h
  refine Trip.of tab_ok tab_one fol Try.func67 rfl (by kernel_rfl) rfl rfl rfl (fun M hM hI => ?_)
  try cbv
  refine seq_go ?_
  try cbv
  refine seq_go ?_
  try cbv
  refine seq_join (T := Nat × Int × Int × List D) (fun t => ⟨[(4, .v (.d (.bool false))), (5, .v (.d (.int .u8 t.2.1)))], [(.ext 0, .cells [.ow (.ext 1), .d (.int .i64 t.2.2.1)]), (.ext 1, .tree (.fmap true) true 8 t.2.2.2 none)], 800⟩) (fun t => t.1 ≤ n ∧ L67_6 t.1 t.2.1 t.2.2.1 t.2.2.2 = some (r1, r2, r3)) ?_ ?_
  · try cbv
    refine seq_go ?_
    try cbv
    refine seq_join (T := Nat × Bool) (fun t => ⟨[(0, .v (.c (.ptr (.ext 0) 0))), (3, .v (.c (.ptr (.loc 0) 0))), (4, .v (.d (.bool false))), (5, .v (.d (.int .u8 0))), (9, .v (.d (.int .i64 z1))), (19, .v (.d (.bool t.2)))], [(.ext 0, .cells [.ow (.ext 1), .d (.int .i64 z10)]), (.ext 1, .tree (.fmap true) true 8 l11 none), (.loc 0, .cells [.d (.int .i64 z1), .d (.int .i64 z2), .d (.list false 1 l3), .d (.int .u8 z4), .d (.int .i64 z5), .d (.str s6), .d (.list true 6 l7), .d (.int .i64 z8), .d (.list false 1 l9)])], 224⟩) (fun t => t.1 ≤ n ∧ L67_1 t.1 z1 z2 l3 z4 z5 s6 l7 z8 l9 z10 l11 t.2 = some (r1, r2, r3)) ?_ ?_
    · try cbv
      refine splitI (fun e => ?_) (fun e => ?_)
      · replace h := ite_t e h
        clear e
        try cbv
        exact join_next (n, true) [0, 3, 4, 5, 9, 19] [.ext 0, .ext 1, .loc 0] 224 ⟨by omega, h⟩ (by cbv)
      · replace h := ite_f e h
        clear e
        try cbv
        exact join_next (n, false) [0, 3, 4, 5, 9, 19] [.ext 0, .ext 1, .loc 0] 224 ⟨by omega, h⟩ (by cbv)
    · clear h
      rintro ⟨m1, b12⟩ ⟨hm1, h⟩
      replace hm1 : m1 ≤ n := hm1
      cases m1 with
      | zero =>
        replace h : L67_1 0 z1 z2 l3 z4 z5 s6 l7 z8 l9 z10 l11 b12 = some (r1, r2, r3) := h
        rw [L67_1] at h
        cases h
      | succ m1 =>
        replace h : L67_1 (m1 + 1) z1 z2 l3 z4 z5 s6 l7 z8 l9 z10 l11 b12 = some (r1, r2, r3) := h
        rw [L67_1] at h
        try cbv
        cases b12
        · replace h := ite_f Bool.false_ne_true h
          try cbv
          refine seq_join (T := Nat × Bool) (fun t => ⟨[(0, .v (.c (.ptr (.ext 0) 0))), (3, .v (.c (.ptr (.loc 0) 0))), (4, .v (.d (.bool false))), (5, .v (.d (.int .u8 0))), (9, .v (.d (.int .i64 z1))), (30, .v (.d (.bool t.2)))], [(.ext 0, .cells [.ow (.ext 1), .d (.int .i64 z10)]), (.ext 1, .tree (.fmap true) true 8 l11 none), (.loc 0, .cells [.d (.int .i64 z1), .d (.int .i64 z2), .d (.list false 1 l3), .d (.int .u8 z4), .d (.int .i64 z5), .d (.str s6), .d (.list true 6 l7), .d (.int .i64 z8), .d (.list false 1 l9)])], 288⟩) (fun t => t.1 ≤ m1 ∧ L67_2 t.1 z1 z2 l3 z4 z5 s6 l7 z8 l9 z10 l11 t.2 = some (r1, r2, r3)) ?_ ?_
          · try cbv
            refine splitI (fun e => ?_) (fun e => ?_)
            · replace h := ite_t e h
              clear e
              try cbv
              exact join_next (m1, true) [0, 3, 4, 5, 9, 30] [.ext 0, .ext 1, .loc 0] 288 ⟨by omega, h⟩ (by cbv)
            · replace h := ite_f e h
              clear e
              try cbv
              exact join_next (m1, false) [0, 3, 4, 5, 9, 30] [.ext 0, .ext 1, .loc 0] 288 ⟨by omega, h⟩ (by cbv)
          · clear h
            rintro ⟨m2, b22⟩ ⟨hm2, h⟩
            replace hm2 : m2 ≤ m1 := hm2
            cases m2 with
            | zero =>
              replace h : L67_2 0 z1 z2 l3 z4 z5 s6 l7 z8 l9 z10 l11 b22 = some (r1, r2, r3) := h
              rw [L67_2] at h
              cases h
            | succ m2 =>
              replace h : L67_2 (m2 + 1) z1 z2 l3 z4 z5 s6 l7 z8 l9 z10 l11 b22 = some (r1, r2, r3) := h
              rw [L67_2] at h
              try cbv
              cases b22
              · replace h := ite_f Bool.false_ne_true h
                try cbv
                refine seq_join (T := Nat × Bool) (fun t => ⟨[(0, .v (.c (.ptr (.ext 0) 0))), (3, .v (.c (.ptr (.loc 0) 0))), (4, .v (.d (.bool false))), (5, .v (.d (.int .u8 0))), (9, .v (.d (.int .i64 z1))), (40, .v (.d (.bool t.2)))], [(.ext 0, .cells [.ow (.ext 1), .d (.int .i64 z10)]), (.ext 1, .tree (.fmap true) true 8 l11 none), (.loc 0, .cells [.d (.int .i64 z1), .d (.int .i64 z2), .d (.list false 1 l3), .d (.int .u8 z4), .d (.int .i64 z5), .d (.str s6), .d (.list true 6 l7), .d (.int .i64 z8), .d (.list false 1 l9)])], 352⟩) (fun t => t.1 ≤ m2 ∧ L67_3 t.1 z1 z2 l3 z4 z5 s6 l7 z8 l9 z10 l11 t.2 = some (r1, r2, r3)) ?_ ?_
                · try cbv
                  refine splitI (fun e => ?_) (fun e => ?_)
                  · replace h := ite_t e h
                    clear e
                    try cbv
                    exact join_next (m2, true) [0, 3, 4, 5, 9, 40] [.ext 0, .ext 1, .loc 0] 352 ⟨by omega, h⟩ (by cbv)
                  · replace h := ite_f e h
                    clear e
                    try cbv
                    exact join_next (m2, false) [0, 3, 4, 5, 9, 40] [.ext 0, .ext 1, .loc 0] 352 ⟨by omega, h⟩ (by cbv)
                · clear h
                  rintro ⟨m3, b26⟩ ⟨hm3, h⟩
                  replace hm3 : m3 ≤ m2 := hm3
                  cases m3 with
                  | zero =>
                    replace h : L67_3 0 z1 z2 l3 z4 z5 s6 l7 z8 l9 z10 l11 b26 = some (r1, r2, r3) := h
                    rw [L67_3] at h
                    cases h
                  | succ m3 =>
                    replace h : L67_3 (m3 + 1) z1 z2 l3 z4 z5 s6 l7 z8 l9 z10 l11 b26 = some (r1, r2, r3) := h
                    rw [L67_3] at h
                    try cbv
                    cases b26
                    · replace h := ite_f Bool.false_ne_true h
                      try cbv
                      refine seq_join (T := Nat × Bool) (fun t => ⟨[(0, .v (.c (.ptr (.ext 0) 0))), (3, .v (.c (.ptr (.loc 0) 0))), (4, .v (.d (.bool false))), (5, .v (.d (.int .u8 0))), (9, .v (.d (.int .i64 z1))), (51, .v (.d (.bool t.2)))], [(.ext 0, .cells [.ow (.ext 1), .d (.int .i64 z10)]), (.ext 1, .tree (.fmap true) true 8 l11 none), (.loc 0, .cells [.d (.int .i64 z1), .d (.int .i64 z2), .d (.list false 1 l3), .d (.int .u8 z4), .d (.int .i64 z5), .d (.str s6), .d (.list true 6 l7), .d (.int .i64 z8), .d (.list false 1 l9)])], 416⟩) (fun t => t.1 ≤ m3 ∧ L67_4 t.1 z1 z2 l3 z4 z5 s6 l7 z8 l9 z10 l11 t.2 = some (r1, r2, r3)) ?_ ?_
                      · try cbv
                        refine splitI (fun e => ?_) (fun e => ?_)
                        · replace h := ite_t e h
                          clear e
                          try cbv
                          exact join_next (m3, true) [0, 3, 4, 5, 9, 51] [.ext 0, .ext 1, .loc 0] 416 ⟨by omega, h⟩ (by cbv)
                        · replace h := ite_f e h
                          clear e
                          try cbv
                          exact join_next (m3, false) [0, 3, 4, 5, 9, 51] [.ext 0, .ext 1, .loc 0] 416 ⟨by omega, h⟩ (by cbv)
                      · clear h
                        rintro ⟨m4, b36⟩ ⟨hm4, h⟩
                        replace hm4 : m4 ≤ m3 := hm4
                        cases m4 with
                        | zero =>
                          replace h : L67_4 0 z1 z2 l3 z4 z5 s6 l7 z8 l9 z10 l11 b36 = some (r1, r2, r3) := h
                          rw [L67_4] at h
                          cases h
                        | succ m4 =>
                          replace h : L67_4 (m4 + 1) z1 z2 l3 z4 z5 s6 l7 z8 l9 z10 l11 b36 = some (r1, r2, r3) := h
                          rw [L67_4] at h
                          try cbv
                          cases b36
                          · replace h := ite_f Bool.false_ne_true h
                            try cbv
                            refine seq_join (T := Nat × Bool) (fun t => ⟨[(0, .v (.c (.ptr (.ext 0) 0))), (3, .v (.c (.ptr (.loc 0) 0))), (4, .v (.d (.bool false))), (5, .v (.d (.int .u8 0))), (64, .v (.d (.bool t.2)))], [(.ext 0, .cells [.ow (.ext 1), .d (.int .i64 z10)]), (.ext 1, .tree (.fmap true) true 8 l11 none), (.loc 0, .cells [.d (.int .i64 z1), .d (.int .i64 z2), .d (.list false 1 l3), .d (.int .u8 z4), .d (.int .i64 z5), .d (.str s6), .d (.list true 6 l7), .d (.int .i64 z8), .d (.list false 1 l9)])], 480⟩) (fun t => t.1 ≤ m4 ∧ L67_5 t.1 z2 z4 z5 s6 l7 z8 l9 z10 l11 t.2 = some (r1, r2, r3)) ?_ ?_
                            · try cbv
                              refine splitI (fun e => ?_) (fun e => ?_)
                              · replace h := ite_t e h
                                clear e
                                try cbv
                                exact join_next (m4, true) [0, 3, 4, 5, 64] [.ext 0, .ext 1, .loc 0] 480 ⟨by omega, h⟩ (by cbv)
                              · replace h := ite_f e h
                                clear e
                                try cbv
                                exact join_next (m4, false) [0, 3, 4, 5, 64] [.ext 0, .ext 1, .loc 0] 480 ⟨by omega, h⟩ (by cbv)
                            · clear h
                              rintro ⟨m5, b46⟩ ⟨hm5, h⟩
                              replace hm5 : m5 ≤ m4 := hm5
                              cases m5 with
                              | zero =>
                                replace h : L67_5 0 z2 z4 z5 s6 l7 z8 l9 z10 l11 b46 = some (r1, r2, r3) := h
                                rw [L67_5] at h
                                cases h
                              | succ m5 =>
                                replace h : L67_5 (m5 + 1) z2 z4 z5 s6 l7 z8 l9 z10 l11 b46 = some (r1, r2, r3) := h
                                rw [L67_5] at h
                                try cbv
                                cases b46
                                · replace h := ite_f Bool.false_ne_true h
                                  try cbv
                                  refine seq_go ?_
                                  try cbv
                                  replace h := bO4_inv h
                                  obtain ⟨z56, z57, z58, l59, hr, h⟩ := h
                                  refine call_go rfl rfl ?_
                                  try cbv
                                  refine call_with hM hI [.ext 0, .ext 1] (T51 _ hr) rfl (by simp) ⟨rfl, ⟨rfl, trivial⟩⟩ ⟨trivial, ⟨trivial, trivial⟩⟩ (by simp) ?_
                                  clear hr
                                  try cbv
                                  refine seq_go ?_
                                  try cbv
                                  refine splitI (fun e => ?_) (fun e => ?_)
                                  · replace h := ite_t e h
                                    clear e
                                    try cbv
                                    obtain ⟨rfl, rfl, rfl⟩ := inj3 h
                                    refine fin_go ?_
                                    try cbv
                                    exact ⟨[], rfl, rfl, ⟨rfl, ⟨rfl, trivial⟩⟩, trivial, trivial⟩
                                  · replace h := ite_f e h
                                    clear e
                                    try cbv
                                    obtain ⟨rfl, rfl, rfl⟩ := inj3 h
                                    refine fin_go ?_
                                    try cbv
                                    exact ⟨[], rfl, rfl, ⟨rfl, ⟨rfl, trivial⟩⟩, trivial, trivial⟩
                                · replace h := ite_t rfl h
                                  try cbv
                                  replace h := bO9_inv h
                                  obtain ⟨z47, z48, s49, l50, z51, l52, z53, z54, l55, hr, h⟩ := h
                                  refine call_go rfl rfl ?_
                                  try cbv
                                  refine call_with hM hI [.ext 0, .ext 1] (T54 _ hr) rfl (by simp) ⟨rfl, ⟨rfl, trivial⟩⟩ ⟨trivial, ⟨trivial, trivial⟩⟩ (by simp) ?_
                                  clear hr
                                  try cbv
                                  exact join_next (m5, (z53, z54, l55)) [4, 5] [.ext 0, .ext 1] 800 ⟨by omega, h⟩ (by cbv)
                          · replace h := ite_t rfl h
                            try cbv
                            replace h := bO9_inv h
                            obtain ⟨z37, z38, s39, l40, z41, l42, z43, z44, l45, hr, h⟩ := h
                            refine call_go rfl rfl ?_
                            try cbv
                            refine call_with hM hI [.ext 0, .ext 1] (T53 _ hr) rfl (by simp) ⟨rfl, ⟨rfl, trivial⟩⟩ ⟨trivial, ⟨trivial, trivial⟩⟩ (by simp) ?_
                            clear hr
                            try cbv
                            exact join_next (m4, (z43, z44, l45)) [4, 5] [.ext 0, .ext 1] 800 ⟨by omega, h⟩ (by cbv)
                    · replace h := ite_t rfl h
                      try cbv
                      replace h := bO9_inv h
                      obtain ⟨z27, z28, s29, l30, z31, l32, z33, z34, l35, hr, h⟩ := h
                      refine call_go rfl rfl ?_
                      try cbv
                      refine call_with hM hI [.ext 0, .ext 1] (T115 _ hr) rfl (by simp) ⟨rfl, ⟨rfl, trivial⟩⟩ ⟨trivial, ⟨trivial, trivial⟩⟩ (by simp) ?_
                      clear hr
                      try cbv
                      exact join_next (m3, (z33, z34, l35)) [4, 5] [.ext 0, .ext 1] 800 ⟨by omega, h⟩ (by cbv)
              · replace h := ite_t rfl h
                try cbv
                replace h := bO3_inv h
                obtain ⟨z23, z24, l25, hr, h⟩ := h
                refine call_go rfl rfl ?_
                try cbv
                refine call_with hM hI [.ext 0, .ext 1] (T55 _ hr) rfl (by simp) ⟨rfl, ⟨rfl, trivial⟩⟩ ⟨trivial, ⟨trivial, trivial⟩⟩ (by simp) ?_
                clear hr
                try cbv
                exact join_next (m2, (z23, z24, l25)) [4, 5] [.ext 0, .ext 1] 800 ⟨by omega, h⟩ (by cbv)
        · replace h := ite_t rfl h
          try cbv
          replace h := bO9_inv h
          obtain ⟨z13, z14, s15, l16, z17, l18, z19, z20, l21, hr, h⟩ := h
          refine call_go rfl rfl ?_
          try cbv
          refine call_with hM hI [.ext 0, .ext 1] (T52 _ hr) rfl (by simp) ⟨rfl, ⟨rfl, trivial⟩⟩ ⟨trivial, ⟨trivial, trivial⟩⟩ (by simp) ?_
          clear hr
          try cbv
          exact join_next (m1, (z19, z20, l21)) [4, 5] [.ext 0, .ext 1] 800 ⟨by omega, h⟩ (by cbv)
  · clear h
    rintro ⟨m6, z60, z61, l62⟩ ⟨hm6, h⟩
    replace hm6 : m6 ≤ n := hm6
    cases m6 with
    | zero =>
      replace h : L67_6 0 z60 z61 l62 = some (r1, r2, r3) := h
      rw [L67_6] at h
      cases h
    | succ m6 =>
      replace h : L67_6 (m6 + 1) z60 z61 l62 = some (r1, r2, r3) := h
      rw [L67_6] at h
      try cbv
      refine seq_go ?_
      try cbv
      refine splitI (fun e => ?_) (fun e => ?_)
      · replace h := ite_t e h
        clear e
        try cbv
        obtain ⟨rfl, rfl, rfl⟩ := inj3 h
        refine fin_go ?_
        try cbv
        exact ⟨[], rfl, rfl, ⟨rfl, ⟨rfl, trivial⟩⟩, trivial, trivial⟩
      · replace h := ite_f e h
        clear e
        try cbv
        obtain ⟨rfl, rfl, rfl⟩ := inj3 h
        refine fin_go ?_
        try cbv
        exact ⟨[], rfl, rfl, ⟨rfl, ⟨rfl, trivial⟩⟩, trivial, trivial⟩
end Go.Proofs.Ytiiojajgajnhpaa
end

set_option linter.unusedVariables false
noncomputable section
namespace Go.Proofs.Ytiiojajgajnhpaa
open Go Go.AM
set_option maxHeartbeats 40000000 in
mutual
def L14_1 : Nat → (List D) → Int → Int → (List D) → Option (Bool)
  | 0, _, _, _, _ => none
  | n + 1, l1, z5, z6, l7 =>
    lenF l1 fun z8 => (if z5 < z8 then L14_2 n l1 z5 z6 l7 true else L14_2 n l1 z5 z6 l7 false)
def L14_2 : Nat → (List D) → Int → Int → (List D) → Bool → Option (Bool)
  | 0, _, _, _, _, _ => none
  | n + 1, l1, z5, z6, l7, b9 =>
    (if b9 = true then bO4 (F66 n z6 l7) fun l10 l11 z12 l13 => getF l1 z5 fun x14 => ds_t90 x14 fun z15 z16 l17 z18 z19 s20 l21 z22 l23 => bO3 (F67 n z15 z16 l17 z18 z19 s20 l21 z22 l23 z12 l13) fun b24 z25 l26 => bO4 (F66 n z25 l26) fun l27 l28 z29 l30 => lenF l27 fun z31 => lenF l10 fun z32 => (if z31 < z32 then L14_3 n l1 z5 l10 l11 z15 z16 b24 l27 l28 z29 l30 true else L14_3 n l1 z5 l10 l11 z15 z16 b24 l27 l28 z29 l30 false) else some true)
def L14_3 : Nat → (List D) → Int → (List D) → (List D) → Int → Int → Bool → (List D) → (List D) → Int → (List D) → Bool → Option (Bool)
  | 0, _, _, _, _, _, _, _, _, _, _, _, _ => none
  | n + 1, l1, z5, l10, l11, z15, z16, b24, l27, l28, z29, l30, b33 =>
    (if b33 = true then some false else L14_4 n l1 z5 l10 l11 z15 z16 b24 l27 l28 z29 l30 (0 : Int))
def L14_4 : Nat → (List D) → Int → (List D) → (List D) → Int → Int → Bool → (List D) → (List D) → Int → (List D) → Int → Option (Bool)
  | 0, _, _, _, _, _, _, _, _, _, _, _, _ => none
  | n + 1, l1, z5, l10, l11, z15, z16, b24, l27, l28, z29, l30, z34 =>
    lenF l10 fun z35 => (if z34 < z35 then L14_5 n l1 z5 l10 l11 z15 z16 b24 l27 l28 z29 l30 z34 true else L14_5 n l1 z5 l10 l11 z15 z16 b24 l27 l28 z29 l30 z34 false)
def L14_5 : Nat → (List D) → Int → (List D) → (List D) → Int → Int → Bool → (List D) → (List D) → Int → (List D) → Int → Bool → Option (Bool)
  | 0, _, _, _, _, _, _, _, _, _, _, _, _, _ => none
  | n + 1, l1, z5, l10, l11, z15, z16, b24, l27, l28, z29, l30, z34, b36 =>
    (if b36 = true then getF l10 z34 fun x37 => ds_t49 x37 fun z38 z39 s40 l41 z42 l43 => getF l27 z34 fun x44 => ds_t49 x44 fun z45 z46 s47 l48 z49 l50 => bO1 (F34 n z38 z39 s40 l41 z42 l43 z45 z46 s47 l48 z49 l50) fun b51 => (if b51 = true then getF l11 z34 fun x52 => ds_bool x52 fun b53 => getF l28 z34 fun x54 => ds_bool x54 fun b55 => letB (b53 == b55) fun b56 => L14_6 n l1 z5 l10 l11 z15 z16 b24 l27 l28 z29 l30 z34 b56 else L14_6 n l1 z5 l10 l11 z15 z16 b24 l27 l28 z29 l30 z34 false) else lenF l27 fun z62 => lenF l10 fun z63 => (if z62 = z63 then L14_8 n l1 z5 z29 l30 false else letB (!b24) fun b64 => (if b64 = true then L14_8 n l1 z5 z29 l30 true else (if (2 : Int) ≤ z15 then (if z15 ≤ (6 : Int) then L14_8 n l1 z5 z29 l30 true else L14_8 n l1 z5 z29 l30 false) else L14_8 n l1 z5 z29 l30 false))))
def L14_6 : Nat → (List D) → Int → (List D) → (List D) → Int → Int → Bool → (List D) → (List D) → Int → (List D) → Int → Bool → Option (Bool)
  | 0, _, _, _, _, _, _, _, _, _, _, _, _, _ => none
  | n + 1, l1, z5, l10, l11, z15, z16, b24, l27, l28, z29, l30, z34, b57 =>
    letB (!b57) fun b58 => (if b58 = true then letB (!b24) fun b59 => (if b59 = true then L14_7 n l1 z5 l10 l11 z15 z16 b24 l27 l28 z29 l30 z34 true else (if z34 = z16 then (if z15 < (3 : Int) then L14_7 n l1 z5 l10 l11 z15 z16 b24 l27 l28 z29 l30 z34 true else (if (6 : Int) < z15 then L14_7 n l1 z5 l10 l11 z15 z16 b24 l27 l28 z29 l30 z34 true else L14_7 n l1 z5 l10 l11 z15 z16 b24 l27 l28 z29 l30 z34 false)) else L14_7 n l1 z5 l10 l11 z15 z16 b24 l27 l28 z29 l30 z34 true)) else L14_7 n l1 z5 l10 l11 z15 z16 b24 l27 l28 z29 l30 z34 false)
def L14_7 : Nat → (List D) → Int → (List D) → (List D) → Int → Int → Bool → (List D) → (List D) → Int → (List D) → Int → Bool → Option (Bool)
  | 0, _, _, _, _, _, _, _, _, _, _, _, _, _ => none
  | n + 1, l1, z5, l10, l11, z15, z16, b24, l27, l28, z29, l30, z34, b60 =>
    (if b60 = true then some false else letF (IntKind.wrap .i64 (z34 + 1)) fun z61 => L14_4 n l1 z5 l10 l11 z15 z16 b24 l27 l28 z29 l30 z61)
def L14_8 : Nat → (List D) → Int → Int → (List D) → Bool → Option (Bool)
  | 0, _, _, _, _, _ => none
  | n + 1, l1, z5, z29, l30, b65 =>
    (if b65 = true then some false else letF (IntKind.wrap .i64 (z5 + 1)) fun z66 => L14_1 n l1 z66 z29 l30)
end
def F14 (n : Nat) (l1 : List D) : Option (Bool) :=
  bO1 (F65 n) fun b2 => letB (!b2) fun b3 => (if b3 = true then some false else bO1 (F50 n l1) fun b4 => (if b4 = true then some true else bO0 (F60 n) (L14_1 n l1 (0 : Int) (0 : Int) ([] : List D))))
set_option maxRecDepth 100000 in
set_option maxHeartbeats 40000000 in
theorem T14 (n : Nat) : ∀ ⦃l1 : List D⦄ ⦃r1 : Bool⦄, F14 n l1 = some r1 →
    Trip Try.prog inv 14 [.d (.list true 9 l1)] [] (.v (.d (.bool r1))) [] [] := by
  intro l1 r1 h
  unfold F14 at h
  refine Trip.of tab_ok tab_one fol Try.func14 rfl (by kernel_rfl) rfl rfl rfl (fun M hM hI => ?_)
  try cbv
  refine seq_go ?_
  try cbv
  refine seq_go ?_
  try cbv
  refine seq_go ?_
  try cbv
  replace h := bO1_inv h
  obtain ⟨b2, hr, h⟩ := h
  refine call_go rfl rfl ?_
  try cbv
  refine call_pure hM hI (T65 _ hr) rfl ?_
  clear hr
  try cbv
  replace h := letB_inv h
  obtain ⟨b3, hz, h⟩ := h
  refine ⟨b3, not_eq' hz, ?_⟩
  clear hz
  try cbv
  cases b3
  · replace h := ite_f Bool.false_ne_true h
    try cbv
    refine seq_go ?_
    try cbv
    refine seq_go ?_
    try cbv
    replace h := bO1_inv h
    obtain ⟨b4, hr, h⟩ := h
    refine call_go rfl rfl ?_
    try cbv
    refine call_pure hM hI (T50 _ hr) rfl ?_
    clear hr
    try cbv
    cases b4
    · replace h := ite_f Bool.false_ne_true h
      try cbv
      refine seq_go ?_
      try cbv
      replace h := bO0_inv h
      obtain ⟨hr, h⟩ := h
      refine call_go rfl rfl ?_
      try cbv
      refine call_with hM hI [] (T60 _ hr) rfl (by simp) trivial trivial (by simp) ?_
      clear hr
      try cbv
      refine seq_go ?_
      try cbv
      refine seq_go ?_
      try cbv
      refine loop_invG (T := Nat × Int × Int × List D) [] [] [0, 2, 3, 4] [.loc 160, .loc 161] 256 (fun t => ⟨[(0, .v (.d (.list true 9 l1))), (2, .v (.d (.bool false))), (3, .v (.c (.ptr (.loc 160) 0))), (4, .v (.d (.int .i64 t.2.1)))], [(.loc 160, .cells [.ow (.loc 161), .d (.int .i64 t.2.2.1)]), (.loc 161, .tree (.fmap true) true 8 t.2.2.2 none)], 256⟩)
        (fun t => t.1 ≤ n ∧ L14_1 t.1 l1 t.2.1 t.2.2.1 t.2.2.2 = some r1) (fun t => t.1) (n, ((0 : Int), (0 : Int), ([] : List D))) ⟨Nat.le_refl _, h⟩ (by cbv) ?_
      clear h
      rintro ⟨m1, z5, z6, l7⟩ ⟨hm1, h⟩
      replace hm1 : m1 ≤ n := hm1
      cases m1 with
      | zero =>
        replace h : L14_1 0 l1 z5 z6 l7 = some r1 := h
        rw [L14_1] at h
        cases h
      | succ m1 =>
        replace h : L14_1 (m1 + 1) l1 z5 z6 l7 = some r1 := h
        rw [L14_1] at h
        try cbv
        refine seq_go ?_
        try cbv
        refine seq_join (T := Nat × Bool) (fun t => ⟨[(0, .v (.d (.list true 9 l1))), (2, .v (.d (.bool false))), (3, .v (.c (.ptr (.loc 160) 0))), (4, .v (.d (.int .i64 z5))), (20, .v (.d (.bool t.2)))], [(.loc 160, .cells [.ow (.loc 161), .d (.int .i64 z6)]), (.loc 161, .tree (.fmap true) true 8 l7 none)], 384⟩) (fun t => t.1 ≤ m1 ∧ L14_2 t.1 l1 z5 z6 l7 t.2 = some r1) ?_ ?_
        · try cbv
          replace h := lenF_inv M h
          obtain ⟨z8, hz, h⟩ := h
          refine ⟨z8, hz, ?_⟩
          clear hz
          try cbv
          refine splitL (fun e => ?_) (fun e => ?_)
          · replace h := ite_t e h
            clear e
            try cbv
            exact join_next (m1, true) [0, 2, 3, 4, 20] [.loc 160, .loc 161] 384 ⟨by omega, h⟩ (by cbv)
          · replace h := ite_f (Int.not_lt.2 e) h
            clear e
            try cbv
            exact join_next (m1, false) [0, 2, 3, 4, 20] [.loc 160, .loc 161] 384 ⟨by omega, h⟩ (by cbv)
        · clear h
          rintro ⟨m2, b9⟩ ⟨hm2, h⟩
          replace hm2 : m2 ≤ m1 := hm2
          cases m2 with
          | zero =>
            replace h : L14_2 0 l1 z5 z6 l7 b9 = some r1 := h
            rw [L14_2] at h
            cases h
          | succ m2 =>
            replace h : L14_2 (m2 + 1) l1 z5 z6 l7 b9 = some r1 := h
            rw [L14_2] at h
            try cbv
            cases b9
            · replace h := ite_f Bool.false_ne_true h
              try cbv
              refine seq_go ?_
              try cbv
              obtain rfl := Option.some.inj h
              refine fin_go ?_
              try cbv
              exact ⟨[], rfl, rfl, trivial, trivial, trivial⟩
            · replace h := ite_t rfl h
              try cbv
              refine seq_go ?_
              try cbv
              refine seq_go ?_
              try cbv
              replace h := bO4_inv h
              obtain ⟨l10, l11, z12, l13, hr, h⟩ := h
              refine call_go rfl rfl ?_
              try cbv
              refine call_with hM hI [.loc 160, .loc 161] (T66 _ hr) rfl (by simp) ⟨rfl, ⟨rfl, trivial⟩⟩ ⟨trivial, ⟨trivial, trivial⟩⟩ (by simp) ?_
              clear hr
              try cbv
              refine seq_go ?_
              try cbv
              replace h := getF_inv h
              obtain ⟨x14, hx14, h⟩ := h
              replace h := ds_t90_inv h
              obtain ⟨z15, z16, l17, z18, z19, s20, l21, z22, l23, rfl, h⟩ := h
              refine ⟨_, hx14.1, hx14.2, ?_⟩
              try cbv
              replace h := bO3_inv h
              obtain ⟨b24, z25, l26, hr, h⟩ := h
              refine call_go rfl rfl ?_
              try cbv
              refine call_with hM hI [.loc 160, .loc 161] (T67 _ hr) rfl (by simp) ⟨rfl, ⟨rfl, trivial⟩⟩ ⟨trivial, ⟨trivial, trivial⟩⟩ (by simp) ?_
              clear hr
              try cbv
              refine seq_go ?_
              try cbv
              replace h := bO4_inv h
              obtain ⟨l27, l28, z29, l30, hr, h⟩ := h
              refine call_go rfl rfl ?_
              try cbv
              refine call_with hM hI [.loc 160, .loc 161] (T66 _ hr) rfl (by simp) ⟨rfl, ⟨rfl, trivial⟩⟩ ⟨trivial, ⟨trivial, trivial⟩⟩ (by simp) ?_
              clear hr
              try cbv
              refine seq_go ?_
              try cbv
              refine seq_join (T := Nat × Bool) (fun t => ⟨[(0, .v (.d (.list true 9 l1))), (2, .v (.d (.bool false))), (3, .v (.c (.ptr (.loc 160) 0))), (4, .v (.d (.int .i64 z5))), (5, .v (.d (.list true 6 l10))), (6, .v (.d (.list false 1 l11))), (7, .v (.d (.bool b24))), (8, .v (.d (.list true 6 l27))), (9, .v (.d (.list false 1 l28))), (43, .v (.d (.bool t.2)))], [(.loc 160, .cells [.ow (.loc 161), .d (.int .i64 z29)]), (.loc 161, .tree (.fmap true) true 8 l30 none)], 1216⟩) (fun t => t.1 ≤ m2 ∧ L14_3 t.1 l1 z5 l10 l11 z15 z16 b24 l27 l28 z29 l30 t.2 = some r1) ?_ ?_
              · try cbv
                replace h := lenF_inv M h
                obtain ⟨z31, hz, h⟩ := h
                refine ⟨z31, hz, ?_⟩
                clear hz
                try cbv
                replace h := lenF_inv M h
                obtain ⟨z32, hz, h⟩ := h
                refine ⟨z32, hz, ?_⟩
                clear hz
                try cbv
                refine splitL (fun e => ?_) (fun e => ?_)
                · replace h := ite_t e h
                  clear e
                  try cbv
                  exact join_next (m2, true) [0, 2, 3, 4, 5, 6, 7, 8, 9, 43] [.loc 160, .loc 161] 1216 ⟨by omega, h⟩ (by cbv)
                · replace h := ite_f (Int.not_lt.2 e) h
                  clear e
                  try cbv
                  exact join_next (m2, false) [0, 2, 3, 4, 5, 6, 7, 8, 9, 43] [.loc 160, .loc 161] 1216 ⟨by omega, h⟩ (by cbv)
              · clear h
                rintro ⟨m3, b33⟩ ⟨hm3, h⟩
                replace hm3 : m3 ≤ m2 := hm3
                cases m3 with
                | zero =>
                  replace h : L14_3 0 l1 z5 l10 l11 z15 z16 b24 l27 l28 z29 l30 b33 = some r1 := h
                  rw [L14_3] at h
                  cases h
                | succ m3 =>
                  replace h : L14_3 (m3 + 1) l1 z5 l10 l11 z15 z16 b24 l27 l28 z29 l30 b33 = some r1 := h
                  rw [L14_3] at h
                  try cbv
                  cases b33
                  · replace h := ite_f Bool.false_ne_true h
                    try cbv
                    refine seq_go ?_
                    try cbv
                    refine seq_go ?_
                    try cbv
                    refine loop_invG (T := Nat × Int) [] [] [0, 2, 3, 4, 5, 6, 7, 8, 9, 10] [.loc 160, .loc 161] 1248 (fun t => ⟨[(0, .v (.d (.list true 9 l1))), (2, .v (.d (.bool false))), (3, .v (.c (.ptr (.loc 160) 0))), (4, .v (.d (.int .i64 z5))), (5, .v (.d (.list true 6 l10))), (6, .v (.d (.list false 1 l11))), (7, .v (.d (.bool b24))), (8, .v (.d (.list true 6 l27))), (9, .v (.d (.list false 1 l28))), (10, .v (.d (.int .i64 t.2)))], [(.loc 160, .cells [.ow (.loc 161), .d (.int .i64 z29)]), (.loc 161, .tree (.fmap true) true 8 l30 none)], 1248⟩)
                      (fun t => t.1 ≤ m3 ∧ L14_4 t.1 l1 z5 l10 l11 z15 z16 b24 l27 l28 z29 l30 t.2 = some r1) (fun t => t.1) (m3, (0 : Int)) ⟨Nat.le_refl _, h⟩ (by cbv) ?_
                    clear h
                    rintro ⟨m4, z34⟩ ⟨hm4, h⟩
                    replace hm4 : m4 ≤ m3 := hm4
                    cases m4 with
                    | zero =>
                      replace h : L14_4 0 l1 z5 l10 l11 z15 z16 b24 l27 l28 z29 l30 z34 = some r1 := h
                      rw [L14_4] at h
                      cases h
                    | succ m4 =>
                      replace h : L14_4 (m4 + 1) l1 z5 l10 l11 z15 z16 b24 l27 l28 z29 l30 z34 = some r1 := h
                      rw [L14_4] at h
                      try cbv
                      refine seq_go ?_
                      try cbv
                      refine seq_join (T := Nat × Bool) (fun t => ⟨[(0, .v (.d (.list true 9 l1))), (2, .v (.d (.bool false))), (3, .v (.c (.ptr (.loc 160) 0))), (4, .v (.d (.int .i64 z5))), (5, .v (.d (.list true 6 l10))), (6, .v (.d (.list false 1 l11))), (7, .v (.d (.bool b24))), (8, .v (.d (.list true 6 l27))), (9, .v (.d (.list false 1 l28))), (10, .v (.d (.int .i64 z34))), (47, .v (.d (.bool t.2)))], [(.loc 160, .cells [.ow (.loc 161), .d (.int .i64 z29)]), (.loc 161, .tree (.fmap true) true 8 l30 none)], 1376⟩) (fun t => t.1 ≤ m4 ∧ L14_5 t.1 l1 z5 l10 l11 z15 z16 b24 l27 l28 z29 l30 z34 t.2 = some r1) ?_ ?_
                      · try cbv
                        replace h := lenF_inv M h
                        obtain ⟨z35, hz, h⟩ := h
                        refine ⟨z35, hz, ?_⟩
                        clear hz
                        try cbv
                        refine splitL (fun e => ?_) (fun e => ?_)
                        · replace h := ite_t e h
                          clear e
                          try cbv
                          exact join_next (m4, true) [0, 2, 3, 4, 5, 6, 7, 8, 9, 10, 47] [.loc 160, .loc 161] 1376 ⟨by omega, h⟩ (by cbv)
                        · replace h := ite_f (Int.not_lt.2 e) h
                          clear e
                          try cbv
                          exact join_next (m4, false) [0, 2, 3, 4, 5, 6, 7, 8, 9, 10, 47] [.loc 160, .loc 161] 1376 ⟨by omega, h⟩ (by cbv)
                      · clear h
                        rintro ⟨m5, b36⟩ ⟨hm5, h⟩
                        replace hm5 : m5 ≤ m4 := hm5
                        cases m5 with
                        | zero =>
                          replace h : L14_5 0 l1 z5 l10 l11 z15 z16 b24 l27 l28 z29 l30 z34 b36 = some r1 := h
                          rw [L14_5] at h
                          cases h
                        | succ m5 =>
                          replace h : L14_5 (m5 + 1) l1 z5 l10 l11 z15 z16 b24 l27 l28 z29 l30 z34 b36 = some r1 := h
                          rw [L14_5] at h
                          try cbv
                          cases b36
                          · replace h := ite_f Bool.false_ne_true h
                            try cbv
                            refine seq_join (T := Nat × Bool) (fun t => ⟨[(0, .v (.d (.list true 9 l1))), (2, .v (.d (.bool false))), (3, .v (.c (.ptr (.loc 160) 0))), (4, .v (.d (.int .i64 z5))), (10, .v (.d (.int .i64 z34))), (125, .v (.d (.bool t.2)))], [(.loc 160, .cells [.ow (.loc 161), .d (.int .i64 z29)]), (.loc 161, .tree (.fmap true) true 8 l30 none)], 2176⟩) (fun t => t.1 ≤ m5 ∧ L14_8 t.1 l1 z5 z29 l30 t.2 = some r1) ?_ ?_
                            · try cbv
                              replace h := lenF_inv M h
                              obtain ⟨z62, hz, h⟩ := h
                              refine ⟨z62, hz, ?_⟩
                              clear hz
                              try cbv
                              replace h := lenF_inv M h
                              obtain ⟨z63, hz, h⟩ := h
                              refine ⟨z63, hz, ?_⟩
                              clear hz
                              try cbv
                              refine splitI (fun e => ?_) (fun e => ?_)
                              · replace h := ite_t e h
                                clear e
                                try cbv
                                exact join_next (m5, false) [0, 2, 3, 4, 10, 125] [.loc 160, .loc 161] 2176 ⟨by omega, h⟩ (by cbv)
                              · replace h := ite_f e h
                                clear e
                                try cbv
                                replace h := letB_inv h
                                obtain ⟨b64, hz, h⟩ := h
                                refine ⟨b64, not_eq' hz, ?_⟩
                                clear hz
                                try cbv
                                cases b64
                                · replace h := ite_f Bool.false_ne_true h
                                  try cbv
                                  refine ⟨_, hx14.1, hx14.2, ?_⟩
                                  try cbv
                                  refine splitLe (fun e => ?_) (fun e => ?_)
                                  · replace h := ite_t e h
                                    clear e
                                    try cbv
                                    refine ⟨_, hx14.1, hx14.2, ?_⟩
                                    try cbv
                                    refine splitLe (fun e => ?_) (fun e => ?_)
                                    · replace h := ite_t e h
                                      clear e
                                      try cbv
                                      exact join_next (m5, true) [0, 2, 3, 4, 10, 125] [.loc 160, .loc 161] 2176 ⟨by omega, h⟩ (by cbv)
                                    · replace h := ite_f (Int.not_le.2 e) h
                                      clear e
                                      try cbv
                                      exact join_next (m5, false) [0, 2, 3, 4, 10, 125] [.loc 160, .loc 161] 2176 ⟨by omega, h⟩ (by cbv)
                                  · replace h := ite_f (Int.not_le.2 e) h
                                    clear e
                                    try cbv
                                    exact join_next (m5, false) [0, 2, 3, 4, 10, 125] [.loc 160, .loc 161] 2176 ⟨by omega, h⟩ (by cbv)
                                · replace h := ite_t rfl h
                                  try cbv
                                  exact join_next (m5, true) [0, 2, 3, 4, 10, 125] [.loc 160, .loc 161] 2176 ⟨by omega, h⟩ (by cbv)
                            · clear h
                              rintro ⟨m8, b65⟩ ⟨hm8, h⟩
                              replace hm8 : m8 ≤ m5 := hm8
                              cases m8 with
                              | zero =>
                                replace h : L14_8 0 l1 z5 z29 l30 b65 = some r1 := h
                                rw [L14_8] at h
                                cases h
                              | succ m8 =>
                                replace h : L14_8 (m8 + 1) l1 z5 z29 l30 b65 = some r1 := h
                                rw [L14_8] at h
                                try cbv
                                cases b65
                                · replace h := ite_f Bool.false_ne_true h
                                  try cbv
                                  replace h := letF_inv h
                                  obtain ⟨z66, hz, h⟩ := h
                                  refine ⟨z66, hz, ?_⟩
                                  clear hz
                                  try cbv
                                  refine loop_nextG (m8, (z66, z29, l30)) [] [] [0, 2, 3, 4] [.loc 160, .loc 161] 256 ⟨by omega, h⟩ (Nat.lt_succ_of_le (by omega)) ?_
                                  try cbv
                                · replace h := ite_t rfl h
                                  try cbv
                                  refine seq_go ?_
                                  try cbv
                                  obtain rfl := Option.some.inj h
                                  refine fin_go ?_
                                  try cbv
                                  exact ⟨[], rfl, rfl, trivial, trivial, trivial⟩
                          · replace h := ite_t rfl h
                            try cbv
                            refine seq_go ?_
                            try cbv
                            refine seq_join (T := Nat × Bool) (fun t => ⟨[(0, .v (.d (.list true 9 l1))), (2, .v (.d (.bool false))), (3, .v (.c (.ptr (.loc 160) 0))), (4, .v (.d (.int .i64 z5))), (5, .v (.d (.list true 6 l10))), (6, .v (.d (.list false 1 l11))), (7, .v (.d (.bool b24))), (8, .v (.d (.list true 6 l27))), (9, .v (.d (.list false 1 l28))), (10, .v (.d (.int .i64 z34))), (11, .v (.d (.bool t.2)))], [(.loc 160, .cells [.ow (.loc 161), .d (.int .i64 z29)]), (.loc 161, .tree (.fmap true) true 8 l30 none)], 2048⟩) (fun t => t.1 ≤ m5 ∧ L14_6 t.1 l1 z5 l10 l11 z15 z16 b24 l27 l28 z29 l30 z34 t.2 = some r1) ?_ ?_
                            · try cbv
                              replace h := getF_inv h
                              obtain ⟨x37, hx37, h⟩ := h
                              replace h := ds_t49_inv h
                              obtain ⟨z38, z39, s40, l41, z42, l43, rfl, h⟩ := h
                              refine ⟨_, hx37.1, hx37.2, ?_⟩
                              try cbv
                              replace h := getF_inv h
                              obtain ⟨x44, hx44, h⟩ := h
                              replace h := ds_t49_inv h
                              obtain ⟨z45, z46, s47, l48, z49, l50, rfl, h⟩ := h
                              refine ⟨_, hx44.1, hx44.2, ?_⟩
                              try cbv
                              replace h := bO1_inv h
                              obtain ⟨b51, hr, h⟩ := h
                              first | refine .inr (.inl ⟨[], ?_⟩) | refine .inl ⟨[], ?_⟩
                              try cbv
                              refine call_pure hM hI (T34 _ hr) rfl ?_
                              clear hr
                              try cbv
                              cases b51
                              · replace h := ite_f Bool.false_ne_true h
                                try cbv
                                refine drawn ?_ ?_
                                · show _ = true
                                  kernel_rfl
                                try cbv
                                exact join_next (m5, false) [0, 2, 3, 4, 5, 6, 7, 8, 9, 10, 11] [.loc 160, .loc 161] 2048 ⟨by omega, h⟩ (by cbv)
                              · replace h := ite_t rfl h
                                try cbv
                                replace h := getF_inv h
                                obtain ⟨x52, hx52, h⟩ := h
                                replace h := ds_bool_inv h
                                obtain ⟨b53, rfl, h⟩ := h
                                refine ⟨_, hx52.1, hx52.2, ?_⟩
                                try cbv
                                replace h := getF_inv h
                                obtain ⟨x54, hx54, h⟩ := h
                                replace h := ds_bool_inv h
                                obtain ⟨b55, rfl, h⟩ := h
                                refine ⟨_, hx54.1, hx54.2, ?_⟩
                                try cbv
                                replace h := letB_inv h
                                obtain ⟨b56, hz, h⟩ := h
                                refine ⟨b56, eqv_eq hz, ?_⟩
                                clear hz
                                try cbv
                                refine drawn ?_ ?_
                                · show _ = true
                                  kernel_rfl
                                try cbv
                                exact join_next (m5, b56) [0, 2, 3, 4, 5, 6, 7, 8, 9, 10, 11] [.loc 160, .loc 161] 2048 ⟨by omega, h⟩ (by cbv)
                            · clear h
                              rintro ⟨m6, b57⟩ ⟨hm6, h⟩
                              replace hm6 : m6 ≤ m5 := hm6
                              cases m6 with
                              | zero =>
                                replace h : L14_6 0 l1 z5 l10 l11 z15 z16 b24 l27 l28 z29 l30 z34 b57 = some r1 := h
                                rw [L14_6] at h
                                cases h
                              | succ m6 =>
                                replace h : L14_6 (m6 + 1) l1 z5 l10 l11 z15 z16 b24 l27 l28 z29 l30 z34 b57 = some r1 := h
                                rw [L14_6] at h
                                try cbv
                                refine seq_join (T := Nat × Bool) (fun t => ⟨[(0, .v (.d (.list true 9 l1))), (2, .v (.d (.bool false))), (3, .v (.c (.ptr (.loc 160) 0))), (4, .v (.d (.int .i64 z5))), (5, .v (.d (.list true 6 l10))), (6, .v (.d (.list false 1 l11))), (7, .v (.d (.bool b24))), (8, .v (.d (.list true 6 l27))), (9, .v (.d (.list false 1 l28))), (10, .v (.d (.int .i64 z34))), (100, .v (.d (.bool t.2)))], [(.loc 160, .cells [.ow (.loc 161), .d (.int .i64 z29)]), (.loc 161, .tree (.fmap true) true 8 l30 none)], 3040⟩) (fun t => t.1 ≤ m6 ∧ L14_7 t.1 l1 z5 l10 l11 z15 z16 b24 l27 l28 z29 l30 z34 t.2 = some r1) ?_ ?_
                                · try cbv
                                  replace h := letB_inv h
                                  obtain ⟨b58, hz, h⟩ := h
                                  refine ⟨b58, not_eq' hz, ?_⟩
                                  clear hz
                                  try cbv
                                  cases b58
                                  · replace h := ite_f Bool.false_ne_true h
                                    try cbv
                                    exact join_next (m6, false) [0, 2, 3, 4, 5, 6, 7, 8, 9, 10, 100] [.loc 160, .loc 161] 3040 ⟨by omega, h⟩ (by cbv)
                                  · replace h := ite_t rfl h
                                    try cbv
                                    replace h := letB_inv h
                                    obtain ⟨b59, hz, h⟩ := h
                                    refine ⟨b59, not_eq' hz, ?_⟩
                                    clear hz
                                    try cbv
                                    cases b59
                                    · replace h := ite_f Bool.false_ne_true h
                                      try cbv
                                      refine ⟨_, hx14.1, hx14.2, ?_⟩
                                      try cbv
                                      refine splitI (fun e => ?_) (fun e => ?_)
                                      · replace h := ite_t e h
                                        clear e
                                        try cbv
                                        refine ⟨_, hx14.1, hx14.2, ?_⟩
                                        try cbv
                                        refine splitL (fun e => ?_) (fun e => ?_)
                                        · replace h := ite_t e h
                                          clear e
                                          try cbv
                                          exact join_next (m6, true) [0, 2, 3, 4, 5, 6, 7, 8, 9, 10, 100] [.loc 160, .loc 161] 3040 ⟨by omega, h⟩ (by cbv)
                                        · replace h := ite_f (Int.not_lt.2 e) h
                                          clear e
                                          try cbv
                                          refine ⟨_, hx14.1, hx14.2, ?_⟩
                                          try cbv
                                          refine splitL (fun e => ?_) (fun e => ?_)
                                          · replace h := ite_t e h
                                            clear e
                                            try cbv
                                            exact join_next (m6, true) [0, 2, 3, 4, 5, 6, 7, 8, 9, 10, 100] [.loc 160, .loc 161] 3040 ⟨by omega, h⟩ (by cbv)
                                          · replace h := ite_f (Int.not_lt.2 e) h
                                            clear e
                                            try cbv
                                            exact join_next (m6, false) [0, 2, 3, 4, 5, 6, 7, 8, 9, 10, 100] [.loc 160, .loc 161] 3040 ⟨by omega, h⟩ (by cbv)
                                      · replace h := ite_f e h
                                        clear e
                                        try cbv
                                        exact join_next (m6, true) [0, 2, 3, 4, 5, 6, 7, 8, 9, 10, 100] [.loc 160, .loc 161] 3040 ⟨by omega, h⟩ (by cbv)
                                    · replace h := ite_t rfl h
                                      try cbv
                                      exact join_next (m6, true) [0, 2, 3, 4, 5, 6, 7, 8, 9, 10, 100] [.loc 160, .loc 161] 3040 ⟨by omega, h⟩ (by cbv)
                                · clear h
                                  rintro ⟨m7, b60⟩ ⟨hm7, h⟩
                                  replace hm7 : m7 ≤ m6 := hm7
                                  cases m7 with
                                  | zero =>
                                    replace h : L14_7 0 l1 z5 l10 l11 z15 z16 b24 l27 l28 z29 l30 z34 b60 = some r1 := h
                                    rw [L14_7] at h
                                    cases h
                                  | succ m7 =>
                                    replace h : L14_7 (m7 + 1) l1 z5 l10 l11 z15 z16 b24 l27 l28 z29 l30 z34 b60 = some r1 := h
                                    rw [L14_7] at h
                                    try cbv
                                    cases b60
                                    · replace h := ite_f Bool.false_ne_true h
                                      try cbv
                                      replace h := letF_inv h
                                      obtain ⟨z61, hz, h⟩ := h
                                      refine ⟨z61, hz, ?_⟩
                                      clear hz
                                      try cbv
                                      refine loop_nextG (m7, z61) [] [] [0, 2, 3, 4, 5, 6, 7, 8, 9, 10] [.loc 160, .loc 161] 1248 ⟨by omega, h⟩ (Nat.lt_succ_of_le (by omega)) ?_
                                      try cbv
                                    · replace h := ite_t rfl h
                                      try cbv
                                      refine seq_go ?_
                                      try cbv
                                      obtain rfl := Option.some.inj h
                                      refine fin_go ?_
                                      try cbv
                                      exact ⟨[], rfl, rfl, trivial, trivial, trivial⟩
                  · replace h := ite_t rfl h
                    try cbv
                    refine seq_go ?_
                    try cbv
                    obtain rfl := Option.some.inj h
                    refine fin_go ?_
                    try cbv
                    exact ⟨[], rfl, rfl, trivial, trivial, trivial⟩
    · replace h := ite_t rfl h
      try cbv
      refine seq_go ?_
      try cbv
      obtain rfl := Option.some.inj h
      refine fin_go ?_
      try cbv
      exact ⟨[], rfl, rfl, trivial, trivial, trivial⟩
  · replace h := ite_t rfl h
    try cbv
    refine seq_go ?_
    try cbv
    obtain rfl := Option.some.inj h
    refine fin_go ?_
    try cbv
    exact ⟨[], rfl, rfl, trivial, trivial, trivial⟩
end Go.Proofs.Ytiiojajgajnhpaa
end

set_option linter.unusedVariables false
noncomputable section
namespace Go.Proofs.Ytiiojajgajnhpaa
open Go Go.AM

theorem iw {z : Int} (h1 : -9223372036854775808 ≤ z) (h2 : z ≤ 9223372036854775807) : IntKind.i64.wrap z = z := IntWalk.i64_in _ (by omega)
theorem ilt {i n : Nat} (h : i < n) : (i : Int) < (n : Int) := by omega
theorem need_pos {γ : Type} {p : Prop} [Decidable p] (h : p) (x : Option γ) : needF p x = x := if_pos h
theorem appF_ok {γ : Type} {b : Nat} {L M : List D} {k : List D → Option γ} (h : L.length + M.length ≤ maxLen ∧ (L.length + M.length) * b ≤ 140737488355328) : appF b L M k = k (L ++ M) := by
  unfold appF
  exact if_pos h
theorem getN_some {γ : Type} {L : List D} {i : Nat} {x : D} {k : D → Option γ} (h : L[i]? = some x) : getN L i k = k x := by unfold getN; rw [h]

structure VV where
  k : Int
  i : Int
  nm : ByteArray
  fs : List D
  id : Int
  pt : List D
def VV.row (v : VV) : D := .agg [.int .u8 v.k, .int .i64 v.i, .str v.nm, .list true 6 v.fs, .int .i64 v.id, .list false 1 v.pt]
def zeroV : VV := ⟨0, 0, ByteArray.empty, [], 0, []⟩
def un : D → VV
  | .agg [.int _ a0, .int _ a1, .str a2, .list _ _ a3, .int _ a4, .list _ _ a5] => ⟨a0, a1, a2, a3, a4, a5⟩
  | _ => zeroV
theorem un_row (v : VV) : un v.row = v := rfl
theorem row_inj {v w : VV} (h : v.row = w.row) : v = w := by rw [← un_row v, h, un_row]
structure VT (v : VV) : Prop where
  k : (Lit.int .u8 v.k).wf = true
  i : (Lit.int .i64 v.i).wf = true
  nm : v.nm.size ≤ maxLen
  fs : ListS tab 49 v.fs
  id : (Lit.int .i64 v.id).wf = true
  pt : ListS tab 3 v.pt
inductive Sm : List D → Prop
  | mk {l : List D} (h : l.length ≤ 1000) (hp : ∀ v : VV, v.row ∈ l → v.pt.length ≤ 10000) (hf : ∀ v : VV, v.row ∈ l → Sm v.fs) : Sm l
theorem Sm.len {l : List D} (h : Sm l) : l.length ≤ 1000 := by cases h; assumption
theorem Sm.pt {l : List D} (h : Sm l) {v : VV} (hv : v.row ∈ l) : v.pt.length ≤ 10000 := by
  cases h with
  | mk h hp hf => exact hp v hv
theorem Sm.fs {l : List D} (h : Sm l) {v : VV} (hv : v.row ∈ l) : Sm v.fs := by
  cases h with
  | mk h hp hf => exact hf v hv
structure VS (v : VV) : Prop where
  t : VT v
  p : v.pt.length ≤ 10000
  f : Sm v.fs
theorem rowV {l : List D} (h : ListS tab 49 l) {i : Nat} (hi : i < l.length) : ∃ v : VV, l[i]? = some v.row ∧ v.row ∈ l ∧ VT v := by
  obtain ⟨x, hx, hm, hr⟩ := h.get hi
  obtain ⟨a0, a1, a2, a3, a4, a5, rfl, w0, w1, w2, w3, w4, w5⟩ := rs49 hr
  exact ⟨⟨a0, a1, a2, a3, a4, a5⟩, hx, hm, ⟨w0, w1, w2, w3, w4, w5⟩⟩
theorem ds25 {γ : Type} (v : VV) (k : Int → Int → ByteArray → List D → Int → List D → Option γ) : ds_t49 v.row k = k v.k v.i v.nm v.fs v.id v.pt := rfl
theorem size_fs {l : List D} {v : VV} (h : v.row ∈ l) : SizeOf.sizeOf v.fs < SizeOf.sizeOf l := size_row (ag := true) (sz := 6) h (by simp)
theorem intsS {l : List D} (h : ListS tab 3 l) : ∃ q : List Int, l = q.map (D.int .i64) ∧ ∀ z ∈ q, (Lit.int .i64 z).wf = true := by
  induction l with
  | nil => exact ⟨[], rfl, by simp⟩
  | cons x l ih =>
    obtain ⟨q, rfl, hq⟩ := ih ⟨by have := h.1; simp only [List.length_cons] at this; omega, fun y hy => h.2 y (List.mem_cons_of_mem _ hy)⟩
    obtain ⟨z, rfl, hz⟩ := rs3 (h.2 x (by simp))
    exact ⟨z :: q, rfl, fun y hy => by rcases List.mem_cons.1 hy with rfl | hy; exact hz; exact hq y hy⟩
abbrev pD (q : List Int) : List D := q.map (D.int .i64)

theorem ev24 (l : List D) : ListS tab 49 l → ∀ z : Int, -1 ≤ z → z ≤ 10000 → ∃ r, Ev (fun n => F92 n l z) r ∧ -1 ≤ r ∧ r ≤ z + 0 ∧ (0 ≤ r → Sm l ∧ 10 * (l.length : Int) ≤ z - r) := by
  refine list_ind (P := fun l => ListS tab 49 l → ∀ z : Int, -1 ≤ z → z ≤ 10000 → ∃ r, Ev (fun n => F92 n l z) r ∧ -1 ≤ r ∧ r ≤ z + 0 ∧ (0 ≤ r → Sm l ∧ 10 * (l.length : Int) ≤ z - r)) (fun l ih h => ?_) l
  have loop : ∀ i : Nat, i ≤ l.length → ∀ z : Int, -1 ≤ z → z ≤ 10000 → ∃ r, Ev (fun n => L92_1 n l z (i : Int)) r ∧ -1 ≤ r ∧ r ≤ z ∧
      (0 ≤ r → 10 * ((l.length : Int) - i) ≤ z - r ∧ ∀ j : Nat, i ≤ j → ∀ v : VV, l[j]? = some v.row → v.pt.length ≤ 10000 ∧ Sm v.fs) := by
    refine down l.length ?_ ?_
    · intro z h1 h2
      refine ⟨z, .succ ?_, h1, Int.le_refl _, fun _ => ⟨by omega, fun j hj v hv => absurd ((List.getElem?_eq_some_iff.1 hv).1) (by omega)⟩⟩
      simp only [L92_1, lenF, Int.lt_irrefl, if_false]
      exact .succ (by simp only [L92_2, Bool.false_eq_true, if_false]; exact .ret)
    · intro i hi ihd z h1 h2
      by_cases hz : 0 ≤ z
      · obtain ⟨v, hx, hm, hv⟩ := rowV h hi
        have hw := iw (z := z - 10) (by omega) (by omega)
        have fail : ∀ z14, ∃ r, Ev (fun n => L92_3 n l (i : Int) v.nm v.fs v.pt z14 true) r ∧ r = -1 := fun z14 => ⟨-1, .succ (by simp only [L92_3, if_true]; exact .ret), rfl⟩
        have hsz : v.nm.size = (v.nm.data.toList).length := (Array.length_toList (xs := v.nm.data)).symm
        by_cases c1 : z - 10 < 0
        · refine ⟨-1, .succ ?_, by omega, by omega, by omega⟩
          simp only [L92_1, lenF, if_pos (ilt hi), if_pos hz]
          refine .succ ?_
          simp only [L92_2, if_true, getF_nat hx, ds25, letF, hw, if_pos c1]
          exact .succ (by simp only [L92_3, if_true]; exact .ret)
        by_cases c2 : z - 10 < (v.nm.size : Int)
        · refine ⟨-1, .succ ?_, by omega, by omega, by omega⟩
          simp only [L92_1, lenF, if_pos (ilt hi), if_pos hz]
          refine .succ ?_
          simp only [L92_2, if_true, getF_nat hx, ds25, letF, hw, if_neg c1, szF, if_pos c2]
          exact .succ (by simp only [L92_3, if_true]; exact .ret)
        have hw2 := iw (z := z - 10 - (v.nm.size : Int)) (by omega) (by omega)
        by_cases c3 : z - 10 - (v.nm.size : Int) < (v.pt.length : Int)
        · refine ⟨-1, .succ ?_, by omega, by omega, by omega⟩
          simp only [L92_1, lenF, if_pos (ilt hi), if_pos hz]
          refine .succ ?_
          simp only [L92_2, if_true, getF_nat hx, ds25, letF, hw, if_neg c1, szF, if_neg c2, lenF, hw2, if_pos c3]
          exact .succ (by simp only [L92_3, if_true]; exact .ret)
        have hw3 := iw (z := z - 10 - (v.nm.size : Int) - (v.pt.length : Int)) (by omega) (by omega)
        obtain ⟨y, e1, e2, e3, e4⟩ := ih v.fs (size_fs hm) hv.fs (z - 10 - (v.nm.size : Int) - (v.pt.length : Int)) (by omega) (by omega)
        obtain ⟨r, k1, k2, k3, k4⟩ := ihd y (by omega) (by omega)
        refine ⟨r, .succ ?_, k2, by omega, fun hr => ⟨?_, ?_⟩⟩
        · simp only [L92_1, lenF, if_pos (ilt hi), if_pos hz]
          refine .succ ?_
          simp only [L92_2, if_true, getF_nat hx, ds25, letF, hw, if_neg c1, szF, if_neg c2, lenF, hw2, if_neg c3]
          refine .succ ?_
          simp only [L92_3, Bool.false_eq_true, if_false, szF, letF, hw2, lenF, hw3]
          refine Ev.bO1 e1 ?_
          simp only [letF, wrap_succ hi h.1]
          exact k1
        · have := (k4 hr).1
          have := (e4 (by omega)).2
          omega
        · intro j hj w hw'
          by_cases e : j = i
          · subst e
            rw [hx] at hw'
            obtain rfl := row_inj (Option.some.inj hw')
            exact ⟨by omega, (e4 (by omega)).1⟩
          · exact (k4 hr).2 j (by omega) w hw'
      · refine ⟨z, .succ ?_, h1, Int.le_refl _, by omega⟩
        simp only [L92_1, lenF, if_pos (ilt hi), if_neg hz]
        exact .succ (by simp only [L92_2, Bool.false_eq_true, if_false]; exact .ret)
  intro z h1 h2
  obtain ⟨r, k1, k2, k3, k4⟩ := loop 0 (Nat.zero_le _) z h1 h2
  refine ⟨r, .succ (by simp only [F92]; exact k1), k2, by omega, fun hr => ?_⟩
  obtain ⟨q1, q2⟩ := k4 hr
  refine ⟨.mk (by omega) (fun v hv => ?_) (fun v hv => ?_), by omega⟩
  · obtain ⟨j, hj⟩ := List.getElem?_of_mem hv
    exact (q2 j (Nat.zero_le _) v hj).1
  · obtain ⟨j, hj⟩ := List.getElem?_of_mem hv
    exact (q2 j (Nat.zero_le _) v hj).2
theorem VT.rowS {v : VV} (h : VT v) : RowS tab 49 v.row := mk49 h.k h.i h.nm h.fs h.id h.pt
theorem Ev.nilF {l : List D} {A B : Nat → Option (List D)} {r : List D} (hB : Ev B r) (hA : l = [] → Ev A r) : Ev (fun n => nilF l (A n) (B n)) r := by
  by_cases e : l = []
  · obtain ⟨N, h1⟩ := hA e
    obtain ⟨M, h2⟩ := hB
    refine ⟨N + M, fun n hn => ?_⟩
    show AM.nilF l (A n) (B n) = some r
    rw [nilF_eq (fun _ => by rw [h1 n (by omega), h2 n (by omega)])]
    exact h2 n (by omega)
  · obtain ⟨M, h2⟩ := hB
    refine ⟨M, fun n hn => ?_⟩
    show AM.nilF l (A n) (B n) = some r
    rw [nilF_eq (fun h => absurd h e)]
    exact h2 n hn
theorem scal_ints {l : List D} (h : ListS tab 3 l) : scalB l = true := by
  obtain ⟨q, rfl, _⟩ := intsS h
  unfold scalB
  simp [D.cells, isCon]
theorem ev26 {l : List D} (h : ListS tab 3 l) (hl : l.length ≤ 10000) : Ev (fun n => F141 n l) l := by
  unfold F141
  refine Ev.nilF (.succ ?_) (fun e => ?_)
  · have hM : 10000 < maxLen := by decide
    simp only [L141_1, Bool.false_eq_true, if_false]
    rw [need_pos (scal_ints h)]
    unfold appF
    rw [if_pos (by simp only [List.length_nil]; omega)]
    exact .ret
  · subst e
    exact .succ (by simp only [L141_1, if_true]; exact .ret)
theorem ev10L (l : List D) : ListS tab 49 l → Sm l → ∀ (z1 z2 : Int) (s3 : ByteArray) (z5 : Int) (l6 : List D), ListS tab 3 l6 → l6.length ≤ 10000 → Ev (fun n => F95 n z1 z2 s3 l z5 l6) (z1, z2, s3, z5, l, l6) := by
  refine list_ind (P := fun l => ListS tab 49 l → Sm l → ∀ (z1 z2 : Int) (s3 : ByteArray) (z5 : Int) (l6 : List D), ListS tab 3 l6 → l6.length ≤ 10000 → Ev (fun n => F95 n z1 z2 s3 l z5 l6) (z1, z2, s3, z5, l, l6)) (fun l ih h hs z1 z2 s3 z5 l6 h6 h6' => ?_) l
  have hM : 10000 < maxLen := by decide
  have hl := hs.len
  have loop : ∀ i : Nat, i ≤ l.length → Ev (fun n => L95_1 n z1 z2 s3 l z5 l6 (l.length : Int) (i : Int) (l.take i)) (z1, z2, s3, z5, l, l6) := by
    refine down l.length ?_ ?_
    · refine .succ ?_
      simp only [L95_1, Int.lt_irrefl, if_false]
      refine .succ ?_
      simp only [L95_2, Bool.false_eq_true, if_false, List.take_length]
      exact Ev.bO1 (ev26 h6 h6') .ret
    · intro i hi ihd
      obtain ⟨v, hx, hm, hv⟩ := rowV h hi
      have ht : l.take (i + 1) = l.take i ++ [v.row] := by rw [List.take_add_one, hx]; rfl
      refine .succ ?_
      simp only [L95_1, if_pos (ilt hi)]
      refine .succ ?_
      simp only [L95_2, if_true, getF_nat hx, ds25]
      refine Ev.bO6 (ih v.fs (size_fs hm) hv.fs (hs.fs hm) v.k v.i v.nm v.id v.pt hv.pt (hs.pt hm)) ?_
      have hb : (l.take i).length + [v.row].length ≤ maxLen ∧ ((l.take i).length + [v.row].length) * 88 ≤ 140737488355328 := by simp only [List.length_take, List.length_cons, List.length_nil]; omega
      have ha : ∀ k : List D → Option (Int × Int × ByteArray × Int × List D × List D), appF 88 (l.take i) [.agg [.int .u8 v.k, .int .i64 v.i, .str v.nm, .list true 6 v.fs, .int .i64 v.id, .list false 1 v.pt]] k = k (l.take i ++ [v.row]) := fun k => appF_ok hb
      simp only [ha, letF, wrap_succ hi h.1]
      rw [ht] at ihd
      exact ihd
  refine .succ ?_
  simp only [F95, lenF]
  exact loop 0 (Nat.zero_le _)
theorem ev10 {v : VV} (h : VS v) : Ev (fun n => F95 n v.k v.i v.nm v.fs v.id v.pt) (v.k, v.i, v.nm, v.id, v.fs, v.pt) := ev10L v.fs h.t.fs h.f _ _ _ _ _ h.t.pt h.p

theorem ev10z {v : VV} (h : VS v) : Ev (fun n => F95z n v.k v.i v.nm v.fs v.id v.pt) (v.k, v.i, v.nm, v.fs, v.id, v.pt) := by
  have hM : 10000 < maxLen := by decide
  have hl := h.f.len
  have loop : ∀ i : Nat, i ≤ v.fs.length → Ev (fun n => L95z_1 n v.k v.i v.nm v.fs v.id v.pt (v.fs.length : Int) (i : Int) (v.fs.take i)) (v.k, v.i, v.nm, v.fs, v.id, v.pt) := by
    refine down _ ?_ ?_
    · refine .succ ?_
      simp only [L95z_1, Int.lt_irrefl, if_false]
      refine .succ ?_
      simp only [L95z_2, Bool.false_eq_true, if_false, List.take_length]
      exact Ev.bO1 (ev26 h.t.pt h.p) .ret
    · intro i hi ihd
      obtain ⟨w, hx, hm, hv⟩ := rowV h.t.fs hi
      have ht : v.fs.take (i + 1) = v.fs.take i ++ [w.row] := by rw [List.take_add_one, hx]; rfl
      have hb : (v.fs.take i).length + [w.row].length ≤ maxLen ∧ ((v.fs.take i).length + [w.row].length) * 88 ≤ 140737488355328 := by simp only [List.length_take, List.length_cons, List.length_nil]; omega
      have ha : ∀ k : List D → Option (Int × Int × ByteArray × List D × Int × List D), appF 88 (v.fs.take i) [.agg [.int .u8 w.k, .int .i64 w.i, .str w.nm, .list true 6 w.fs, .int .i64 w.id, .list false 1 w.pt]] k = k (v.fs.take i ++ [w.row]) := fun k => appF_ok hb
      refine .succ ?_
      simp only [L95z_1, if_pos (ilt hi)]
      refine .succ ?_
      simp only [L95z_2, if_true, getF_nat hx, ds25]
      refine Ev.bO6 (ev10 ⟨hv, h.f.pt hm, h.f.fs hm⟩) ?_
      simp only [ha, letF, wrap_succ hi h.t.fs.1]
      rw [ht] at ihd
      exact ihd
  unfold F95z
  simp only [lenF]
  exact loop 0 (Nat.zero_le _)

theorem ints_ev {q q' : List Int} (h : q.length ≤ maxLen) : Ev (fun n => F98 n (pD q) (pD q')) (decide (q = q')) := by
  unfold F98
  simp only [lenF, List.length_map]
  by_cases e : q.length = q'.length
  · simp only [if_pos (show (q.length : Int) = (q'.length : Int) by omega)]
    refine .succ ?_
    simp only [L98_1, Bool.false_eq_true, if_false]
    have loop : ∀ i : Nat, i ≤ q.length → Ev (fun n => L98_2 n (pD q) (pD q') (i : Int)) (decide (q.drop i = q'.drop i)) := by
      refine down _ ?_ (fun i hi ih => ?_)
      · refine .succ ?_
        simp only [L98_2, lenF, List.length_map, Int.lt_irrefl, if_false]
        rw [List.drop_length, e, List.drop_length, decide_eq_true rfl]
        exact .succ (by simp only [L98_3, Bool.false_eq_true, if_false]; exact .ret)
      · have hi' : i < q'.length := by omega
        have h1 : (pD q)[i]? = some (.int .i64 q[i]) := by simp [hi]
        have h2 : (pD q')[i]? = some (.int .i64 q'[i]) := by simp [hi']
        have d1 := List.drop_eq_getElem_cons hi
        have d2 := List.drop_eq_getElem_cons hi'
        refine .succ ?_
        simp only [L98_2, lenF, List.length_map, if_pos (ilt hi)]
        refine .succ ?_
        simp only [L98_3, if_true, getF_nat h1, getF_nat h2, ds_i64]
        by_cases c : q[i] = q'[i]
        · simp only [if_pos c]
          refine .succ ?_
          simp only [L98_4, Bool.false_eq_true, if_false, letF, wrap_succ hi h]
          have : decide (q.drop i = q'.drop i) = decide (q.drop (i + 1) = q'.drop (i + 1)) := by
            rw [d1, d2, c]; exact decide_eq_decide.2 ⟨fun h => (List.cons.inj h).2, fun h => by rw [h]⟩
          rw [this]
          exact ih
        · simp only [if_neg c]
          rw [decide_eq_false (by rw [d1, d2]; intro h; exact c (List.cons.inj h).1)]
          exact .succ (by simp only [L98_4, if_true]; exact .ret)
    have := loop 0 (Nat.zero_le _)
    simpa using this
  · simp only [if_neg (show ¬ (q.length : Int) = (q'.length : Int) by omega)]
    rw [decide_eq_false (fun h => e (congrArg _ h))]
    exact .succ (by simp only [L98_1, if_true]; exact .ret)
theorem pD_inj {q q' : List Int} (h : pD q = pD q') : q = q' := by
  induction q generalizing q' with
  | nil => cases q' <;> simp_all
  | cons a q ih =>
    cases q' with
    | nil => simp at h
    | cons b q' =>
      simp only [List.map_cons, List.cons.injEq, D.int.injEq, true_and] at h
      rw [h.1, ih h.2]
open Classical in
theorem same_of (v w : VV) (hv : VT v) (hw : VT w) (hfs : Ev (fun n => F48 n v.fs w.fs) (decide (v.fs = w.fs))) :
    Ev (fun n => F34 n v.k v.i v.nm v.fs v.id v.pt w.k w.i w.nm w.fs w.id w.pt) (decide (v = w)) := by
  have no : v ≠ w → Ev (fun _ => some false) (decide (v = w)) := fun h => by rw [decide_eq_false h]; exact .ret
  refine .succ ?_
  simp only [F34]
  by_cases c1 : v.k = w.k
  rotate_left
  · simp only [if_neg c1]; exact no (fun h => c1 (by rw [h]))
  by_cases c2 : v.i = w.i
  rotate_left
  · simp only [if_pos c1, if_neg c2]; exact no (fun h => c2 (by rw [h]))
  by_cases c3 : v.nm = w.nm
  rotate_left
  · simp only [if_pos c1, if_pos c2, if_neg c3]; exact no (fun h => c3 (by rw [h]))
  by_cases c4 : v.id = w.id
  rotate_left
  · simp only [if_pos c1, if_pos c2, if_pos c3, if_neg c4]; exact no (fun h => c4 (by rw [h]))
  simp only [if_pos c1, if_pos c2, if_pos c3, if_pos c4]
  obtain ⟨q, e1, _⟩ := intsS hv.pt
  obtain ⟨q', e2, _⟩ := intsS hw.pt
  have hq : q.length ≤ maxLen := by have := hv.pt.1; rw [e1] at this; simpa using this
  rw [e1, e2]
  refine Ev.bO1 (ints_ev hq) ?_
  by_cases c5 : q = q'
  rotate_left
  · simp only [decide_eq_false c5, Bool.false_eq_true, if_false]
    exact no (fun h => c5 (pD_inj (e1.symm.trans ((congrArg VV.pt h).trans e2))))
  simp only [decide_eq_true c5, if_true]
  refine Ev.bO1 hfs ?_
  have : decide (v.fs = w.fs) = decide (v = w) := by
    refine decide_eq_decide.2 ⟨fun h => ?_, fun h => by rw [h]⟩
    have e3 : v.pt = w.pt := by rw [e1, e2, c5]
    obtain ⟨a, b, c, d, e, f⟩ := v
    obtain ⟨a', b', c', d', e', f'⟩ := w
    simp only [VV.mk.injEq]
    exact ⟨c1, c2, c3, h, c4, e3⟩
  rw [this]
  exact .ret
open Classical in
theorem sameL (l : List D) : ∀ m, ListS tab 49 l → ListS tab 49 m → Ev (fun n => F48 n l m) (decide (l = m)) := by
  refine list_ind (P := fun l => ∀ m, ListS tab 49 l → ListS tab 49 m → Ev (fun n => F48 n l m) (decide (l = m))) (fun l ih m h hm => ?_) l
  refine .succ ?_
  simp only [F48, lenF]
  by_cases e : l.length = m.length
  rotate_left
  · simp only [if_neg (show ¬ (l.length : Int) = (m.length : Int) by omega)]
    rw [decide_eq_false (fun h => e (congrArg _ h))]
    exact .succ (by simp only [L48_1, if_true]; exact .ret)
  simp only [if_pos (show (l.length : Int) = (m.length : Int) by omega)]
  refine .succ ?_
  simp only [L48_1, Bool.false_eq_true, if_false]
  have loop : ∀ i : Nat, i ≤ l.length → Ev (fun n => L48_2 n l m (i : Int)) (decide (l.drop i = m.drop i)) := by
    refine down _ ?_ (fun i hi ihd => ?_)
    · refine .succ ?_
      simp only [L48_2, lenF, Int.lt_irrefl, if_false]
      rw [List.drop_length, e, List.drop_length, decide_eq_true rfl]
      exact .succ (by simp only [L48_3, Bool.false_eq_true, if_false]; exact .ret)
    · have hi' : i < m.length := by omega
      obtain ⟨v, hx, hvm, hv⟩ := rowV h hi
      obtain ⟨w, hy, hwm, hw⟩ := rowV hm hi'
      have d1 : l.drop i = v.row :: l.drop (i + 1) := by
        rw [List.drop_eq_getElem_cons hi]; congr 1
        rw [List.getElem?_eq_getElem hi] at hx; exact Option.some.inj hx
      have d2 : m.drop i = w.row :: m.drop (i + 1) := by
        rw [List.drop_eq_getElem_cons hi']; congr 1
        rw [List.getElem?_eq_getElem hi'] at hy; exact Option.some.inj hy
      refine .succ ?_
      simp only [L48_2, lenF, if_pos (ilt hi)]
      refine .succ ?_
      simp only [L48_3, if_true, getF_nat hx, getF_nat hy, ds25]
      refine Ev.bO1 (same_of v w hv hw (ih v.fs (size_fs hvm) w.fs hv.fs hw.fs)) ?_
      by_cases c : v = w
      · simp only [decide_eq_true c, letB, Bool.not_true, Bool.false_eq_true, if_false, letF, wrap_succ hi h.1]
        have : decide (l.drop i = m.drop i) = decide (l.drop (i + 1) = m.drop (i + 1)) := by
          rw [d1, d2, c]; exact decide_eq_decide.2 ⟨fun h => (List.cons.inj h).2, fun h => by rw [h]⟩
        rw [this]
        exact ihd
      · simp only [decide_eq_false c, letB, Bool.not_false, if_true]
        rw [decide_eq_false (by rw [d1, d2]; intro h; exact c (row_inj (List.cons.inj h).1))]
        exact .ret
  have := loop 0 (Nat.zero_le _)
  simpa using this
open Classical in
theorem ev11 {v w : VV} (hv : VT v) (hw : VT w) : Ev (fun n => F34 n v.k v.i v.nm v.fs v.id v.pt w.k w.i w.nm w.fs w.id w.pt) (decide (v = w)) :=
  same_of v w hv hw (sameL v.fs w.fs hv.fs hw.fs)

def leads (v : VV) (n : Int) : Int := if v.k = 0 then 3 else if (v.k = 4 ∨ v.k = 5) ∧ 0 ≤ n ∧ n < (v.fs.length : Int) then 0 else 6
theorem ev38 (v : VV) (n0 : Int) : Ev (fun n => F94 n v.k v.i v.nm v.fs v.id v.pt n0) (leads v n0) := by
  unfold F94 leads
  by_cases c : v.k = 0
  · simp only [if_pos c]; exact .succ (by simp only [L94_1, if_true]; exact .ret)
  · simp only [if_neg c]
    have t : Ev (fun n => L94_2 n true) 6 := .succ (by simp only [L94_2, if_true]; exact .ret)
    have f : Ev (fun n => L94_2 n false) 0 := .succ (by simp only [L94_2, Bool.false_eq_true, if_false]; exact .ret)
    refine .succ ?_
    simp only [L94_1, Bool.false_eq_true, if_false, lenF]
    by_cases c4 : v.k = 4
    · by_cases cn : n0 < 0
      · simp only [if_pos c4, if_pos cn]; rw [if_neg (by omega)]; exact t
      · by_cases cl : (v.fs.length : Int) ≤ n0
        · simp only [if_pos c4, if_neg cn, if_pos cl]; rw [if_neg (by omega)]; exact t
        · simp only [if_pos c4, if_neg cn, if_neg cl]; rw [if_pos (by omega)]; exact f
    · by_cases c5 : v.k = 5
      · by_cases cn : n0 < 0
        · simp only [if_neg c4, if_pos c5, if_pos cn]; rw [if_neg (by omega)]; exact t
        · by_cases cl : (v.fs.length : Int) ≤ n0
          · simp only [if_neg c4, if_pos c5, if_neg cn, if_pos cl]; rw [if_neg (by omega)]; exact t
          · simp only [if_neg c4, if_pos c5, if_neg cn, if_neg cl]; rw [if_pos (by omega)]; exact f
      · simp only [if_neg c4, if_neg c5]; rw [if_neg (by omega)]; exact t
theorem ev38x (v : VV) (n0 : Int) : Ev (fun n => F94x1 n v.k v.i v.nm v.id n0 v.fs v.pt) (leads v n0, v.fs, v.pt) := by
  unfold F94x1 leads
  by_cases c : v.k = 0
  · simp only [if_pos c]; exact .succ (by simp only [L94x1_1, if_true]; exact .ret)
  · simp only [if_neg c]
    have t : Ev (fun n => L94x1_2 n v.fs v.pt true) (6, v.fs, v.pt) := .succ (by simp only [L94x1_2, if_true]; exact .ret)
    have f : Ev (fun n => L94x1_2 n v.fs v.pt false) (0, v.fs, v.pt) := .succ (by simp only [L94x1_2, Bool.false_eq_true, if_false]; exact .ret)
    refine .succ ?_
    simp only [L94x1_1, Bool.false_eq_true, if_false, lenF]
    by_cases c4 : v.k = 4
    · by_cases cn : n0 < 0
      · simp only [if_pos c4, if_pos cn]; rw [if_neg (by omega)]; exact t
      · by_cases cl : (v.fs.length : Int) ≤ n0
        · simp only [if_pos c4, if_neg cn, if_pos cl]; rw [if_neg (by omega)]; exact t
        · simp only [if_pos c4, if_neg cn, if_neg cl]; rw [if_pos (by omega)]; exact f
    · by_cases c5 : v.k = 5
      · by_cases cn : n0 < 0
        · simp only [if_neg c4, if_pos c5, if_pos cn]; rw [if_neg (by omega)]; exact t
        · by_cases cl : (v.fs.length : Int) ≤ n0
          · simp only [if_neg c4, if_pos c5, if_neg cn, if_pos cl]; rw [if_neg (by omega)]; exact t
          · simp only [if_neg c4, if_pos c5, if_neg cn, if_neg cl]; rw [if_pos (by omega)]; exact f
      · simp only [if_neg c4, if_neg c5]; rw [if_neg (by omega)]; exact t
theorem leads_ok {v : VV} {n : Int} (h : leads v n = 0) : v.k ≠ 0 ∧ (v.k = 4 ∨ v.k = 5) ∧ 0 ≤ n ∧ n.toNat < v.fs.length := by
  unfold leads at h
  split at h
  · omega
  · split at h
    · rename_i h1 h2; exact ⟨h1, h2.1, h2.2.1, by omega⟩
    · omega
def part (v : VV) (n : Int) : VV := un (v.fs[n.toNat]?.getD (.bool false))
def setp (v : VV) (n : Int) (w : VV) : VV := { v with fs := v.fs.set n.toNat w.row }
def getS : List Int → VV → VV × Int
  | [], v => if v.k = 0 then (zeroV, 3) else (v, 0)
  | n :: p, v => if leads v n = 0 then getS p (part v n) else (zeroV, leads v n)
def setS : List Int → VV → VV → VV × Int
  | [], v, x => (x, 0)
  | n :: p, v, x => if leads v n = 0 then (setp v n (setS p (part v n) x).1, (setS p (part v n) x).2) else (v, leads v n)
theorem part_ok {v : VV} (hv : VS v) {n : Int} (h : leads v n = 0) : v.fs[n.toNat]? = some (part v n).row ∧ (part v n).row ∈ v.fs ∧ VS (part v n) := by
  obtain ⟨_, _, _, hl⟩ := leads_ok h
  obtain ⟨w, h1, h2, h3⟩ := rowV hv.t.fs hl
  have : part v n = w := by unfold part; rw [h1]; rfl
  rw [this]
  exact ⟨h1, h2, h3, hv.f.pt h2, hv.f.fs h2⟩
theorem VS.setp {v : VV} (hv : VS v) {w : VV} (hw : VS w) (n : Int) : VS (setp v n w) := by
  refine ⟨⟨hv.t.k, hv.t.i, hv.t.nm, hv.t.fs.set _ hw.t.rowS, hv.t.id, hv.t.pt⟩, hv.p, ?_⟩
  refine .mk (by show (v.fs.set _ _).length ≤ 1000; rw [List.length_set]; exact hv.f.len) (fun u hu => ?_) (fun u hu => ?_)
  · rcases List.mem_or_eq_of_mem_set hu with hu | hu
    · exact hv.f.pt hu
    · rw [row_inj hu]; exact hw.p
  · rcases List.mem_or_eq_of_mem_set hu with hu | hu
    · exact hv.f.fs hu
    · rw [row_inj hu]; exact hw.f
theorem setS_VS {x : VV} (hx : VS x) : ∀ (p : List Int) {v : VV}, VS v → VS (setS p v x).1
  | [], v, hv => hx
  | n :: p, v, hv => by
    unfold setS
    by_cases c : leads v n = 0
    · rw [if_pos c]
      exact hv.setp (setS_VS hx p (part_ok hv c).2.2) n
    · rw [if_neg c]; exact hv
theorem zeroV_VT : VT zeroV := ⟨rfl, rfl, by decide, .nil, rfl, .nil⟩
theorem ev20 (q : List Int) (hq : q.length ≤ maxLen) {v : VV} (hv : VS v) : Ev (fun n => F30 n v.k v.i v.nm v.fs v.id v.pt (pD q)) ((getS q v).1.k, (getS q v).1.i, (getS q v).1.nm, (getS q v).1.fs, (getS q v).1.id, (getS q v).1.pt, (getS q v).2) := by
  have loop : ∀ i : Nat, i ≤ q.length → ∀ v, VS v → Ev (fun n => L30_1 n (pD q) (q.length : Int) (i : Int) v.k v.i v.nm v.fs v.id v.pt) ((getS (q.drop i) v).1.k, (getS (q.drop i) v).1.i, (getS (q.drop i) v).1.nm, (getS (q.drop i) v).1.fs, (getS (q.drop i) v).1.id, (getS (q.drop i) v).1.pt, (getS (q.drop i) v).2) := by
    refine down _ (fun v hv => ?_) (fun i hi ih v hv => ?_)
    · rw [List.drop_length]
      refine .succ ?_
      simp only [L30_1, Int.lt_irrefl, if_false]
      refine .succ ?_
      simp only [L30_2, Bool.false_eq_true, if_false]
      unfold getS
      by_cases c : v.k = 0
      · simp only [if_pos c]
        exact .succ (by simp only [L30_4, if_true]; exact .ret)
      · simp only [if_neg c]
        exact .succ (by simp only [L30_4, Bool.false_eq_true, if_false]; exact Ev.bO6 (ev10z hv) .ret)
    · have h1 : (pD q)[i]? = some (.int .i64 q[i]) := by simp [hi]
      rw [List.drop_eq_getElem_cons hi]
      refine .succ ?_
      simp only [L30_1, if_pos (ilt hi)]
      refine .succ ?_
      simp only [L30_2, if_true, getF_nat h1, ds_i64]
      refine Ev.bO1 (ev38 v q[i]) ?_
      unfold getS
      by_cases c : leads v q[i] = 0
      · obtain ⟨e1, _, e3⟩ := part_ok hv c
        have hg : ∀ k : D → Option (Int × Int × ByteArray × List D × Int × List D × Int), getF v.fs q[i] k = k (part v q[i]).row := fun k => getF_some (leads_ok c).2.2.1 e1
        simp only [if_pos c]
        refine .succ ?_
        simp only [L30_3, Bool.false_eq_true, if_false, hg, ds25, letF, wrap_succ hi hq]
        exact ih _ e3
      · simp only [if_neg c]
        exact .succ (by simp only [L30_3, if_true]; exact .ret)
  unfold F30
  simp only [lenF, List.length_map]
  exact loop 0 (Nat.zero_le _) v hv
theorem ev37 {x : VV} (hx : VS x) : ∀ (q : List Int), q.length ≤ maxLen → (∀ z ∈ q, (Lit.int .i64 z).wf = true) → ∀ {v : VV}, VS v →
    Ev (fun n => F97 n v.k v.i v.nm v.id (pD q) v.fs v.pt x.k x.i x.nm x.fs x.id x.pt (0 : Int))
      ((setS q v x).1.k, (setS q v x).1.i, (setS q v x).1.nm, (setS q v x).1.id, x.k, x.i, x.nm, x.fs, x.id, x.pt, (setS q v x).2, (setS q v x).1.fs, (setS q v x).1.pt)
  | [], _, _, v, hv => by
    refine .succ ?_
    simp only [F97, lenF, List.map_nil, List.length_nil, show ((0 : Nat) : Int) = 0 from rfl, if_true]
    refine .succ ?_
    simp only [L97_1, if_true]
    exact Ev.bO6 (ev10 hx) .ret
  | z :: q, hq, hw, v, hv => by
    have hl : q.length ≤ maxLen := by simp only [List.length_cons] at hq; omega
    have h0 : (pD (z :: q))[0]? = some (.int .i64 z) := rfl
    have h0' : ∀ {γ : Type} (k : D → Option γ), getF (pD (z :: q)) 0 k = k (.int .i64 z) := fun k => getF_nat (i := 0) h0
    refine .succ ?_
    simp only [F97, lenF, List.length_map, if_neg (show ¬ ((z :: q).length : Int) = 0 by simp only [List.length_cons]; omega)]
    refine .succ ?_
    simp only [L97_1, Bool.false_eq_true, if_false, h0', ds_i64]
    refine Ev.bO3 (ev38x v z) ?_
    unfold setS
    by_cases c : leads v z = 0
    · obtain ⟨e1, _, e3⟩ := part_ok hv c
      obtain ⟨_, _, c1, c2⟩ := leads_ok c
      simp only [if_pos c, c]
      refine .succ ?_
      have hf : ∀ {γ : Type} (k : List D → Option γ), fromF (pD (z :: q)) (1 : Int) k = k (pD q) := by
        intro γ k
        unfold fromF
        rw [if_pos ⟨by omega, by simp only [List.length_map, List.length_cons]; omega⟩]
        rfl
      simp only [L97_2, if_true, need_pos (show 0 ≤ z ∧ z.toNat < v.fs.length from ⟨c1, c2⟩), getN_some e1, ds25, hf]
      refine Ev.bO13 (ev37 hx q hl (fun y hy => hw y (List.mem_cons_of_mem _ hy)) e3) ?_
      simp only [setF]
      exact .succ (by simp only [L97_3]; exact .ret)
    · simp only [if_neg c]
      refine .succ ?_
      simp only [L97_2, Bool.false_eq_true, if_false]
      exact .succ (by simp only [L97_3]; exact .ret)
def setR (q : List Int) (v x : VV) : VV × Int := if (setS q v x).2 = 0 then ((setS q v x).1, 0) else (zeroV, (setS q v x).2)
theorem ev19 {v x : VV} (hv : VS v) (hx : VS x) {q : List Int} (hq : q.length ≤ maxLen) (hw : ∀ z ∈ q, (Lit.int .i64 z).wf = true) :
    Ev (fun n => F32 n v.k v.i v.nm v.fs v.id v.pt (pD q) x.k x.i x.nm x.fs x.id x.pt) ((setR q v x).1.k, (setR q v x).1.i, (setR q v x).1.nm, (setR q v x).1.fs, (setR q v x).1.id, (setR q v x).1.pt, (setR q v x).2) := by
  unfold F32 setR
  refine Ev.bO6 (ev10 hv) (Ev.bO13 (ev37 hx q hq hw hv) ?_)
  by_cases c : (setS q v x).2 = 0
  · simp only [if_pos c]
    exact .succ (by simp only [L32_1, Bool.false_eq_true, if_false]; exact .ret)
  · simp only [if_neg c]
    exact .succ (by simp only [L32_1, if_true]; exact .ret)
theorem set_of_get : ∀ (p : List Int) (v x : VV), (getS p v).2 = 0 → (setS p v x).2 = 0
  | [], v, x, _ => by rw [setS]
  | n :: p, v, x, h => by
    rw [getS] at h
    rw [setS]
    by_cases c : leads v n = 0
    · rw [if_pos c] at h ⊢; exact set_of_get p _ x h
    · rw [if_neg c] at h; exact absurd h c
end Go.Proofs.Ytiiojajgajnhpaa

set_option linter.unusedVariables false
noncomputable section
namespace Go.Proofs.Ytiiojajgajnhpaa
open Go Go.AM

theorem bO1s {α γ : Type} (a : α) (k : α → Option γ) : bO1 (some a) k = k a := id rfl
theorem bO2s {α β γ : Type} (a : α) (b : β) (k : α → β → Option γ) : bO2 (some (a, b)) k = k a b := id rfl
theorem Ev.bSl {α β γ : Type} {A : Nat → Option (α ⊕ β)} {a : α} {k1 : Nat → α → Option γ} {k2 : Nat → β → Option γ} {r : γ} (ha : Ev A (.inl a)) (hk : Ev (fun n => k1 n a) r) : Ev (fun n => bS (A n) (k1 n) (k2 n)) r := by
  obtain ⟨N, h⟩ := ha
  obtain ⟨M, h'⟩ := hk
  refine ⟨N + M, fun n hn => ?_⟩
  show bS (A n) (k1 n) (k2 n) = some r
  rw [h n (by omega)]
  exact h' n (by omega)
theorem Ev.bSr {α β γ : Type} {A : Nat → Option (α ⊕ β)} {b : β} {k1 : Nat → α → Option γ} {k2 : Nat → β → Option γ} {r : γ} (ha : Ev A (.inr b)) (hk : Ev (fun n => k2 n b) r) : Ev (fun n => bS (A n) (k1 n) (k2 n)) r := by
  obtain ⟨N, h⟩ := ha
  obtain ⟨M, h'⟩ := hk
  refine ⟨N + M, fun n hn => ?_⟩
  show bS (A n) (k1 n) (k2 n) = some r
  rw [h n (by omega)]
  exact h' n (by omega)

def cellsV (c : VV × Bool) : List D := [.int .u8 c.1.k, .int .i64 c.1.i, .str c.1.nm, .list true 6 c.1.fs, .int .i64 c.1.id, .list false 1 c.1.pt, .bool c.2]
def crow (i : Nat) (c : VV × Bool) : D := .agg (.int .i64 (i : Int) :: cellsV c)
def enc : Nat → List (VV × Bool) → List D
  | _, [] => []
  | i, c :: r => crow i c :: enc (i + 1) r
theorem enc_length : ∀ (i : Nat) (H : List (VV × Bool)), (enc i H).length = H.length
  | _, [] => rfl
  | i, c :: r => by simp [enc, enc_length (i + 1) r]
def look (H : List (VV × Bool)) (id : Int) : Option (VV × Bool) := if 0 ≤ id then H[id.toNat]? else none
theorem eqKi (a b : Int) : eqK (.int .i64 a) (.int .i64 b) = some (a == b) := by
  simp [eqK]
theorem findR_enc (id : Int) : ∀ (H : List (VV × Bool)) (i : Nat), findR true (.int .i64 id) (enc i H) = some ((look H (id - i)).map fun c => .agg (cellsV c))
  | [], i => by
    unfold look
    simp only [enc, findR]
    split <;> simp
  | c :: r, i => by
    simp only [enc, crow, findR, eqKi]
    by_cases e : id = (i : Int)
    · subst e
      simp only [beq_self_eq_true, Int.sub_self]
      simp [look, rowOf]
    · have : (id == (i : Int)) = false := by simpa using e
      rw [this]
      simp only
      rw [findR_enc id r (i + 1)]
      congr 2
      unfold look
      by_cases h : (i : Int) < id
      · rw [if_pos (by omega), if_pos (by omega)]
        obtain ⟨j, hj⟩ : ∃ j : Nat, id - i = ((j + 1 : Nat) : Int) := ⟨(id - i - 1).toNat, by omega⟩
        rw [hj, show id - ((i + 1 : Nat) : Int) = (j : Int) by omega, Int.toNat_natCast, Int.toNat_natCast]
        rfl
      · rw [if_neg (by omega), if_neg (by omega)]
theorem putR_set (d : VV × Bool) : ∀ (H : List (VV × Bool)) (i j : Nat), j < H.length → putR (.int .i64 ((i + j : Nat) : Int)) (cellsV d) (enc i H) = some (enc i (H.set j d))
  | [], i, j, h => by simp at h
  | c :: r, i, 0, _ => by
    simp only [enc, crow, putR, eqKi, Nat.add_zero, beq_self_eq_true, List.set_cons_zero]
  | c :: r, i, j + 1, h => by
    have hne : (((i + (j + 1) : Nat) : Int) == (i : Int)) = false := by simp; omega
    have ih := putR_set d r (i + 1) j (by simpa using h)
    simp only [enc, crow, putR, eqKi, hne, List.set_cons_succ]
    rw [show i + (j + 1) = i + 1 + j by omega, ih]
theorem putR_new (d : VV × Bool) : ∀ (H : List (VV × Bool)) (i : Nat), putR (.int .i64 ((i + H.length : Nat) : Int)) (cellsV d) (enc i H) = some (enc i (H ++ [d]))
  | [], i => rfl
  | c :: r, i => by
    have hne : (((i + (c :: r).length : Nat) : Int) == (i : Int)) = false := by simp; omega
    have ih := putR_new d r (i + 1)
    simp only [enc, crow, putR, eqKi, hne, List.cons_append]
    rw [show i + (c :: r).length = i + 1 + r.length by simp; omega, ih]
theorem look_some {H : List (VV × Bool)} {id : Int} {c : VV × Bool} (h : look H id = some c) : 0 ≤ id ∧ id.toNat < H.length ∧ H[id.toNat]? = some c ∧ c ∈ H := by
  unfold look at h
  split at h
  · rename_i h0
    exact ⟨h0, (List.getElem?_eq_some_iff.1 h).1, h, List.mem_of_getElem? h⟩
  · cases h
theorem putF_set {γ : Type} {H : List (VV × Bool)} {id : Int} {c : VV × Bool} (h : look H id = some c) (v : VV) (b : Bool) (k : List D → Option γ) :
    putF (.int .i64 id) [.int .u8 v.k, .int .i64 v.i, .str v.nm, .list true 6 v.fs, .int .i64 v.id, .list false 1 v.pt, .bool b] (enc 0 H) k = k (enc 0 (H.set id.toNat (v, b))) := by
  obtain ⟨h1, h2, _, _⟩ := look_some h
  have := putR_set (v, b) H 0 id.toNat h2
  rw [Nat.zero_add, show ((id.toNat : Nat) : Int) = id by omega] at this
  unfold putF
  rw [show putR (.int .i64 id) [.int .u8 v.k, .int .i64 v.i, .str v.nm, .list true 6 v.fs, .int .i64 v.id, .list false 1 v.pt, .bool b] (enc 0 H) = _ from this]
theorem putF_new {γ : Type} {H : List (VV × Bool)} (v : VV) (b : Bool) (k : List D → Option γ) :
    putF (.int .i64 (H.length : Int)) [.int .u8 v.k, .int .i64 v.i, .str v.nm, .list true 6 v.fs, .int .i64 v.id, .list false 1 v.pt, .bool b] (enc 0 H) k = k (enc 0 (H ++ [(v, b)])) := by
  have := putR_new (v, b) H 0
  rw [Nat.zero_add] at this
  unfold putF
  rw [show putR (.int .i64 (H.length : Int)) [.int .u8 v.k, .int .i64 v.i, .str v.nm, .list true 6 v.fs, .int .i64 v.id, .list false 1 v.pt, .bool b] (enc 0 H) = _ from this]
structure HS (H : List (VV × Bool)) : Prop where
  len : H.length ≤ 1000
  vs : ∀ c ∈ H, VS c.1
theorem HS.nil : HS [] := ⟨by simp, by simp⟩
theorem HS.app {H : List (VV × Bool)} (h : HS H) (hl : H.length < 1000) {v : VV} {b : Bool} (hv : VS v) : HS (H ++ [(v, b)]) := ⟨by simp; omega, fun c hc => by
  rcases List.mem_append.1 hc with hc | hc
  · exact h.vs c hc
  · rw [List.mem_singleton.1 hc]; exact hv⟩
theorem HS.set {H : List (VV × Bool)} (h : HS H) (i : Nat) {v : VV} {b : Bool} (hv : VS v) : HS (H.set i (v, b)) := ⟨by simpa using h.len, fun c hc => by
  rcases List.mem_or_eq_of_mem_set hc with hc | hc
  · exact h.vs c hc
  · rw [hc]; exact hv⟩
theorem Sm.nil : Sm [] := .mk (by simp) (by simp) (by simp)
theorem zeroV_VS : VS zeroV := ⟨zeroV_VT, by decide, .nil⟩

def fnd (H : List (VV × Bool)) (id : Int) : VV × Int := match look H id with
  | none => (zeroV, 6)
  | some c => if c.2 = true then (zeroV, 1) else (c.1, 0)
theorem fnd_VS {H : List (VV × Bool)} (h : HS H) (id : Int) : VS (fnd H id).1 := by
  unfold fnd
  cases e : look H id with
  | none => exact zeroV_VS
  | some c =>
    simp only
    split
    · exact zeroV_VS
    · exact h.vs c (look_some e).2.2.2
theorem fnd_ok {H : List (VV × Bool)} {id : Int} (h : (fnd H id).2 = 0) : look H id = some ((fnd H id).1, false) := by
  unfold fnd at h ⊢
  cases e : look H id with
  | none => rw [e] at h; exact absurd h (by show ¬ (6 : Int) = 0; decide)
  | some c =>
    rw [e] at h
    obtain ⟨v, b⟩ := c
    cases b
    · rfl
    · exact absurd h (by show ¬ (1 : Int) = 0; decide)
theorem fnd_cases (H : List (VV × Bool)) (id : Int) : (fnd H id).2 = 0 ∨ ((fnd H id).2 = 1 ∧ (fnd H id).1 = zeroV) ∨ ((fnd H id).2 = 6 ∧ (fnd H id).1 = zeroV) := by
  unfold fnd
  cases look H id with
  | none => exact .inr (.inr ⟨rfl, rfl⟩)
  | some c =>
    obtain ⟨v, b⟩ := c
    cases b
    · exact .inl rfl
    · exact .inr (.inl ⟨rfl, rfl⟩)
theorem ev24' (H : List (VV × Bool)) (id z : Int) : Ev (fun n => F108 n id z (enc 0 H)) ((fnd H id).1.k, (fnd H id).1.i, (fnd H id).1.nm, (fnd H id).1.fs, (fnd H id).1.id, (fnd H id).1.pt, (fnd H id).2, z, enc 0 H) := by
  unfold F108 F107
  simp only [bO2s]
  have hf := findR_enc id H 0
  rw [show id - ((0 : Nat) : Int) = id by omega] at hf
  unfold findF fnd
  rw [hf]
  cases look H id with
  | none => exact .ret
  | some c =>
    obtain ⟨v, b⟩ := c
    cases b
    · exact .ret
    · exact .ret
theorem ev21' (H : List (VV × Bool)) (hl : H.length ≤ 1000) (z : Int) : Ev (fun n => F59 n z (enc 0 H)) (1000 - (H.length : Int), z, enc 0 H) := by
  unfold F59 F107
  simp only [bO2s, lenF, enc_length, letF, iw (z := 1000 - (H.length : Int)) (by omega) (by omega)]
  exact .ret
theorem ev18' (H : List (VV × Bool)) (z : Int) : Ev (fun n => F57 n z (enc 0 H)) ((H.length : Int), z, enc 0 H) := by
  unfold F57 F107
  simp only [bO2s, lenF, enc_length]
  exact .ret
theorem ev20' (l : List D) (z : Int) : Ev (fun n => F58 n z l) (z, z, l) := by
  unfold F58 F107
  simp only [bO2s]
  exact .ret
theorem ev19' (H : List (VV × Bool)) (id z : Int) : Ev (fun n => F56 n id z (enc 0 H)) (decide ((fnd H id).2 = 0), z, enc 0 H) := by
  unfold F56
  refine Ev.bO9 (ev24' H id z) ?_
  by_cases c : (fnd H id).2 = 0
  · simp only [if_pos c, decide_eq_true c]; exact .ret
  · simp only [if_neg c, decide_eq_false c]; exact .ret
theorem ev17' {H : List (VV × Bool)} (hH : HS H) (hl : H.length < 1000) {v : VV} (hv : VS v) {z : Int} (h0 : 0 ≤ z) (h1 : z ≤ 1000) :
    Ev (fun n => F51 n v.k v.i v.nm v.fs v.id v.pt z (enc 0 H)) ((H.length : Int), 0, z + 1, enc 0 (H ++ [(v, false)])) := by
  unfold F51 F107
  simp only [bO2s]
  refine Ev.bO3 (ev21' H hH.len z) ?_
  simp only [if_neg (show ¬ 1000 - (H.length : Int) = 0 by omega)]
  refine .succ ?_
  simp only [L51_1, Bool.false_eq_true, if_false, lenF, enc_length]
  refine Ev.bO6 (ev10z hv) ?_
  simp only [putF_new, letF, iw (z := z + 1) (by omega) (by omega)]
  exact .ret
def rdS (H : List (VV × Bool)) (id : Int) (q : List Int) : VV × Int := if (fnd H id).2 = 0 then getS q (fnd H id).1 else (zeroV, (fnd H id).2)
theorem ev12' {H : List (VV × Bool)} (hH : HS H) (id : Int) {q : List Int} (hq : q.length ≤ maxLen) (z : Int) :
    Ev (fun n => F52 n id (pD q) z (enc 0 H)) ((rdS H id q).1.k, (rdS H id q).1.i, (rdS H id q).1.nm, (rdS H id q).1.fs, (rdS H id q).1.id, (rdS H id q).1.pt, (rdS H id q).2, z, enc 0 H) := by
  unfold F52 rdS
  refine Ev.bO9 (ev24' H id z) ?_
  by_cases c : (fnd H id).2 = 0
  · simp only [if_pos c]
    refine .succ ?_
    simp only [L52_1, Bool.false_eq_true, if_false]
    exact Ev.bO7 (ev20 q hq (fnd_VS hH id)) .ret
  · simp only [if_neg c]
    exact .succ (by simp only [L52_1, if_true]; exact .ret)
def swS (H : List (VV × Bool)) (id : Int) (q : List Int) (x : VV) : VV × Int × List (VV × Bool) :=
  if (fnd H id).2 = 0 then (if (getS q (fnd H id).1).2 = 0 then ((getS q (fnd H id).1).1, 0, H.set id.toNat ((setS q (fnd H id).1 x).1, false)) else (zeroV, (getS q (fnd H id).1).2, H)) else (zeroV, (fnd H id).2, H)
theorem ev15' {H : List (VV × Bool)} (hH : HS H) (id : Int) {q : List Int} (hq : q.length ≤ maxLen) (hw : ∀ z ∈ q, (Lit.int .i64 z).wf = true) {x : VV} (hx : VS x) (z : Int) :
    Ev (fun n => F53 n id (pD q) x.k x.i x.nm x.fs x.id x.pt z (enc 0 H)) ((swS H id q x).1.k, (swS H id q x).1.i, (swS H id q x).1.nm, (swS H id q x).1.fs, (swS H id q x).1.id, (swS H id q x).1.pt, (swS H id q x).2.1, z, enc 0 (swS H id q x).2.2) := by
  unfold F53 swS
  by_cases c : (fnd H id).2 = 0
  · have hv := fnd_VS hH id
    have hl := fnd_ok c
    by_cases g : (getS q (fnd H id).1).2 = 0
    · have hs := set_of_get q (fnd H id).1 x g
      have hR : setR q (fnd H id).1 x = ((setS q (fnd H id).1 x).1, 0) := by unfold setR; rw [if_pos hs]
      simp only [if_pos c, if_pos g]
      refine Ev.bSr (b := ((0 : Int), z, enc 0 (H.set id.toNat ((setS q (fnd H id).1 x).1, false)), pD q, (getS q (fnd H id).1).1.k, (getS q (fnd H id).1).1.i, (getS q (fnd H id).1).1.nm, (getS q (fnd H id).1).1.fs, (getS q (fnd H id).1).1.id, (getS q (fnd H id).1).1.pt, x.k, x.i, x.nm, x.fs, x.id, x.pt)) ?_ (.of fun n => rfl)
      unfold F109x1
      refine Ev.bO9 (ev24' H id z) ?_
      simp only [if_pos c]
      refine .succ ?_
      simp only [L109x1_1, Bool.false_eq_true, if_false]
      have h31 : Ev (fun n => F110 n (fnd H id).1.k (fnd H id).1.i (fnd H id).1.nm (fnd H id).1.fs (fnd H id).1.id (fnd H id).1.pt (pD q) 0 0 ByteArray.empty 0 x.k x.i x.nm x.fs x.id x.pt)
          (.inr ((setR q (fnd H id).1 x).1.k, (setR q (fnd H id).1 x).1.i, (setR q (fnd H id).1 x).1.nm, (setR q (fnd H id).1 x).1.fs, (setR q (fnd H id).1 x).1.id, (setR q (fnd H id).1 x).1.pt, (setR q (fnd H id).1 x).2, pD q, (getS q (fnd H id).1).1.k, (getS q (fnd H id).1).1.i, (getS q (fnd H id).1).1.nm, (getS q (fnd H id).1).1.fs, (getS q (fnd H id).1).1.id, (getS q (fnd H id).1).1.pt, x.k, x.i, x.nm, x.fs, x.id, x.pt)) := by
        unfold F110
        refine Ev.bO7 (ev20 q hq hv) ?_
        simp only [if_pos g]
        refine .succ ?_
        simp only [L110_1, Bool.false_eq_true, if_false]
        exact Ev.bO7 (ev19 hv hx hq hw) .ret
      rw [hR] at h31
      refine Ev.bSr h31 ?_
      have b20 : ∀ (n : Nat), bO20 (some ((setS q (fnd H id).1 x).1.k, (setS q (fnd H id).1 x).1.i, (setS q (fnd H id).1 x).1.nm, (setS q (fnd H id).1 x).1.fs, (setS q (fnd H id).1 x).1.id, (setS q (fnd H id).1 x).1.pt, (0 : Int), pD q, (getS q (fnd H id).1).1.k, (getS q (fnd H id).1).1.i, (getS q (fnd H id).1).1.nm, (getS q (fnd H id).1).1.fs, (getS q (fnd H id).1).1.id, (getS q (fnd H id).1).1.pt, x.k, x.i, x.nm, x.fs, x.id, x.pt)) (fun z43 z44 s45 l46 z47 l48 z49 l50 z51 z52 s53 l54 z55 l56 z57 z58 s59 l60 z61 l62 => (if z49 = (0 : Int) then L109x1_4 n id z (enc 0 H) z43 z44 s45 l46 z47 l48 z49 l50 z51 z52 s53 l54 z55 l56 z57 z58 s59 l60 z61 l62 true else L109x1_4 n id z (enc 0 H) z43 z44 s45 l46 z47 l48 z49 l50 z51 z52 s53 l54 z55 l56 z57 z58 s59 l60 z61 l62 false)) = L109x1_4 n id z (enc 0 H) (setS q (fnd H id).1 x).1.k (setS q (fnd H id).1 x).1.i (setS q (fnd H id).1 x).1.nm (setS q (fnd H id).1 x).1.fs (setS q (fnd H id).1 x).1.id (setS q (fnd H id).1 x).1.pt 0 (pD q) (getS q (fnd H id).1).1.k (getS q (fnd H id).1).1.i (getS q (fnd H id).1).1.nm (getS q (fnd H id).1).1.fs (getS q (fnd H id).1).1.id (getS q (fnd H id).1).1.pt x.k x.i x.nm x.fs x.id x.pt true := fun n => rfl
      refine Ev.congr (A := fun n => L109x1_4 n id z (enc 0 H) (setS q (fnd H id).1 x).1.k (setS q (fnd H id).1 x).1.i (setS q (fnd H id).1 x).1.nm (setS q (fnd H id).1 x).1.fs (setS q (fnd H id).1 x).1.id (setS q (fnd H id).1 x).1.pt 0 (pD q) (getS q (fnd H id).1).1.k (getS q (fnd H id).1).1.i (getS q (fnd H id).1).1.nm (getS q (fnd H id).1).1.fs (getS q (fnd H id).1).1.id (getS q (fnd H id).1).1.pt x.k x.i x.nm x.fs x.id x.pt true) ?_ (fun n => (b20 n).symm)
      refine .succ ?_
      simp only [L109x1_4, if_true, putF_set hl]
      exact .succ (by simp only [L109x1_5]; exact .ret)
    · simp only [if_pos c, if_neg g]
      refine Ev.bSl (a := ((getS q (fnd H id).1).2, z, enc 0 H, pD q, (0 : Int), (0 : Int), ByteArray.empty, (0 : Int), x.k, x.i, x.nm, x.fs, x.id, x.pt)) ?_ (.of fun n => rfl)
      unfold F109x1
      refine Ev.bO9 (ev24' H id z) ?_
      simp only [if_pos c]
      refine .succ ?_
      simp only [L109x1_1, Bool.false_eq_true, if_false]
      have h31 : Ev (fun n => F110 n (fnd H id).1.k (fnd H id).1.i (fnd H id).1.nm (fnd H id).1.fs (fnd H id).1.id (fnd H id).1.pt (pD q) 0 0 ByteArray.empty 0 x.k x.i x.nm x.fs x.id x.pt)
          (.inl ((getS q (fnd H id).1).1.k, (getS q (fnd H id).1).1.i, (getS q (fnd H id).1).1.nm, (getS q (fnd H id).1).1.fs, (getS q (fnd H id).1).1.id, (getS q (fnd H id).1).1.pt, (getS q (fnd H id).1).2, pD q, 0, 0, ByteArray.empty, 0, x.k, x.i, x.nm, x.fs, x.id, x.pt)) := by
        unfold F110
        refine Ev.bO7 (ev20 q hq hv) ?_
        simp only [if_neg g]
        exact .succ (by simp only [L110_1, if_true]; exact .ret)
      refine Ev.bSl h31 ?_
      have b18 : ∀ n : Nat, bO18 (some ((getS q (fnd H id).1).1.k, (getS q (fnd H id).1).1.i, (getS q (fnd H id).1).1.nm, (getS q (fnd H id).1).1.fs, (getS q (fnd H id).1).1.id, (getS q (fnd H id).1).1.pt, (getS q (fnd H id).1).2, pD q, (0 : Int), (0 : Int), ByteArray.empty, (0 : Int), x.k, x.i, x.nm, x.fs, x.id, x.pt)) (fun z25 z26 s27 l28 z29 l30 z31 l32 z33 z34 s35 z36 z37 z38 s39 l40 z41 l42 => (if z31 = (0 : Int) then L109x1_2 n id z (enc 0 H) z25 z26 s27 l28 z29 l30 z31 l32 z33 z34 s35 z36 z37 z38 s39 l40 z41 l42 true else L109x1_2 n id z (enc 0 H) z25 z26 s27 l28 z29 l30 z31 l32 z33 z34 s35 z36 z37 z38 s39 l40 z41 l42 false)) = L109x1_2 n id z (enc 0 H) (getS q (fnd H id).1).1.k (getS q (fnd H id).1).1.i (getS q (fnd H id).1).1.nm (getS q (fnd H id).1).1.fs (getS q (fnd H id).1).1.id (getS q (fnd H id).1).1.pt (getS q (fnd H id).1).2 (pD q) 0 0 ByteArray.empty 0 x.k x.i x.nm x.fs x.id x.pt false := fun n => if_neg g
      refine Ev.congr (A := fun n => L109x1_2 n id z (enc 0 H) (getS q (fnd H id).1).1.k (getS q (fnd H id).1).1.i (getS q (fnd H id).1).1.nm (getS q (fnd H id).1).1.fs (getS q (fnd H id).1).1.id (getS q (fnd H id).1).1.pt (getS q (fnd H id).1).2 (pD q) 0 0 ByteArray.empty 0 x.k x.i x.nm x.fs x.id x.pt false) ?_ (fun n => (b18 n).symm)
      refine .succ ?_
      simp only [L109x1_2, Bool.false_eq_true, if_false]
      exact .succ (by simp only [L109x1_3]; exact .ret)
  · simp only [if_neg c]
    refine Ev.bSl (a := ((fnd H id).2, z, enc 0 H, pD q, (0 : Int), (0 : Int), ByteArray.empty, (0 : Int), x.k, x.i, x.nm, x.fs, x.id, x.pt)) ?_ (.of fun n => rfl)
    unfold F109x1
    refine Ev.bO9 (ev24' H id z) ?_
    simp only [if_neg c]
    exact .succ (by simp only [L109x1_1, if_true]; exact .ret)
theorem ev11' {H : List (VV × Bool)} (hH : HS H) (id : Int) {q : List Int} (hq : q.length ≤ maxLen) (hw : ∀ z ∈ q, (Lit.int .i64 z).wf = true) (z : Int) :
    Ev (fun n => F115 n id (pD q) z (enc 0 H)) ((swS H id q zeroV).1.k, (swS H id q zeroV).1.i, (swS H id q zeroV).1.nm, (swS H id q zeroV).1.fs, (swS H id q zeroV).1.id, (swS H id q zeroV).1.pt, (swS H id q zeroV).2.1, z, enc 0 (swS H id q zeroV).2.2) := by
  unfold F115
  exact Ev.bO9 (ev15' hH id hq hw zeroV_VS z) .ret
def ptS (H : List (VV × Bool)) (id : Int) (q : List Int) (x : VV) : Int × List (VV × Bool) :=
  if (fnd H id).2 = 0 then (if (setS q (fnd H id).1 x).2 = 0 then (if (getS q (fnd H id).1).2 = 3 then (0, H.set id.toNat ((setS q (fnd H id).1 x).1, false)) else (6, H)) else ((setS q (fnd H id).1 x).2, H)) else ((fnd H id).2, H)
theorem ev13' {H : List (VV × Bool)} (hH : HS H) (id : Int) {q : List Int} (hq : q.length ≤ maxLen) (hw : ∀ z ∈ q, (Lit.int .i64 z).wf = true) {x : VV} (hx : VS x) (z : Int) :
    Ev (fun n => F55 n id (pD q) x.k x.i x.nm x.fs x.id x.pt z (enc 0 H)) ((ptS H id q x).1, z, enc 0 (ptS H id q x).2) := by
  unfold F55 ptS
  have fin : ∀ (f : Int) (l : List D) (R : Nat → Option (Int × Int × List D × List D × Int × Int × ByteArray × List D × Int × List D)), Ev R (f, z, l, pD q, x.k, x.i, x.nm, x.fs, x.id, x.pt) → Ev (fun n => bO10 (R n) fun z11 z12 l13 l14 z15 z16 s17 l18 z19 l20 => some (z11, z12, l13)) (f, z, l) := fun f l R h => Ev.bO10 h .ret
  by_cases c : (fnd H id).2 = 0
  · have hv := fnd_VS hH id
    have hl := fnd_ok c
    simp only [if_pos c]
    by_cases f : (setS q (fnd H id).1 x).2 = 0
    · have hR : setR q (fnd H id).1 x = ((setS q (fnd H id).1 x).1, 0) := by unfold setR; rw [if_pos f]
      have h19 := ev19 hv hx hq hw
      rw [hR] at h19
      simp only [if_pos f]
      by_cases g : (getS q (fnd H id).1).2 = 3
      · simp only [if_pos g]
        refine fin _ _ _ ?_
        unfold F109
        refine Ev.bO9 (ev24' H id z) ?_
        simp only [if_pos c]
        refine .succ ?_
        simp only [L109_1, Bool.false_eq_true, if_false]
        refine Ev.bO14 (a1 := (setS q (fnd H id).1 x).1.k) (a2 := (setS q (fnd H id).1 x).1.i) (a3 := (setS q (fnd H id).1 x).1.nm) (a4 := (setS q (fnd H id).1 x).1.fs) (a5 := (setS q (fnd H id).1 x).1.id) (a6 := (setS q (fnd H id).1 x).1.pt) (a7 := 0) (a8 := pD q) (a9 := x.k) (a10 := x.i) (a11 := x.nm) (a12 := x.fs) (a13 := x.id) (a14 := x.pt) ?_ ?_
        · unfold F111
          refine Ev.bO7 h19 ?_
          simp only [if_true]
          refine .succ ?_
          simp only [L111_1, Bool.false_eq_true, if_false]
          refine Ev.bO7 (ev20 q hq hv) ?_
          simp only [if_pos g]
          exact .succ (by simp only [L111_2, Bool.false_eq_true, if_false]; exact .ret)
        · simp only [if_true]
          refine .succ ?_
          simp only [L109_2, if_true, putF_set hl]
          exact .succ (by simp only [L109_3]; exact .ret)
      · simp only [if_neg g]
        refine fin _ _ _ ?_
        unfold F109
        refine Ev.bO9 (ev24' H id z) ?_
        simp only [if_pos c]
        refine .succ ?_
        simp only [L109_1, Bool.false_eq_true, if_false]
        refine Ev.bO14 (a1 := 0) (a2 := 0) (a3 := ByteArray.empty) (a4 := []) (a5 := 0) (a6 := []) (a7 := 6) (a8 := pD q) (a9 := x.k) (a10 := x.i) (a11 := x.nm) (a12 := x.fs) (a13 := x.id) (a14 := x.pt) ?_ ?_
        · unfold F111
          refine Ev.bO7 h19 ?_
          simp only [if_true]
          refine .succ ?_
          simp only [L111_1, Bool.false_eq_true, if_false]
          refine Ev.bO7 (ev20 q hq hv) ?_
          simp only [if_neg g]
          exact .succ (by simp only [L111_2, if_true]; exact .ret)
        · simp only [if_neg (show ¬ (6 : Int) = 0 by decide)]
          refine .succ ?_
          simp only [L109_2, Bool.false_eq_true, if_false]
          exact .succ (by simp only [L109_3]; exact .ret)
    · have hR : setR q (fnd H id).1 x = (zeroV, (setS q (fnd H id).1 x).2) := by unfold setR; rw [if_neg f]
      have h19 := ev19 hv hx hq hw
      rw [hR] at h19
      simp only [if_neg f]
      refine fin _ _ _ ?_
      unfold F109
      refine Ev.bO9 (ev24' H id z) ?_
      simp only [if_pos c]
      refine .succ ?_
      simp only [L109_1, Bool.false_eq_true, if_false]
      refine Ev.bO14 (a1 := zeroV.k) (a2 := zeroV.i) (a3 := zeroV.nm) (a4 := zeroV.fs) (a5 := zeroV.id) (a6 := zeroV.pt) (a7 := (setS q (fnd H id).1 x).2) (a8 := pD q) (a9 := x.k) (a10 := x.i) (a11 := x.nm) (a12 := x.fs) (a13 := x.id) (a14 := x.pt) ?_ ?_
      · unfold F111
        refine Ev.bO7 h19 ?_
        simp only [if_neg f]
        exact .succ (by simp only [L111_1, if_true]; exact .ret)
      · simp only [if_neg f]
        refine .succ ?_
        simp only [L109_2, Bool.false_eq_true, if_false]
        exact .succ (by simp only [L109_3]; exact .ret)
  · simp only [if_neg c]
    refine fin _ _ _ ?_
    unfold F109
    refine Ev.bO9 (ev24' H id z) ?_
    simp only [if_neg c]
    exact .succ (by simp only [L109_1, if_true]; exact .ret)
def frS (H : List (VV × Bool)) (id : Int) : VV × Int × List (VV × Bool) :=
  if (fnd H id).2 = 0 then ((fnd H id).1, 0, H.set id.toNat (zeroV, true)) else if (fnd H id).2 = 1 then (zeroV, 2, H) else (zeroV, 6, H)
theorem ev16' {H : List (VV × Bool)} (hH : HS H) (id : Int) {z : Int} (h0 : 0 ≤ z) (h1 : z ≤ 1000) :
    Ev (fun n => F54 n id z (enc 0 H)) ((frS H id).1.k, (frS H id).1.i, (frS H id).1.nm, (frS H id).1.fs, (frS H id).1.id, (frS H id).1.pt, (frS H id).2.1, (if (fnd H id).2 = 0 then z - 1 else z), enc 0 (frS H id).2.2) := by
  unfold F54 frS
  refine Ev.bO9 (ev24' H id z) ?_
  by_cases c : (fnd H id).2 = 0
  · have hl := fnd_ok c
    simp only [if_pos c, c, if_neg (show ¬ (0 : Int) = 1 by decide)]
    refine .succ ?_
    simp only [L54_1, Bool.false_eq_true, if_false, if_neg (show ¬ (0 : Int) = 6 by decide)]
    refine .succ ?_
    have hp : ∀ k : List D → Option (Int × Int × ByteArray × List D × Int × List D × Int × Int × List D), putF (.int .i64 id) [.int .u8 0, .int .i64 0, .str ByteArray.empty, .list true 6 [], .int .i64 0, .list false 1 [], .bool true] (enc 0 H) k = k (enc 0 (H.set id.toNat (zeroV, true))) := fun k => putF_set hl zeroV true k
    simp only [L54_2, Bool.false_eq_true, if_false, hp, letF, iw (z := z - 1) (by omega) (by omega), if_true]
    exact Ev.bO6 (ev10z (fnd_VS hH id)) .ret
  · rcases fnd_cases H id with h | ⟨h, hz⟩ | ⟨h, hz⟩
    · exact absurd h c
    · simp only [if_neg c, if_pos h]
      exact .succ (by simp only [L54_1, if_true]; exact .ret)
    · simp only [if_neg c, h, if_neg (show ¬ (6 : Int) = 1 by decide)]
      refine .succ ?_
      simp only [L54_1, Bool.false_eq_true, if_false, if_true]
      exact .succ (by simp only [L54_2, if_true]; exact .ret)
end Go.Proofs.Ytiiojajgajnhpaa

namespace Go.AM
open Go Go.RowKit Go.ChangeShapes Go.WideShapes

def Shapes (ti : Types) : List TypeId → List D → Prop
  | [], [] => True
  | t :: ts, x :: xs => Shape ti t x.cells ∧ (∀ y, ti t = some y → x.isAgg = rowD y.desc) ∧ Shapes ti ts xs
  | _, _ => False

theorem Shapes.length {ti : Types} : ∀ {ts : List TypeId} {xs : List D}, Shapes ti ts xs → xs.length = ts.length
  | [], [], _ => rfl
  | _ :: _, _ :: _, h => by simp [Shapes.length h.2.2]
  | [], _ :: _, h => h.elim
  | _ :: _, [], h => h.elim

section
variable {H : Type} {enc : TypeId × Value → H} {P : Program} {ti : Types} {T : List TypeId} {w : World}

theorem conv_arg (hti : TIok P ti) (hT : plainB ti T = true) {Z : Zone} (hZ : ∀ b o, ¬ Z b o) {base base' : Nat} {spare : Nat → Bool} {held : Bool} {r : Reach} {t : TypeId} {v : Value} {d : DataW H} {ps : List MemPlace} (ht : t ∈ T)
    (hok : Value.okWide P w r base' t v) (h : DataW.Trod enc P w base spare held t v d ps) : ∃ x : D, Shape ti t x.cells ∧ (∀ y, ti t = some y → x.isAgg = rowD y.desc) ∧ RelD w Z x v := by
  obtain ⟨fuel, h⟩ := h
  obtain ⟨ds, hs, h1, h2, h3⟩ := conv hti hT (Z := Z) hZ fuel t _ _ _ ht h
  have hp := List.all_eq_true.1 hT t ht
  split at hp
  · rename_i y hy
    have hu := (hti t y hy).1
    have single : rowD y.desc = false → v.cells.toList = [v] → ∃ x : D, Shape ti t x.cells ∧ (∀ y, ti t = some y → x.isAgg = rowD y.desc) ∧ RelD w Z x v := by
      intro hr hv
      rw [hv] at h1 h3
      obtain ⟨c, rfl⟩ := List.length_eq_one_iff.1 h1
      have hc := h2 c (by simp)
      have e : c.cells = [c] := by cases c <;> first | rfl | simp [D.isAgg] at hc
      refine ⟨c, by rw [e]; exact hs, fun y' hy' => ?_, h3 0 c v rfl rfl⟩
      rw [hy] at hy'
      obtain rfl : y = y' := by simpa using hy'
      rw [hc, hr]
    split at hp
    · rename_i hd
      rw [hd] at hu
      obtain ⟨b, rfl⟩ := okWide_bool hu hok
      exact single (by rw [hd]; rfl) rfl
    · rename_i k hd
      rw [hd] at hu
      obtain ⟨b, rfl⟩ := okWide_int hu hok
      exact single (by rw [hd]; rfl) rfl
    · rename_i hd
      rw [hd] at hu
      obtain ⟨b, rfl⟩ := okWide_string hu hok
      exact single (by rw [hd]; rfl) rfl
    · rename_i e hd
      rw [hd] at hu
      obtain ⟨a, l, c, rfl⟩ := okWide_slice hu hok
      exact single (by rw [hd]; rfl) rfl
    · rename_i fs hd
      rw [hd] at hu
      obtain ⟨cs, rfl, _⟩ := okWide_struct hu hok
      refine ⟨.agg ds, hs, fun y' hy' => ?_, .agg ds cs (by simpa [Value.cells] using h1.symm) h2 (fun j c u hc hu' => h3 j c u hc (by simpa [Value.cells] using hu'))⟩
      rw [hy] at hy'
      obtain rfl : y = y' := by simpa using hy'
      rw [hd]; rfl
    · simp at hp
  · simp at hp

theorem conv_args (hti : TIok P ti) (hT : plainB ti T = true) {Z : Zone} (hZ : ∀ b o, ¬ Z b o) {base base' : Nat} {spare : Nat → Bool} {held : Bool} {r : Reach} :
    ∀ (ts : List TypeId) (vs : List Value) (ds : List (DataW H)) (ps : List MemPlace), (∀ t ∈ ts, t ∈ T) → DataW.TrodAll enc P w base spare held ts vs ds ps →
      (∀ (j : Nat) t v, ts[j]? = some t → vs[j]? = some v → Value.okWide P w r base' t v) →
      ∃ xs, Shapes ti ts xs ∧ ∀ (j : Nat) x v, xs[j]? = some x → vs[j]? = some v → RelD w Z x v
  | [], vs, ds, ps, _, h, _ => ⟨[], trivial, by simp⟩
  | t :: ts, vs, ds, ps, ht, h, hok => by
    obtain ⟨v, vs1, d, ds1, a, b, rfl, rfl, rfl, h1, h2⟩ := trodAll_cons h
    obtain ⟨x, k1, k2, k3⟩ := conv_arg hti hT hZ (ht t (by simp)) (hok 0 t v rfl rfl) h1
    obtain ⟨xs, k4, k5⟩ := conv_args hti hT hZ ts vs1 ds1 b (fun t ht' => ht t (by simp [ht'])) h2 (fun j t v h1 h2 => hok (j + 1) t v (by simpa using h1) (by simpa using h2))
    refine ⟨x :: xs, ⟨k1, k2, k4⟩, fun j x' v' hx hv => ?_⟩
    match j with
    | 0 => simp at hx hv; subst hx; subst hv; exact k3
    | j + 1 => simp at hx hv; exact k5 j x' v' hx hv

theorem again_all (hl : laidOutB P = true) {W W' : World} (hb : Below W.heap.size W W') : ∀ (ts : List TypeId) (vs : List Value) (ds : List (DataW H)) (ps : List MemPlace),
    (∀ t ∈ ts, P.readableRec t = true ∧ t < P.types.size) → DataW.TrodAll enc P W 0 (fun _ => true) true ts vs ds ps → (∀ x ∈ ps, x.block < W.heap.size) →
    DataW.TrodAll enc P W' 0 (fun b => decide (b < W.heap.size)) true ts vs ds ps
  | [], vs, ds, ps, _, h, _ => by
    obtain ⟨rfl, rfl, rfl⟩ := trodAll_nil h
    exact rfl
  | t :: ts, vs, ds, ps, ht, h, hlt => by
    obtain ⟨v, vs1, d, ds1, a, b, rfl, rfl, rfl, h1, h2⟩ := trodAll_cons h
    have ht1 := ht t (by simp)
    exact ⟨a, b, Below.trod hl ht1.1 ht1.2 h1 hb (fun x hx => hlt x (by simp [hx])), again_all hl hb ts vs1 ds1 b (fun t ht' => ht t (by simp [ht'])) h2 (fun x hx => hlt x (by simp [hx])), rfl⟩

theorem law_calls {I : Inv} (hti : TIok P ti) (hT : plainB ti T = true) {s : ChangeSpec} {fn : Func} {f : FuncId} {ts : List TypeId} {bt : TypeId}
    (hp : fn.params.toList = ts) (hv : s.vars = []) (hr : fn.resultTypes = #[bt]) (hb : P.underlying bt = some .bool) (htT : ∀ t ∈ ts, t ∈ T)
    (hs : ∀ ds : List (DataW H), ds.length = ts.length → (s.fn H ds).results = [.lit (.bool true)] ∧ (s.fn H ds).args = ds ∧ (s.fn H ds).vars = [])
    (hl : laidOutB P = true) (hrec : ∀ t ∈ ts, P.readableRec t = true ∧ t < P.types.size)
    (hc : ∀ xs : List D, Shapes ti ts xs → Trip P I f (xs.map V1.d) [] (.v (.d (.bool true))) [] [])
    {W : World} {base : Nat} {args : Array Value} {ds gs : List (DataW H)} {before : List MemPlace}
    (hI : I.at W fun _ _ => False) (hval : ∀ (j : Nat) t v, fn.params[j]? = some t → args[j]? = some v → Value.okWide P W .any base t v)
    (hW : DataW.Whole enc P fn.params.toList s.vars false W args.toList ds gs before) :
    Calls P f args W fun e W' => ∃ v, e = .returned v ∧ s.post enc P fn false true false false W args v W' := by
  have hW' := hW
  obtain ⟨p, q, hA, hV, rfl, _, _⟩ := hW
  rw [hv] at hV
  obtain ⟨rfl, rfl⟩ : gs = [] ∧ q = [] := by
    cases gs with
    | nil => exact ⟨rfl, hV⟩
    | cons _ _ => exact hV.elim
  rw [hp] at hA
  obtain ⟨hlen, hdl⟩ := trodAll_length hA
  obtain ⟨xs, hsh, hrel⟩ := conv_args hti hT (Z := fun _ _ => False) (fun _ _ h => h) (r := .any) (base' := base) ts args.toList ds p htT hA (fun j t v h1 h2 => hval j t v (by
    rw [← Array.getElem?_toList, hp]; exact h1) (by simpa using h2))
  have hxl := hsh.length
  have hcall := hc xs hsh
  have hheap : ∀ i o, heapOf [] i = some o → False := by
    intro i o h
    cases i <;> simp [heapOf] at h
  have hzone : ∀ (g : Ghost) b o, ¬ zone g (heapOf []) b o := by
    rintro g b o ⟨i, ob, h, _⟩
    exact hheap i ob h
  refine (hcall.calls (w := W) (X := fun _ _ => False) (g := fun _ => undef) (vals := args) (fun _ _ h => h.elim) (hI.mono fun b o hz => hz.elim (hzone _ b o) id) ⟨fun i o h => (hheap i o h).elim, fun i _ _ _ _ h => (hheap i _ h).elim, fun i _ _ _ h => (hheap i _ h).elim⟩ (fun _ => rfl)
    (by simp at hlen; simp; omega) (fun j x v hx hvv => ?_)).mono ?_
  · simp only [List.getElem?_map, Option.map_eq_some_iff] at hx
    obtain ⟨d, hd, rfl⟩ := hx
    exact (hrel j d v hd (by simpa using hvv)).mono (fun b o u hu _ => ⟨hu, fun hz => hz.elim (hzone _ b o) id⟩)
  · rintro e W' ⟨v, g', rfl, hpost⟩
    obtain rfl : v = .bool true := by cases (show RelD _ _ (.bool true) v from hpost.res); rfl
    have hbel : Below W.heap.size W W' := ⟨hpost.frame.os, hpost.frame.tape, hpost.frame.output, hpost.frame.size, fun k hk => hpost.frame.block k hk (fun o => hzone _ k o)⟩
    obtain ⟨s1, s2, s3⟩ := hs (ds ++ []) (by simp [hdl])
    refine ⟨_, rfl, ds, [], p ++ [], [], p, [], hW', ?_, ?_, ?_, hbel.frame _, fun h => by cases h⟩
    · rw [s1, hr]
      exact trodAll_mk1 (shut_bool hb true)
    · rw [s2, hp, List.append_nil]
      exact again_all hl hbel ts args.toList ds p hrec hA (fun x hx => hW'.lt x (by simp [hx]))
    · rw [s3, hv]; rfl
end
end Go.AM

set_option linter.unusedVariables false
noncomputable section
namespace Go.Proofs.Ytiiojajgajnhpaa
open Go Go.AM

theorem swS_HS {H : List (VV × Bool)} (hH : HS H) (id : Int) (q : List Int) {x : VV} (hx : VS x) : HS (swS H id q x).2.2 := by
  unfold swS
  by_cases c : (fnd H id).2 = 0
  · by_cases g : (getS q (fnd H id).1).2 = 0
    · simp only [if_pos c, if_pos g]; exact hH.set _ (setS_VS hx q (fnd_VS hH id))
    · simp only [if_pos c, if_neg g]; exact hH
  · simp only [if_neg c]; exact hH
theorem ptS_HS {H : List (VV × Bool)} (hH : HS H) (id : Int) (q : List Int) {x : VV} (hx : VS x) : HS (ptS H id q x).2 := by
  unfold ptS
  by_cases c : (fnd H id).2 = 0
  · by_cases f : (setS q (fnd H id).1 x).2 = 0
    · by_cases g : (getS q (fnd H id).1).2 = 3
      · simp only [if_pos c, if_pos f, if_pos g]; exact hH.set _ (setS_VS hx q (fnd_VS hH id))
      · simp only [if_pos c, if_pos f, if_neg g]; exact hH
    · simp only [if_pos c, if_neg f]; exact hH
  · simp only [if_neg c]; exact hH
theorem frS_HS {H : List (VV × Bool)} (hH : HS H) (id : Int) : HS (frS H id).2.2 := by
  unfold frS
  by_cases c : (fnd H id).2 = 0
  · simp only [if_pos c]; exact hH.set _ zeroV_VS
  · by_cases g : (fnd H id).2 = 1
    · simp only [if_neg c, if_pos g]; exact hH
    · simp only [if_neg c, if_neg g]; exact hH

theorem leafVS {k i id : Int} (hk : (Lit.int .u8 k).wf = true) (hi : (Lit.int .i64 i).wf = true) (hid : (Lit.int .i64 id).wf = true) : VS ⟨k, i, ByteArray.empty, [], id, []⟩ :=
  ⟨⟨hk, hi, (show ByteArray.empty.size ≤ maxLen by decide), .nil, hid, .nil⟩, by simp, .nil⟩
theorem nodeVS {a b : VV} {s : ByteArray} (hs : s.size ≤ maxLen) (ha : VS a) (hb : VS b) : VS ⟨4, 0, s, [a.row, b.row], 0, []⟩ := by
  refine ⟨⟨rfl, rfl, hs, .cons ha.t.rowS (.one hb.t.rowS) (show 1 + 1 ≤ maxLen by decide), rfl, .nil⟩, by simp, .mk (by simp) (fun v hv => ?_) (fun v hv => ?_)⟩
  · rcases List.mem_cons.1 hv with h | h
    · rw [row_inj h]; exact ha.p
    · rw [row_inj (List.mem_singleton.1 h)]; exact hb.p
  · rcases List.mem_cons.1 hv with h | h
    · rw [row_inj h]; exact ha.f
    · rw [row_inj (List.mem_singleton.1 h)]; exact hb.f
def wN (i : Int) : VV := ⟨1, i, ByteArray.empty, [], 0, []⟩
theorem wN_VS {i : Int} (h : (Lit.int .i64 i).wf = true) : VS (wN i) := leafVS rfl h rfl
def sV : VV := ⟨4, 0, k_S, [(wN 1).row, zeroV.row], 0, []⟩
theorem sV_VS : VS sV := nodeVS (by decide) (wN_VS rfl) zeroV_VS
def H1 : List (VV × Bool) := [(wN 5, false)]
def H2 : List (VV × Bool) := [(wN 5, false), (sV, false)]
theorem H2_HS : HS H2 := ⟨by decide, fun c hc => by
  rcases List.mem_cons.1 hc with h | h
  · rw [h]; exact wN_VS rfl
  · rw [List.mem_singleton.1 h]; exact sV_VS⟩
def H3 : List (VV × Bool) := (ptS H2 1 [1] (wN 7)).2
def H3' : List (VV × Bool) := (ptS H3 1 [1] (wN 8)).2
def H4 : List (VV × Bool) := (swS H3' 1 [0] zeroV).2.2
def H4' : List (VV × Bool) := (swS H4 1 [0] zeroV).2.2
def H5 : List (VV × Bool) := (swS H4' 1 [1] (wN 9)).2.2
def H6 : List (VV × Bool) := (frS H5 0).2.2
def H6' : List (VV × Bool) := (frS H6 0).2.2
theorem ev_awake : Ev (fun n => F65 n) true := by
  have s3 : HS H3 := ptS_HS H2_HS 1 [1] (wN_VS rfl)
  have s3' : HS H3' := ptS_HS s3 1 [1] (wN_VS rfl)
  have s4 : HS H4 := swS_HS s3' 1 [0] zeroV_VS
  have s4' : HS H4' := swS_HS s4 1 [0] zeroV_VS
  have s5 : HS H5 := swS_HS s4' 1 [1] (wN_VS rfl)
  have s6 : HS H6 := frS_HS s5 0
  have s6' : HS H6' := frS_HS s6 0
  have wf1 : ∀ z ∈ [(1 : Int)], (Lit.int .i64 z).wf = true := fun z hz => by rw [List.mem_singleton.1 hz]; rfl
  have wf0 : ∀ z ∈ [(0 : Int)], (Lit.int .i64 z).wf = true := fun z hz => by rw [List.mem_singleton.1 hz]; rfl
  have m1 := ev17' HS.nil (by decide) (wN_VS (i := 5) rfl) (z := 0) (by decide) (by decide)
  have m2 := ev17' (H := H1) ⟨by decide, fun c hc => by rw [List.mem_singleton.1 hc]; exact wN_VS rfl⟩ (by decide) sV_VS (z := 1) (by decide) (by decide)
  have r1 := ev12' H2_HS 1 (q := [1]) (by decide) 2
  have r2 := ev12' H2_HS 2 (q := []) (by decide) 2
  have p1 := ev13' H2_HS 1 (q := [1]) (by decide) wf1 (wN_VS (i := 7) rfl) 2
  have p2 := ev13' s3 1 (q := [1]) (by decide) wf1 (wN_VS (i := 8) rfl) 2
  have t1 := ev11' s3' 1 (q := [0]) (by decide) wf0 2
  have t2 := ev11' s4 1 (q := [0]) (by decide) wf0 2
  have w1 := ev15' s4' 1 (q := [1]) (by decide) wf1 (wN_VS (i := 9) rfl) 2
  have f1 := ev16' s5 0 (z := 2) (by decide) (by decide)
  have f2 := ev16' s6 0 (z := 1) (by decide) (by decide)
  have r3 := ev12' s6' 0 (q := []) (by decide) 1
  have c1 := ev18' H6' 1
  have c2 := ev20' (enc 0 H6') 1
  have c3 := ev21' H6' s6'.len 1
  rw [show (rdS H2 1 [1]).2 = 3 by kernel_rfl] at r1
  rw [show (rdS H2 2 []).2 = 6 by kernel_rfl] at r2
  rw [show (ptS H2 1 [1] (wN 7)).1 = 0 by kernel_rfl] at p1
  rw [show (ptS H3 1 [1] (wN 8)).1 = 6 by kernel_rfl] at p2
  rw [show (swS H3' 1 [0] zeroV).1.i = 1 by kernel_rfl, show (swS H3' 1 [0] zeroV).2.1 = 0 by kernel_rfl] at t1
  rw [show (swS H4 1 [0] zeroV).2.1 = 3 by kernel_rfl] at t2
  rw [show (swS H4' 1 [1] (wN 9)).1.i = 7 by kernel_rfl, show (swS H4' 1 [1] (wN 9)).2.1 = 0 by kernel_rfl] at w1
  rw [show (frS H5 0).1.i = 5 by kernel_rfl, show (frS H5 0).2.1 = 0 by kernel_rfl, if_pos (show (fnd H5 0).2 = 0 by kernel_rfl)] at f1
  rw [show (frS H6 0).2.1 = 2 by kernel_rfl, if_neg (show ¬ (fnd H6 0).2 = 0 by rw [show (fnd H6 0).2 = 1 by kernel_rfl]; decide)] at f2
  rw [show (rdS H6' 0 []).2 = 1 by kernel_rfl] at r3
  rw [show (H6'.length : Int) = 2 by kernel_rfl] at c1 c3
  unfold F65 F60 F119
  refine Ev.bO0 .ret ?_
  simp only [bO1s]
  refine Ev.bO4 m1 (Ev.bO4 m2 (Ev.bO9 r1 (Ev.bO9 r2 (Ev.bO3 p1 (Ev.bO3 p2 (Ev.bO9 t1 (Ev.bO9 t2 (Ev.bO9 w1 (Ev.bO9 f1 (Ev.bO9 f2 (Ev.bO9 r3 ?_)))))))))))
  simp only [List.length_nil, show ((0 : Nat) : Int) = 0 from rfl, show (H1.length : Int) = 1 from rfl, if_true]
  refine Ev.bO3 c1 ?_
  simp only [if_true]
  refine Ev.bO3 c2 ?_
  simp only [if_true]
  refine Ev.bO3 c3 ?_
  exact .ret

structure AA where
  kd : Int
  id : Int
  q : List Int
  v : VV
def AA.row (a : AA) : D := .agg [.int .i64 a.kd, .int .i64 a.id, .list false 1 (pD a.q), .int .u8 a.v.k, .int .i64 a.v.i, .str a.v.nm, .list true 6 a.v.fs, .int .i64 a.v.id, .list false 1 a.v.pt]
structure AT (a : AA) : Prop where
  kd : (Lit.int .i64 a.kd).wf = true
  id : (Lit.int .i64 a.id).wf = true
  q : ∀ z ∈ a.q, (Lit.int .i64 z).wf = true
  ql : a.q.length ≤ maxLen
  v : VT a.v
theorem actRow {x : D} (h : RowS tab 90 x) : ∃ a : AA, x = a.row ∧ AT a := by
  obtain ⟨a0, a1, a2, a3, a4, a5, a6, a7, a8, rfl, w0, w1, w2, w3, w4, w5, w6, w7, w8⟩ := rs90 h
  obtain ⟨q, rfl, hq⟩ := intsS w2
  exact ⟨⟨a0, a1, q, ⟨a3, a4, a5, a6, a7, a8⟩⟩, rfl, ⟨w0, w1, hq, by simpa using w2.1, ⟨w3, w4, w5, w6, w7, w8⟩⟩⟩
theorem ds28 {γ : Type} (a : AA) (k : Int → Int → List D → Int → Int → ByteArray → List D → Int → List D → Option γ) : ds_t90 a.row k = k a.kd a.id (pD a.q) a.v.k a.v.i a.v.nm a.v.fs a.v.id a.v.pt := rfl
theorem arow_inj {a b : AA} (h : a.row = b.row) : a = b := by
  obtain ⟨k, i, q, v⟩ := a
  obtain ⟨k', i', q', v'⟩ := b
  unfold AA.row at h
  simp only [D.agg.injEq, List.cons.injEq, D.int.injEq, D.list.injEq, D.str.injEq, true_and, and_true] at h
  obtain ⟨h1, h2, h3, h4, h5, h6, h7, h8, h9⟩ := h
  have h3' := pD_inj h3
  obtain ⟨a, b, c, d, e, f⟩ := v
  obtain ⟨a', b', c', d', e', f'⟩ := v'
  simp only at h4 h5 h6 h7 h8 h9
  subst h1 h2 h3' h4 h5 h6 h7 h8 h9
  rfl
theorem one_sm {v : VV} (h : Sm [v.row]) : v.pt.length ≤ 10000 ∧ Sm v.fs := ⟨h.pt (by simp), h.fs (by simp)⟩
structure AOK (a : AA) : Prop where
  t : AT a
  q : a.q.length ≤ 50
  v : VS a.v
theorem ev7 {l : List D} (h : ListS tab 90 l) : ∃ b, Ev (fun n => F50 n l) b ∧ (b = false → l.length ≤ 60 ∧ ∀ (j : Nat) (a : AA), l[j]? = some a.row → AOK a) := by
  unfold F50
  by_cases c : (60 : Int) < (l.length : Int)
  · refine ⟨true, ?_, fun h => by cases h⟩
    simp only [lenF, if_pos c]
    exact .succ (by simp only [L50_1, if_true]; exact .ret)
  have loop : ∀ i : Nat, i ≤ l.length → ∀ z : Int, -1 ≤ z → z ≤ 10000 → ∃ b, Ev (fun n => L50_2 n l z (i : Int)) b ∧ (b = false → 0 ≤ z ∧ ∀ j : Nat, i ≤ j → ∀ a : AA, l[j]? = some a.row → AOK a) := by
    refine down _ ?_ (fun i hi ih => ?_)
    · intro z h1 h2
      refine ⟨decide (z < 0), .succ ?_, fun hb => ⟨by simpa using hb, fun j hj a ha => absurd ((List.getElem?_eq_some_iff.1 ha).1) (by omega)⟩⟩
      simp only [L50_2, lenF, Int.lt_irrefl, if_false]
      refine .succ ?_
      simp only [L50_3, Bool.false_eq_true, if_false]
      by_cases c : z < 0
      · simp only [if_pos c, decide_eq_true c]; exact .ret
      · simp only [if_neg c, decide_eq_false c]; exact .ret
    · intro z h1 h2
      obtain ⟨x, hx, _, hr⟩ := h.get hi
      obtain ⟨a, rfl, ha⟩ := actRow hr
      by_cases cq : (50 : Int) < (a.q.length : Int)
      · refine ⟨true, .succ ?_, fun h => by cases h⟩
        simp only [L50_2, lenF, if_pos (ilt hi)]
        refine .succ ?_
        simp only [L50_3, if_true, getF_nat hx, ds28, lenF, List.length_map, if_pos cq]
        exact .succ (by simp only [L50_4, if_true]; exact .ret)
      · obtain ⟨r, k1, k2, k3, k4⟩ := ev24 [a.v.row] (.one ha.v.rowS) z h1 h2
        obtain ⟨b, b1, b2⟩ := ih r k2 (by omega)
        refine ⟨b, .succ ?_, fun hb => ?_⟩
        · simp only [L50_2, lenF, if_pos (ilt hi)]
          refine .succ ?_
          simp only [L50_3, if_true, getF_nat hx, ds28, lenF, List.length_map, if_neg cq]
          refine .succ ?_
          simp only [L50_4, Bool.false_eq_true, if_false, getF_nat hx, ds28]
          refine Ev.bO1 k1 ?_
          simp only [letF, wrap_succ hi h.1]
          exact b1
        · obtain ⟨q1, q2⟩ := b2 hb
          refine ⟨by omega, fun j hj b' hb' => ?_⟩
          by_cases e : j = i
          · subst e
            rw [hx] at hb'
            obtain rfl := arow_inj (Option.some.inj hb')
            obtain ⟨s1, s2⟩ := one_sm (k4 q1).1
            exact ⟨ha, by omega, ha.v, s1, s2⟩
          · exact q2 j (by omega) b' hb'
  obtain ⟨b, b1, b2⟩ := loop 0 (Nat.zero_le _) 10000 (by omega) (by omega)
  refine ⟨b, ?_, fun hb => ⟨by omega, fun j a ha => (b2 hb).2 j (Nat.zero_le _) a ha⟩⟩
  simp only [lenF, if_neg c]
  exact .succ (by simp only [L50_1, Bool.false_eq_true, if_false]; exact b1)
theorem AT.rowS {a : AA} (h : AT a) : RowS tab 90 a.row := by
  have hp : ListS tab 3 (pD a.q) := ⟨by simpa using h.ql, fun x hx => by
    obtain ⟨z, hz, rfl⟩ := List.mem_map.1 hx
    exact mk3 (h.q z hz)⟩
  exact mk90 h.kd h.id hp h.v.k h.v.i h.v.nm h.v.fs h.v.id h.v.pt
def alive (H : List (VV × Bool)) : Nat := (H.filter fun c => !c.2).length
theorem alive_le (H : List (VV × Bool)) : alive H ≤ H.length := List.length_filter_le _ _
theorem alive_app (H : List (VV × Bool)) (v : VV) : alive (H ++ [(v, false)]) = alive H + 1 := by simp [alive]
theorem alive_set : ∀ (H : List (VV × Bool)) (i : Nat) (v w : VV), H[i]? = some (v, false) → alive (H.set i (w, true)) + 1 = alive H
  | [], i, v, w, h => by simp at h
  | c :: r, 0, v, w, h => by
    obtain rfl : c = (v, false) := by simpa using h
    simp [alive]
  | c :: r, i + 1, v, w, h => by
    have ih := alive_set r i v w (by simpa using h)
    unfold alive at ih ⊢
    simp only [List.set_cons_succ, List.filter_cons]
    split
    · simp only [List.length_cons]; omega
    · omega
theorem alive_keep : ∀ (H : List (VV × Bool)) (i : Nat) (v w : VV), H[i]? = some (v, false) → alive (H.set i (w, false)) = alive H
  | [], i, v, w, h => by simp at h
  | c :: r, 0, v, w, h => by
    obtain rfl : c = (v, false) := by simpa using h
    simp [alive]
  | c :: r, i + 1, v, w, h => by
    have ih := alive_keep r i v w (by simpa using h)
    unfold alive at ih ⊢
    simp only [List.set_cons_succ, List.filter_cons]
    split
    · simp only [List.length_cons, ih]
    · exact ih
theorem fnd_get {H : List (VV × Bool)} {id : Int} (h : (fnd H id).2 = 0) : H[id.toNat]? = some ((fnd H id).1, false) := (look_some (fnd_ok h)).2.2.1
end Go.Proofs.Ytiiojajgajnhpaa

set_option linter.unusedVariables false
noncomputable section
namespace Go.Proofs.Ytiiojajgajnhpaa
open Go Go.AM

structure St (N : Nat) (H : List (VV × Bool)) : Prop where
  hs : HS H
  len : H.length ≤ N
theorem St.nil : St 0 [] := ⟨HS.nil, Nat.le_refl _⟩
theorem St.set {N : Nat} {H : List (VV × Bool)} (h : St N H) (i : Nat) {v : VV} {b : Bool} (hv : VS v) : St N (H.set i (v, b)) := ⟨h.hs.set _ hv, by rw [List.length_set]; exact h.len⟩
def doS (H : List (VV × Bool)) (a : AA) : Bool × List (VV × Bool) :=
  if a.kd = 2 then (decide ((rdS H a.id a.q).2 = 0), H)
  else if a.kd = 3 then (decide ((ptS H a.id a.q a.v).1 = 0), (ptS H a.id a.q a.v).2)
  else if a.kd = 4 then (decide ((swS H a.id a.q zeroV).2.1 = 0), (swS H a.id a.q zeroV).2.2)
  else if a.kd = 5 then (decide ((swS H a.id a.q a.v).2.1 = 0), (swS H a.id a.q a.v).2.2)
  else if a.kd = 6 then (decide ((frS H a.id).2.1 = 0), (frS H a.id).2.2)
  else (true, H ++ [(a.v, false)])
theorem swS_alive (H : List (VV × Bool)) (id : Int) (q : List Int) (x : VV) : alive (swS H id q x).2.2 = alive H := by
  unfold swS
  by_cases c : (fnd H id).2 = 0
  · by_cases g : (getS q (fnd H id).1).2 = 0
    · simp only [if_pos c, if_pos g]; exact alive_keep H _ _ _ (fnd_get c)
    · simp only [if_pos c, if_neg g]
  · simp only [if_neg c]
theorem ptS_alive (H : List (VV × Bool)) (id : Int) (q : List Int) (x : VV) : alive (ptS H id q x).2 = alive H := by
  unfold ptS
  by_cases c : (fnd H id).2 = 0
  · by_cases f : (setS q (fnd H id).1 x).2 = 0
    · by_cases g : (getS q (fnd H id).1).2 = 3
      · simp only [if_pos c, if_pos f, if_pos g]; exact alive_keep H _ _ _ (fnd_get c)
      · simp only [if_pos c, if_pos f, if_neg g]
    · simp only [if_pos c, if_neg f]
  · simp only [if_neg c]
theorem swS_length (H : List (VV × Bool)) (id : Int) (q : List Int) (x : VV) : (swS H id q x).2.2.length = H.length := by
  unfold swS
  split
  · split
    · exact List.length_set ..
    · rfl
  · rfl
theorem ptS_length (H : List (VV × Bool)) (id : Int) (q : List Int) (x : VV) : (ptS H id q x).2.length = H.length := by
  unfold ptS
  split
  · split
    · split
      · exact List.length_set ..
      · rfl
    · rfl
  · rfl
theorem frS_length (H : List (VV × Bool)) (id : Int) : (frS H id).2.2.length = H.length := by
  unfold frS
  split
  · exact List.length_set ..
  · split <;> rfl
theorem frS_alive (H : List (VV × Bool)) (id : Int) : (if (fnd H id).2 = 0 then (alive H : Int) - 1 else (alive H : Int)) = (alive (frS H id).2.2 : Int) := by
  unfold frS
  by_cases c : (fnd H id).2 = 0
  · have := alive_set H id.toNat _ zeroV (fnd_get c)
    simp only [if_pos c]; omega
  · by_cases g : (fnd H id).2 = 1
    · simp only [if_neg c, if_pos g]
    · simp only [if_neg c, if_neg g]
theorem ev6b (z60 z61 : Int) (l : List D) : Ev (fun n => L67_6 n z60 z61 l) (decide (z60 = 0), z61, l) := by
  refine .succ ?_
  by_cases c : z60 = 0
  · simp only [L67_6, if_pos c, decide_eq_true c]; exact .ret
  · simp only [L67_6, if_neg c, decide_eq_false c]; exact .ret
theorem ev9' {H : List (VV × Bool)} {N : Nat} (h : St N H) (hN : N < 1000) {a : AA} (ha : AOK a) :
    Ev (fun n => F67 n a.kd a.id (pD a.q) a.v.k a.v.i a.v.nm a.v.fs a.v.id a.v.pt (alive H : Int) (enc 0 H)) ((doS H a).1, (alive (doS H a).2 : Int), enc 0 (doS H a).2) := by
  have hal := alive_le H
  have hlen := h.len
  have hq := ha.t.ql
  have hw := ha.t.q
  unfold F67 doS
  by_cases c2 : a.kd = 2
  · simp only [if_pos c2]
    refine .succ ?_
    simp only [L67_1, if_true]
    exact Ev.bO9 (ev12' h.hs a.id hq _) (ev6b _ _ _)
  simp only [if_neg c2]
  refine .succ ?_
  simp only [L67_1, Bool.false_eq_true, if_false]
  by_cases c3 : a.kd = 3
  · simp only [if_pos c3]
    refine .succ ?_
    simp only [L67_2, if_true]
    have := ptS_alive H a.id a.q a.v
    rw [this]
    exact Ev.bO3 (ev13' h.hs a.id hq hw ha.v _) (ev6b _ _ _)
  simp only [if_neg c3]
  refine .succ ?_
  simp only [L67_2, Bool.false_eq_true, if_false]
  by_cases c4 : a.kd = 4
  · simp only [if_pos c4]
    refine .succ ?_
    simp only [L67_3, if_true]
    have := swS_alive H a.id a.q zeroV
    rw [this]
    exact Ev.bO9 (ev11' h.hs a.id hq hw _) (ev6b _ _ _)
  simp only [if_neg c4]
  refine .succ ?_
  simp only [L67_3, Bool.false_eq_true, if_false]
  by_cases c5 : a.kd = 5
  · simp only [if_pos c5]
    refine .succ ?_
    simp only [L67_4, if_true]
    have := swS_alive H a.id a.q a.v
    rw [this]
    exact Ev.bO9 (ev15' h.hs a.id hq hw ha.v _) (ev6b _ _ _)
  simp only [if_neg c5]
  refine .succ ?_
  simp only [L67_4, Bool.false_eq_true, if_false]
  by_cases c6 : a.kd = 6
  · simp only [if_pos c6]
    refine .succ ?_
    simp only [L67_5, if_true]
    have f := ev16' h.hs a.id (z := (alive H : Int)) (by omega) (by omega)
    rw [frS_alive] at f
    exact Ev.bO9 f (ev6b _ _ _)
  · simp only [if_neg c6]
    refine .succ ?_
    simp only [L67_5, Bool.false_eq_true, if_false]
    refine Ev.bO4 (ev17' h.hs (by omega) ha.v (z := (alive H : Int)) (by omega) (by omega)) ?_
    rw [alive_app]
    simp only [if_true]
    exact .ret
theorem doS_St {H : List (VV × Bool)} {N : Nat} (h : St N H) (hN : N < 1000) {a : AA} (ha : AOK a) : St (N + 1) (doS H a).2 := by
  have hlen := h.len
  have hs := h.hs
  have low : ∀ H', HS H' → H'.length = H.length → St (N + 1) H' := fun H' g e => ⟨g, by omega⟩
  unfold doS
  split
  · exact low _ hs rfl
  · split
    · exact low _ (ptS_HS hs _ _ ha.v) (ptS_length ..)
    · split
      · exact low _ (swS_HS hs _ _ zeroV_VS) (swS_length ..)
      · split
        · exact low _ (swS_HS hs _ _ ha.v) (swS_length ..)
        · split
          · exact low _ (frS_HS hs _) (frS_length ..)
          · exact ⟨hs.app (by omega) ha.v, by simp; omega⟩

def aval (c : VV × Bool) : VV := if c.2 = true then zeroV else if c.1.k = 0 then zeroV else c.1
theorem rd_all {H : List (VV × Bool)} {i : Nat} {c : VV × Bool} (h : H[i]? = some c) : (rdS H (i : Int) []).1 = aval c ∧ (decide ((fnd H (i : Int)).2 = 0)) = !c.2 := by
  have hl : look H (i : Int) = some c := by unfold look; rw [if_pos (by omega), Int.toNat_natCast, h]
  obtain ⟨v, b⟩ := c
  unfold rdS fnd aval
  rw [hl]
  cases b
  · simp only [Bool.false_eq_true, if_false, if_true, getS]
    refine ⟨?_, rfl⟩
    split <;> rfl
  · exact ⟨rfl, rfl⟩
theorem ev10' {H : List (VV × Bool)} {N : Nat} (h : St N H) (hN : N ≤ 1000) (z : Int) : Ev (fun n => F66 n z (enc 0 H)) (H.map (fun c => (aval c).row), H.map (fun c => D.bool (!c.2)), z, enc 0 H) := by
  have hlen := h.len
  have hM : 20000 < maxLen := by decide
  have loop : ∀ i : Nat, i ≤ H.length → Ev (fun n => L66_1 n ((H.take i).map fun c => (aval c).row) ((H.take i).map fun c => D.bool (!c.2)) (i : Int) z (enc 0 H)) (H.map (fun c => (aval c).row), H.map (fun c => D.bool (!c.2)), z, enc 0 H) := by
    refine down _ ?_ (fun i hi ih => ?_)
    · refine .succ ?_
      simp only [L66_1]
      refine Ev.bO3 (ev18' H z) ?_
      simp only [Int.lt_irrefl, if_false, List.take_length]
      exact .succ (by simp only [L66_2, Bool.false_eq_true, if_false]; exact .ret)
    · have hx : H[i]? = some H[i] := List.getElem?_eq_getElem hi
      obtain ⟨r1, r2⟩ := rd_all hx
      have e1 : (H.take (i + 1)).map (fun c => (aval c).row) = (H.take i).map (fun c => (aval c).row) ++ [(aval H[i]).row] := by
        rw [List.take_add_one, hx, List.map_append]; rfl
      have e2 : (H.take (i + 1)).map (fun c => D.bool (!c.2)) = (H.take i).map (fun c => D.bool (!c.2)) ++ [D.bool (!H[i].2)] := by
        rw [List.take_add_one, hx, List.map_append]; rfl
      have rd := ev12' h.hs (i : Int) (q := []) (by decide) z
      rw [r1] at rd
      have al := ev19' H (i : Int) z
      rw [r2] at al
      have q1 : (List.map (fun c : VV × Bool => (aval c).row) (H.take i)).length ≤ 1000 := by rw [List.length_map, List.length_take]; omega
      have q2 : (List.map (fun c : VV × Bool => D.bool (!c.2)) (H.take i)).length ≤ 1000 := by rw [List.length_map, List.length_take]; omega
      have a1 : ∀ k : List D → Option (List D × List D × Int × List D), appF 88 ((H.take i).map fun c => (aval c).row) [.agg [.int .u8 (aval H[i]).k, .int .i64 (aval H[i]).i, .str (aval H[i]).nm, .list true 6 (aval H[i]).fs, .int .i64 (aval H[i]).id, .list false 1 (aval H[i]).pt]] k = k ((H.take i).map (fun c => (aval c).row) ++ [(aval H[i]).row]) := fun k => appF_ok ⟨by rw [List.length_singleton]; omega, by rw [List.length_singleton]; omega⟩
      have a2 : ∀ k : List D → Option (List D × List D × Int × List D), appF 1 ((H.take i).map fun c => D.bool (!c.2)) [.bool (!H[i].2)] k = k ((H.take i).map (fun c => D.bool (!c.2)) ++ [D.bool (!H[i].2)]) := fun k => appF_ok ⟨by rw [List.length_singleton]; omega, by rw [List.length_singleton]; omega⟩
      refine .succ ?_
      simp only [L66_1]
      refine Ev.bO3 (ev18' H z) ?_
      simp only [if_pos (ilt hi)]
      refine .succ ?_
      simp only [L66_2, if_true]
      refine Ev.bO9 rd ?_
      simp only [a1]
      refine Ev.bO3 al ?_
      simp only [a2, letF, wrap_succ (N := H.length) hi (by omega)]
      rw [e1, e2] at ih
      exact ih
  exact (loop 0 (Nat.zero_le _)).congr fun n => rfl
theorem aval_VT {H : List (VV × Bool)} (h : HS H) {c : VV × Bool} (hc : c ∈ H) : VT (aval c) := by
  unfold aval
  split
  · exact zeroV_VT
  · split
    · exact zeroV_VT
    · exact (h.vs c hc).t

end Go.Proofs.Ytiiojajgajnhpaa

set_option linter.unusedVariables false
noncomputable section
namespace Go.Proofs.Ytiiojajgajnhpaa
open Go Go.AM

theorem doS_apart (H : List (VV × Bool)) (a : AA) : (doS H a).2 = H ∨ (0 ≤ a.id ∧ a.id.toNat < H.length ∧ (doS H a).1 = true ∧ 3 ≤ a.kd ∧ a.kd ≤ 6 ∧ ∃ c, (doS H a).2 = H.set a.id.toNat c) ∨
    ((doS H a).1 = true ∧ ¬(2 ≤ a.kd ∧ a.kd ≤ 6) ∧ (doS H a).2 = H ++ [(a.v, false)]) := by
  have at' : (fnd H a.id).2 = 0 → 0 ≤ a.id ∧ a.id.toNat < H.length := fun c => ⟨(look_some (fnd_ok c)).1, (look_some (fnd_ok c)).2.1⟩
  have sw : ∀ x, (swS H a.id a.q x).2.2 = H ∨ (0 ≤ a.id ∧ a.id.toNat < H.length ∧ (swS H a.id a.q x).2.1 = 0 ∧ ∃ c, (swS H a.id a.q x).2.2 = H.set a.id.toNat c) := by
    intro x
    unfold swS
    by_cases c : (fnd H a.id).2 = 0
    · by_cases g : (getS a.q (fnd H a.id).1).2 = 0
      · simp only [if_pos c, if_pos g]; exact .inr ⟨(at' c).1, (at' c).2, trivial, _, rfl⟩
      · simp only [if_pos c, if_neg g]; exact .inl trivial
    · simp only [if_neg c]; exact .inl trivial
  unfold doS
  by_cases c2 : a.kd = 2
  · simp only [if_pos c2]; exact .inl trivial
  simp only [if_neg c2]
  by_cases c3 : a.kd = 3
  · simp only [if_pos c3]
    unfold ptS
    by_cases c : (fnd H a.id).2 = 0
    · by_cases f : (setS a.q (fnd H a.id).1 a.v).2 = 0
      · by_cases g : (getS a.q (fnd H a.id).1).2 = 3
        · simp only [if_pos c, if_pos f, if_pos g]
          exact .inr (.inl ⟨(at' c).1, (at' c).2, by simp, by omega, by omega, _, rfl⟩)
        · simp only [if_pos c, if_pos f, if_neg g]; exact .inl trivial
      · simp only [if_pos c, if_neg f]; exact .inl trivial
    · simp only [if_neg c]; exact .inl trivial
  simp only [if_neg c3]
  by_cases c4 : a.kd = 4
  · simp only [if_pos c4]
    rcases sw zeroV with h | ⟨h1, h2, h3, h4⟩
    · exact .inl h
    · exact .inr (.inl ⟨h1, h2, by simp [h3], by omega, by omega, h4⟩)
  simp only [if_neg c4]
  by_cases c5 : a.kd = 5
  · simp only [if_pos c5]
    rcases sw a.v with h | ⟨h1, h2, h3, h4⟩
    · exact .inl h
    · exact .inr (.inl ⟨h1, h2, by simp [h3], by omega, by omega, h4⟩)
  simp only [if_neg c5]
  by_cases c6 : a.kd = 6
  · simp only [if_pos c6]
    unfold frS
    by_cases c : (fnd H a.id).2 = 0
    · simp only [if_pos c]
      exact .inr (.inl ⟨(at' c).1, (at' c).2, by simp, by omega, by omega, _, rfl⟩)
    · simp only [if_neg c]
      by_cases g : (fnd H a.id).2 = 1
      · simp only [if_pos g]; exact .inl trivial
      · simp only [if_neg g]; exact .inl trivial
  · simp only [if_neg c6]
    exact .inr (.inr ⟨trivial, by omega, trivial⟩)
theorem dec_split {P : Prop} {i : Decidable P} {A : Nat → Option Bool} (h : Ev A (@decide P i)) : ∃ d : Bool, (d = true ↔ P) ∧ Ev A d := ⟨_, decide_eq_true_iff, h⟩
theorem apart_law {l : List D} (h : ListS tab 90 l) : Ev (fun n => F14 n l) true := by
  unfold F14
  refine Ev.bO1 ev_awake ?_
  simp only [letB, Bool.not_true, Bool.false_eq_true, if_false]
  obtain ⟨b, h7, hb⟩ := ev7 h
  refine Ev.bO1 h7 ?_
  cases b
  rotate_left
  · simp only [if_true]; exact .ret
  obtain ⟨hl, hall⟩ := hb rfl
  simp only [Bool.false_eq_true, if_false]
  unfold F60
  refine Ev.bO0 .ret ?_
  have loop : ∀ i : Nat, i ≤ l.length → ∀ (H : List (VV × Bool)), St i H → Ev (fun n => L14_1 n l (i : Int) (alive H : Int) (enc 0 H)) true := by
    refine down _ ?_ (fun i hi ih => ?_)
    · intro H hH
      refine .succ ?_
      simp only [L14_1, lenF, Int.lt_irrefl, if_false]
      exact .succ (by simp only [L14_2, Bool.false_eq_true, if_false]; exact .ret)
    · intro H hH
      obtain ⟨x, hx, _, hr⟩ := h.get hi
      obtain ⟨a, rfl, ha⟩ := actRow hr
      have hok := hall i a hx
      have hlen := hH.len
      obtain ⟨H', eH'⟩ : ∃ H', (doS H a).2 = H' := ⟨_, rfl⟩
      obtain ⟨b, eb⟩ : ∃ b, (doS H a).1 = b := ⟨_, rfl⟩
      have hdo := ev9' hH (by omega) hok
      have hSt := doS_St hH (by omega) hok
      have hap := doS_apart H a
      rw [eH', eb] at hdo hap
      rw [eH'] at hSt
      have next : Ev (fun n => L14_8 n l (i : Int) (alive H' : Int) (enc 0 H') false) true := by
        refine .succ ?_
        simp only [L14_8, Bool.false_eq_true, if_false, letF, wrap_succ hi h.1]
        exact ih _ hSt
      refine .succ ?_
      simp only [L14_1, lenF, if_pos (ilt hi)]
      refine .succ ?_
      simp only [L14_2, if_true]
      refine Ev.bO4 (ev10' hH (by omega) _) ?_
      simp only [getF_nat hx, ds28]
      refine Ev.bO3 hdo (Ev.bO4 (ev10' hSt (by omega) _) ?_)
      have hle : H.length ≤ H'.length := by
        rcases hap with e | ⟨_, _, _, _, _, c, e⟩ | ⟨_, _, e⟩ <;> rw [e] <;> simp
      simp only [lenF, List.length_map]
      simp only [if_neg (show ¬ ((H'.length : Int) < (H.length : Int)) by omega)]
      refine .succ ?_
      simp only [L14_3, Bool.false_eq_true, if_false]
      have hM : 20000 < maxLen := by decide
      have inner : ∀ j : Nat, j ≤ H.length → Ev (fun n => L14_4 n l (i : Int) (H.map fun c => (aval c).row) (H.map fun c => D.bool (!c.2)) a.kd a.id b (H'.map fun c => (aval c).row) (H'.map fun c => D.bool (!c.2)) (alive H' : Int) (enc 0 H') (j : Int)) true := by
        refine down _ ?_ (fun j hj jh => ?_)
        · refine .succ ?_
          simp only [L14_4, lenF, List.length_map, Int.lt_irrefl, if_false]
          refine .succ ?_
          simp only [L14_5, Bool.false_eq_true, if_false, lenF, List.length_map]
          by_cases e : (H'.length : Int) = (H.length : Int)
          · simp only [if_pos e]; exact next
          · simp only [if_neg e]
            rcases hap with e' | ⟨_, _, _, _, _, c, e'⟩ | ⟨e1, e2, e'⟩
            · exact absurd (by rw [e']) e
            · exact absurd (by rw [e', List.length_set]) e
            · simp only [e1, letB, Bool.not_true, Bool.false_eq_true, if_false]
              by_cases k2 : (2 : Int) ≤ a.kd
              · simp only [if_pos k2, if_neg (show ¬ a.kd ≤ 6 by omega)]; exact next
              · simp only [if_neg k2]; exact next
        · have hj' : j < H'.length := by omega
          have x1 : H[j]? = some H[j] := List.getElem?_eq_getElem hj
          have x2 : H'[j]? = some H'[j] := List.getElem?_eq_getElem hj'
          have v1 : (H.map fun c => (aval c).row)[j]? = some (aval H[j]).row := by rw [List.getElem?_map, x1]; rfl
          have v2 : (H'.map fun c => (aval c).row)[j]? = some (aval H'[j]).row := by rw [List.getElem?_map, x2]; rfl
          have u1 : (H.map fun c => D.bool (!c.2))[j]? = some (.bool (!H[j].2)) := by rw [List.getElem?_map, x1]; rfl
          have u2 : (H'.map fun c => D.bool (!c.2))[j]? = some (.bool (!H'[j].2)) := by rw [List.getElem?_map, x2]; rfl
          have back : Ev (fun n => L14_7 n l (i : Int) (H.map fun c => (aval c).row) (H.map fun c => D.bool (!c.2)) a.kd a.id b (H'.map fun c => (aval c).row) (H'.map fun c => D.bool (!c.2)) (alive H' : Int) (enc 0 H') (j : Int) false) true := by
            refine .succ ?_
            simp only [L14_7, Bool.false_eq_true, if_false, letF, wrap_succ (N := H.length) hj (by omega)]
            exact jh
          have six : ∀ s : Bool, (s = false → H'[j]? ≠ H[j]?) → Ev (fun n => L14_6 n l (i : Int) (H.map fun c => (aval c).row) (H.map fun c => D.bool (!c.2)) a.kd a.id b (H'.map fun c => (aval c).row) (H'.map fun c => D.bool (!c.2)) (alive H' : Int) (enc 0 H') (j : Int) s) true := by
            intro s hs
            refine .succ ?_
            simp only [L14_6, letB]
            cases s
            · have d := hs rfl
              simp only [Bool.not_false, if_true]
              rcases hap with e' | ⟨h0, h1, e1, k3, k6, c, e'⟩ | ⟨e1, e2, e'⟩
              · exact absurd (by rw [e']) d
              · have : (j : Int) = a.id := by
                  by_cases q : a.id.toNat = j
                  · omega
                  · exact absurd (by rw [e', List.getElem?_set_ne q]) d
                simp only [e1, Bool.not_true, Bool.false_eq_true, if_false, if_pos this, if_neg (show ¬ a.kd < 3 by omega), if_neg (show ¬ (6 : Int) < a.kd by omega)]
                rw [e1] at back
                exact back
              · exact absurd (by rw [e', List.getElem?_append_left hj]) d
            · simp only [Bool.not_true, Bool.false_eq_true, if_false]
              exact back
          refine .succ ?_
          simp only [L14_4, lenF, List.length_map, if_pos (ilt hj)]
          refine .succ ?_
          simp only [L14_5, if_true, getF_nat v1, ds25, getF_nat v2]
          have e11 := ev11 (aval_VT hH.hs (List.getElem_mem hj)) (aval_VT hSt.hs (List.getElem_mem hj'))
          obtain ⟨d, hd, ed⟩ : ∃ d : Bool, (d = true ↔ aval H[j] = aval H'[j]) ∧ Ev (fun n => F34 n (aval H[j]).k (aval H[j]).i (aval H[j]).nm (aval H[j]).fs (aval H[j]).id (aval H[j]).pt (aval H'[j]).k (aval H'[j]).i (aval H'[j]).nm (aval H'[j]).fs (aval H'[j]).id (aval H'[j]).pt) d := dec_split e11
          refine Ev.bO1 ed ?_
          cases d
          · simp only [Bool.false_eq_true, if_false]
            refine six _ (fun hs hx' => ?_)
            rw [x1, x2] at hx'
            exact absurd (hd.2 (by rw [Option.some.inj hx'])) Bool.false_ne_true
          · simp only [if_true, getF_nat u1, getF_nat u2, ds_bool, letB]
            refine six _ (fun hs hx' => ?_)
            rw [x1, x2] at hx'
            rw [Option.some.inj hx'] at hs
            simp at hs
      exact inner 0 (Nat.zero_le _)
  exact loop 0 (Nat.zero_le _) [] St.nil
theorem heap_apart_trip : ∀ xs : List D, Shapes tab [92] xs → Trip Try.prog inv 14 (xs.map V1.d) [] (.v (.d (.bool true))) [] [] := by
  intro xs h
  match xs, h with
  | [u], ⟨u1, u2, _⟩ =>
    obtain ⟨l, rfl, hl⟩ := rs92 ⟨u1, u2⟩
    obtain ⟨n, hn⟩ := (apart_law hl).run
    exact T14 n hn
end Go.Proofs.Ytiiojajgajnhpaa

namespace Go.Proofs.Ytiiojajgajnhpaa
open Go Go.ChangeShapes Go.WideShapes Go.ChangeAt Go.RowKit Go.AM

theorem heap_apart_reads : ∀ t ∈ [92], Try.prog.readableRec t = true ∧ t < Try.prog.types.size := by
  have h : ([92].all fun t => Try.prog.readableRec t && decide (t < Try.prog.types.size)) = true := by kernel_rfl
  intro t ht
  have := List.all_eq_true.1 h t ht
  simpa using this

set_option maxRecDepth 100000 in
theorem heap_apart_lifted (os : Os) (started : os.Started) (H : Type) (enc : TypeId × Value → H) :
    ReturnsInHanded {} Try.checked os 14 .any (Rows.heapApartSpec.pre6 enc Try.prog Try.f14 Rows.heapApartRow.domain false) (Rows.heapApartSpec.post enc Try.prog Try.f14 false true false false) := by
  refine returnsInHanded_of_change (C := Try.checked) (by kernel_rfl) started (by kernel_rfl) Try.func14
    (ChangeSpec.witness6 (enc := enc) (C := Try.checked) false ⟨#[], #[.slice none 0 0], []⟩ 8 (by kernel_rfl) (by kernel_rfl) (by kernel_rfl) (by kernel_rfl)) ?_
  intro W base args ds gs before hval0 hW _ _
  refine law_calls (ti := tab) (T := [2, 3, 5, 9, 46, 47, 49, 90, 92]) tab_ok (by kernel_rfl) (ts := [92]) (bt := 4) rfl rfl rfl (by kernel_rfl) (by decide) ?_ (by kernel_rfl) heap_apart_reads heap_apart_trip ⟨trivial, fun _ h => h.elim⟩ hval0 hW
  intro ds h
  match ds, h with
  | [_], _ => exact ⟨rfl, rfl, rfl⟩
theorem heap_apart : Rows.HeapApartSaid :=
  OpenClaim.holds_of_wide 14 Try.f14 rfl rfl rfl rfl rfl rfl rfl ⟨rfl, rfl, rfl, rfl, rfl⟩ rfl rfl rfl rfl rfl (by kernel_rfl) Try.func14 (by kernel_rfl)
    (of_decide_eq_true (by kernel_rfl)) (by unfold Func.isWrapper; first | (rw [if_pos (by decide +kernel)]; kernel_rfl) | (rw [if_neg (by decide +kernel)]; exact ⟨rfl, rfl⟩))
    (fun os started H enc _ => heap_apart_lifted os started H enc)
end Go.Proofs.Ytiiojajgajnhpaa
