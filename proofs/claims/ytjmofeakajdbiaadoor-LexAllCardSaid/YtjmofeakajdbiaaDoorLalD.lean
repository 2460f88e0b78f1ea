/- Part of a proof. No condition. (Part 4: YtjmofeakajdbiaaDoorShelf, YtjmofeakajdbiaaDoorSh, YtjmofeakajdbiaaDoorXDs, YtjmofeakajdbiaaDoorX30, YtjmofeakajdbiaaDoorX11, YtjmofeakajdbiaaDoorX12, LxA, YtjmofeakajdbiaaDoorX32, YtjmofeakajdbiaaDoorX34, YtjmofeakajdbiaaDoorX67, YtjmofeakajdbiaaDoorX52, YtjmofeakajdbiaaDoorX51, YtjmofeakajdbiaaDoo.) -/
import Derived.Shelf.Small.Strs
import Derived.Shelf.Strings.Search1
import Derived.Shelf.Strings.Prefix
import Derived.Shelf.Strings.Fields
import Derived.Shelf.LaysM
import Derived.Shelf.Strings.SplitShaped
import Derived.Shelf.Unicode.Latin
import Derived.Shelf.Bits.Mul64
import Derived.Shelf.Unicode.Is16White
import Derived.Shelf.Unicode.IsSpaceAny
import Derived.Shelf.Unicode.Is16WhiteD
import Derived.Shelf.Unicode.IsSpaceAnyD
import Derived.Shelf.Strings.FieldsAny
import Derived.Shelf.Strings.FieldsFuncAny
import Derived.Shelf.Unicode.Is16Any
import Derived.Shelf.Unicode.Is32Any
import Derived.Shelf.Unicode.ExclAny
import Derived.Shelf.Strings.FieldsFuncGrows
import Derived.Test.YtjmofeakajdbiaaDoorProg
import Derived.Test.YtjmofeakajdbiaaDoorLalC
set_option linter.unusedVariables false
set_option linter.unusedSimpArgs false
namespace Go.Proofs
open Go.Shelf
def Tryd.lays137_ren : Go.Shelf.Ren := ⟨fun | 137 => 64 | 217 => 77 | 266 => 85 | n => n, fun | 9 => 9 | 5 => 5 | 3 => 3 | n => n, fun | n => n⟩
theorem Tryd.lays137 : Go.Proofs.Lays.n137 Tryd.prog Tryd.lays137_ren := {
  mixed := by kernel_rfl
  f137 := Tryd.func64.trans (congrArg some (by kernel_rfl))
  f217 := Tryd.func77.trans (congrArg some (by kernel_rfl))
  f266 := Tryd.func85.trans (congrArg some (by kernel_rfl))
  t3 := Tryd.underlying3
  a3 := Tryd.isAgg3
  z3 := Tryd.sizeOf3
  v3 := Tryd.zeroValue3
  t5 := Tryd.underlying5
  a5 := Tryd.isAgg5
  z5 := Tryd.sizeOf5
  v5 := Tryd.zeroValue5
  t9 := Tryd.underlying9
  a9 := Tryd.isAgg9
  z9 := Tryd.sizeOf9
  v9 := Tryd.zeroValue9 }
open Go.RowKit in
theorem Tryd.strings_IndexByte (s : ByteArray) (c : Int) (w : World) :
    Calls Tryd.prog 64 #[.string s, .int .u8 c] w fun e w' => e = .returned (.int .i64 (Lib.indexByte s.data.toList c.toNat.toUInt8)) ∧ w' = w := Any.strings_IndexByte Tryd.lays137 s c w
def Tryd.lays99_ren : Go.Shelf.Ren := ⟨fun | 99 => 65 | 206 => 78 | n => n, fun | 9 => 9 | 4 => 4 | 3 => 3 | n => n, fun | n => n⟩
theorem Tryd.lays99 : Go.Proofs.Lays.n99 Tryd.prog Tryd.lays99_ren := {
  mixed := by kernel_rfl
  f99 := Tryd.func65.trans (congrArg some (by kernel_rfl))
  f206 := Tryd.func78.trans (congrArg some (by kernel_rfl))
  t3 := Tryd.underlying3
  a3 := Tryd.isAgg3
  z3 := Tryd.sizeOf3
  v3 := Tryd.zeroValue3
  t4 := Tryd.underlying4
  a4 := Tryd.isAgg4
  z4 := Tryd.sizeOf4
  v4 := Tryd.zeroValue4
  t9 := Tryd.underlying9
  a9 := Tryd.isAgg9
  z9 := Tryd.sizeOf9
  v9 := Tryd.zeroValue9 }
open Go.RowKit Go.Lib in
theorem Tryd.strings_HasPrefix (s p : ByteArray) (w : World) :
    Calls Tryd.prog 65 #[.string s, .string p] w fun e w' => e = .returned (.bool (Lib.hasPrefix s.data.toList p.data.toList)) ∧ w' = w := Any.strings_HasPrefix Tryd.lays99 s p w
def Tryd.lays157_ren : Go.Shelf.Ren := ⟨fun | 157 => 50 | 229 => 70 | 199 => 71 | 261 => 83 | 311 => 88 | 312 => 89 | n => n, fun | 9 => 9 | 31 => 26 | 3 => 3 | 5 => 5 | 4 => 4 | 119 => 87 | 0 => 0 | 40 => 89 | 152 => 99 | 21 => 21 | 154 => 101 | 51 => 102 | 141 => 104 | 196 => 112 | 193 => 109 | 198 => 115 | 49 => 113 | 194 => 110 | 201 => 118 | 226 => 121 | 46 => 120 | 227 => 122 | n => n, fun | 0 => 0 | 6 => 1 | n => n⟩
theorem Tryd.lays157 : Go.Proofs.Lays.n157 Tryd.prog Tryd.lays157_ren := {
  mixed := by kernel_rfl
  f157 := Tryd.func50.trans (congrArg some (by kernel_rfl))
  f199 := Tryd.func71.trans (congrArg some (by kernel_rfl))
  f229 := Tryd.func70.trans (congrArg some (by kernel_rfl))
  f261 := Tryd.func83.trans (congrArg some (by kernel_rfl))
  f311 := Tryd.func88.trans (congrArg some (by kernel_rfl))
  f312 := Tryd.func89.trans (congrArg some (by kernel_rfl))
  t0 := Tryd.underlying0
  a0 := Tryd.isAgg0
  z0 := Tryd.sizeOf0
  v0 := Tryd.zeroValue0
  t3 := Tryd.underlying3
  a3 := Tryd.isAgg3
  z3 := Tryd.sizeOf3
  v3 := Tryd.zeroValue3
  t4 := Tryd.underlying4
  a4 := Tryd.isAgg4
  z4 := Tryd.sizeOf4
  v4 := Tryd.zeroValue4
  t5 := Tryd.underlying5
  a5 := Tryd.isAgg5
  z5 := Tryd.sizeOf5
  v5 := Tryd.zeroValue5
  t9 := Tryd.underlying9
  a9 := Tryd.isAgg9
  z9 := Tryd.sizeOf9
  v9 := Tryd.zeroValue9
  t21 := Tryd.underlying21
  a21 := Tryd.isAgg21
  z21 := Tryd.sizeOf21
  v21 := Tryd.zeroValue21
  t31 := Tryd.underlying26
  a31 := Tryd.isAgg26
  z31 := Tryd.sizeOf26
  v31 := Tryd.zeroValue26
  t40 := Tryd.underlying89
  a40 := Tryd.isAgg89
  z40 := Tryd.sizeOf89
  v40 := Tryd.zeroValue89
  t46 := Tryd.underlying120
  a46 := Tryd.isAgg120
  z46 := Tryd.sizeOf120
  v46 := Tryd.zeroValue120
  t49 := Tryd.underlying113
  a49 := Tryd.isAgg113
  z49 := Tryd.sizeOf113
  v49 := Tryd.zeroValue113
  t51 := Tryd.underlying102
  a51 := Tryd.isAgg102
  z51 := Tryd.sizeOf102
  v51 := Tryd.zeroValue102
  t119 := Tryd.underlying87
  a119 := Tryd.isAgg87
  z119 := Tryd.sizeOf87
  t141 := Tryd.underlying104
  a141 := Tryd.isAgg104
  z141 := Tryd.sizeOf104
  v141 := Tryd.zeroValue104
  t152 := Tryd.underlying99
  a152 := Tryd.isAgg99
  z152 := Tryd.sizeOf99
  v152 := Tryd.zeroValue99
  t154 := Tryd.underlying101
  a154 := Tryd.isAgg101
  z154 := Tryd.sizeOf101
  v154 := Tryd.zeroValue101
  t193 := Tryd.underlying109
  a193 := Tryd.isAgg109
  z193 := Tryd.sizeOf109
  v193 := Tryd.zeroValue109
  t194 := Tryd.underlying110
  a194 := Tryd.isAgg110
  z194 := Tryd.sizeOf110
  v194 := Tryd.zeroValue110
  t196 := Tryd.underlying112
  a196 := Tryd.isAgg112
  z196 := Tryd.sizeOf112
  v196 := Tryd.zeroValue112
  t198 := Tryd.underlying115
  a198 := Tryd.isAgg115
  z198 := Tryd.sizeOf115
  v198 := Tryd.zeroValue115
  t201 := Tryd.underlying118
  a201 := Tryd.isAgg118
  z201 := Tryd.sizeOf118
  v201 := Tryd.zeroValue118
  t226 := Tryd.underlying121
  a226 := Tryd.isAgg121
  z226 := Tryd.sizeOf121
  v226 := Tryd.zeroValue121
  t227 := Tryd.underlying122
  a227 := Tryd.isAgg122
  z227 := Tryd.sizeOf122
  v227 := Tryd.zeroValue122
  g0 := by kernel_rfl
  g6 := by kernel_rfl }
open Go.RowKit Go.Lib in
theorem Tryd.strings_Fields (s : ByteArray) (w : World) (hs : s.size < 4294967281) (hascii : ∀ (j : Nat) b, s.data.toList[j]? = some b → b.toNat < 128) (htab : Lib.TabIs Tryd.prog w "strings.asciiSpace" .u8 Lib.asciiSpaceTab) :
    Calls Tryd.prog 50 #[.string s] w fun e w' =>
      e = .returned (.slice (some ⟨w.heap.size, 0, none⟩) (Lib.fields s.data.toList).length (Lib.fields s.data.toList).length) ∧ w' = w.alloc (.cells ((Lib.fields s.data.toList).map fun l => Value.string ⟨l.toArray⟩).toArray 9) := Any.strings_Fields Tryd.lays157 (by kernel_rfl) (by kernel_rfl) s w hs hascii htab
def Tryd.lays264_ren : Go.Shelf.Ren := ⟨fun | 264 => 86 | n => n, fun | 53 => 51 | 46 => 120 | n => n, fun | n => n⟩
theorem Tryd.lays264 : Go.Proofs.Lays.n264 Tryd.prog Tryd.lays264_ren := {
  mixed := by kernel_rfl
  f264 := Tryd.func86.trans (congrArg some (by kernel_rfl))
  t46 := Tryd.underlying120
  a46 := Tryd.isAgg120
  z46 := Tryd.sizeOf120
  v46 := Tryd.zeroValue120
  t53 := Tryd.underlying51
  a53 := Tryd.isAgg51
  z53 := Tryd.sizeOf51
  v53 := Tryd.zeroValue51 }
open Go.RowKit Go.Lib in
theorem Tryd.bits_Mul64 (x y : Nat) (hx : x < 18446744073709551616) (hy : y < 18446744073709551616) (w : World) :
    Calls Tryd.prog 86 #[.int .u64 x, .int .u64 y] w fun e w' => e = .returned (.tuple #[.int .u64 ((x * y / 18446744073709551616 : Nat) : Int), .int .u64 ((x * y % 18446744073709551616 : Nat) : Int)]) ∧ w' = w := Any.bits_Mul64 Tryd.lays264 x y hx hy w
end Go.Proofs

set_option linter.unusedVariables false
namespace Go.Proofs.YtjmofeakajdbiaaDoor
open Go Go.AM

theorem two {vals : Array Value} (h : vals.size = 2) : ∃ v u, vals = #[v, u] :=
  ⟨vals[0], vals[1], by
    apply Array.ext
    · simpa using h
    · intro i h1 h2
      match i, h2 with
      | 0, _ => rfl
      | 1, _ => rfl⟩
theorem relStr {w : World} {Z : Zone} {s : ByteArray} {v : Value} (h : RelD w Z (.str s) v) : v = .string s := by cases h; rfl
def fieldsD (s : ByteArray) : List D := (Lib.fields s.data.toList).map fun l => D.str ⟨l.toArray⟩
def F50 (n : Nat) (s : ByteArray) : Option (List D) := if s.size < 4294967281 ∧ (s.data.toList.all fun b => b.toNat < 128) = true ∧ (Lib.fields s.data.toList).length ≤ maxLen then some (fieldsD s) else none
def F64 (n : Nat) (s : ByteArray) (c : Int) : Option Int := some (Lib.indexByte s.data.toList c.toNat.toUInt8)
def F65 (n : Nat) (s p : ByteArray) : Option Bool := some (Lib.hasPrefix s.data.toList p.data.toList)
def F86 (n : Nat) (x y : Int) : Option (Int × Int) := if 0 ≤ x ∧ x < 18446744073709551616 ∧ 0 ≤ y ∧ y < 18446744073709551616 then some (x * y / 18446744073709551616, x * y % 18446744073709551616) else none

theorem T64 (n : Nat) : ∀ ⦃s : ByteArray⦄ ⦃c r1 : Int⦄, F64 n s c = some r1 → Trip Tryd.prog inv 64 [.d (.str s), .d (.int .u8 c)] [] (.v (.d (.int .i64 r1))) [] [] := by
  intro s c r1 h
  cases h
  refine Trip.ofCalls (xs := [.str s, .int .u8 c]) ⟨_, _, Tryd.func64, rfl, by kernel_rfl⟩ fun w Z vals hr hsz hv => ?_
  obtain ⟨v, u, rfl⟩ := two hsz
  cases hv 0 _ _ rfl rfl
  cases hv 1 _ _ rfl rfl
  refine (Tryd.strings_IndexByte s c w).mono ?_
  rintro e w' ⟨rfl, rfl⟩
  exact ⟨_, rfl, ⟨rfl, rfl, rfl, Nat.le_refl _, fun _ _ _ => rfl⟩, fun _ _ _ => .int _ _⟩
theorem T65 (n : Nat) : ∀ ⦃s p : ByteArray⦄ ⦃r1 : Bool⦄, F65 n s p = some r1 → Trip Tryd.prog inv 65 [.d (.str s), .d (.str p)] [] (.v (.d (.bool r1))) [] [] := by
  intro s p r1 h
  cases h
  refine Trip.ofCalls (xs := [.str s, .str p]) ⟨_, _, Tryd.func65, rfl, by kernel_rfl⟩ fun w Z vals hr hsz hv => ?_
  obtain ⟨v, u, rfl⟩ := two hsz
  cases hv 0 _ _ rfl rfl
  cases hv 1 _ _ rfl rfl
  refine (Tryd.strings_HasPrefix s p w).mono ?_
  rintro e w' ⟨rfl, rfl⟩
  exact ⟨_, rfl, ⟨rfl, rfl, rfl, Nat.le_refl _, fun _ _ _ => rfl⟩, fun _ _ _ => .bool _⟩
theorem T86 (n : Nat) : ∀ ⦃x y r1 r2 : Int⦄, F86 n x y = some (r1, r2) → Trip Tryd.prog inv 86 [.d (.int .u64 x), .d (.int .u64 y)] [] (.t [.d (.int .u64 r1), .d (.int .u64 r2)]) [] [] := by
  intro x y r1 r2 h
  unfold F86 at h
  split at h
  · rename_i hb
    cases h
    obtain ⟨h1, h2, h3, h4⟩ := hb
    obtain ⟨x, rfl⟩ := Int.eq_ofNat_of_zero_le h1
    obtain ⟨y, rfl⟩ := Int.eq_ofNat_of_zero_le h3
    have tr : ∀ w : World, Trip Tryd.prog inv 86 [.d (.int .u64 x), .d (.int .u64 y)] [] (.t [.d (.int .u64 ((x * y / 18446744073709551616 : Nat) : Int)), .d (.int .u64 ((x * y % 18446744073709551616 : Nat) : Int))]) [] [] := by
      intro _
      refine Trip.ofCallsT (xs := [.int .u64 x, .int .u64 y]) ⟨_, _, Tryd.func86, rfl, by kernel_rfl⟩ fun w Z vals hr hsz hv => ?_
      obtain ⟨v, u, rfl⟩ := two hsz
      cases hv 0 _ _ rfl rfl
      cases hv 1 _ _ rfl rfl
      refine (Tryd.bits_Mul64 x y (by omega) (by omega) w).mono ?_
      rintro e w' ⟨rfl, rfl⟩
      refine ⟨_, rfl, ⟨rfl, rfl, rfl, Nat.le_refl _, fun _ _ _ => rfl⟩, fun _ _ _ _ => ⟨_, rfl, rfl, fun q c u hc hu => ?_⟩⟩
      match q with
      | 0 => simp at hc hu; subst hc; subst hu; exact .int _ _
      | 1 => simp at hc hu; subst hc; subst hu; exact .int _ _
      | q + 2 => simp at hc
    exact tr default
  · cases h
theorem T50 (n : Nat) : ∀ ⦃s : ByteArray⦄ ⦃r1 : List D⦄, F50 n s = some r1 → Trip Tryd.prog inv 50 [.d (.str s)] [] (.v (.d (.list false 1 r1))) [] [] := by
  intro s r1 h
  unfold F50 at h
  split at h
  · rename_i hb
    cases h
    obtain ⟨h1, h2, h3⟩ := hb
    refine Trip.ofCallsT (xs := [.str s]) ⟨_, _, Tryd.func50, rfl, by kernel_rfl⟩ fun w Z vals hr hsz hv => ?_
    obtain ⟨v, rfl⟩ : ∃ v, vals = #[v] := Array.size_eq_one_iff.1 hsz
    cases hv 0 _ _ rfl rfl
    refine (Tryd.strings_Fields s w h1 (fun j b hj => by
      have := List.all_eq_true.1 h2 b (List.mem_of_getElem? hj)
      simpa using this) hr).mono ?_
    rintro e w' ⟨rfl, rfl⟩
    refine ⟨_, rfl, grow_apart rfl rfl rfl (by simp) (fun b hb => Go.RowKit.Below.heap_alloc w _ b hb), fun Z' _ _ hZ => ?_⟩
    have hl : (fieldsD s).length = (Lib.fields s.data.toList).length := by simp [fieldsD]
    show RelD _ Z' (.list false 1 (fieldsD s)) _
    rw [← hl]
    refine .list false 1 (fieldsD s) _ _ w.heap.size 0 (fun i _ => .string ⟨((Lib.fields s.data.toList).getD i []).toArray⟩) (Nat.le_refl _) (by rw [hl]; exact h3) ?_ (fun _ => rfl) ?_ ?_
    · intro r hr
      obtain ⟨l, _, rfl⟩ := List.mem_map.1 hr
      exact ⟨rfl, rfl, fun c hc => by simp [D.cells] at hc; subst hc; rfl⟩
    · intro i r j c hi hj
      have hi' : ((Lib.fields s.data.toList).map fun l => D.str ⟨l.toArray⟩)[i]? = some r := hi
      rw [List.getElem?_map, Option.map_eq_some_iff] at hi'
      obtain ⟨l, hl', rfl⟩ := hi'
      match j with
      | 0 =>
        refine ⟨?_, fun hz => absurd (hZ _ _ hz) (Nat.lt_irrefl _)⟩
        have := heap_alloc_new w (.cells ((Lib.fields s.data.toList).map fun l => Value.string ⟨l.toArray⟩).toArray 9)
        unfold World.cell?
        simp only [Nat.zero_add, Nat.mul_one, Nat.add_zero]
        rw [this]
        simp [hl']
      | j + 1 => simp [D.cells] at hj
    · intro i r j c hi hj
      have hi' : ((Lib.fields s.data.toList).map fun l => D.str ⟨l.toArray⟩)[i]? = some r := hi
      rw [List.getElem?_map, Option.map_eq_some_iff] at hi'
      obtain ⟨l, hl', rfl⟩ := hi'
      match j with
      | 0 =>
        simp [D.cells] at hj
        subst hj
        simp only [List.getD_eq_getElem?_getD, hl', Option.getD_some]
        exact .str _
      | j + 1 => simp [D.cells] at hj
  · cases h
end Go.Proofs.YtjmofeakajdbiaaDoor

set_option linter.unusedVariables false
noncomputable section
namespace Go.Proofs.YtjmofeakajdbiaaDoor
open Go Go.AM
def k_let_if_else_while_match_ : ByteArray := ⟨#[108, 101, 116, 32, 105, 102, 32, 101, 108, 115, 101, 32, 119, 104, 105, 108, 101, 32, 109, 97, 116, 99, 104, 32, 115, 99, 111, 112, 101, 32, 115, 112, 97, 119, 110, 32, 108, 111, 99, 107, 32, 97, 115, 32, 99, 104, 97, 110, 32, 100, 114, 111, 112, 32, 102, 110, 32, 115, 116, 114, 117, 99, 116, 32, 101, 110, 117, 109, 32, 116, 114, 117, 101, 32, 102, 97, 108, 115, 101, 32, 97, 110, 100, 32, 111, 114, 32, 110, 111, 116, 32, 105, 110, 116, 32, 98, 111, 111, 108, 32, 117, 110, 105, 116, 32, 109, 117, 116, 32, 98, 111, 120, 32, 117, 110, 98, 111, 120, 32, 99, 101, 108, 108, 32, 103, 101, 116, 32, 115, 101, 116, 32, 114, 99, 32, 97, 114, 99, 32, 99, 108, 111, 110, 101, 32, 109, 117, 116, 101, 120, 32, 111, 112, 101, 110, 32, 97, 116, 111, 109, 105, 99, 32, 108, 111, 97, 100, 32, 115, 116, 111, 114, 101, 32, 102, 101, 116, 99, 104, 32, 115, 101, 110, 100, 32, 114, 101, 99, 118, 32, 66, 111, 120, 32, 67, 101, 108, 108, 32, 82, 99, 32, 65, 114, 99, 32, 77, 117, 116, 101, 120, 32, 65, 116, 111, 109, 105, 99, 32, 83, 101, 110, 100, 101, 114, 32, 82, 101, 99, 101, 105, 118, 101, 114]⟩
def ds_str {γ : Type} (x : D) (k : ByteArray → Option γ) : Option γ := match x with | .str a0 => k a0 | _ => none
theorem ds_str_inv {γ : Type} {x : D} {k : ByteArray → Option γ} {r : γ} (h : ds_str x k = some r) : ∃ a0, x = .str a0 ∧ k a0 = some r := by
  unfold ds_str at h
  split at h
  · exact ⟨_, rfl, h⟩
  · cases h
def ds_i64 {γ : Type} (x : D) (k : Int → Option γ) : Option γ := match x with | .int .i64 a0 => k a0 | _ => none
theorem ds_i64_inv {γ : Type} {x : D} {k : Int → Option γ} {r : γ} (h : ds_i64 x k = some r) : ∃ a0, x = .int .i64 a0 ∧ k a0 = some r := by
  unfold ds_i64 at h
  split at h
  · exact ⟨_, rfl, h⟩
  · cases h
def k_let : ByteArray := ⟨#[108, 101, 116]⟩
def k_if : ByteArray := ⟨#[105, 102]⟩
def k_else : ByteArray := ⟨#[101, 108, 115, 101]⟩
def k_while : ByteArray := ⟨#[119, 104, 105, 108, 101]⟩
def k_match : ByteArray := ⟨#[109, 97, 116, 99, 104]⟩
def k_scope : ByteArray := ⟨#[115, 99, 111, 112, 101]⟩
def k_spawn : ByteArray := ⟨#[115, 112, 97, 119, 110]⟩
def k_lock : ByteArray := ⟨#[108, 111, 99, 107]⟩
def k_as : ByteArray := ⟨#[97, 115]⟩
def k_chan : ByteArray := ⟨#[99, 104, 97, 110]⟩
def k_drop : ByteArray := ⟨#[100, 114, 111, 112]⟩
def k_fn : ByteArray := ⟨#[102, 110]⟩
def k_struct : ByteArray := ⟨#[115, 116, 114, 117, 99, 116]⟩
def k_enum : ByteArray := ⟨#[101, 110, 117, 109]⟩
def k_true : ByteArray := ⟨#[116, 114, 117, 101]⟩
def k_false : ByteArray := ⟨#[102, 97, 108, 115, 101]⟩
def k_and : ByteArray := ⟨#[97, 110, 100]⟩
def k_or : ByteArray := ⟨#[111, 114]⟩
def k_not : ByteArray := ⟨#[110, 111, 116]⟩
def k_int : ByteArray := ⟨#[105, 110, 116]⟩
def k_bool : ByteArray := ⟨#[98, 111, 111, 108]⟩
def k_unit : ByteArray := ⟨#[117, 110, 105, 116]⟩
def k_mut : ByteArray := ⟨#[109, 117, 116]⟩
def k_box : ByteArray := ⟨#[98, 111, 120]⟩
def k_unbox : ByteArray := ⟨#[117, 110, 98, 111, 120]⟩
def k_cell : ByteArray := ⟨#[99, 101, 108, 108]⟩
def k_get : ByteArray := ⟨#[103, 101, 116]⟩
def k_set : ByteArray := ⟨#[115, 101, 116]⟩
def k_rc : ByteArray := ⟨#[114, 99]⟩
def k_arc : ByteArray := ⟨#[97, 114, 99]⟩
def k_clone : ByteArray := ⟨#[99, 108, 111, 110, 101]⟩
def k_mutex : ByteArray := ⟨#[109, 117, 116, 101, 120]⟩
def k_open : ByteArray := ⟨#[111, 112, 101, 110]⟩
def k_atomic : ByteArray := ⟨#[97, 116, 111, 109, 105, 99]⟩
def k_load : ByteArray := ⟨#[108, 111, 97, 100]⟩
def k_store : ByteArray := ⟨#[115, 116, 111, 114, 101]⟩
def k_fetch : ByteArray := ⟨#[102, 101, 116, 99, 104]⟩
def k_send : ByteArray := ⟨#[115, 101, 110, 100]⟩
def k_recv : ByteArray := ⟨#[114, 101, 99, 118]⟩
def k_Box : ByteArray := ⟨#[66, 111, 120]⟩
def k_Cell : ByteArray := ⟨#[67, 101, 108, 108]⟩
def k_Rc : ByteArray := ⟨#[82, 99]⟩
def k_Arc : ByteArray := ⟨#[65, 114, 99]⟩
def k_Mutex : ByteArray := ⟨#[77, 117, 116, 101, 120]⟩
def k_Atomic : ByteArray := ⟨#[65, 116, 111, 109, 105, 99]⟩
def k_Sender : ByteArray := ⟨#[83, 101, 110, 100, 101, 114]⟩
def k_Receiver : ByteArray := ⟨#[82, 101, 99, 101, 105, 118, 101, 114]⟩
def k__ : ByteArray := ⟨#[42]⟩
def k___ : ByteArray := ⟨#[61, 61]⟩
def k____1 : ByteArray := ⟨#[61, 62]⟩
def k____2 : ByteArray := ⟨#[45, 62]⟩
def k___1 : ByteArray := ⟨#[40]⟩
def k___2 : ByteArray := ⟨#[41]⟩
def k___3 : ByteArray := ⟨#[123]⟩
def k___4 : ByteArray := ⟨#[125]⟩
def k___5 : ByteArray := ⟨#[60]⟩
def k___6 : ByteArray := ⟨#[62]⟩
def k___7 : ByteArray := ⟨#[44]⟩
def k___8 : ByteArray := ⟨#[59]⟩
def k___9 : ByteArray := ⟨#[58]⟩
def k___10 : ByteArray := ⟨#[61]⟩
def k___11 : ByteArray := ⟨#[38]⟩
def k___12 : ByteArray := ⟨#[46]⟩
def k___13 : ByteArray := ⟨#[43]⟩
def k___14 : ByteArray := ⟨#[45]⟩
def k___15 : ByteArray := ⟨#[47]⟩
def k___16 : ByteArray := ⟨#[37]⟩
def k_____ : ByteArray := ⟨#[32, 9, 10, 13]⟩
def k____3 : ByteArray := ⟨#[47, 47]⟩
theorem ext87 : isAdd64 Tryd.prog 87 := ⟨_, Tryd.func87, by kernel_rfl, by kernel_rfl, by kernel_rfl, by rfl⟩
def k__________________ : ByteArray := ⟨#[40, 41, 123, 125, 60, 62, 44, 59, 58, 61, 38, 42, 46, 43, 45, 47, 37]⟩
def ds_t46 {γ : Type} (x : D) (k : Int → ByteArray → Int → Option γ) : Option γ := match x with | .agg [.int .u8 a0, .str a1, .int .i64 a2] => k a0 a1 a2 | _ => none
theorem ds_t46_inv {γ : Type} {x : D} {k : Int → ByteArray → Int → Option γ} {r : γ} (h : ds_t46 x k = some r) : ∃ a0 a1 a2, x = .agg [.int .u8 a0, .str a1, .int .i64 a2] ∧ k a0 a1 a2 = some r := by
  unfold ds_t46 at h
  split at h
  · exact ⟨_, _, _, rfl, h⟩
  · cases h
def ds_t47 {γ : Type} (x : D) (k : Int → ByteArray → Int → Option γ) : Option γ := match x with | .agg [.int .u8 a0, .str a1, .int .i64 a2] => k a0 a1 a2 | _ => none
theorem ds_t47_inv {γ : Type} {x : D} {k : Int → ByteArray → Int → Option γ} {r : γ} (h : ds_t47 x k = some r) : ∃ a0 a1 a2, x = .agg [.int .u8 a0, .str a1, .int .i64 a2] ∧ k a0 a1 a2 = some r := by
  unfold ds_t47 at h
  split at h
  · exact ⟨_, _, _, rfl, h⟩
  · cases h
def k_spoilt : ByteArray := ⟨#[115, 112, 111, 105, 108, 116]⟩
end Go.Proofs.YtjmofeakajdbiaaDoor
end

set_option linter.unusedVariables false
noncomputable section
namespace Go.Proofs.YtjmofeakajdbiaaDoor
open Go Go.AM
mutual
def L30_1 : Nat → (List D) → Int → Int → (List D) → Option (List D)
  | 0, _, _, _, _ => none
  | n + 1, l1, z2, z3, l4 =>
    (if z3 < z2 then L30_2 n l1 z2 z3 l4 true else L30_2 n l1 z2 z3 l4 false)
def L30_2 : Nat → (List D) → Int → Int → (List D) → Bool → Option (List D)
  | 0, _, _, _, _, _ => none
  | n + 1, l1, z2, z3, l4, b5 =>
    (if b5 = true then getF l1 z3 fun x6 => ds_str x6 fun s7 => letF (IntKind.wrap .i64 (z3 + 1)) fun z8 => putF (.str s7) [.int .i64 z8] l4 fun l9 => letF (IntKind.wrap .i64 (z3 + 1)) fun z10 => L30_1 n l1 z2 z10 l9 else some l4)
end
def F30 (n : Nat) : Option (List D) :=
  bO1 (F50 n k_let_if_else_while_match_) fun l1 => lenF l1 fun z2 => L30_1 n l1 z2 (0 : Int) ([] : List D)
set_option maxRecDepth 100000 in
set_option maxHeartbeats 40000000 in
theorem T30 (n : Nat) : ∀ ⦃r1 : List D⦄, F30 n = some r1 →
    Trip Tryd.prog inv 30 [] [] (.v (.c (.ow (.loc 0)))) [] [.tree (.fmap false) true 2 r1 none] := by
  intro r1 h
  unfold F30 at h
  refine Trip.of tab_ok tab_one fol Tryd.func30 rfl (by kernel_rfl) rfl rfl rfl (fun M hM hI => ?_)
  try cbv
  refine seq_go ?_
  try cbv
  refine seq_go ?_
  try cbv
  refine seq_go ?_
  try cbv
  refine seq_go ?_
  try cbv
  replace h := bO1_inv h
  obtain ⟨l1, hr, h⟩ := h
  refine call_go rfl rfl ?_
  try cbv
  refine call_pure hM hI (T50 _ hr) rfl ?_
  clear hr
  try cbv
  replace h := lenF_inv M h
  obtain ⟨z2, hz, h⟩ := h
  refine ⟨z2, hz, ?_⟩
  clear hz
  try cbv
  refine loop_invG (T := Nat × Int × List D) [] [] [0, 1, 5, 6, 7] [.loc 32] 192 (fun t => ⟨[(0, .v (.c (.nilm))), (1, .v (.c (.ow (.loc 32)))), (5, .v (.d (.list false 1 l1))), (6, .v (.d (.int .i64 z2))), (7, .v (.d (.int .i64 t.2.1)))], [(.loc 32, .tree (.fmap false) true 2 t.2.2 none)], 192⟩)
    (fun t => t.1 ≤ n ∧ L30_1 t.1 l1 z2 t.2.1 t.2.2 = some r1) (fun t => t.1) (n, ((0 : Int), ([] : List D))) ⟨Nat.le_refl _, h⟩ (by cbv) ?_
  clear h
  rintro ⟨m1, z3, l4⟩ ⟨hm1, h⟩
  replace hm1 : m1 ≤ n := hm1
  cases m1 with
  | zero =>
    replace h : L30_1 0 l1 z2 z3 l4 = some r1 := h
    rw [L30_1] at h
    cases h
  | succ m1 =>
    replace h : L30_1 (m1 + 1) l1 z2 z3 l4 = some r1 := h
    rw [L30_1] at h
    try cbv
    refine seq_join (T := Nat × Bool) (fun t => ⟨[(0, .v (.c (.nilm))), (1, .v (.c (.ow (.loc 32)))), (5, .v (.d (.list false 1 l1))), (6, .v (.d (.int .i64 z2))), (7, .v (.d (.int .i64 z3))), (8, .v (.d (.bool t.2)))], [(.loc 32, .tree (.fmap false) true 2 l4 none)], 224⟩) (fun t => t.1 ≤ m1 ∧ L30_2 t.1 l1 z2 z3 l4 t.2 = some r1) ?_ ?_
    · try cbv
      refine splitL (fun e => ?_) (fun e => ?_)
      · replace h := ite_t e h
        clear e
        try cbv
        exact join_next (m1, true) [0, 1, 5, 6, 7, 8] [.loc 32] 224 ⟨by omega, h⟩ (by cbv)
      · replace h := ite_f (Int.not_lt.2 e) h
        clear e
        try cbv
        exact join_next (m1, false) [0, 1, 5, 6, 7, 8] [.loc 32] 224 ⟨by omega, h⟩ (by cbv)
    · clear h
      rintro ⟨m2, b5⟩ ⟨hm2, h⟩
      replace hm2 : m2 ≤ m1 := hm2
      cases m2 with
      | zero =>
        replace h : L30_2 0 l1 z2 z3 l4 b5 = some r1 := h
        rw [L30_2] at h
        cases h
      | succ m2 =>
        replace h : L30_2 (m2 + 1) l1 z2 z3 l4 b5 = some r1 := h
        rw [L30_2] at h
        try cbv
        refine seq_go ?_
        try cbv
        cases b5
        · replace h := ite_f Bool.false_ne_true h
          try cbv
          refine seq_go ?_
          try cbv
          obtain rfl := Option.some.inj h
          refine fin_go ?_
          try cbv
          exact ⟨[.loc 32], rfl, rfl, trivial, ⟨rfl, trivial⟩, trivial⟩
        · replace h := ite_t rfl h
          try cbv
          refine seq_go ?_
          try cbv
          refine seq_go ?_
          try cbv
          replace h := getF_inv h
          obtain ⟨x6, ⟨hx0, hx⟩, h⟩ := h
          refine ⟨x6, hx0, hx, ?_⟩
          clear hx0 hx
          replace h := ds_str_inv h
          obtain ⟨s7, rfl, h⟩ := h
          try cbv
          replace h := letF_inv h
          obtain ⟨z8, hz, h⟩ := h
          refine ⟨z8, hz, ?_⟩
          clear hz
          try cbv
          replace h := putF_inv h
          obtain ⟨l9, hz, h⟩ := h
          refine ⟨l9, (M.lock_iff _).2 hz, ?_⟩
          clear hz
          try cbv
          replace h := letF_inv h
          obtain ⟨z10, hz, h⟩ := h
          refine ⟨z10, hz, ?_⟩
          clear hz
          try cbv
          refine loop_nextG (m2, (z10, l9)) [] [] [0, 1, 5, 6, 7] [.loc 32] 192 ⟨by omega, h⟩ (Nat.lt_succ_of_le (by omega)) ?_
          try cbv
end Go.Proofs.YtjmofeakajdbiaaDoor
end

set_option linter.unusedVariables false
noncomputable section
namespace Go.Proofs.YtjmofeakajdbiaaDoor
open Go Go.AM
def F11 (n : Nat) (s1 : ByteArray) : Option (Bool) :=
  bO1 (F30 n) fun l2 => (findF false (.str s1) l2 (fun x3 => ds_i64 x3 fun z4 => (if (0 : Int) < z4 then some true else some false)) (some false))
set_option maxRecDepth 100000 in
set_option maxHeartbeats 40000000 in
theorem T11 (n : Nat) : ∀ ⦃s1 : ByteArray⦄ ⦃r1 : Bool⦄, F11 n s1 = some r1 →
    Trip Tryd.prog inv 11 [.d (.str s1)] [] (.v (.d (.bool r1))) [] [] := by
  intro s1 r1 h
  unfold F11 at h
  refine Trip.of tab_ok tab_one fol Tryd.func11 rfl (by kernel_rfl) rfl rfl rfl (fun M hM hI => ?_)
  try cbv
  refine seq_go ?_
  try cbv
  refine seq_go ?_
  try cbv
  replace h := bO1_inv h
  obtain ⟨l2, hr, h⟩ := h
  refine call_go rfl rfl ?_
  try cbv
  refine call_with hM hI [] (T30 _ hr) rfl (by simp) trivial trivial (by simp) ?_
  clear hr
  try cbv
  replace h := findF_inv h
  rcases h with ⟨x3, hz, h⟩ | ⟨hz, h⟩
  · replace h := ds_i64_inv h
    obtain ⟨z4, rfl, h⟩ := h
    refine ⟨some _, (M.lock_iff _).2 hz, ?_⟩
    clear hz
    try cbv
    refine splitL (fun e => ?_) (fun e => ?_)
    · replace h := ite_t e h
      clear e
      try cbv
      obtain rfl := Option.some.inj h
      refine fin_go ?_
      try cbv
      exact ⟨[], rfl, rfl, trivial, trivial, trivial⟩
    · replace h := ite_f (Int.not_lt.2 e) h
      clear e
      try cbv
      obtain rfl := Option.some.inj h
      refine fin_go ?_
      try cbv
      exact ⟨[], rfl, rfl, trivial, trivial, trivial⟩
  · refine ⟨none, (M.lock_iff _).2 hz, ?_⟩
    clear hz
    try cbv
    refine splitL_f (by decide) ?_
    try cbv
    obtain rfl := Option.some.inj h
    refine fin_go ?_
    try cbv
    exact ⟨[], rfl, rfl, trivial, trivial, trivial⟩
end Go.Proofs.YtjmofeakajdbiaaDoor
end

set_option linter.unusedVariables false
noncomputable section
namespace Go.Proofs.YtjmofeakajdbiaaDoor
open Go Go.AM
mutual
def L12_1 : Nat → ByteArray → Int → Option (Bool)
  | 0, _, _ => none
  | n + 1, s1, z2 =>
    (if z2 < (47 : Int) then L12_2 n s1 z2 true else L12_2 n s1 z2 false)
def L12_2 : Nat → ByteArray → Int → Bool → Option (Bool)
  | 0, _, _, _ => none
  | n + 1, s1, z2, b3 =>
    (if b3 = true then getF ([.str k_let, .str k_if, .str k_else, .str k_while, .str k_match, .str k_scope, .str k_spawn, .str k_lock, .str k_as, .str k_chan, .str k_drop, .str k_fn, .str k_struct, .str k_enum, .str k_true, .str k_false, .str k_and, .str k_or, .str k_not, .str k_int, .str k_bool, .str k_unit, .str k_mut, .str k_box, .str k_unbox, .str k_cell, .str k_get, .str k_set, .str k_rc, .str k_arc, .str k_clone, .str k_mutex, .str k_open, .str k_atomic, .str k_load, .str k_store, .str k_fetch, .str k_send, .str k_recv, .str k_Box, .str k_Cell, .str k_Rc, .str k_Arc, .str k_Mutex, .str k_Atomic, .str k_Sender, .str k_Receiver]) z2 fun x4 => ds_str x4 fun s5 => (if s5 = s1 then L12_3 n s1 z2 true else L12_3 n s1 z2 false) else some false)
def L12_3 : Nat → ByteArray → Int → Bool → Option (Bool)
  | 0, _, _, _ => none
  | n + 1, s1, z2, b6 =>
    (if b6 = true then some true else letF (IntKind.wrap .i64 (z2 + 1)) fun z7 => L12_1 n s1 z7)
end
def F12 (n : Nat) (s1 : ByteArray) : Option (Bool) :=
  L12_1 n s1 (0 : Int)
set_option maxRecDepth 100000 in
set_option maxHeartbeats 40000000 in
theorem T12 (n : Nat) : ∀ ⦃s1 : ByteArray⦄ ⦃r1 : Bool⦄, F12 n s1 = some r1 →
    Trip Tryd.prog inv 12 [.d (.str s1)] [] (.v (.d (.bool r1))) [] [] := by
  intro s1 r1 h
  unfold F12 at h
  refine Trip.of tab_ok tab_one fol Tryd.func12 rfl (by kernel_rfl) rfl rfl rfl (fun M hM hI => ?_)
  try cbv
  refine seq_go ?_
  try cbv
  refine seq_go ?_
  try cbv
  refine ⟨false, ?_⟩
  try cbv
  refine ⟨true, ?_⟩
  try cbv
  refine seq_go ?_
  try cbv
  refine seq_go ?_
  try cbv
  refine loop_inv (T := Nat × Int) [0, 2, 3, 4] [] 128 (fun t => ⟨[(0, .v (.d (.str s1))), (2, .v (.d (.bool false))), (3, .v (.c (.tl false 1 ([.str k_let, .str k_if, .str k_else, .str k_while, .str k_match, .str k_scope, .str k_spawn, .str k_lock, .str k_as, .str k_chan, .str k_drop, .str k_fn, .str k_struct, .str k_enum, .str k_true, .str k_false, .str k_and, .str k_or, .str k_not, .str k_int, .str k_bool, .str k_unit, .str k_mut, .str k_box, .str k_unbox, .str k_cell, .str k_get, .str k_set, .str k_rc, .str k_arc, .str k_clone, .str k_mutex, .str k_open, .str k_atomic, .str k_load, .str k_store, .str k_fetch, .str k_send, .str k_recv, .str k_Box, .str k_Cell, .str k_Rc, .str k_Arc, .str k_Mutex, .str k_Atomic, .str k_Sender, .str k_Receiver])))), (4, .v (.d (.int .i64 t.2)))], [], 128⟩)
    (fun t => t.1 ≤ n ∧ L12_1 t.1 s1 t.2 = some r1) (fun t => t.1) (n, (0 : Int)) ⟨Nat.le_refl _, h⟩ (by cbv) ?_
  clear h
  rintro ⟨m1, z2⟩ ⟨hm1, h⟩
  replace hm1 : m1 ≤ n := hm1
  cases m1 with
  | zero =>
    replace h : L12_1 0 s1 z2 = some r1 := h
    rw [L12_1] at h
    cases h
  | succ m1 =>
    replace h : L12_1 (m1 + 1) s1 z2 = some r1 := h
    rw [L12_1] at h
    try cbv
    refine seq_go ?_
    try cbv
    refine seq_join (T := Nat × Bool) (fun t => ⟨[(0, .v (.d (.str s1))), (2, .v (.d (.bool false))), (3, .v (.c (.tl false 1 ([.str k_let, .str k_if, .str k_else, .str k_while, .str k_match, .str k_scope, .str k_spawn, .str k_lock, .str k_as, .str k_chan, .str k_drop, .str k_fn, .str k_struct, .str k_enum, .str k_true, .str k_false, .str k_and, .str k_or, .str k_not, .str k_int, .str k_bool, .str k_unit, .str k_mut, .str k_box, .str k_unbox, .str k_cell, .str k_get, .str k_set, .str k_rc, .str k_arc, .str k_clone, .str k_mutex, .str k_open, .str k_atomic, .str k_load, .str k_store, .str k_fetch, .str k_send, .str k_recv, .str k_Box, .str k_Cell, .str k_Rc, .str k_Arc, .str k_Mutex, .str k_Atomic, .str k_Sender, .str k_Receiver])))), (4, .v (.d (.int .i64 z2))), (9, .v (.d (.bool t.2)))], [], 256⟩) (fun t => t.1 ≤ m1 ∧ L12_2 t.1 s1 z2 t.2 = some r1) ?_ ?_
    · try cbv
      refine ⟨47, (M.lenI_eq _).trans rfl, ?_⟩
      try cbv
      refine splitL (fun e => ?_) (fun e => ?_)
      · replace h := ite_t e h
        clear e
        try cbv
        exact join_next (m1, true) [0, 2, 3, 4, 9] [] 256 ⟨by omega, h⟩ (by cbv)
      · replace h := ite_f (Int.not_lt.2 e) h
        clear e
        try cbv
        exact join_next (m1, false) [0, 2, 3, 4, 9] [] 256 ⟨by omega, h⟩ (by cbv)
    · clear h
      rintro ⟨m2, b3⟩ ⟨hm2, h⟩
      replace hm2 : m2 ≤ m1 := hm2
      cases m2 with
      | zero =>
        replace h : L12_2 0 s1 z2 b3 = some r1 := h
        rw [L12_2] at h
        cases h
      | succ m2 =>
        replace h : L12_2 (m2 + 1) s1 z2 b3 = some r1 := h
        rw [L12_2] at h
        try cbv
        cases b3
        · replace h := ite_f Bool.false_ne_true h
          try cbv
          refine seq_go ?_
          try cbv
          obtain rfl := Option.some.inj h
          refine fin_go ?_
          try cbv
          exact ⟨[], rfl, rfl, trivial, trivial, trivial⟩
        · replace h := ite_t rfl h
          try cbv
          refine seq_go ?_
          try cbv
          refine seq_join (T := Nat × Bool) (fun t => ⟨[(0, .v (.d (.str s1))), (2, .v (.d (.bool false))), (3, .v (.c (.tl false 1 ([.str k_let, .str k_if, .str k_else, .str k_while, .str k_match, .str k_scope, .str k_spawn, .str k_lock, .str k_as, .str k_chan, .str k_drop, .str k_fn, .str k_struct, .str k_enum, .str k_true, .str k_false, .str k_and, .str k_or, .str k_not, .str k_int, .str k_bool, .str k_unit, .str k_mut, .str k_box, .str k_unbox, .str k_cell, .str k_get, .str k_set, .str k_rc, .str k_arc, .str k_clone, .str k_mutex, .str k_open, .str k_atomic, .str k_load, .str k_store, .str k_fetch, .str k_send, .str k_recv, .str k_Box, .str k_Cell, .str k_Rc, .str k_Arc, .str k_Mutex, .str k_Atomic, .str k_Sender, .str k_Receiver])))), (4, .v (.d (.int .i64 z2))), (17, .v (.d (.bool t.2)))], [], 448⟩) (fun t => t.1 ≤ m2 ∧ L12_3 t.1 s1 z2 t.2 = some r1) ?_ ?_
          · try cbv
            replace h := getF_inv h
            obtain ⟨x4, ⟨hx0, hx⟩, h⟩ := h
            refine ⟨x4, hx0, hx, ?_⟩
            clear hx0 hx
            replace h := ds_str_inv h
            obtain ⟨s5, rfl, h⟩ := h
            try cbv
            refine splitS (fun e => ?_) (fun e => ?_)
            · replace h := ite_t (bytes_eq.1 e) h
              clear e
              try cbv
              exact join_next (m2, true) [0, 2, 3, 4, 17] [] 448 ⟨by omega, h⟩ (by cbv)
            · replace h := ite_f (bytes_ne.1 e) h
              clear e
              try cbv
              exact join_next (m2, false) [0, 2, 3, 4, 17] [] 448 ⟨by omega, h⟩ (by cbv)
          · clear h
            rintro ⟨m3, b6⟩ ⟨hm3, h⟩
            replace hm3 : m3 ≤ m2 := hm3
            cases m3 with
            | zero =>
              replace h : L12_3 0 s1 z2 b6 = some r1 := h
              rw [L12_3] at h
              cases h
            | succ m3 =>
              replace h : L12_3 (m3 + 1) s1 z2 b6 = some r1 := h
              rw [L12_3] at h
              try cbv
              cases b6
              · replace h := ite_f Bool.false_ne_true h
                try cbv
                replace h := letF_inv h
                obtain ⟨z7, hz, h⟩ := h
                refine ⟨z7, hz, ?_⟩
                clear hz
                try cbv
                exact loop_next (m3, z7) [0, 2, 3, 4] [] 128 ⟨by omega, h⟩ (Nat.lt_succ_of_le (by omega)) (by cbv)
              · replace h := ite_t rfl h
                try cbv
                refine seq_go ?_
                try cbv
                obtain rfl := Option.some.inj h
                refine fin_go ?_
                try cbv
                exact ⟨[], rfl, rfl, trivial, trivial, trivial⟩
end Go.Proofs.YtjmofeakajdbiaaDoor
end

set_option linter.unusedVariables false
noncomputable section
namespace Go.Proofs.YtjmofeakajdbiaaDoor
open Go Go.AM

def bl (s : ByteArray) : List UInt8 := s.data.toList
theorem bl_len (s : ByteArray) : s.size = (bl s).length := (Array.length_toList (xs := s.data)).symm
theorem bl_inj {s t : ByteArray} (h : bl s = bl t) : s = t := by
  cases s; cases t
  simp only [bl] at h
  rw [Array.toList_inj.1 h]
theorem atF_get {γ : Type} {s : ByteArray} {i : Nat} {b : UInt8} {k : Int → Option γ} (h : (bl s)[i]? = some b) : atF s (i : Int) k = k (b.toNat : Int) := by
  have hlt : i < s.size := by rw [bl_len]; exact (List.getElem?_eq_some_iff.1 h).1
  have hb : s[i] = b := by
    have := (List.getElem?_eq_some_iff.1 h).2
    rw [← this]
    simp [bl]
    rfl
  have h1 : s[(i : Int).toNat]? = some b := by
    rw [Int.toNat_natCast, getElem?_pos s i hlt, hb]
  unfold atF
  rw [if_pos (Int.natCast_nonneg i), h1]
  rfl
theorem szF_eq {γ : Type} {s : ByteArray} {k : Int → Option γ} : szF s k = k ((bl s).length : Int) := by
  unfold szF
  rw [bl_len]
def wordsL : List ByteArray := [k_let, k_if, k_else, k_while, k_match, k_scope, k_spawn, k_lock, k_as, k_chan, k_drop, k_fn, k_struct, k_enum, k_true, k_false, k_and, k_or, k_not, k_int, k_bool, k_unit, k_mut, k_box, k_unbox, k_cell, k_get, k_set, k_rc, k_arc, k_clone, k_mutex, k_open, k_atomic, k_load, k_store, k_fetch, k_send, k_recv, k_Box, k_Cell, k_Rc, k_Arc, k_Mutex, k_Atomic, k_Sender, k_Receiver]
def word (s : ByteArray) : Bool := wordsL.any fun w => decide (bl w = bl s)
theorem word_iff {s : ByteArray} : word s = true ↔ s ∈ wordsL := by
  unfold word
  rw [List.any_eq_true]
  constructor
  · rintro ⟨w, hw, h⟩
    rw [← bl_inj (of_decide_eq_true h)]; exact hw
  · intro h
    exact ⟨s, h, decide_eq_true rfl⟩
theorem word_no {s : ByteArray} (h : s ∉ wordsL) : word s = false := by
  cases hw : word s
  · rfl
  · exact absurd (word_iff.1 hw) h

theorem beq_bytes {a b : ByteArray} : (a == b) = true ↔ a = b := by
  rw [beq_toListBytes]
  constructor
  · intro h
    have h := eq_of_beq h
    rw [ByteArray.toList_eq, ByteArray.toList_eq] at h
    exact bl_inj h
  · rintro rfl
    exact beq_self_eq_true _

inductive WRows : List ByteArray → List D → Prop where
  | nil : WRows [] []
  | cons {w : ByteArray} {z : Int} {ws : List ByteArray} {rows : List D} (hz : 0 < z) (h : WRows ws rows) : WRows (w :: ws) (.agg [.str w, .int .i64 z] :: rows)
theorem WRows.find {s : ByteArray} : ∀ {ws : List ByteArray} {rows : List D}, WRows ws rows → (s ∉ ws ∧ findR false (.str s) rows = some none) ∨ ∃ z, s ∈ ws ∧ 0 < z ∧ findR false (.str s) rows = some (some (.int .i64 z))
  | _, _, .nil => .inl ⟨by simp, rfl⟩
  | _, _, .cons (w := w) (z := z) (ws := ws) (rows := rows) hz h => by
    cases hb : (s == w) with
    | true =>
      have := beq_bytes.1 hb
      subst this
      exact .inr ⟨z, by simp, hz, by simp [findR, eqK, hb, rowOf]⟩
    | false =>
      have hne : s ≠ w := fun e => by rw [beq_bytes.2 e] at hb; cases hb
      rcases h.find (s := s) with ⟨h1, h2⟩ | ⟨z', h1, h2, h3⟩
      · exact .inl ⟨by simp [hne, h1], by simp [findR, eqK, hb, h2]⟩
      · exact .inr ⟨z', by simp [h1], h2, by simp [findR, eqK, hb, h3]⟩
theorem WRows.put {s : ByteArray} {z : Int} (hz : 0 < z) : ∀ {ws : List ByteArray} {rows : List D}, WRows ws rows → ∃ ws' rows', putR (.str s) [.int .i64 z] rows = some rows' ∧ WRows ws' rows' ∧ ∀ t, t ∈ ws' ↔ t = s ∨ t ∈ ws
  | _, _, .nil => ⟨[s], _, rfl, .cons hz .nil, by simp⟩
  | _, _, .cons (w := w) (z := z') (ws := ws) (rows := rows) hz' h => by
    cases hb : (s == w) with
    | true =>
      have := beq_bytes.1 hb
      subst this
      exact ⟨s :: ws, .agg [.str s, .int .i64 z] :: rows, by simp [putR, eqK, hb], .cons hz h, by intro t; simp⟩
    | false =>
      obtain ⟨ws', rows', h1, h2, h3⟩ := h.put (s := s) hz
      refine ⟨w :: ws', .agg [.str w, .int .i64 z'] :: rows', by simp [putR, eqK, hb, h1], .cons hz' h2, fun t => ?_⟩
      simp only [List.mem_cons, h3]
      constructor
      · rintro (h | h | h) <;> simp [h]
      · rintro (h | h | h) <;> simp [h]

theorem fields_words : fieldsD k_let_if_else_while_match_ = wordsL.map D.str := by kernel_rfl
theorem ev50 : Ev (fun n => F50 n k_let_if_else_while_match_) (wordsL.map D.str) := Ev.of fun n => by
  rw [← fields_words]
  unfold F50
  have h1 : Nat.ble (k_let_if_else_while_match_).size 1000 = true := by kernel_rfl
  have h1 := Nat.le_of_ble_eq_true h1
  have h2 : (Lib.fields (k_let_if_else_while_match_).data.toList).length = 47 := by kernel_rfl
  rw [if_pos (by rw [h2]; exact ⟨by omega, by kernel_rfl, by decide⟩)]
theorem wordsL_len : wordsL.length = 47 := rfl

theorem ev30 : ∃ ws rows, Ev (fun n => F30 n) rows ∧ WRows ws rows ∧ ∀ t, t ∈ ws ↔ t ∈ wordsL := by
  have main : ∀ i : Nat, i ≤ 47 → ∀ ws rows, WRows ws rows → ∃ ws' rows', Ev (fun n => L30_1 n (wordsL.map D.str) 47 (i : Int) rows) rows' ∧ WRows ws' rows' ∧ ∀ t, t ∈ ws' ↔ t ∈ wordsL.drop i ∨ t ∈ ws := by
    refine down 47 ?_ ?_
    · intro ws rows h
      refine ⟨ws, rows, .succ (.succ (.of fun n => ?_)), h, fun t => ?_⟩
      · rw [L30_1, if_neg (by omega), L30_2, if_neg Bool.false_ne_true]
      · rw [List.drop_eq_nil_of_le (by rw [wordsL_len]; omega)]
        simp
    · intro i hi ih ws rows h
      have hlt : i < wordsL.length := by rw [wordsL_len]; exact hi
      obtain ⟨ws1, rows1, h1, h2, h3⟩ := h.put (s := wordsL[i]) (z := ((i + 1 : Nat) : Int)) (by omega)
      obtain ⟨ws2, rows2, h4, h5, h6⟩ := ih ws1 rows1 h2
      refine ⟨ws2, rows2, .succ (.succ (h4.congr fun n => ?_)), h5, fun t => ?_⟩
      · have hw : (wordsL.map D.str)[i]? = some (.str wordsL[i]) := by simp [hlt]
        rw [L30_1, if_pos (by omega), L30_2, if_pos rfl, getF_nat hw]
        simp only [ds_str, letF, wrap_succ (N := 47) hi (by decide)]
        unfold putF
        rw [h1]
      · rw [h6, h3, List.drop_eq_getElem_cons hlt]
        simp only [List.mem_cons]
        constructor
        · rintro (h | h | h) <;> simp [h]
        · rintro ((h | h) | h) <;> simp [h]
  obtain ⟨ws, rows, h1, h2, h3⟩ := main 0 (by omega) [] [] .nil
  refine ⟨ws, rows, ?_, h2, by simpa using h3⟩
  unfold F30
  refine Ev.bO1 ev50 (h1.congr fun n => ?_)
  unfold lenF
  rfl

theorem ev11 (s : ByteArray) : Ev (fun n => F11 n s) (word s) := by
  obtain ⟨ws, rows, h1, h2, h3⟩ := ev30
  unfold F11
  refine Ev.bO1 h1 (Ev.of fun n => ?_)
  unfold findF
  rcases h2.find (s := s) with ⟨h4, h5⟩ | ⟨z, h4, h5, h6⟩
  · rw [h5]
    have : s ∉ wordsL := fun h => h4 ((h3 s).2 h)
    rw [word_no this]
  · rw [h6]
    have : s ∈ wordsL := (h3 s).1 h4
    rw [word_iff.2 this]
    simp [ds_i64, h5]
theorem ev12 (s : ByteArray) : Ev (fun n => F12 n s) (word s) := by
  have main : ∀ i : Nat, i ≤ 47 → Ev (fun n => L12_1 n s (i : Int)) ((wordsL.drop i).any fun w => decide (bl w = bl s)) := by
    refine down 47 ?_ ?_
    · refine .succ (.succ (.of fun n => ?_))
      rw [L12_1, if_neg (by omega), L12_2, if_neg Bool.false_ne_true, List.drop_eq_nil_of_le (by rw [wordsL_len]; omega)]
      rfl
    · intro i hi ih
      have hlt : i < wordsL.length := by rw [wordsL_len]; exact hi
      have hw : (wordsL.map D.str)[i]? = some (.str wordsL[i]) := by simp [hlt]
      have hw : ([.str k_let, .str k_if, .str k_else, .str k_while, .str k_match, .str k_scope, .str k_spawn, .str k_lock, .str k_as, .str k_chan, .str k_drop, .str k_fn, .str k_struct, .str k_enum, .str k_true, .str k_false, .str k_and, .str k_or, .str k_not, .str k_int, .str k_bool, .str k_unit, .str k_mut, .str k_box, .str k_unbox, .str k_cell, .str k_get, .str k_set, .str k_rc, .str k_arc, .str k_clone, .str k_mutex, .str k_open, .str k_atomic, .str k_load, .str k_store, .str k_fetch, .str k_send, .str k_recv, .str k_Box, .str k_Cell, .str k_Rc, .str k_Arc, .str k_Mutex, .str k_Atomic, .str k_Sender, .str k_Receiver] : List D)[i]? = some (.str wordsL[i]) := hw
      rw [List.drop_eq_getElem_cons hlt, List.any_cons]
      by_cases he : wordsL[i] = s
      · refine .succ (.succ (.succ (.of fun n => ?_)))
        rw [L12_1, if_pos (by omega), L12_2, if_pos rfl, getF_nat hw]
        simp only [ds_str]
        rw [if_pos he, L12_3, if_pos rfl, decide_eq_true (congrArg bl he)]
        rfl
      · rw [decide_eq_false (fun e => he (bl_inj e)), Bool.false_or]
        refine .succ (.succ (.succ (ih.congr fun n => ?_)))
        rw [L12_1, if_pos (by omega), L12_2, if_pos rfl, getF_nat hw]
        simp only [ds_str]
        rw [if_neg he, L12_3, if_neg Bool.false_ne_true]
        simp only [letF, wrap_succ (N := 47) hi (by decide)]
  have := main 0 (by omega)
  unfold F12 word
  exact this
end Go.Proofs.YtjmofeakajdbiaaDoor

set_option linter.unusedVariables false
noncomputable section
namespace Go.Proofs.YtjmofeakajdbiaaDoor
open Go Go.AM
def F32 (n : Nat) (z1 : Int) : Option (Bool) :=
  (if (97 : Int) ≤ z1 then (if z1 ≤ (122 : Int) then some true else some false) else some false)
set_option maxRecDepth 100000 in
set_option maxHeartbeats 40000000 in
theorem T32 (n : Nat) : ∀ ⦃z1 : Int⦄ ⦃r1 : Bool⦄, F32 n z1 = some r1 →
    Trip Tryd.prog inv 32 [.d (.int .u8 z1)] [] (.v (.d (.bool r1))) [] [] := by
  intro z1 r1 h
  unfold F32 at h
  refine Trip.of tab_ok tab_one fol Tryd.func32 rfl (by kernel_rfl) rfl rfl rfl (fun M hM hI => ?_)
  try cbv
  refine seq_go ?_
  try cbv
  refine seq_go ?_
  try cbv
  refine splitLe (fun e => ?_) (fun e => ?_)
  · replace h := ite_t e h
    clear e
    try cbv
    refine splitLe (fun e => ?_) (fun e => ?_)
    · replace h := ite_t e h
      clear e
      try cbv
      obtain rfl := Option.some.inj h
      refine fin_go ?_
      try cbv
      exact ⟨[], rfl, rfl, trivial, trivial, trivial⟩
    · replace h := ite_f (Int.not_le.2 e) h
      clear e
      try cbv
      obtain rfl := Option.some.inj h
      refine fin_go ?_
      try cbv
      exact ⟨[], rfl, rfl, trivial, trivial, trivial⟩
  · replace h := ite_f (Int.not_le.2 e) h
    clear e
    try cbv
    obtain rfl := Option.some.inj h
    refine fin_go ?_
    try cbv
    exact ⟨[], rfl, rfl, trivial, trivial, trivial⟩
end Go.Proofs.YtjmofeakajdbiaaDoor
end

set_option linter.unusedVariables false
noncomputable section
namespace Go.Proofs.YtjmofeakajdbiaaDoor
open Go Go.AM
def F34 (n : Nat) (z1 : Int) : Option (Bool) :=
  (if (65 : Int) ≤ z1 then (if z1 ≤ (90 : Int) then some true else some false) else some false)
set_option maxRecDepth 100000 in
set_option maxHeartbeats 40000000 in
theorem T34 (n : Nat) : ∀ ⦃z1 : Int⦄ ⦃r1 : Bool⦄, F34 n z1 = some r1 →
    Trip Tryd.prog inv 34 [.d (.int .u8 z1)] [] (.v (.d (.bool r1))) [] [] := by
  intro z1 r1 h
  unfold F34 at h
  refine Trip.of tab_ok tab_one fol Tryd.func34 rfl (by kernel_rfl) rfl rfl rfl (fun M hM hI => ?_)
  try cbv
  refine seq_go ?_
  try cbv
  refine seq_go ?_
  try cbv
  refine splitLe (fun e => ?_) (fun e => ?_)
  · replace h := ite_t e h
    clear e
    try cbv
    refine splitLe (fun e => ?_) (fun e => ?_)
    · replace h := ite_t e h
      clear e
      try cbv
      obtain rfl := Option.some.inj h
      refine fin_go ?_
      try cbv
      exact ⟨[], rfl, rfl, trivial, trivial, trivial⟩
    · replace h := ite_f (Int.not_le.2 e) h
      clear e
      try cbv
      obtain rfl := Option.some.inj h
      refine fin_go ?_
      try cbv
      exact ⟨[], rfl, rfl, trivial, trivial, trivial⟩
  · replace h := ite_f (Int.not_le.2 e) h
    clear e
    try cbv
    obtain rfl := Option.some.inj h
    refine fin_go ?_
    try cbv
    exact ⟨[], rfl, rfl, trivial, trivial, trivial⟩
end Go.Proofs.YtjmofeakajdbiaaDoor
end

set_option linter.unusedVariables false
noncomputable section
namespace Go.Proofs.YtjmofeakajdbiaaDoor
open Go Go.AM
def F67 (n : Nat) (z1 : Int) : Option (Bool) :=
  (if (48 : Int) ≤ z1 then (if z1 ≤ (57 : Int) then some true else some false) else some false)
set_option maxRecDepth 100000 in
set_option maxHeartbeats 40000000 in
theorem T67 (n : Nat) : ∀ ⦃z1 : Int⦄ ⦃r1 : Bool⦄, F67 n z1 = some r1 →
    Trip Tryd.prog inv 67 [.d (.int .u8 z1)] [] (.v (.d (.bool r1))) [] [] := by
  intro z1 r1 h
  unfold F67 at h
  refine Trip.of tab_ok tab_one fol Tryd.func67 rfl (by kernel_rfl) rfl rfl rfl (fun M hM hI => ?_)
  try cbv
  refine seq_go ?_
  try cbv
  refine seq_go ?_
  try cbv
  refine splitLe (fun e => ?_) (fun e => ?_)
  · replace h := ite_t e h
    clear e
    try cbv
    refine splitLe (fun e => ?_) (fun e => ?_)
    · replace h := ite_t e h
      clear e
      try cbv
      obtain rfl := Option.some.inj h
      refine fin_go ?_
      try cbv
      exact ⟨[], rfl, rfl, trivial, trivial, trivial⟩
    · replace h := ite_f (Int.not_le.2 e) h
      clear e
      try cbv
      obtain rfl := Option.some.inj h
      refine fin_go ?_
      try cbv
      exact ⟨[], rfl, rfl, trivial, trivial, trivial⟩
  · replace h := ite_f (Int.not_le.2 e) h
    clear e
    try cbv
    obtain rfl := Option.some.inj h
    refine fin_go ?_
    try cbv
    exact ⟨[], rfl, rfl, trivial, trivial, trivial⟩
end Go.Proofs.YtjmofeakajdbiaaDoor
end

set_option linter.unusedVariables false
noncomputable section
namespace Go.Proofs.YtjmofeakajdbiaaDoor
open Go Go.AM
def F52 (n : Nat) (z1 : Int) : Option (Bool) :=
  bO1 (F32 n z1) fun b2 => (if b2 = true then some true else bO1 (F34 n z1) fun b3 => (if b3 = true then some true else bO1 (F67 n z1) fun b4 => (if b4 = true then some true else (if z1 = (95 : Int) then some true else some false))))
set_option maxRecDepth 100000 in
set_option maxHeartbeats 40000000 in
theorem T52 (n : Nat) : ∀ ⦃z1 : Int⦄ ⦃r1 : Bool⦄, F52 n z1 = some r1 →
    Trip Tryd.prog inv 52 [.d (.int .u8 z1)] [] (.v (.d (.bool r1))) [] [] := by
  intro z1 r1 h
  unfold F52 at h
  refine Trip.of tab_ok tab_one fol Tryd.func52 rfl (by kernel_rfl) rfl rfl rfl (fun M hM hI => ?_)
  try cbv
  refine seq_go ?_
  try cbv
  refine seq_go ?_
  try cbv
  replace h := bO1_inv h
  obtain ⟨b2, hr, h⟩ := h
  refine call_go rfl rfl ?_
  try cbv
  refine call_pure hM hI (T32 _ hr) rfl ?_
  clear hr
  try cbv
  cases b2
  · replace h := ite_f Bool.false_ne_true h
    try cbv
    replace h := bO1_inv h
    obtain ⟨b3, hr, h⟩ := h
    refine call_go rfl rfl ?_
    try cbv
    refine call_pure hM hI (T34 _ hr) rfl ?_
    clear hr
    try cbv
    cases b3
    · replace h := ite_f Bool.false_ne_true h
      try cbv
      replace h := bO1_inv h
      obtain ⟨b4, hr, h⟩ := h
      refine call_go rfl rfl ?_
      try cbv
      refine call_pure hM hI (T67 _ hr) rfl ?_
      clear hr
      try cbv
      cases b4
      · replace h := ite_f Bool.false_ne_true h
        try cbv
        refine splitI (fun e => ?_) (fun e => ?_)
        · replace h := ite_t e h
          clear e
          try cbv
          obtain rfl := Option.some.inj h
          refine fin_go ?_
          try cbv
          exact ⟨[], rfl, rfl, trivial, trivial, trivial⟩
        · replace h := ite_f e h
          clear e
          try cbv
          obtain rfl := Option.some.inj h
          refine fin_go ?_
          try cbv
          exact ⟨[], rfl, rfl, trivial, trivial, trivial⟩
      · replace h := ite_t rfl h
        try cbv
        obtain rfl := Option.some.inj h
        refine fin_go ?_
        try cbv
        exact ⟨[], rfl, rfl, trivial, trivial, trivial⟩
    · replace h := ite_t rfl h
      try cbv
      obtain rfl := Option.some.inj h
      refine fin_go ?_
      try cbv
      exact ⟨[], rfl, rfl, trivial, trivial, trivial⟩
  · replace h := ite_t rfl h
    try cbv
    obtain rfl := Option.some.inj h
    refine fin_go ?_
    try cbv
    exact ⟨[], rfl, rfl, trivial, trivial, trivial⟩
end Go.Proofs.YtjmofeakajdbiaaDoor
end

set_option linter.unusedVariables false
noncomputable section
namespace Go.Proofs.YtjmofeakajdbiaaDoor
open Go Go.AM
mutual
def L51_1 : Nat → ByteArray → Int → Option (Int)
  | 0, _, _ => none
  | n + 1, s1, z2 =>
    szF s1 fun z3 => (if z2 < z3 then atF s1 z2 fun z4 => bO1 (F52 n z4) fun b5 => L51_2 n s1 z2 b5 else L51_2 n s1 z2 false)
def L51_2 : Nat → ByteArray → Int → Bool → Option (Int)
  | 0, _, _, _ => none
  | n + 1, s1, z2, b6 =>
    (if b6 = true then letF (IntKind.wrap .i64 (z2 + 1)) fun z7 => L51_1 n s1 z7 else some z2)
end
def F51 (n : Nat) (s1 : ByteArray) : Option (Int) :=
  L51_1 n s1 (0 : Int)
set_option maxRecDepth 100000 in
set_option maxHeartbeats 40000000 in
theorem T51 (n : Nat) : ∀ ⦃s1 : ByteArray⦄ ⦃r1 : Int⦄, F51 n s1 = some r1 →
    Trip Tryd.prog inv 51 [.d (.str s1), .c (.fn 52 [])] [] (.v (.d (.int .i64 r1))) [] [] := by
  intro s1 r1 h
  unfold F51 at h
  refine Trip.of tab_ok tab_one fol Tryd.func51 rfl (by kernel_rfl) rfl rfl rfl (fun M hM hI => ?_)
  try cbv
  refine seq_go ?_
  try cbv
  refine seq_go ?_
  try cbv
  refine seq_go ?_
  try cbv
  refine loop_inv (T := Nat × Int) [0, 1, 4, 5] [] 64 (fun t => ⟨[(0, .v (.d (.str s1))), (1, .v (.c (.fn 52 []))), (4, .v (.d (.int .i64 0))), (5, .v (.d (.int .i64 t.2)))], [], 64⟩)
    (fun t => t.1 ≤ n ∧ L51_1 t.1 s1 t.2 = some r1) (fun t => t.1) (n, (0 : Int)) ⟨Nat.le_refl _, h⟩ (by cbv) ?_
  clear h
  rintro ⟨m1, z2⟩ ⟨hm1, h⟩
  replace hm1 : m1 ≤ n := hm1
  cases m1 with
  | zero =>
    replace h : L51_1 0 s1 z2 = some r1 := h
    rw [L51_1] at h
    cases h
  | succ m1 =>
    replace h : L51_1 (m1 + 1) s1 z2 = some r1 := h
    rw [L51_1] at h
    try cbv
    refine seq_go ?_
    try cbv
    refine seq_join (T := Nat × Bool) (fun t => ⟨[(0, .v (.d (.str s1))), (1, .v (.c (.fn 52 []))), (4, .v (.d (.int .i64 0))), (5, .v (.d (.int .i64 z2))), (16, .v (.d (.bool t.2)))], [], 416⟩) (fun t => t.1 ≤ m1 ∧ L51_2 t.1 s1 z2 t.2 = some r1) ?_ ?_
    · try cbv
      replace h := szF_inv M h
      obtain ⟨z3, hz, h⟩ := h
      refine ⟨z3, hz, ?_⟩
      clear hz
      try cbv
      refine splitL (fun e => ?_) (fun e => ?_)
      · replace h := ite_t e h
        clear e
        try cbv
        replace h := atF_inv h
        obtain ⟨z4, hz, h⟩ := h
        refine ⟨z4, hz, ?_⟩
        clear hz
        try cbv
        replace h := bO1_inv h
        obtain ⟨b5, hr, h⟩ := h
        refine call_go rfl rfl ?_
        try cbv
        refine call_pure hM hI (T52 _ hr) rfl ?_
        clear hr
        try cbv
        exact join_next (m1, b5) [0, 1, 4, 5, 16] [] 416 ⟨by omega, h⟩ (by cbv)
      · replace h := ite_f (Int.not_lt.2 e) h
        clear e
        try cbv
        exact join_next (m1, false) [0, 1, 4, 5, 16] [] 416 ⟨by omega, h⟩ (by cbv)
    · clear h
      rintro ⟨m2, b6⟩ ⟨hm2, h⟩
      replace hm2 : m2 ≤ m1 := hm2
      cases m2 with
      | zero =>
        replace h : L51_2 0 s1 z2 b6 = some r1 := h
        rw [L51_2] at h
        cases h
      | succ m2 =>
        replace h : L51_2 (m2 + 1) s1 z2 b6 = some r1 := h
        rw [L51_2] at h
        try cbv
        cases b6
        · replace h := ite_f Bool.false_ne_true h
          try cbv
          refine seq_go ?_
          try cbv
          obtain rfl := Option.some.inj h
          refine fin_go ?_
          try cbv
          exact ⟨[], rfl, rfl, trivial, trivial, trivial⟩
        · replace h := ite_t rfl h
          try cbv
          replace h := letF_inv h
          obtain ⟨z7, hz, h⟩ := h
          refine ⟨z7, hz, ?_⟩
          clear hz
          try cbv
          exact loop_next (m2, z7) [0, 1, 4, 5] [] 64 ⟨by omega, h⟩ (Nat.lt_succ_of_le (by omega)) (by cbv)
end Go.Proofs.YtjmofeakajdbiaaDoor
end

set_option linter.unusedVariables false
noncomputable section
namespace Go.Proofs.YtjmofeakajdbiaaDoor
open Go Go.AM
def F31 (n : Nat) (s1 : ByteArray) : Option (Bool) :=
  (if s1 = ByteArray.empty then some false else szF s1 fun z2 => (if z2 ≤ (16 : Int) then atF s1 (0 : Int) fun z3 => bO1 (F32 n z3) fun b4 => (if b4 = true then bO1 (F51 n s1) fun z5 => szF s1 fun z6 => (if z5 = z6 then bO1 (F11 n s1) fun b7 => letB (!b7) fun b8 => some b8 else some false) else some false) else some false))
set_option maxRecDepth 100000 in
set_option maxHeartbeats 40000000 in
theorem T31 (n : Nat) : ∀ ⦃s1 : ByteArray⦄ ⦃r1 : Bool⦄, F31 n s1 = some r1 →
    Trip Tryd.prog inv 31 [.d (.str s1), .c (.fn 32 [])] [] (.v (.d (.bool r1))) [] [] := by
  intro s1 r1 h
  unfold F31 at h
  refine Trip.of tab_ok tab_one fol Tryd.func31 rfl (by kernel_rfl) rfl rfl rfl (fun M hM hI => ?_)
  try cbv
  refine seq_go ?_
  try cbv
  refine seq_go ?_
  try cbv
  refine splitS (fun e => ?_) (fun e => ?_)
  · replace h := ite_t (bytes_eq.1 e) h
    clear e
    try cbv
    obtain rfl := Option.some.inj h
    refine fin_go ?_
    try cbv
    exact ⟨[], rfl, rfl, trivial, trivial, trivial⟩
  · replace h := ite_f (bytes_ne.1 e) h
    clear e
    try cbv
    replace h := szF_inv M h
    obtain ⟨z2, hz, h⟩ := h
    refine ⟨z2, hz, ?_⟩
    clear hz
    try cbv
    refine splitLe (fun e => ?_) (fun e => ?_)
    · replace h := ite_t e h
      clear e
      try cbv
      replace h := atF_inv h
      obtain ⟨z3, hz, h⟩ := h
      refine ⟨z3, hz, ?_⟩
      clear hz
      try cbv
      replace h := bO1_inv h
      obtain ⟨b4, hr, h⟩ := h
      refine call_go rfl rfl ?_
      try cbv
      refine call_pure hM hI (T32 _ hr) rfl ?_
      clear hr
      try cbv
      cases b4
      · replace h := ite_f Bool.false_ne_true h
        try cbv
        obtain rfl := Option.some.inj h
        refine fin_go ?_
        try cbv
        exact ⟨[], rfl, rfl, trivial, trivial, trivial⟩
      · replace h := ite_t rfl h
        try cbv
        replace h := bO1_inv h
        obtain ⟨z5, hr, h⟩ := h
        refine call_go rfl rfl ?_
        try cbv
        refine call_pure hM hI (T51 _ hr) rfl ?_
        clear hr
        try cbv
        replace h := szF_inv M h
        obtain ⟨z6, hz, h⟩ := h
        refine ⟨z6, hz, ?_⟩
        clear hz
        try cbv
        refine splitI (fun e => ?_) (fun e => ?_)
        · replace h := ite_t e h
          clear e
          try cbv
          replace h := bO1_inv h
          obtain ⟨b7, hr, h⟩ := h
          refine call_go rfl rfl ?_
          try cbv
          refine call_pure hM hI (T11 _ hr) rfl ?_
          clear hr
          try cbv
          replace h := letB_inv h
          obtain ⟨b8, hz, h⟩ := h
          refine ⟨b8, not_eq' hz, ?_⟩
          clear hz
          try cbv
          obtain rfl := Option.some.inj h
          refine fin_go ?_
          try cbv
          exact ⟨[], rfl, rfl, trivial, trivial, trivial⟩
        · replace h := ite_f e h
          clear e
          try cbv
          obtain rfl := Option.some.inj h
          refine fin_go ?_
          try cbv
          exact ⟨[], rfl, rfl, trivial, trivial, trivial⟩
    · replace h := ite_f (Int.not_le.2 e) h
      clear e
      try cbv
      obtain rfl := Option.some.inj h
      refine fin_go ?_
      try cbv
      exact ⟨[], rfl, rfl, trivial, trivial, trivial⟩
end Go.Proofs.YtjmofeakajdbiaaDoor
end

set_option linter.unusedVariables false
noncomputable section
namespace Go.Proofs.YtjmofeakajdbiaaDoor
open Go Go.AM
def F13 (n : Nat) (s1 : ByteArray) : Option (Bool) :=
  bO1 (F31 n s1) fun b2 => some b2
set_option maxRecDepth 100000 in
set_option maxHeartbeats 40000000 in
theorem T13 (n : Nat) : ∀ ⦃s1 : ByteArray⦄ ⦃r1 : Bool⦄, F13 n s1 = some r1 →
    Trip Tryd.prog inv 13 [.d (.str s1)] [] (.v (.d (.bool r1))) [] [] := by
  intro s1 r1 h
  unfold F13 at h
  refine Trip.of tab_ok tab_one fol Tryd.func13 rfl (by kernel_rfl) rfl rfl rfl (fun M hM hI => ?_)
  try cbv
  refine seq_go ?_
  try cbv
  refine seq_go ?_
  try cbv
  replace h := bO1_inv h
  obtain ⟨b2, hr, h⟩ := h
  refine call_go rfl rfl ?_
  try cbv
  refine call_pure hM hI (T31 _ hr) rfl ?_
  clear hr
  try cbv
  obtain rfl := Option.some.inj h
  refine fin_go ?_
  try cbv
  exact ⟨[], rfl, rfl, trivial, trivial, trivial⟩
end Go.Proofs.YtjmofeakajdbiaaDoor
end

set_option linter.unusedVariables false
noncomputable section
namespace Go.Proofs.YtjmofeakajdbiaaDoor
open Go Go.AM
def F53 (n : Nat) (z1 : Int) : Option (Bool) :=
  (if (97 : Int) ≤ z1 then (if z1 ≤ (122 : Int) then some true else (if (65 : Int) ≤ z1 then (if z1 ≤ (90 : Int) then some true else (if (48 : Int) ≤ z1 then (if z1 ≤ (57 : Int) then some true else (if z1 = (95 : Int) then some true else some false)) else (if z1 = (95 : Int) then some true else some false))) else (if (48 : Int) ≤ z1 then (if z1 ≤ (57 : Int) then some true else (if z1 = (95 : Int) then some true else some false)) else (if z1 = (95 : Int) then some true else some false)))) else (if (65 : Int) ≤ z1 then (if z1 ≤ (90 : Int) then some true else (if (48 : Int) ≤ z1 then (if z1 ≤ (57 : Int) then some true else (if z1 = (95 : Int) then some true else some false)) else (if z1 = (95 : Int) then some true else some false))) else (if (48 : Int) ≤ z1 then (if z1 ≤ (57 : Int) then some true else (if z1 = (95 : Int) then some true else some false)) else (if z1 = (95 : Int) then some true else some false))))
set_option maxRecDepth 100000 in
set_option maxHeartbeats 40000000 in
theorem T53 (n : Nat) : ∀ ⦃z1 : Int⦄ ⦃r1 : Bool⦄, F53 n z1 = some r1 →
    Trip Tryd.prog inv 53 [.d (.int .u8 z1)] [] (.v (.d (.bool r1))) [] [] := by
  intro z1 r1 h
  unfold F53 at h
  refine Trip.of tab_ok tab_one fol Tryd.func53 rfl (by kernel_rfl) rfl rfl rfl (fun M hM hI => ?_)
  try cbv
  refine seq_go ?_
  try cbv
  refine seq_go ?_
  try cbv
  refine splitLe (fun e => ?_) (fun e => ?_)
  · replace h := ite_t e h
    clear e
    try cbv
    refine splitLe (fun e => ?_) (fun e => ?_)
    · replace h := ite_t e h
      clear e
      try cbv
      obtain rfl := Option.some.inj h
      refine fin_go ?_
      try cbv
      exact ⟨[], rfl, rfl, trivial, trivial, trivial⟩
    · replace h := ite_f (Int.not_le.2 e) h
      clear e
      try cbv
      refine splitLe (fun e => ?_) (fun e => ?_)
      · replace h := ite_t e h
        clear e
        try cbv
        refine splitLe (fun e => ?_) (fun e => ?_)
        · replace h := ite_t e h
          clear e
          try cbv
          obtain rfl := Option.some.inj h
          refine fin_go ?_
          try cbv
          exact ⟨[], rfl, rfl, trivial, trivial, trivial⟩
        · replace h := ite_f (Int.not_le.2 e) h
          clear e
          try cbv
          refine splitLe (fun e => ?_) (fun e => ?_)
          · replace h := ite_t e h
            clear e
            try cbv
            refine splitLe (fun e => ?_) (fun e => ?_)
            · replace h := ite_t e h
              clear e
              try cbv
              obtain rfl := Option.some.inj h
              refine fin_go ?_
              try cbv
              exact ⟨[], rfl, rfl, trivial, trivial, trivial⟩
            · replace h := ite_f (Int.not_le.2 e) h
              clear e
              try cbv
              refine splitI (fun e => ?_) (fun e => ?_)
              · replace h := ite_t e h
                clear e
                try cbv
                obtain rfl := Option.some.inj h
                refine fin_go ?_
                try cbv
                exact ⟨[], rfl, rfl, trivial, trivial, trivial⟩
              · replace h := ite_f e h
                clear e
                try cbv
                obtain rfl := Option.some.inj h
                refine fin_go ?_
                try cbv
                exact ⟨[], rfl, rfl, trivial, trivial, trivial⟩
          · replace h := ite_f (Int.not_le.2 e) h
            clear e
            try cbv
            refine splitI (fun e => ?_) (fun e => ?_)
            · replace h := ite_t e h
              clear e
              try cbv
              obtain rfl := Option.some.inj h
              refine fin_go ?_
              try cbv
              exact ⟨[], rfl, rfl, trivial, trivial, trivial⟩
            · replace h := ite_f e h
              clear e
              try cbv
              obtain rfl := Option.some.inj h
              refine fin_go ?_
              try cbv
              exact ⟨[], rfl, rfl, trivial, trivial, trivial⟩
      · replace h := ite_f (Int.not_le.2 e) h
        clear e
        try cbv
        refine splitLe (fun e => ?_) (fun e => ?_)
        · replace h := ite_t e h
          clear e
          try cbv
          refine splitLe (fun e => ?_) (fun e => ?_)
          · replace h := ite_t e h
            clear e
            try cbv
            obtain rfl := Option.some.inj h
            refine fin_go ?_
            try cbv
            exact ⟨[], rfl, rfl, trivial, trivial, trivial⟩
          · replace h := ite_f (Int.not_le.2 e) h
            clear e
            try cbv
            refine splitI (fun e => ?_) (fun e => ?_)
            · replace h := ite_t e h
              clear e
              try cbv
              obtain rfl := Option.some.inj h
              refine fin_go ?_
              try cbv
              exact ⟨[], rfl, rfl, trivial, trivial, trivial⟩
            · replace h := ite_f e h
              clear e
              try cbv
              obtain rfl := Option.some.inj h
              refine fin_go ?_
              try cbv
              exact ⟨[], rfl, rfl, trivial, trivial, trivial⟩
        · replace h := ite_f (Int.not_le.2 e) h
          clear e
          try cbv
          refine splitI (fun e => ?_) (fun e => ?_)
          · replace h := ite_t e h
            clear e
            try cbv
            obtain rfl := Option.some.inj h
            refine fin_go ?_
            try cbv
            exact ⟨[], rfl, rfl, trivial, trivial, trivial⟩
          · replace h := ite_f e h
            clear e
            try cbv
            obtain rfl := Option.some.inj h
            refine fin_go ?_
            try cbv
            exact ⟨[], rfl, rfl, trivial, trivial, trivial⟩
  · replace h := ite_f (Int.not_le.2 e) h
    clear e
    try cbv
    refine splitLe (fun e => ?_) (fun e => ?_)
    · replace h := ite_t e h
      clear e
      try cbv
      refine splitLe (fun e => ?_) (fun e => ?_)
      · replace h := ite_t e h
        clear e
        try cbv
        obtain rfl := Option.some.inj h
        refine fin_go ?_
        try cbv
        exact ⟨[], rfl, rfl, trivial, trivial, trivial⟩
      · replace h := ite_f (Int.not_le.2 e) h
        clear e
        try cbv
        refine splitLe (fun e => ?_) (fun e => ?_)
        · replace h := ite_t e h
          clear e
          try cbv
          refine splitLe (fun e => ?_) (fun e => ?_)
          · replace h := ite_t e h
            clear e
            try cbv
            obtain rfl := Option.some.inj h
            refine fin_go ?_
            try cbv
            exact ⟨[], rfl, rfl, trivial, trivial, trivial⟩
          · replace h := ite_f (Int.not_le.2 e) h
            clear e
            try cbv
            refine splitI (fun e => ?_) (fun e => ?_)
            · replace h := ite_t e h
              clear e
              try cbv
              obtain rfl := Option.some.inj h
              refine fin_go ?_
              try cbv
              exact ⟨[], rfl, rfl, trivial, trivial, trivial⟩
            · replace h := ite_f e h
              clear e
              try cbv
              obtain rfl := Option.some.inj h
              refine fin_go ?_
              try cbv
              exact ⟨[], rfl, rfl, trivial, trivial, trivial⟩
        · replace h := ite_f (Int.not_le.2 e) h
          clear e
          try cbv
          refine splitI (fun e => ?_) (fun e => ?_)
          · replace h := ite_t e h
            clear e
            try cbv
            obtain rfl := Option.some.inj h
            refine fin_go ?_
            try cbv
            exact ⟨[], rfl, rfl, trivial, trivial, trivial⟩
          · replace h := ite_f e h
            clear e
            try cbv
            obtain rfl := Option.some.inj h
            refine fin_go ?_
            try cbv
            exact ⟨[], rfl, rfl, trivial, trivial, trivial⟩
    · replace h := ite_f (Int.not_le.2 e) h
      clear e
      try cbv
      refine splitLe (fun e => ?_) (fun e => ?_)
      · replace h := ite_t e h
        clear e
        try cbv
        refine splitLe (fun e => ?_) (fun e => ?_)
        · replace h := ite_t e h
          clear e
          try cbv
          obtain rfl := Option.some.inj h
          refine fin_go ?_
          try cbv
          exact ⟨[], rfl, rfl, trivial, trivial, trivial⟩
        · replace h := ite_f (Int.not_le.2 e) h
          clear e
          try cbv
          refine splitI (fun e => ?_) (fun e => ?_)
          · replace h := ite_t e h
            clear e
            try cbv
            obtain rfl := Option.some.inj h
            refine fin_go ?_
            try cbv
            exact ⟨[], rfl, rfl, trivial, trivial, trivial⟩
          · replace h := ite_f e h
            clear e
            try cbv
            obtain rfl := Option.some.inj h
            refine fin_go ?_
            try cbv
            exact ⟨[], rfl, rfl, trivial, trivial, trivial⟩
      · replace h := ite_f (Int.not_le.2 e) h
        clear e
        try cbv
        refine splitI (fun e => ?_) (fun e => ?_)
        · replace h := ite_t e h
          clear e
          try cbv
          obtain rfl := Option.some.inj h
          refine fin_go ?_
          try cbv
          exact ⟨[], rfl, rfl, trivial, trivial, trivial⟩
        · replace h := ite_f e h
          clear e
          try cbv
          obtain rfl := Option.some.inj h
          refine fin_go ?_
          try cbv
          exact ⟨[], rfl, rfl, trivial, trivial, trivial⟩
end Go.Proofs.YtjmofeakajdbiaaDoor
end

set_option linter.unusedVariables false
noncomputable section
namespace Go.Proofs.YtjmofeakajdbiaaDoor
open Go Go.AM
mutual
def L33_2 : Nat → ByteArray → Int → Option (Bool)
  | 0, _, _ => none
  | n + 1, s1, z9 =>
    szF s1 fun z10 => (if z9 < z10 then L33_3 n s1 z9 true else L33_3 n s1 z9 false)
def L33_3 : Nat → ByteArray → Int → Bool → Option (Bool)
  | 0, _, _, _ => none
  | n + 1, s1, z9, b11 =>
    (if b11 = true then atF s1 z9 fun z12 => bO1 (F53 n z12) fun b13 => letB (!b13) fun b14 => (if b14 = true then some false else letF (IntKind.wrap .i64 (z9 + 1)) fun z15 => L33_2 n s1 z15) else some true)
end
def L33_1 : Nat → ByteArray → Bool → Option (Bool)
  | 0, _, _ => none
  | n + 1, s1, b8 =>
    (if b8 = true then some false else L33_2 n s1 (0 : Int))
def F33 (n : Nat) (s1 : ByteArray) (z2 : Int) (z3 : Int) : Option (Bool) :=
  (if s1 = ByteArray.empty then L33_1 n s1 true else szF s1 fun z4 => (if (16 : Int) < z4 then L33_1 n s1 true else atF s1 (0 : Int) fun z5 => (if z5 < z2 then L33_1 n s1 true else atF s1 (0 : Int) fun z6 => (if z3 < z6 then L33_1 n s1 true else bO1 (F12 n s1) fun b7 => L33_1 n s1 b7))))
set_option maxRecDepth 100000 in
set_option maxHeartbeats 40000000 in
theorem T33 (n : Nat) : ∀ ⦃s1 : ByteArray⦄ ⦃z2 : Int⦄ ⦃z3 : Int⦄ ⦃r1 : Bool⦄, F33 n s1 z2 z3 = some r1 →
    Trip Tryd.prog inv 33 [.d (.str s1), .d (.int .u8 z2), .d (.int .u8 z3)] [] (.v (.d (.bool r1))) [] [] := by
  intro s1 z2 z3 r1 h
  unfold F33 at h
  refine Trip.of tab_ok tab_one fol Tryd.func33 rfl (by kernel_rfl) rfl rfl rfl (fun M hM hI => ?_)
  try cbv
  refine seq_go ?_
  try cbv
  refine seq_go ?_
  try cbv
  refine seq_join (T := Nat × Bool) (fun t => ⟨[(0, .v (.d (.str s1))), (6, .v (.d (.bool false))), (30, .v (.d (.bool t.2)))], [], 768⟩) (fun t => t.1 ≤ n ∧ L33_1 t.1 s1 t.2 = some r1) ?_ ?_
  · try cbv
    refine splitS (fun e => ?_) (fun e => ?_)
    · replace h := ite_t (bytes_eq.1 e) h
      clear e
      try cbv
      exact join_next (n, true) [0, 6, 30] [] 768 ⟨by omega, h⟩ (by cbv)
    · replace h := ite_f (bytes_ne.1 e) h
      clear e
      try cbv
      replace h := szF_inv M h
      obtain ⟨z4, hz, h⟩ := h
      refine ⟨z4, hz, ?_⟩
      clear hz
      try cbv
      refine splitL (fun e => ?_) (fun e => ?_)
      · replace h := ite_t e h
        clear e
        try cbv
        exact join_next (n, true) [0, 6, 30] [] 768 ⟨by omega, h⟩ (by cbv)
      · replace h := ite_f (Int.not_lt.2 e) h
        clear e
        try cbv
        replace h := atF_inv h
        obtain ⟨z5, hz, h⟩ := h
        refine ⟨z5, hz, ?_⟩
        clear hz
        try cbv
        refine splitL (fun e => ?_) (fun e => ?_)
        · replace h := ite_t e h
          clear e
          try cbv
          exact join_next (n, true) [0, 6, 30] [] 768 ⟨by omega, h⟩ (by cbv)
        · replace h := ite_f (Int.not_lt.2 e) h
          clear e
          try cbv
          replace h := atF_inv h
          obtain ⟨z6, hz, h⟩ := h
          refine ⟨z6, hz, ?_⟩
          clear hz
          try cbv
          refine splitL (fun e => ?_) (fun e => ?_)
          · replace h := ite_t e h
            clear e
            try cbv
            exact join_next (n, true) [0, 6, 30] [] 768 ⟨by omega, h⟩ (by cbv)
          · replace h := ite_f (Int.not_lt.2 e) h
            clear e
            try cbv
            replace h := bO1_inv h
            obtain ⟨b7, hr, h⟩ := h
            refine call_go rfl rfl ?_
            try cbv
            refine call_pure hM hI (T12 _ hr) rfl ?_
            clear hr
            try cbv
            exact join_next (n, b7) [0, 6, 30] [] 768 ⟨by omega, h⟩ (by cbv)
  · clear h
    rintro ⟨m1, b8⟩ ⟨hm1, h⟩
    replace hm1 : m1 ≤ n := hm1
    cases m1 with
    | zero =>
      replace h : L33_1 0 s1 b8 = some r1 := h
      rw [L33_1] at h
      cases h
    | succ m1 =>
      replace h : L33_1 (m1 + 1) s1 b8 = some r1 := h
      rw [L33_1] at h
      try cbv
      cases b8
      · replace h := ite_f Bool.false_ne_true h
        try cbv
        refine seq_go ?_
        try cbv
        refine seq_go ?_
        try cbv
        refine loop_inv (T := Nat × Int) [0, 6, 7] [] 800 (fun t => ⟨[(0, .v (.d (.str s1))), (6, .v (.d (.bool false))), (7, .v (.d (.int .i64 t.2)))], [], 800⟩)
          (fun t => t.1 ≤ m1 ∧ L33_2 t.1 s1 t.2 = some r1) (fun t => t.1) (m1, (0 : Int)) ⟨Nat.le_refl _, h⟩ (by cbv) ?_
        clear h
        rintro ⟨m2, z9⟩ ⟨hm2, h⟩
        replace hm2 : m2 ≤ m1 := hm2
        cases m2 with
        | zero =>
          replace h : L33_2 0 s1 z9 = some r1 := h
          rw [L33_2] at h
          cases h
        | succ m2 =>
          replace h : L33_2 (m2 + 1) s1 z9 = some r1 := h
          rw [L33_2] at h
          try cbv
          refine seq_go ?_
          try cbv
          refine seq_join (T := Nat × Bool) (fun t => ⟨[(0, .v (.d (.str s1))), (6, .v (.d (.bool false))), (7, .v (.d (.int .i64 z9))), (34, .v (.d (.bool t.2)))], [], 928⟩) (fun t => t.1 ≤ m2 ∧ L33_3 t.1 s1 z9 t.2 = some r1) ?_ ?_
          · try cbv
            replace h := szF_inv M h
            obtain ⟨z10, hz, h⟩ := h
            refine ⟨z10, hz, ?_⟩
            clear hz
            try cbv
            refine splitL (fun e => ?_) (fun e => ?_)
            · replace h := ite_t e h
              clear e
              try cbv
              exact join_next (m2, true) [0, 6, 7, 34] [] 928 ⟨by omega, h⟩ (by cbv)
            · replace h := ite_f (Int.not_lt.2 e) h
              clear e
              try cbv
              exact join_next (m2, false) [0, 6, 7, 34] [] 928 ⟨by omega, h⟩ (by cbv)
          · clear h
            rintro ⟨m3, b11⟩ ⟨hm3, h⟩
            replace hm3 : m3 ≤ m2 := hm3
            cases m3 with
            | zero =>
              replace h : L33_3 0 s1 z9 b11 = some r1 := h
              rw [L33_3] at h
              cases h
            | succ m3 =>
              replace h : L33_3 (m3 + 1) s1 z9 b11 = some r1 := h
              rw [L33_3] at h
              try cbv
              cases b11
              · replace h := ite_f Bool.false_ne_true h
                try cbv
                refine seq_go ?_
                try cbv
                obtain rfl := Option.some.inj h
                refine fin_go ?_
                try cbv
                exact ⟨[], rfl, rfl, trivial, trivial, trivial⟩
              · replace h := ite_t rfl h
                try cbv
                refine seq_go ?_
                try cbv
                refine seq_go ?_
                try cbv
                replace h := atF_inv h
                obtain ⟨z12, hz, h⟩ := h
                refine ⟨z12, hz, ?_⟩
                clear hz
                try cbv
                replace h := bO1_inv h
                obtain ⟨b13, hr, h⟩ := h
                refine call_go rfl rfl ?_
                try cbv
                refine call_pure hM hI (T53 _ hr) rfl ?_
                clear hr
                try cbv
                replace h := letB_inv h
                obtain ⟨b14, hz, h⟩ := h
                refine ⟨b14, not_eq' hz, ?_⟩
                clear hz
                try cbv
                cases b14
                · replace h := ite_f Bool.false_ne_true h
                  try cbv
                  replace h := letF_inv h
                  obtain ⟨z15, hz, h⟩ := h
                  refine ⟨z15, hz, ?_⟩
                  clear hz
                  try cbv
                  exact loop_next (m3, z15) [0, 6, 7] [] 800 ⟨by omega, h⟩ (Nat.lt_succ_of_le (by omega)) (by cbv)
                · replace h := ite_t rfl h
                  try cbv
                  refine seq_go ?_
                  try cbv
                  obtain rfl := Option.some.inj h
                  refine fin_go ?_
                  try cbv
                  exact ⟨[], rfl, rfl, trivial, trivial, trivial⟩
      · replace h := ite_t rfl h
        try cbv
        refine seq_go ?_
        try cbv
        obtain rfl := Option.some.inj h
        refine fin_go ?_
        try cbv
        exact ⟨[], rfl, rfl, trivial, trivial, trivial⟩
end Go.Proofs.YtjmofeakajdbiaaDoor
end

set_option linter.unusedVariables false
noncomputable section
namespace Go.Proofs.YtjmofeakajdbiaaDoor
open Go Go.AM
def F14 (n : Nat) (s1 : ByteArray) : Option (Bool) :=
  bO1 (F33 n s1 (97 : Int) (122 : Int)) fun b2 => some b2
set_option maxRecDepth 100000 in
set_option maxHeartbeats 40000000 in
theorem T14 (n : Nat) : ∀ ⦃s1 : ByteArray⦄ ⦃r1 : Bool⦄, F14 n s1 = some r1 →
    Trip Tryd.prog inv 14 [.d (.str s1)] [] (.v (.d (.bool r1))) [] [] := by
  intro s1 r1 h
  unfold F14 at h
  refine Trip.of tab_ok tab_one fol Tryd.func14 rfl (by kernel_rfl) rfl rfl rfl (fun M hM hI => ?_)
  try cbv
  refine seq_go ?_
  try cbv
  refine seq_go ?_
  try cbv
  replace h := bO1_inv h
  obtain ⟨b2, hr, h⟩ := h
  refine call_go rfl rfl ?_
  try cbv
  refine call_pure hM hI (T33 _ hr) rfl ?_
  clear hr
  try cbv
  obtain rfl := Option.some.inj h
  refine fin_go ?_
  try cbv
  exact ⟨[], rfl, rfl, trivial, trivial, trivial⟩
end Go.Proofs.YtjmofeakajdbiaaDoor
end

set_option linter.unusedVariables false
noncomputable section
namespace Go.Proofs.YtjmofeakajdbiaaDoor
open Go Go.AM
def F31x1 (n : Nat) (s1 : ByteArray) : Option (Bool) :=
  (if s1 = ByteArray.empty then some false else szF s1 fun z2 => (if z2 ≤ (16 : Int) then atF s1 (0 : Int) fun z3 => bO1 (F34 n z3) fun b4 => (if b4 = true then bO1 (F51 n s1) fun z5 => szF s1 fun z6 => (if z5 = z6 then bO1 (F11 n s1) fun b7 => letB (!b7) fun b8 => some b8 else some false) else some false) else some false))
set_option maxRecDepth 100000 in
set_option maxHeartbeats 40000000 in
theorem T31x1 (n : Nat) : ∀ ⦃s1 : ByteArray⦄ ⦃r1 : Bool⦄, F31x1 n s1 = some r1 →
    Trip Tryd.prog inv 31 [.d (.str s1), .c (.fn 34 [])] [] (.v (.d (.bool r1))) [] [] := by
  intro s1 r1 h
  unfold F31x1 at h
  refine Trip.of tab_ok tab_one fol Tryd.func31 rfl (by kernel_rfl) rfl rfl rfl (fun M hM hI => ?_)
  try cbv
  refine seq_go ?_
  try cbv
  refine seq_go ?_
  try cbv
  refine splitS (fun e => ?_) (fun e => ?_)
  · replace h := ite_t (bytes_eq.1 e) h
    clear e
    try cbv
    obtain rfl := Option.some.inj h
    refine fin_go ?_
    try cbv
    exact ⟨[], rfl, rfl, trivial, trivial, trivial⟩
  · replace h := ite_f (bytes_ne.1 e) h
    clear e
    try cbv
    replace h := szF_inv M h
    obtain ⟨z2, hz, h⟩ := h
    refine ⟨z2, hz, ?_⟩
    clear hz
    try cbv
    refine splitLe (fun e => ?_) (fun e => ?_)
    · replace h := ite_t e h
      clear e
      try cbv
      replace h := atF_inv h
      obtain ⟨z3, hz, h⟩ := h
      refine ⟨z3, hz, ?_⟩
      clear hz
      try cbv
      replace h := bO1_inv h
      obtain ⟨b4, hr, h⟩ := h
      refine call_go rfl rfl ?_
      try cbv
      refine call_pure hM hI (T34 _ hr) rfl ?_
      clear hr
      try cbv
      cases b4
      · replace h := ite_f Bool.false_ne_true h
        try cbv
        obtain rfl := Option.some.inj h
        refine fin_go ?_
        try cbv
        exact ⟨[], rfl, rfl, trivial, trivial, trivial⟩
      · replace h := ite_t rfl h
        try cbv
        replace h := bO1_inv h
        obtain ⟨z5, hr, h⟩ := h
        refine call_go rfl rfl ?_
        try cbv
        refine call_pure hM hI (T51 _ hr) rfl ?_
        clear hr
        try cbv
        replace h := szF_inv M h
        obtain ⟨z6, hz, h⟩ := h
        refine ⟨z6, hz, ?_⟩
        clear hz
        try cbv
        refine splitI (fun e => ?_) (fun e => ?_)
        · replace h := ite_t e h
          clear e
          try cbv
          replace h := bO1_inv h
          obtain ⟨b7, hr, h⟩ := h
          refine call_go rfl rfl ?_
          try cbv
          refine call_pure hM hI (T11 _ hr) rfl ?_
          clear hr
          try cbv
          replace h := letB_inv h
          obtain ⟨b8, hz, h⟩ := h
          refine ⟨b8, not_eq' hz, ?_⟩
          clear hz
          try cbv
          obtain rfl := Option.some.inj h
          refine fin_go ?_
          try cbv
          exact ⟨[], rfl, rfl, trivial, trivial, trivial⟩
        · replace h := ite_f e h
          clear e
          try cbv
          obtain rfl := Option.some.inj h
          refine fin_go ?_
          try cbv
          exact ⟨[], rfl, rfl, trivial, trivial, trivial⟩
    · replace h := ite_f (Int.not_le.2 e) h
      clear e
      try cbv
      obtain rfl := Option.some.inj h
      refine fin_go ?_
      try cbv
      exact ⟨[], rfl, rfl, trivial, trivial, trivial⟩
end Go.Proofs.YtjmofeakajdbiaaDoor
end

set_option linter.unusedVariables false
noncomputable section
namespace Go.Proofs.YtjmofeakajdbiaaDoor
open Go Go.AM
def F15 (n : Nat) (s1 : ByteArray) : Option (Bool) :=
  bO1 (F31x1 n s1) fun b2 => some b2
set_option maxRecDepth 100000 in
set_option maxHeartbeats 40000000 in
theorem T15 (n : Nat) : ∀ ⦃s1 : ByteArray⦄ ⦃r1 : Bool⦄, F15 n s1 = some r1 →
    Trip Tryd.prog inv 15 [.d (.str s1)] [] (.v (.d (.bool r1))) [] [] := by
  intro s1 r1 h
  unfold F15 at h
  refine Trip.of tab_ok tab_one fol Tryd.func15 rfl (by kernel_rfl) rfl rfl rfl (fun M hM hI => ?_)
  try cbv
  refine seq_go ?_
  try cbv
  refine seq_go ?_
  try cbv
  replace h := bO1_inv h
  obtain ⟨b2, hr, h⟩ := h
  refine call_go rfl rfl ?_
  try cbv
  refine call_pure hM hI (T31x1 _ hr) rfl ?_
  clear hr
  try cbv
  obtain rfl := Option.some.inj h
  refine fin_go ?_
  try cbv
  exact ⟨[], rfl, rfl, trivial, trivial, trivial⟩
end Go.Proofs.YtjmofeakajdbiaaDoor
end

set_option linter.unusedVariables false
noncomputable section
namespace Go.Proofs.YtjmofeakajdbiaaDoor
open Go Go.AM
def F16 (n : Nat) (s1 : ByteArray) : Option (Bool) :=
  bO1 (F33 n s1 (65 : Int) (90 : Int)) fun b2 => some b2
set_option maxRecDepth 100000 in
set_option maxHeartbeats 40000000 in
theorem T16 (n : Nat) : ∀ ⦃s1 : ByteArray⦄ ⦃r1 : Bool⦄, F16 n s1 = some r1 →
    Trip Tryd.prog inv 16 [.d (.str s1)] [] (.v (.d (.bool r1))) [] [] := by
  intro s1 r1 h
  unfold F16 at h
  refine Trip.of tab_ok tab_one fol Tryd.func16 rfl (by kernel_rfl) rfl rfl rfl (fun M hM hI => ?_)
  try cbv
  refine seq_go ?_
  try cbv
  refine seq_go ?_
  try cbv
  replace h := bO1_inv h
  obtain ⟨b2, hr, h⟩ := h
  refine call_go rfl rfl ?_
  try cbv
  refine call_pure hM hI (T33 _ hr) rfl ?_
  clear hr
  try cbv
  obtain rfl := Option.some.inj h
  refine fin_go ?_
  try cbv
  exact ⟨[], rfl, rfl, trivial, trivial, trivial⟩
end Go.Proofs.YtjmofeakajdbiaaDoor
end

set_option linter.unusedVariables false
noncomputable section
namespace Go.Proofs.YtjmofeakajdbiaaDoor
open Go Go.AM

def inZ (lo hi z : Int) : Bool := decide (lo ≤ z ∧ z ≤ hi)
def partZ (z : Int) : Bool := inZ 97 122 z || inZ 65 90 z || inZ 48 57 z || decide (z = 95)
def pB (b : UInt8) : Bool := partZ (b.toNat : Int)
theorem f32 (n : Nat) (z : Int) : F32 n z = some (inZ 97 122 z) := by
  unfold F32 inZ
  grind
theorem f34 (n : Nat) (z : Int) : F34 n z = some (inZ 65 90 z) := by
  unfold F34 inZ
  grind
theorem f67 (n : Nat) (z : Int) : F67 n z = some (inZ 48 57 z) := by
  unfold F67 inZ
  grind
theorem f52 (n : Nat) (z : Int) : F52 n z = some (partZ z) := by
  unfold F52 partZ
  rw [f32, f34, f67]
  simp only [bO1]
  cases inZ 97 122 z <;> cases inZ 65 90 z <;> cases inZ 48 57 z <;> grind
theorem f53 (n : Nat) (z : Int) : F53 n z = some (partZ z) := by
  unfold F53 partZ inZ
  grind

theorem pre_get {α : Type} {l pre rest : List α} {b : α} (h : pre ++ b :: rest = l) : l[pre.length]? = some b := by
  rw [← h, List.getElem?_append_right (Nat.le_refl _)]
  simp

theorem evL51 {s : ByteArray} (hs : s.size ≤ maxLen) : ∀ (rest pre : List UInt8), pre ++ rest = bl s → Ev (fun n => L51_1 n s (pre.length : Int)) (((pre.length + (rest.takeWhile pB).length : Nat) : Int))
  | [], pre, h => by
    refine .succ (.succ (.of fun n => ?_))
    rw [L51_1, szF_eq, ← h, if_neg (by simp), L51_2, if_neg Bool.false_ne_true]
    simp
  | b :: rest, pre, h => by
    have hlt : pre.length < (bl s).length := by rw [← h]; simp
    have hb := pre_get h
    cases hp : pB b with
    | false =>
      refine .succ (.succ (.of fun n => ?_))
      rw [L51_1, szF_eq, if_pos (by omega), atF_get hb, f52]
      simp only [bO1]
      rw [show partZ (b.toNat : Int) = false from hp, L51_2, if_neg Bool.false_ne_true]
      simp [hp]
    | true =>
      have ih := evL51 hs rest (pre ++ [b]) (by simpa using h)
      have e : (pre ++ [b]).length + (rest.takeWhile pB).length = pre.length + ((b :: rest).takeWhile pB).length := by
        simp [hp]; omega
      rw [e] at ih
      refine .succ (.succ (ih.congr fun n => ?_))
      rw [L51_1, szF_eq, if_pos (by omega), atF_get hb, f52]
      simp only [bO1]
      rw [show partZ (b.toNat : Int) = true from hp, L51_2, if_pos rfl]
      simp only [letF]
      rw [wrap_succ (N := (bl s).length) hlt (by rw [← bl_len]; exact hs)]
      simp
theorem ev51 {s : ByteArray} (hs : s.size ≤ maxLen) : Ev (fun n => F51 n s) (((bl s).takeWhile pB).length : Int) := by
  have := evL51 hs (bl s) [] rfl
  unfold F51
  simpa using this

def nm (lo hi : Int) (s : ByteArray) : Bool :=
  match bl s with
  | [] => false
  | b :: r => decide ((b :: r).length ≤ 16) && inZ lo hi (b.toNat : Int) && (b :: r).all pB && !word s
theorem takeWhile_all {α : Type} {p : α → Bool} : ∀ {l : List α}, ((l.takeWhile p).length = l.length) ↔ l.all p = true
  | [] => by simp
  | x :: l => by
    cases h : p x
    · simp [h]
    · simp [h, takeWhile_all (l := l)]
theorem empty_iff {s : ByteArray} : s = ByteArray.empty ↔ bl s = [] := by
  constructor
  · rintro rfl; rfl
  · intro h; exact bl_inj h
theorem ev_nm {G : Nat → Int → Option Bool} {lo hi : Int} (hG : ∀ n z, G n z = some (inZ lo hi z)) {s : ByteArray} (hs : s.size ≤ maxLen) :
    Ev (fun n => (if s = ByteArray.empty then some false else szF s fun z2 => (if z2 ≤ (16 : Int) then atF s (0 : Int) fun z3 => bO1 (G n z3) fun b4 => (if b4 = true then bO1 (F51 n s) fun z5 => szF s fun z6 => (if z5 = z6 then bO1 (F11 n s) fun b7 => letB (!b7) fun b8 => some b8 else some false) else some false) else some false))) (nm lo hi s) := by
  cases h : bl s with
  | nil =>
    have hr : nm lo hi s = false := by unfold nm; rw [h]
    rw [hr]
    exact .of fun n => by rw [if_pos (empty_iff.2 h)]
  | cons b r =>
    have hr : nm lo hi s = (decide ((b :: r).length ≤ 16) && inZ lo hi (b.toNat : Int) && (b :: r).all pB && !word s) := by unfold nm; rw [h]
    rw [hr]
    clear hr
    have hne : s ≠ ByteArray.empty := fun e => by rw [empty_iff.1 e] at h; cases h
    have hb : (bl s)[0]? = some b := by rw [h]; rfl
    by_cases hl : (b :: r).length ≤ 16
    · cases hz : inZ lo hi (b.toNat : Int) with
      | false =>
        refine .of fun n => ?_
        rw [if_neg hne, szF_eq, h, if_pos (by omega), show (0 : Int) = ((0 : Nat) : Int) from rfl, atF_get hb, hG, hz]
        simp [bO1]
      | true =>
        have step : ∀ r', Ev (fun n => bO1 (F51 n s) fun z5 => szF s fun z6 => (if z5 = z6 then bO1 (F11 n s) fun b7 => letB (!b7) fun b8 => some b8 else some false)) r' →
            Ev (fun n => (if s = ByteArray.empty then some false else szF s fun z2 => (if z2 ≤ (16 : Int) then atF s (0 : Int) fun z3 => bO1 (G n z3) fun b4 => (if b4 = true then bO1 (F51 n s) fun z5 => szF s fun z6 => (if z5 = z6 then bO1 (F11 n s) fun b7 => letB (!b7) fun b8 => some b8 else some false) else some false) else some false))) r' := fun r' hr => hr.congr fun n => by
          rw [if_neg hne, szF_eq (s := s) (k := fun z2 => if z2 ≤ (16 : Int) then _ else _), h, if_pos (by omega), show (0 : Int) = ((0 : Nat) : Int) from rfl, atF_get hb, hG, hz]
          simp [bO1]
        refine step _ (Ev.bO1 (ev51 hs) ?_)
        cases ha : (b :: r).all pB with
        | false =>
          refine .of fun n => ?_
          rw [szF_eq, if_neg]
          · simp
          · intro e
            have : ((bl s).takeWhile pB).length = (bl s).length := by omega
            rw [takeWhile_all, h, ha] at this
            cases this
        | true =>
          refine Ev.congr (A := fun n => bO1 (F11 n s) fun b7 => letB (!b7) fun b8 => some b8) ?_ fun n => ?_
          · refine Ev.bO1 (ev11 s) (.of fun n => ?_)
            simp only [letB, decide_eq_true hl, Bool.true_and]
          · rw [szF_eq, if_pos]
            have := takeWhile_all.2 (h ▸ ha : (bl s).all pB = true)
            omega
    · refine .of fun n => ?_
      rw [if_neg hne, szF_eq, h, if_neg (by omega), decide_eq_false hl]
      rfl
theorem ev31 {s : ByteArray} (hs : s.size ≤ maxLen) : Ev (fun n => F31 n s) (nm 97 122 s) := ev_nm f32 hs
theorem ev31x1 {s : ByteArray} (hs : s.size ≤ maxLen) : Ev (fun n => F31x1 n s) (nm 65 90 s) := ev_nm f34 hs
theorem ev13 {s : ByteArray} (hs : s.size ≤ maxLen) : Ev (fun n => F13 n s) (nm 97 122 s) := Ev.bO1 (ev31 hs) .ret
theorem ev15 {s : ByteArray} (hs : s.size ≤ maxLen) : Ev (fun n => F15 n s) (nm 65 90 s) := Ev.bO1 (ev31x1 hs) .ret

theorem evL33 {s : ByteArray} (hs : s.size ≤ maxLen) : ∀ (rest pre : List UInt8), pre ++ rest = bl s → Ev (fun n => L33_2 n s (pre.length : Int)) (rest.all pB)
  | [], pre, h => by
    refine .succ (.succ (.of fun n => ?_))
    rw [L33_2, szF_eq, ← h, if_neg (by simp), L33_3, if_neg Bool.false_ne_true]
    simp
  | b :: rest, pre, h => by
    have hlt : pre.length < (bl s).length := by rw [← h]; simp
    have hb := pre_get h
    cases hp : pB b with
    | false =>
      refine .succ (.succ (.of fun n => ?_))
      rw [L33_2, szF_eq, if_pos (by omega), L33_3, if_pos rfl, atF_get hb, f53]
      simp only [bO1, letB]
      rw [show partZ (b.toNat : Int) = false from hp]
      simp [hp]
    | true =>
      have ih := evL33 hs rest (pre ++ [b]) (by simpa using h)
      refine .succ (.succ (Ev.congr (r := (b :: rest).all pB) (by simpa [hp] using ih) fun n => ?_))
      rw [L33_2, szF_eq, if_pos (by omega), L33_3, if_pos rfl, atF_get hb, f53]
      simp only [bO1, letB]
      rw [show partZ (b.toNat : Int) = true from hp]
      simp only [letF, Bool.not_true, Bool.false_eq_true, if_false]
      rw [wrap_succ (N := (bl s).length) hlt (by rw [← bl_len]; exact hs)]
      simp
theorem ev33 {s : ByteArray} (hs : s.size ≤ maxLen) (lo hi : Int) : Ev (fun n => F33 n s lo hi) (nm lo hi s) := by
  have t : ∀ n, L33_1 (n + 1) s true = some false := fun n => by rw [L33_1, if_pos rfl]
  cases h : bl s with
  | nil =>
    have hr : nm lo hi s = false := by unfold nm; rw [h]
    rw [hr]
    exact .succ (.of fun n => by unfold F33; rw [if_pos (empty_iff.2 h), t])
  | cons b r =>
    have hr : nm lo hi s = (decide ((b :: r).length ≤ 16) && inZ lo hi (b.toNat : Int) && (b :: r).all pB && !word s) := by unfold nm; rw [h]
    rw [hr]
    clear hr
    have hne : s ≠ ByteArray.empty := fun e => by rw [empty_iff.1 e] at h; cases h
    have hb : (bl s)[0]? = some b := by rw [h]; rfl
    have z0 : (0 : Int) = ((0 : Nat) : Int) := rfl
    by_cases hl : (b :: r).length ≤ 16
    · by_cases h1 : (b.toNat : Int) < lo
      · refine .succ (.of fun n => ?_)
        unfold F33
        rw [if_neg hne, szF_eq, h, if_neg (by omega), z0, atF_get hb, if_pos h1, t]
        simp [inZ, show ¬ lo ≤ (b.toNat : Int) by omega]
      · by_cases h2 : hi < (b.toNat : Int)
        · refine .succ (.of fun n => ?_)
          unfold F33
          rw [if_neg hne, szF_eq, h, if_neg (by omega), z0, atF_get hb, if_neg h1, atF_get hb, if_pos h2, t]
          simp [inZ, show ¬ (b.toNat : Int) ≤ hi by omega]
        · have hin : inZ lo hi (b.toNat : Int) = true := by simp [inZ]; omega
          refine Ev.congr (A := fun n => bO1 (F12 n s) fun b7 => L33_1 n s b7) (Ev.bO1 (ev12 s) ?_) fun n => ?_
          · cases hw : word s with
            | true => exact .succ (.of fun n => by rw [t]; simp)
            | false =>
              refine .succ ?_
              have h9 : Ev (fun n => L33_2 n s ((0 : Nat) : Int)) ((bl s).all pB) := evL33 hs (bl s) [] rfl
              have h8 : Ev (fun n => L33_1 (n + 1) s false) ((bl s).all pB) := h9.congr fun n => by rw [L33_1, if_neg Bool.false_ne_true]; rfl
              rw [h] at h8
              rw [decide_eq_true hl, hin, Bool.true_and, Bool.true_and, Bool.not_false, Bool.and_true]
              exact h8
          · unfold F33
            rw [if_neg hne, szF_eq, h, if_neg (by omega), z0, atF_get hb, if_neg h1, atF_get hb, if_neg h2]
    · refine .succ (.of fun n => ?_)
      unfold F33
      rw [if_neg hne, szF_eq, h, if_pos (by omega), t, decide_eq_false hl]
      rfl
theorem ev14 {s : ByteArray} (hs : s.size ≤ maxLen) : Ev (fun n => F14 n s) (nm 97 122 s) := Ev.bO1 (ev33 hs 97 122) .ret
theorem ev16 {s : ByteArray} (hs : s.size ≤ maxLen) : Ev (fun n => F16 n s) (nm 65 90 s) := Ev.bO1 (ev33 hs 65 90) .ret
end Go.Proofs.YtjmofeakajdbiaaDoor

set_option linter.unusedVariables false
noncomputable section
namespace Go.Proofs.YtjmofeakajdbiaaDoor
open Go Go.AM
def F66 (n : Nat) (z1 : Int) : Option (Bool) :=
  (if z1 = (10 : Int) then some false else some true)
set_option maxRecDepth 100000 in
set_option maxHeartbeats 40000000 in
theorem T66 (n : Nat) : ∀ ⦃z1 : Int⦄ ⦃r1 : Bool⦄, F66 n z1 = some r1 →
    Trip Tryd.prog inv 66 [.d (.int .u8 z1)] [] (.v (.d (.bool r1))) [] [] := by
  intro z1 r1 h
  unfold F66 at h
  refine Trip.of tab_ok tab_one fol Tryd.func66 rfl (by kernel_rfl) rfl rfl rfl (fun M hM hI => ?_)
  try cbv
  refine seq_go ?_
  try cbv
  refine seq_go ?_
  try cbv
  refine splitI (fun e => ?_) (fun e => ?_)
  · replace h := ite_t e h
    clear e
    try cbv
    obtain rfl := Option.some.inj h
    refine fin_go ?_
    try cbv
    exact ⟨[], rfl, rfl, trivial, trivial, trivial⟩
  · replace h := ite_f e h
    clear e
    try cbv
    obtain rfl := Option.some.inj h
    refine fin_go ?_
    try cbv
    exact ⟨[], rfl, rfl, trivial, trivial, trivial⟩
end Go.Proofs.YtjmofeakajdbiaaDoor
end

set_option linter.unusedVariables false
noncomputable section
namespace Go.Proofs.YtjmofeakajdbiaaDoor
open Go Go.AM
mutual
def L51x1_1 : Nat → ByteArray → Int → Option (Int)
  | 0, _, _ => none
  | n + 1, s1, z2 =>
    szF s1 fun z3 => (if z2 < z3 then atF s1 z2 fun z4 => bO1 (F66 n z4) fun b5 => L51x1_2 n s1 z2 b5 else L51x1_2 n s1 z2 false)
def L51x1_2 : Nat → ByteArray → Int → Bool → Option (Int)
  | 0, _, _, _ => none
  | n + 1, s1, z2, b6 =>
    (if b6 = true then letF (IntKind.wrap .i64 (z2 + 1)) fun z7 => L51x1_1 n s1 z7 else some z2)
end
def F51x1 (n : Nat) (s1 : ByteArray) : Option (Int) :=
  L51x1_1 n s1 (0 : Int)
set_option maxRecDepth 100000 in
set_option maxHeartbeats 40000000 in
theorem T51x1 (n : Nat) : ∀ ⦃s1 : ByteArray⦄ ⦃r1 : Int⦄, F51x1 n s1 = some r1 →
    Trip Tryd.prog inv 51 [.d (.str s1), .c (.fn 66 [])] [] (.v (.d (.int .i64 r1))) [] [] := by
  intro s1 r1 h
  unfold F51x1 at h
  refine Trip.of tab_ok tab_one fol Tryd.func51 rfl (by kernel_rfl) rfl rfl rfl (fun M hM hI => ?_)
  try cbv
  refine seq_go ?_
  try cbv
  refine seq_go ?_
  try cbv
  refine seq_go ?_
  try cbv
  refine loop_inv (T := Nat × Int) [0, 1, 4, 5] [] 64 (fun t => ⟨[(0, .v (.d (.str s1))), (1, .v (.c (.fn 66 []))), (4, .v (.d (.int .i64 0))), (5, .v (.d (.int .i64 t.2)))], [], 64⟩)
    (fun t => t.1 ≤ n ∧ L51x1_1 t.1 s1 t.2 = some r1) (fun t => t.1) (n, (0 : Int)) ⟨Nat.le_refl _, h⟩ (by cbv) ?_
  clear h
  rintro ⟨m1, z2⟩ ⟨hm1, h⟩
  replace hm1 : m1 ≤ n := hm1
  cases m1 with
  | zero =>
    replace h : L51x1_1 0 s1 z2 = some r1 := h
    rw [L51x1_1] at h
    cases h
  | succ m1 =>
    replace h : L51x1_1 (m1 + 1) s1 z2 = some r1 := h
    rw [L51x1_1] at h
    try cbv
    refine seq_go ?_
    try cbv
    refine seq_join (T := Nat × Bool) (fun t => ⟨[(0, .v (.d (.str s1))), (1, .v (.c (.fn 66 []))), (4, .v (.d (.int .i64 0))), (5, .v (.d (.int .i64 z2))), (16, .v (.d (.bool t.2)))], [], 416⟩) (fun t => t.1 ≤ m1 ∧ L51x1_2 t.1 s1 z2 t.2 = some r1) ?_ ?_
    · try cbv
      replace h := szF_inv M h
      obtain ⟨z3, hz, h⟩ := h
      refine ⟨z3, hz, ?_⟩
      clear hz
      try cbv
      refine splitL (fun e => ?_) (fun e => ?_)
      · replace h := ite_t e h
        clear e
        try cbv
        replace h := atF_inv h
        obtain ⟨z4, hz, h⟩ := h
        refine ⟨z4, hz, ?_⟩
        clear hz
        try cbv
        replace h := bO1_inv h
        obtain ⟨b5, hr, h⟩ := h
        refine call_go rfl rfl ?_
        try cbv
        refine call_pure hM hI (T66 _ hr) rfl ?_
        clear hr
        try cbv
        exact join_next (m1, b5) [0, 1, 4, 5, 16] [] 416 ⟨by omega, h⟩ (by cbv)
      · replace h := ite_f (Int.not_lt.2 e) h
        clear e
        try cbv
        exact join_next (m1, false) [0, 1, 4, 5, 16] [] 416 ⟨by omega, h⟩ (by cbv)
    · clear h
      rintro ⟨m2, b6⟩ ⟨hm2, h⟩
      replace hm2 : m2 ≤ m1 := hm2
      cases m2 with
      | zero =>
        replace h : L51x1_2 0 s1 z2 b6 = some r1 := h
        rw [L51x1_2] at h
        cases h
      | succ m2 =>
        replace h : L51x1_2 (m2 + 1) s1 z2 b6 = some r1 := h
        rw [L51x1_2] at h
        try cbv
        cases b6
        · replace h := ite_f Bool.false_ne_true h
          try cbv
          refine seq_go ?_
          try cbv
          obtain rfl := Option.some.inj h
          refine fin_go ?_
          try cbv
          exact ⟨[], rfl, rfl, trivial, trivial, trivial⟩
        · replace h := ite_t rfl h
          try cbv
          replace h := letF_inv h
          obtain ⟨z7, hz, h⟩ := h
          refine ⟨z7, hz, ?_⟩
          clear hz
          try cbv
          exact loop_next (m2, z7) [0, 1, 4, 5] [] 64 ⟨by omega, h⟩ (Nat.lt_succ_of_le (by omega)) (by cbv)
end Go.Proofs.YtjmofeakajdbiaaDoor
end

set_option linter.unusedVariables false
noncomputable section
namespace Go.Proofs.YtjmofeakajdbiaaDoor
open Go Go.AM
mutual
def L48_1 : Nat → ByteArray → Int → Option (Int)
  | 0, _, _ => none
  | n + 1, s1, z2 =>
    szF s1 fun z3 => (if z2 < z3 then L48_2 n s1 z2 true else L48_2 n s1 z2 false)
def L48_2 : Nat → ByteArray → Int → Bool → Option (Int)
  | 0, _, _, _ => none
  | n + 1, s1, z2, b4 =>
    (if b4 = true then atF s1 z2 fun z5 => bO1 (F64 n k_____ z5) fun z6 => (if (0 : Int) ≤ z6 then L48_3 n s1 z2 true else L48_3 n s1 z2 false) else some z2)
def L48_3 : Nat → ByteArray → Int → Bool → Option (Int)
  | 0, _, _, _ => none
  | n + 1, s1, z2, b7 =>
    (if b7 = true then letF (IntKind.wrap .i64 (z2 + 1)) fun z8 => L48_1 n s1 z8 else subToF s1 z2 fun s9 => bO1 (F65 n s9 k____3) fun b10 => (if b10 = true then subToF s1 z2 fun s11 => bO1 (F51x1 n s11) fun z12 => letF (IntKind.wrap .i64 (z2 + z12)) fun z13 => L48_1 n s1 z13 else some z2))
end
def F48 (n : Nat) (s1 : ByteArray) : Option (Int) :=
  L48_1 n s1 (0 : Int)
set_option maxRecDepth 100000 in
set_option maxHeartbeats 40000000 in
theorem T48 (n : Nat) : ∀ ⦃s1 : ByteArray⦄ ⦃r1 : Int⦄, F48 n s1 = some r1 →
    Trip Tryd.prog inv 48 [.d (.str s1)] [] (.v (.d (.int .i64 r1))) [] [] := by
  intro s1 r1 h
  unfold F48 at h
  refine Trip.of tab_ok tab_one fol Tryd.func48 rfl (by kernel_rfl) rfl rfl rfl (fun M hM hI => ?_)
  try cbv
  refine seq_go ?_
  try cbv
  refine seq_go ?_
  try cbv
  refine seq_go ?_
  try cbv
  refine loop_inv (T := Nat × Int) [0, 2, 3] [] 64 (fun t => ⟨[(0, .v (.d (.str s1))), (2, .v (.d (.int .i64 0))), (3, .v (.d (.int .i64 t.2)))], [], 64⟩)
    (fun t => t.1 ≤ n ∧ L48_1 t.1 s1 t.2 = some r1) (fun t => t.1) (n, (0 : Int)) ⟨Nat.le_refl _, h⟩ (by cbv) ?_
  clear h
  rintro ⟨m1, z2⟩ ⟨hm1, h⟩
  replace hm1 : m1 ≤ n := hm1
  cases m1 with
  | zero =>
    replace h : L48_1 0 s1 z2 = some r1 := h
    rw [L48_1] at h
    cases h
  | succ m1 =>
    replace h : L48_1 (m1 + 1) s1 z2 = some r1 := h
    rw [L48_1] at h
    try cbv
    refine seq_go ?_
    try cbv
    refine seq_join (T := Nat × Bool) (fun t => ⟨[(0, .v (.d (.str s1))), (2, .v (.d (.int .i64 0))), (3, .v (.d (.int .i64 z2))), (7, .v (.d (.bool t.2)))], [], 192⟩) (fun t => t.1 ≤ m1 ∧ L48_2 t.1 s1 z2 t.2 = some r1) ?_ ?_
    · try cbv
      replace h := szF_inv M h
      obtain ⟨z3, hz, h⟩ := h
      refine ⟨z3, hz, ?_⟩
      clear hz
      try cbv
      refine splitL (fun e => ?_) (fun e => ?_)
      · replace h := ite_t e h
        clear e
        try cbv
        exact join_next (m1, true) [0, 2, 3, 7] [] 192 ⟨by omega, h⟩ (by cbv)
      · replace h := ite_f (Int.not_lt.2 e) h
        clear e
        try cbv
        exact join_next (m1, false) [0, 2, 3, 7] [] 192 ⟨by omega, h⟩ (by cbv)
    · clear h
      rintro ⟨m2, b4⟩ ⟨hm2, h⟩
      replace hm2 : m2 ≤ m1 := hm2
      cases m2 with
      | zero =>
        replace h : L48_2 0 s1 z2 b4 = some r1 := h
        rw [L48_2] at h
        cases h
      | succ m2 =>
        replace h : L48_2 (m2 + 1) s1 z2 b4 = some r1 := h
        rw [L48_2] at h
        try cbv
        cases b4
        · replace h := ite_f Bool.false_ne_true h
          try cbv
          refine seq_go ?_
          try cbv
          obtain rfl := Option.some.inj h
          refine fin_go ?_
          try cbv
          exact ⟨[], rfl, rfl, trivial, trivial, trivial⟩
        · replace h := ite_t rfl h
          try cbv
          refine seq_join (T := Nat × Bool) (fun t => ⟨[(0, .v (.d (.str s1))), (2, .v (.d (.int .i64 0))), (3, .v (.d (.int .i64 z2))), (9, .v (.d (.bool t.2)))], [], 384⟩) (fun t => t.1 ≤ m2 ∧ L48_3 t.1 s1 z2 t.2 = some r1) ?_ ?_
          · try cbv
            replace h := atF_inv h
            obtain ⟨z5, hz, h⟩ := h
            refine ⟨z5, hz, ?_⟩
            clear hz
            try cbv
            replace h := bO1_inv h
            obtain ⟨z6, hr, h⟩ := h
            refine call_go rfl rfl ?_
            try cbv
            refine call_pure hM hI (T64 _ hr) rfl ?_
            clear hr
            try cbv
            refine splitLe (fun e => ?_) (fun e => ?_)
            · replace h := ite_t e h
              clear e
              try cbv
              exact join_next (m2, true) [0, 2, 3, 9] [] 384 ⟨by omega, h⟩ (by cbv)
            · replace h := ite_f (Int.not_le.2 e) h
              clear e
              try cbv
              exact join_next (m2, false) [0, 2, 3, 9] [] 384 ⟨by omega, h⟩ (by cbv)
          · clear h
            rintro ⟨m3, b7⟩ ⟨hm3, h⟩
            replace hm3 : m3 ≤ m2 := hm3
            cases m3 with
            | zero =>
              replace h : L48_3 0 s1 z2 b7 = some r1 := h
              rw [L48_3] at h
              cases h
            | succ m3 =>
              replace h : L48_3 (m3 + 1) s1 z2 b7 = some r1 := h
              rw [L48_3] at h
              try cbv
              cases b7
              · replace h := ite_f Bool.false_ne_true h
                try cbv
                refine seq_go ?_
                try cbv
                replace h := subToF_inv M h
                obtain ⟨s9, hb, hz, h⟩ := h
                refine ⟨s9, hb, hz, ?_⟩
                clear hb hz
                try cbv
                replace h := bO1_inv h
                obtain ⟨b10, hr, h⟩ := h
                refine call_go rfl rfl ?_
                try cbv
                refine call_pure hM hI (T65 _ hr) rfl ?_
                clear hr
                try cbv
                cases b10
                · replace h := ite_f Bool.false_ne_true h
                  try cbv
                  refine seq_go ?_
                  try cbv
                  obtain rfl := Option.some.inj h
                  refine fin_go ?_
                  try cbv
                  exact ⟨[], rfl, rfl, trivial, trivial, trivial⟩
                · replace h := ite_t rfl h
                  try cbv
                  replace h := subToF_inv M h
                  obtain ⟨s11, hb, hz, h⟩ := h
                  refine ⟨s11, hb, hz, ?_⟩
                  clear hb hz
                  try cbv
                  replace h := bO1_inv h
                  obtain ⟨z12, hr, h⟩ := h
                  refine call_go rfl rfl ?_
                  try cbv
                  refine call_pure hM hI (T51x1 _ hr) rfl ?_
                  clear hr
                  try cbv
                  replace h := letF_inv h
                  obtain ⟨z13, hz, h⟩ := h
                  refine ⟨z13, hz, ?_⟩
                  clear hz
                  try cbv
                  exact loop_next (m3, z13) [0, 2, 3] [] 64 ⟨by omega, h⟩ (Nat.lt_succ_of_le (by omega)) (by cbv)
              · replace h := ite_t rfl h
                try cbv
                replace h := letF_inv h
                obtain ⟨z8, hz, h⟩ := h
                refine ⟨z8, hz, ?_⟩
                clear hz
                try cbv
                exact loop_next (m3, z8) [0, 2, 3] [] 64 ⟨by omega, h⟩ (Nat.lt_succ_of_le (by omega)) (by cbv)
end Go.Proofs.YtjmofeakajdbiaaDoor
end

set_option linter.unusedVariables false
noncomputable section
namespace Go.Proofs.YtjmofeakajdbiaaDoor
open Go Go.AM

def tx (l : List UInt8) : ByteArray := ⟨l.toArray⟩
theorem bl_tx (l : List UInt8) : bl (tx l) = l := by simp [bl, tx]
theorem tx_bl (s : ByteArray) : tx (bl s) = s := bl_inj (bl_tx _)
theorem bl_extract (s : ByteArray) (i j : Nat) : bl (s.extract i j) = ((bl s).take j).drop i := by
  simp [bl, List.drop_take]
theorem subToF_eq {γ : Type} {s : ByteArray} {i : Nat} {k : ByteArray → Option γ} (h : i ≤ (bl s).length) : subToF s (i : Int) k = k (tx ((bl s).drop i)) := by
  unfold subToF
  rw [if_pos (by rw [bl_len]; omega)]
  congr 1
  apply bl_inj
  rw [bl_extract, bl_tx, bl_len]
  simp
theorem subF_eq {γ : Type} {s : ByteArray} {i j : Nat} {k : ByteArray → Option γ} (h : i ≤ j) (hj : j ≤ (bl s).length) : subF s (i : Int) (j : Int) k = k (tx (((bl s).take j).drop i)) := by
  unfold subF
  rw [if_pos (by rw [bl_len]; omega)]
  congr 1
  apply bl_inj
  rw [bl_extract, bl_tx]
  simp
theorem wrapN {x : Nat} (h : x ≤ maxLen) {y : Int} (e : y = (x : Int)) : IntKind.i64.wrap y = (x : Int) := by
  rw [e]
  refine wrap_i64' ⟨by omega, ?_⟩
  have : maxLen ≤ 9223372036854775807 := by decide
  omega

def blank (b : UInt8) : Bool := b == 32 || b == 9 || b == 10 || b == 13
def skipB : Bool → List UInt8 → Nat
  | _, [] => 0
  | true, b :: r => 1 + skipB (b != 10) r
  | false, b :: r => if blank b = true then 1 + skipB false r else if b = 47 ∧ r.head? = some 47 then 1 + skipB true r else 0
theorem skipB_le : ∀ (q : Bool) (l : List UInt8), skipB q l ≤ l.length
  | _, [] => by simp [skipB]
  | true, b :: r => by have := skipB_le (b != 10) r; simp [skipB]; omega
  | false, b :: r => by
    have h1 := skipB_le false r
    have h2 := skipB_le true r
    simp only [skipB, List.length_cons]
    split
    · omega
    · split <;> omega
theorem skip_remark : ∀ r : List UInt8, skipB true r = (r.takeWhile (· != 10)).length + skipB false (r.drop (r.takeWhile (· != 10)).length)
  | [] => by simp [skipB]
  | b :: r => by
    by_cases h : b = 10
    · subst h
      simp [skipB, blank]
    · have h' : (b != 10) = true := by simpa using h
      simp only [skipB, h', List.takeWhile_cons, if_true, List.length_cons, List.drop_succ_cons]
      rw [skip_remark r]
      omega

theorem f66 (n : Nat) (b : UInt8) : F66 n (b.toNat : Int) = some (b != 10) := by
  unfold F66
  by_cases h : b = 10
  · subst h; rfl
  · have : ¬ ((b.toNat : Int) = 10) := fun e => h (by
      have h2 : b.toNat = 10 := by omega
      exact UInt8.toNat_inj.1 h2)
    rw [if_neg this]
    simp [h]
theorem evL51x1 {s : ByteArray} (hs : s.size ≤ maxLen) : ∀ (rest pre : List UInt8), pre ++ rest = bl s → Ev (fun n => L51x1_1 n s (pre.length : Int)) (((pre.length + (rest.takeWhile (· != 10)).length : Nat) : Int))
  | [], pre, h => by
    refine .succ (.succ (.of fun n => ?_))
    rw [L51x1_1, szF_eq, ← h, if_neg (by simp), L51x1_2, if_neg Bool.false_ne_true]
    simp
  | b :: rest, pre, h => by
    have hlt : pre.length < (bl s).length := by rw [← h]; simp
    have hb := pre_get h
    cases hp : (b != 10) with
    | false =>
      refine .succ (.succ (.of fun n => ?_))
      rw [L51x1_1, szF_eq, if_pos (by omega), atF_get hb, f66]
      simp only [bO1, hp]
      rw [L51x1_2, if_neg Bool.false_ne_true]
      simp [List.takeWhile_cons, hp]
    | true =>
      have ih := evL51x1 hs rest (pre ++ [b]) (by simpa using h)
      have e : (pre ++ [b]).length + (rest.takeWhile (· != 10)).length = pre.length + ((b :: rest).takeWhile (· != 10)).length := by
        simp only [List.takeWhile_cons, hp, if_true, List.length_append, List.length_cons, List.length_nil]; omega
      rw [e] at ih
      refine .succ (.succ (ih.congr fun n => ?_))
      rw [L51x1_1, szF_eq, if_pos (by omega), atF_get hb, f66]
      simp only [bO1, hp]
      rw [L51x1_2, if_pos rfl]
      simp only [letF]
      rw [wrap_succ (N := (bl s).length) hlt (by rw [← bl_len]; exact hs)]
      simp
theorem ev51x1 {s : ByteArray} (hs : s.size ≤ maxLen) : Ev (fun n => F51x1 n s) (((bl s).takeWhile (· != 10)).length : Int) := by
  have := evL51x1 hs (bl s) [] rfl
  unfold F51x1
  simpa using this

theorem f64_blank (n : Nat) (b : UInt8) : ∃ z, F64 n k_____ (b.toNat : Int) = some z ∧ (decide ((0 : Int) ≤ z)) = blank b := by
  refine ⟨_, rfl, ?_⟩
  have e : (b.toNat : Int).toNat.toUInt8 = b := by
    rw [Int.toNat_natCast]
    exact UInt8.ofNat_toNat
  rw [e]
  show decide ((0 : Int) ≤ Lib.indexByte [32, 9, 10, 13] b) = blank b
  unfold blank
  by_cases h1 : (32 : UInt8) = b
  · subst h1; decide
  · by_cases h2 : (9 : UInt8) = b
    · subst h2; decide
    · by_cases h3 : (10 : UInt8) = b
      · subst h3; decide
      · by_cases h4 : (13 : UInt8) = b
        · subst h4; decide
        · simp [Lib.indexByte, h1, h2, h3, h4, Ne.symm h1, Ne.symm h2, Ne.symm h3, Ne.symm h4]
theorem hasPrefix_two (l : List UInt8) (a b : UInt8) : Lib.hasPrefix l [a, b] = (decide (l.head? = some a) && decide (l.tail.head? = some b)) := by
  match l with
  | [] => simp [Lib.hasPrefix]
  | [x] =>
    simp [Lib.hasPrefix, List.isPrefixOf]
  | x :: y :: r =>
    have e : ∀ u v : UInt8, (u == v) = decide (v = u) := fun u v => by
      by_cases h : u = v
      · subst h; simp
      · have h' : ¬ v = u := fun e => h e.symm
        simp [h, h']
    show (a == x && (b == y && List.isPrefixOf [] r)) = _
    simp [e]
theorem evL48 {s : ByteArray} (hs : s.size ≤ maxLen) : ∀ (m : Nat) (rest pre : List UInt8), rest.length ≤ m → pre ++ rest = bl s → Ev (fun n => L48_1 n s (pre.length : Int)) (((pre.length + skipB false rest : Nat) : Int)) := by
  have hN : (bl s).length ≤ maxLen := by rw [← bl_len]; exact hs
  intro m
  induction m with
  | zero =>
    intro rest pre hm h
    have : rest = [] := List.eq_nil_of_length_eq_zero (by omega)
    subst this
    refine .succ (.succ (.of fun n => ?_))
    rw [L48_1, szF_eq, ← h, if_neg (by simp), L48_2, if_neg Bool.false_ne_true]
    simp [skipB]
  | succ m ih =>
    intro rest pre hm h
    match rest, hm, h with
    | [], _, h =>
      refine .succ (.succ (.of fun n => ?_))
      rw [L48_1, szF_eq, ← h, if_neg (by simp), L48_2, if_neg Bool.false_ne_true]
      simp [skipB]
    | b :: rest, hm, h =>
      have hlt : pre.length < (bl s).length := by rw [← h]; simp
      have hb := pre_get h
      simp at hm
      have open2 : ∀ n, L48_1 (n + 2) s (pre.length : Int) = bO1 (F64 n k_____ (b.toNat : Int)) fun z6 => (if (0 : Int) ≤ z6 then L48_3 n s (pre.length : Int) true else L48_3 n s (pre.length : Int) false) := fun n => by
        rw [L48_1, szF_eq, if_pos (by omega), L48_2, if_pos rfl, atF_get hb]
      cases hbl : blank b with
      | true =>
        have ih' := ih rest (pre ++ [b]) (by omega) (by simpa using h)
        refine .succ (.succ (.succ (Ev.congr (A := fun n => L48_1 n s ((pre ++ [b]).length : Int)) (r := ((pre.length + skipB false (b :: rest) : Nat) : Int)) ?_ fun n => ?_)))
        · have e : (pre ++ [b]).length + skipB false rest = pre.length + skipB false (b :: rest) := by simp [skipB, hbl]; omega
          rw [← e]; exact ih'
        · rw [open2]
          obtain ⟨z, hz, hz'⟩ := f64_blank (n + 1) b
          rw [hz, hbl] at *
          simp only [bO1]
          rw [if_pos (by simpa using hz'), L48_3, if_pos rfl]
          simp only [letF]
          rw [wrap_succ (N := (bl s).length) hlt hN]
          simp
      | false =>
        have open3 : ∀ n, L48_1 (n + 3) s (pre.length : Int) = bO1 (F65 n (tx (b :: rest)) k____3) fun b10 => (if b10 = true then subToF s (pre.length : Int) fun s11 => bO1 (F51x1 n s11) fun z12 => letF (IntKind.wrap .i64 ((pre.length : Int) + z12)) fun z13 => L48_1 n s z13 else some (pre.length : Int)) := fun n => by
          rw [open2]
          obtain ⟨z, hz, hz'⟩ := f64_blank (n + 1) b
          rw [hz]
          rw [hbl] at hz'
          simp only [bO1]
          rw [if_neg (by simpa using hz'), L48_3, if_neg Bool.false_ne_true, subToF_eq (by omega), ← h]
          simp [bO1]
        have hpre : ∀ n, F65 n (tx (b :: rest)) k____3 = some (decide (b = 47) && decide (rest.head? = some 47)) := fun n => by
          have : F65 n (tx (b :: rest)) k____3 = some (Lib.hasPrefix (bl (tx (b :: rest))) [47, 47]) := rfl
          rw [this, bl_tx, hasPrefix_two]
          refine congrArg some (Bool.eq_iff_iff.2 ?_)
          simp
          intro _
          exact decide_eq_true_iff
        by_cases hr : b = 47 ∧ rest.head? = some 47
        · obtain ⟨k, hkd⟩ : ∃ k, k = ((b :: rest).takeWhile (· != 10)).length := ⟨_, rfl⟩
          have hk : k = 1 + (rest.takeWhile (· != 10)).length := by
            rw [hkd, List.takeWhile_cons, hr.1]
            simp; omega
          have hkl : k ≤ (b :: rest).length := by
            rw [hkd]
            exact (List.takeWhile_sublist _).length_le
          have hkl' : k ≤ rest.length + 1 := by simpa using hkl
          have ih' := ih ((b :: rest).drop k) (pre ++ (b :: rest).take k) (by rw [List.length_drop, List.length_cons]; omega) (by rw [List.append_assoc, List.take_append_drop]; exact h)
          have hl : (pre ++ (b :: rest).take k).length = pre.length + k := by rw [List.length_append, List.length_take, Nat.min_eq_left hkl]
          rw [hl] at ih'
          have e : pre.length + k + skipB false ((b :: rest).drop k) = pre.length + skipB false (b :: rest) := by
            have : skipB false (b :: rest) = 1 + skipB true rest := by
              show (if blank b = true then _ else if b = 47 ∧ rest.head? = some 47 then _ else 0) = _
              rw [if_neg (by rw [hbl]; decide), if_pos hr]
            rw [this, skip_remark, hk]
            rw [show 1 + (rest.takeWhile (· != 10)).length = (rest.takeWhile (· != 10)).length + 1 by omega, List.drop_succ_cons]
            omega
          rw [e] at ih'
          refine .succ (.succ (.succ (Ev.congr (A := fun n => bO1 (F51x1 n (tx (b :: rest))) fun z12 => letF (IntKind.wrap .i64 ((pre.length : Int) + z12)) fun z13 => L48_1 n s z13) ?_ fun n => ?_)))
          · have hsz : (tx (b :: rest)).size ≤ maxLen := by
              rw [bl_len, bl_tx]
              have := congrArg List.length h
              simp at this ⊢; omega
            have h51 := ev51x1 hsz
            rw [bl_tx, ← hkd] at h51
            refine Ev.bO1 h51 (ih'.congr fun n => ?_)
            simp only [letF]
            rw [wrapN (x := pre.length + k) (by have := congrArg List.length h; simp at this; omega) (by omega)]
          · rw [open3, hpre]
            simp only [bO1, hr.1, hr.2, decide_true, Bool.and_self, if_true]
            rw [subToF_eq (by omega), ← h]
            simp [bO1, hr.1]
        · refine .succ (.succ (.succ (.of fun n => ?_)))
          rw [open3, hpre]
          have : (decide (b = 47) && decide (rest.head? = some 47)) = false := by
            simpa using hr
          rw [this]
          simp [bO1, skipB, hbl, hr]
theorem ev48 {s : ByteArray} (hs : s.size ≤ maxLen) : Ev (fun n => F48 n s) ((skipB false (bl s) : Nat) : Int) := by
  have := evL48 hs (bl s).length (bl s) [] (Nat.le_refl _) rfl
  unfold F48
  simpa using this
end Go.Proofs.YtjmofeakajdbiaaDoor

set_option linter.unusedVariables false
noncomputable section
namespace Go.Proofs.YtjmofeakajdbiaaDoor
open Go Go.AM
mutual
def L51x2_1 : Nat → ByteArray → Int → Option (Int)
  | 0, _, _ => none
  | n + 1, s1, z2 =>
    szF s1 fun z3 => (if z2 < z3 then atF s1 z2 fun z4 => bO1 (F67 n z4) fun b5 => L51x2_2 n s1 z2 b5 else L51x2_2 n s1 z2 false)
def L51x2_2 : Nat → ByteArray → Int → Bool → Option (Int)
  | 0, _, _, _ => none
  | n + 1, s1, z2, b6 =>
    (if b6 = true then letF (IntKind.wrap .i64 (z2 + 1)) fun z7 => L51x2_1 n s1 z7 else some z2)
end
def F51x2 (n : Nat) (s1 : ByteArray) : Option (Int) :=
  L51x2_1 n s1 (0 : Int)
set_option maxRecDepth 100000 in
set_option maxHeartbeats 40000000 in
theorem T51x2 (n : Nat) : ∀ ⦃s1 : ByteArray⦄ ⦃r1 : Int⦄, F51x2 n s1 = some r1 →
    Trip Tryd.prog inv 51 [.d (.str s1), .c (.fn 67 [])] [] (.v (.d (.int .i64 r1))) [] [] := by
  intro s1 r1 h
  unfold F51x2 at h
  refine Trip.of tab_ok tab_one fol Tryd.func51 rfl (by kernel_rfl) rfl rfl rfl (fun M hM hI => ?_)
  try cbv
  refine seq_go ?_
  try cbv
  refine seq_go ?_
  try cbv
  refine seq_go ?_
  try cbv
  refine loop_inv (T := Nat × Int) [0, 1, 4, 5] [] 64 (fun t => ⟨[(0, .v (.d (.str s1))), (1, .v (.c (.fn 67 []))), (4, .v (.d (.int .i64 0))), (5, .v (.d (.int .i64 t.2)))], [], 64⟩)
    (fun t => t.1 ≤ n ∧ L51x2_1 t.1 s1 t.2 = some r1) (fun t => t.1) (n, (0 : Int)) ⟨Nat.le_refl _, h⟩ (by cbv) ?_
  clear h
  rintro ⟨m1, z2⟩ ⟨hm1, h⟩
  replace hm1 : m1 ≤ n := hm1
  cases m1 with
  | zero =>
    replace h : L51x2_1 0 s1 z2 = some r1 := h
    rw [L51x2_1] at h
    cases h
  | succ m1 =>
    replace h : L51x2_1 (m1 + 1) s1 z2 = some r1 := h
    rw [L51x2_1] at h
    try cbv
    refine seq_go ?_
    try cbv
    refine seq_join (T := Nat × Bool) (fun t => ⟨[(0, .v (.d (.str s1))), (1, .v (.c (.fn 67 []))), (4, .v (.d (.int .i64 0))), (5, .v (.d (.int .i64 z2))), (16, .v (.d (.bool t.2)))], [], 416⟩) (fun t => t.1 ≤ m1 ∧ L51x2_2 t.1 s1 z2 t.2 = some r1) ?_ ?_
    · try cbv
      replace h := szF_inv M h
      obtain ⟨z3, hz, h⟩ := h
      refine ⟨z3, hz, ?_⟩
      clear hz
      try cbv
      refine splitL (fun e => ?_) (fun e => ?_)
      · replace h := ite_t e h
        clear e
        try cbv
        replace h := atF_inv h
        obtain ⟨z4, hz, h⟩ := h
        refine ⟨z4, hz, ?_⟩
        clear hz
        try cbv
        replace h := bO1_inv h
        obtain ⟨b5, hr, h⟩ := h
        refine call_go rfl rfl ?_
        try cbv
        refine call_pure hM hI (T67 _ hr) rfl ?_
        clear hr
        try cbv
        exact join_next (m1, b5) [0, 1, 4, 5, 16] [] 416 ⟨by omega, h⟩ (by cbv)
      · replace h := ite_f (Int.not_lt.2 e) h
        clear e
        try cbv
        exact join_next (m1, false) [0, 1, 4, 5, 16] [] 416 ⟨by omega, h⟩ (by cbv)
    · clear h
      rintro ⟨m2, b6⟩ ⟨hm2, h⟩
      replace hm2 : m2 ≤ m1 := hm2
      cases m2 with
      | zero =>
        replace h : L51x2_2 0 s1 z2 b6 = some r1 := h
        rw [L51x2_2] at h
        cases h
      | succ m2 =>
        replace h : L51x2_2 (m2 + 1) s1 z2 b6 = some r1 := h
        rw [L51x2_2] at h
        try cbv
        cases b6
        · replace h := ite_f Bool.false_ne_true h
          try cbv
          refine seq_go ?_
          try cbv
          obtain rfl := Option.some.inj h
          refine fin_go ?_
          try cbv
          exact ⟨[], rfl, rfl, trivial, trivial, trivial⟩
        · replace h := ite_t rfl h
          try cbv
          replace h := letF_inv h
          obtain ⟨z7, hz, h⟩ := h
          refine ⟨z7, hz, ?_⟩
          clear hz
          try cbv
          exact loop_next (m2, z7) [0, 1, 4, 5] [] 64 ⟨by omega, h⟩ (Nat.lt_succ_of_le (by omega)) (by cbv)
end Go.Proofs.YtjmofeakajdbiaaDoor
end

set_option linter.unusedVariables false
noncomputable section
namespace Go.Proofs.YtjmofeakajdbiaaDoor
open Go Go.AM
mutual
def L79_1 : Nat → ByteArray → Bool → Int → Int → Option (Bool)
  | 0, _, _, _, _ => none
  | n + 1, s1, b2, z3, z4 =>
    (if z4 < z3 then L79_2 n s1 b2 z3 z4 true else L79_2 n s1 b2 z3 z4 false)
def L79_2 : Nat → ByteArray → Bool → Int → Int → Bool → Option (Bool)
  | 0, _, _, _, _, _ => none
  | n + 1, s1, b2, z3, z4, b5 =>
    (if b5 = true then atF s1 z4 fun z6 => (if z6 < (48 : Int) then L79_3 n s1 b2 z3 z4 true else atF s1 z4 fun z7 => (if (57 : Int) < z7 then L79_3 n s1 b2 z3 z4 true else L79_3 n s1 b2 z3 z4 false)) else (if s1 = ByteArray.empty then some false else letB (!b2) fun b10 => (if b10 = true then some true else atF s1 (0 : Int) fun z11 => (if z11 = (48 : Int) then some false else some true))))
def L79_3 : Nat → ByteArray → Bool → Int → Int → Bool → Option (Bool)
  | 0, _, _, _, _, _ => none
  | n + 1, s1, b2, z3, z4, b8 =>
    (if b8 = true then some false else letF (IntKind.wrap .i64 (z4 + 1)) fun z9 => L79_1 n s1 b2 z3 z9)
end
def F79 (n : Nat) (s1 : ByteArray) (b2 : Bool) : Option (Bool) :=
  szF s1 fun z3 => L79_1 n s1 b2 z3 (0 : Int)
set_option maxRecDepth 100000 in
set_option maxHeartbeats 40000000 in
theorem T79 (n : Nat) : ∀ ⦃s1 : ByteArray⦄ ⦃b2 : Bool⦄ ⦃r1 : Bool⦄, F79 n s1 b2 = some r1 →
    Trip Tryd.prog inv 79 [.d (.str s1), .d (.bool b2)] [] (.v (.d (.bool r1))) [] [] := by
  intro s1 b2 r1 h
  unfold F79 at h
  refine Trip.of tab_ok tab_one fol Tryd.func79 rfl (by kernel_rfl) rfl rfl rfl (fun M hM hI => ?_)
  try cbv
  refine seq_go ?_
  try cbv
  refine seq_go ?_
  try cbv
  refine seq_go ?_
  try cbv
  replace h := szF_inv M h
  obtain ⟨z3, hz, h⟩ := h
  refine ⟨z3, hz, ?_⟩
  clear hz
  try cbv
  refine loop_inv (T := Nat × Int) [0, 1, 4, 7, 8] [] 128 (fun t => ⟨[(0, .v (.d (.str s1))), (1, .v (.d (.bool b2))), (4, .v (.d (.bool false))), (7, .v (.d (.int .i64 z3))), (8, .v (.d (.int .i64 t.2)))], [], 128⟩)
    (fun t => t.1 ≤ n ∧ L79_1 t.1 s1 b2 z3 t.2 = some r1) (fun t => t.1) (n, (0 : Int)) ⟨Nat.le_refl _, h⟩ (by cbv) ?_
  clear h
  rintro ⟨m1, z4⟩ ⟨hm1, h⟩
  replace hm1 : m1 ≤ n := hm1
  cases m1 with
  | zero =>
    replace h : L79_1 0 s1 b2 z3 z4 = some r1 := h
    rw [L79_1] at h
    cases h
  | succ m1 =>
    replace h : L79_1 (m1 + 1) s1 b2 z3 z4 = some r1 := h
    rw [L79_1] at h
    try cbv
    refine seq_join (T := Nat × Bool) (fun t => ⟨[(0, .v (.d (.str s1))), (1, .v (.d (.bool b2))), (4, .v (.d (.bool false))), (7, .v (.d (.int .i64 z3))), (8, .v (.d (.int .i64 z4))), (9, .v (.d (.bool t.2)))], [], 160⟩) (fun t => t.1 ≤ m1 ∧ L79_2 t.1 s1 b2 z3 z4 t.2 = some r1) ?_ ?_
    · try cbv
      refine splitL (fun e => ?_) (fun e => ?_)
      · replace h := ite_t e h
        clear e
        try cbv
        exact join_next (m1, true) [0, 1, 4, 7, 8, 9] [] 160 ⟨by omega, h⟩ (by cbv)
      · replace h := ite_f (Int.not_lt.2 e) h
        clear e
        try cbv
        exact join_next (m1, false) [0, 1, 4, 7, 8, 9] [] 160 ⟨by omega, h⟩ (by cbv)
    · clear h
      rintro ⟨m2, b5⟩ ⟨hm2, h⟩
      replace hm2 : m2 ≤ m1 := hm2
      cases m2 with
      | zero =>
        replace h : L79_2 0 s1 b2 z3 z4 b5 = some r1 := h
        rw [L79_2] at h
        cases h
      | succ m2 =>
        replace h : L79_2 (m2 + 1) s1 b2 z3 z4 b5 = some r1 := h
        rw [L79_2] at h
        try cbv
        refine seq_go ?_
        try cbv
        cases b5
        · replace h := ite_f Bool.false_ne_true h
          try cbv
          refine seq_go ?_
          try cbv
          refine splitS (fun e => ?_) (fun e => ?_)
          · replace h := ite_t (bytes_eq.1 e) h
            clear e
            try cbv
            obtain rfl := Option.some.inj h
            refine fin_go ?_
            try cbv
            exact ⟨[], rfl, rfl, trivial, trivial, trivial⟩
          · replace h := ite_f (bytes_ne.1 e) h
            clear e
            try cbv
            replace h := letB_inv h
            obtain ⟨b10, hz, h⟩ := h
            refine ⟨b10, not_eq' hz, ?_⟩
            clear hz
            try cbv
            cases b10
            · replace h := ite_f Bool.false_ne_true h
              try cbv
              replace h := atF_inv h
              obtain ⟨z11, hz, h⟩ := h
              refine ⟨z11, hz, ?_⟩
              clear hz
              try cbv
              refine splitI (fun e => ?_) (fun e => ?_)
              · replace h := ite_t e h
                clear e
                try cbv
                obtain rfl := Option.some.inj h
                refine fin_go ?_
                try cbv
                exact ⟨[], rfl, rfl, trivial, trivial, trivial⟩
              · replace h := ite_f e h
                clear e
                try cbv
                obtain rfl := Option.some.inj h
                refine fin_go ?_
                try cbv
                exact ⟨[], rfl, rfl, trivial, trivial, trivial⟩
            · replace h := ite_t rfl h
              try cbv
              obtain rfl := Option.some.inj h
              refine fin_go ?_
              try cbv
              exact ⟨[], rfl, rfl, trivial, trivial, trivial⟩
        · replace h := ite_t rfl h
          try cbv
          refine seq_go ?_
          try cbv
          refine seq_go ?_
          try cbv
          refine seq_join (T := Nat × Bool) (fun t => ⟨[(0, .v (.d (.str s1))), (1, .v (.d (.bool b2))), (4, .v (.d (.bool false))), (7, .v (.d (.int .i64 z3))), (8, .v (.d (.int .i64 z4))), (20, .v (.d (.bool t.2)))], [], 544⟩) (fun t => t.1 ≤ m2 ∧ L79_3 t.1 s1 b2 z3 z4 t.2 = some r1) ?_ ?_
          · try cbv
            replace h := atF_inv h
            obtain ⟨z6, hz, h⟩ := h
            refine ⟨z6, hz, ?_⟩
            clear hz
            try cbv
            refine splitL (fun e => ?_) (fun e => ?_)
            · replace h := ite_t e h
              clear e
              try cbv
              exact join_next (m2, true) [0, 1, 4, 7, 8, 20] [] 544 ⟨by omega, h⟩ (by cbv)
            · replace h := ite_f (Int.not_lt.2 e) h
              clear e
              try cbv
              replace h := atF_inv h
              obtain ⟨z7, hz, h⟩ := h
              refine ⟨z7, hz, ?_⟩
              clear hz
              try cbv
              refine splitL (fun e => ?_) (fun e => ?_)
              · replace h := ite_t e h
                clear e
                try cbv
                exact join_next (m2, true) [0, 1, 4, 7, 8, 20] [] 544 ⟨by omega, h⟩ (by cbv)
              · replace h := ite_f (Int.not_lt.2 e) h
                clear e
                try cbv
                exact join_next (m2, false) [0, 1, 4, 7, 8, 20] [] 544 ⟨by omega, h⟩ (by cbv)
          · clear h
            rintro ⟨m3, b8⟩ ⟨hm3, h⟩
            replace hm3 : m3 ≤ m2 := hm3
            cases m3 with
            | zero =>
              replace h : L79_3 0 s1 b2 z3 z4 b8 = some r1 := h
              rw [L79_3] at h
              cases h
            | succ m3 =>
              replace h : L79_3 (m3 + 1) s1 b2 z3 z4 b8 = some r1 := h
              rw [L79_3] at h
              try cbv
              cases b8
              · replace h := ite_f Bool.false_ne_true h
                try cbv
                replace h := letF_inv h
                obtain ⟨z9, hz, h⟩ := h
                refine ⟨z9, hz, ?_⟩
                clear hz
                try cbv
                exact loop_next (m3, z9) [0, 1, 4, 7, 8] [] 128 ⟨by omega, h⟩ (Nat.lt_succ_of_le (by omega)) (by cbv)
              · replace h := ite_t rfl h
                try cbv
                refine seq_go ?_
                try cbv
                obtain rfl := Option.some.inj h
                refine fin_go ?_
                try cbv
                exact ⟨[], rfl, rfl, trivial, trivial, trivial⟩
end Go.Proofs.YtjmofeakajdbiaaDoor
end

set_option linter.unusedVariables false
noncomputable section
namespace Go.Proofs.YtjmofeakajdbiaaDoor
open Go Go.AM
def F80 (n : Nat) (b1 : Bool) (z2 : Int) (b3 : Bool) (z4 : Int) : Option (Bool × Int × Bool) :=
  bO2 (F86 n z2 z4) fun z5 z6 => letB (!(b1 == b3)) fun b7 => (if b7 = true then (if (0 : Int) < z6 then (if z5 = (0 : Int) then some (true, z6, true) else some (true, z6, false)) else (if z5 = (0 : Int) then some (false, z6, true) else some (false, z6, false))) else (if z5 = (0 : Int) then some (false, z6, true) else some (false, z6, false)))
set_option maxRecDepth 100000 in
set_option maxHeartbeats 40000000 in
theorem T80 (n : Nat) : ∀ ⦃b1 : Bool⦄ ⦃z2 : Int⦄ ⦃b3 : Bool⦄ ⦃z4 : Int⦄ ⦃r1 : Bool⦄ ⦃r2 : Int⦄ ⦃r3 : Bool⦄, F80 n b1 z2 b3 z4 = some (r1, r2, r3) →
    Trip Tryd.prog inv 80 [.d (.agg [.bool b1, .int .u64 z2]), .d (.agg [.bool b3, .int .u64 z4])] [] (.t [.d (.agg [.bool r1, .int .u64 r2]), .d (.bool r3)]) [] [] := by
  intro b1 z2 b3 z4 r1 r2 r3 h
  unfold F80 at h
  refine Trip.of tab_ok tab_one fol Tryd.func80 rfl (by kernel_rfl) rfl rfl rfl (fun M hM hI => ?_)
  try cbv
  refine seq_go ?_
  try cbv
  refine seq_go ?_
  try cbv
  replace h := bO2_inv h
  obtain ⟨z5, z6, hr, h⟩ := h
  refine call_go rfl rfl ?_
  try cbv
  refine call_pure hM hI (T86 _ hr) rfl ?_
  clear hr
  try cbv
  refine seq_go ?_
  try cbv
  replace h := letB_inv h
  obtain ⟨b7, hz, h⟩ := h
  refine ⟨b7, eqv_ne hz, ?_⟩
  clear hz
  try cbv
  cases b7
  · replace h := ite_f Bool.false_ne_true h
    try cbv
    refine splitI (fun e => ?_) (fun e => ?_)
    · replace h := ite_t e h
      clear e
      try cbv
      obtain ⟨rfl, rfl, rfl⟩ := inj3 h
      refine fin_go ?_
      try cbv
      exact ⟨[], rfl, rfl, trivial, trivial, trivial⟩
    · replace h := ite_f e h
      clear e
      try cbv
      obtain ⟨rfl, rfl, rfl⟩ := inj3 h
      refine fin_go ?_
      try cbv
      exact ⟨[], rfl, rfl, trivial, trivial, trivial⟩
  · replace h := ite_t rfl h
    try cbv
    refine splitL (fun e => ?_) (fun e => ?_)
    · replace h := ite_t e h
      clear e
      try cbv
      refine splitI (fun e => ?_) (fun e => ?_)
      · replace h := ite_t e h
        clear e
        try cbv
        obtain ⟨rfl, rfl, rfl⟩ := inj3 h
        refine fin_go ?_
        try cbv
        exact ⟨[], rfl, rfl, trivial, trivial, trivial⟩
      · replace h := ite_f e h
        clear e
        try cbv
        obtain ⟨rfl, rfl, rfl⟩ := inj3 h
        refine fin_go ?_
        try cbv
        exact ⟨[], rfl, rfl, trivial, trivial, trivial⟩
    · replace h := ite_f (Int.not_lt.2 e) h
      clear e
      try cbv
      refine splitI (fun e => ?_) (fun e => ?_)
      · replace h := ite_t e h
        clear e
        try cbv
        obtain ⟨rfl, rfl, rfl⟩ := inj3 h
        refine fin_go ?_
        try cbv
        exact ⟨[], rfl, rfl, trivial, trivial, trivial⟩
      · replace h := ite_f e h
        clear e
        try cbv
        obtain ⟨rfl, rfl, rfl⟩ := inj3 h
        refine fin_go ?_
        try cbv
        exact ⟨[], rfl, rfl, trivial, trivial, trivial⟩
end Go.Proofs.YtjmofeakajdbiaaDoor
end

set_option linter.unusedVariables false
noncomputable section
namespace Go.Proofs.YtjmofeakajdbiaaDoor
open Go Go.AM
def L81_2 : Nat → Bool → Int → Bool → Int → Option (Bool × Int × Bool)
  | 0, _, _, _, _ => none
  | n + 1, b9, z10, b11, z12 =>
    (if b9 = true then (if z12 < z10 then letF (IntKind.wrap .u64 (z10 - z12)) fun z13 => some (true, z13, true) else letF (IntKind.wrap .u64 (z10 - z12)) fun z14 => some (false, z14, true)) else letF (IntKind.wrap .u64 (z10 - z12)) fun z15 => some (false, z15, true))
def L81_1 : Nat → Bool → Int → Bool → Int → Bool → Option (Bool × Int × Bool)
  | 0, _, _, _, _, _ => none
  | n + 1, b1, z2, b3, z4, b8 =>
    (if b8 = true then L81_2 n b3 z4 b1 z2 else L81_2 n b1 z2 b3 z4)
def F81 (n : Nat) (b1 : Bool) (z2 : Int) (b3 : Bool) (z4 : Int) : Option (Bool × Int × Bool) :=
  letB (b1 == b3) fun b5 => (if b5 = true then addF z2 z4 (0 : Int) fun z6 z7 => (if z7 = (0 : Int) then some (b1, z6, true) else some (b1, z6, false)) else (if z2 < z4 then L81_1 n b1 z2 b3 z4 true else L81_1 n b1 z2 b3 z4 false))
set_option maxRecDepth 100000 in
set_option maxHeartbeats 40000000 in
theorem T81 (n : Nat) : ∀ ⦃b1 : Bool⦄ ⦃z2 : Int⦄ ⦃b3 : Bool⦄ ⦃z4 : Int⦄ ⦃r1 : Bool⦄ ⦃r2 : Int⦄ ⦃r3 : Bool⦄, F81 n b1 z2 b3 z4 = some (r1, r2, r3) →
    Trip Tryd.prog inv 81 [.d (.agg [.bool b1, .int .u64 z2]), .d (.agg [.bool b3, .int .u64 z4])] [] (.t [.d (.agg [.bool r1, .int .u64 r2]), .d (.bool r3)]) [] [] := by
  intro b1 z2 b3 z4 r1 r2 r3 h
  unfold F81 at h
  refine Trip.of tab_ok tab_one fol Tryd.func81 rfl (by kernel_rfl) rfl rfl rfl (fun M hM hI => ?_)
  try cbv
  refine seq_go ?_
  try cbv
  refine seq_go ?_
  try cbv
  refine seq_go ?_
  try cbv
  replace h := letB_inv h
  obtain ⟨b5, hz, h⟩ := h
  refine ⟨b5, eqv_eq hz, ?_⟩
  clear hz
  try cbv
  cases b5
  · replace h := ite_f Bool.false_ne_true h
    try cbv
    refine seq_join (T := Nat × Bool × Int × Bool × Int) (fun t => ⟨[(2, .v (.c (.ptr (.loc 0) 0))), (3, .v (.c (.ptr (.loc 32) 0))), (4, .v (.c (.ptr (.loc 64) 0))), (5, .v (.d (.bool false)))], [(.loc 0, .cells [.d (.bool t.2.1), .d (.int .u64 t.2.2.1)]), (.loc 32, .cells [.d (.bool t.2.2.2.1), .d (.int .u64 t.2.2.2.2)]), (.loc 64, .cells [.d (.bool false), .d (.int .u64 0)])], 576⟩) (fun t => t.1 ≤ n ∧ L81_2 t.1 t.2.1 t.2.2.1 t.2.2.2.1 t.2.2.2.2 = some (r1, r2, r3)) ?_ ?_
    · try cbv
      refine seq_join (T := Nat × Bool) (fun t => ⟨[(2, .v (.c (.ptr (.loc 0) 0))), (3, .v (.c (.ptr (.loc 32) 0))), (4, .v (.c (.ptr (.loc 64) 0))), (5, .v (.d (.bool false))), (31, .v (.d (.bool t.2)))], [(.loc 0, .cells [.d (.bool b1), .d (.int .u64 z2)]), (.loc 32, .cells [.d (.bool b3), .d (.int .u64 z4)]), (.loc 64, .cells [.d (.bool false), .d (.int .u64 0)])], 448⟩) (fun t => t.1 ≤ n ∧ L81_1 t.1 b1 z2 b3 z4 t.2 = some (r1, r2, r3)) ?_ ?_
      · try cbv
        refine splitL (fun e => ?_) (fun e => ?_)
        · replace h := ite_t e h
          clear e
          try cbv
          exact join_next (n, true) [2, 3, 4, 5, 31] [.loc 0, .loc 32, .loc 64] 448 ⟨by omega, h⟩ (by cbv)
        · replace h := ite_f (Int.not_lt.2 e) h
          clear e
          try cbv
          exact join_next (n, false) [2, 3, 4, 5, 31] [.loc 0, .loc 32, .loc 64] 448 ⟨by omega, h⟩ (by cbv)
      · clear h
        rintro ⟨m1, b8⟩ ⟨hm1, h⟩
        replace hm1 : m1 ≤ n := hm1
        cases m1 with
        | zero =>
          replace h : L81_1 0 b1 z2 b3 z4 b8 = some (r1, r2, r3) := h
          rw [L81_1] at h
          cases h
        | succ m1 =>
          replace h : L81_1 (m1 + 1) b1 z2 b3 z4 b8 = some (r1, r2, r3) := h
          rw [L81_1] at h
          try cbv
          cases b8
          · replace h := ite_f Bool.false_ne_true h
            try cbv
            exact join_next (m1, (b1, z2, b3, z4)) [2, 3, 4, 5] [.loc 0, .loc 32, .loc 64] 576 ⟨by omega, h⟩ (by cbv)
          · replace h := ite_t rfl h
            try cbv
            exact join_next (m1, (b3, z4, b1, z2)) [2, 3, 4, 5] [.loc 0, .loc 32, .loc 64] 576 ⟨by omega, h⟩ (by cbv)
    · clear h
      rintro ⟨m2, b9, z10, b11, z12⟩ ⟨hm2, h⟩
      replace hm2 : m2 ≤ n := hm2
      cases m2 with
      | zero =>
        replace h : L81_2 0 b9 z10 b11 z12 = some (r1, r2, r3) := h
        rw [L81_2] at h
        cases h
      | succ m2 =>
        replace h : L81_2 (m2 + 1) b9 z10 b11 z12 = some (r1, r2, r3) := h
        rw [L81_2] at h
        try cbv
        refine seq_go ?_
        try cbv
        cases b9
        · replace h := ite_f Bool.false_ne_true h
          try cbv
          replace h := letF_inv h
          obtain ⟨z15, hz, h⟩ := h
          refine ⟨z15, hz, ?_⟩
          clear hz
          try cbv
          obtain ⟨rfl, rfl, rfl⟩ := inj3 h
          refine fin_go ?_
          try cbv
          exact ⟨[], rfl, rfl, trivial, trivial, trivial⟩
        · replace h := ite_t rfl h
          try cbv
          refine splitL (fun e => ?_) (fun e => ?_)
          · replace h := ite_t e h
            clear e
            try cbv
            replace h := letF_inv h
            obtain ⟨z13, hz, h⟩ := h
            refine ⟨z13, hz, ?_⟩
            clear hz
            try cbv
            obtain ⟨rfl, rfl, rfl⟩ := inj3 h
            refine fin_go ?_
            try cbv
            exact ⟨[], rfl, rfl, trivial, trivial, trivial⟩
          · replace h := ite_f (Int.not_lt.2 e) h
            clear e
            try cbv
            replace h := letF_inv h
            obtain ⟨z14, hz, h⟩ := h
            refine ⟨z14, hz, ?_⟩
            clear hz
            try cbv
            obtain ⟨rfl, rfl, rfl⟩ := inj3 h
            refine fin_go ?_
            try cbv
            exact ⟨[], rfl, rfl, trivial, trivial, trivial⟩
  · replace h := ite_t rfl h
    try cbv
    refine seq_go ?_
    try cbv
    replace h := addF_inv h
    obtain ⟨z6, z7, hb, hz, hu, h⟩ := h
    refine call_add64 rfl rfl rfl rfl (by rw [hM]; exact ext87) hb hz hu ?_
    clear hb hz hu
    try cbv
    refine seq_go ?_
    try cbv
    refine splitI (fun e => ?_) (fun e => ?_)
    · replace h := ite_t e h
      clear e
      try cbv
      obtain ⟨rfl, rfl, rfl⟩ := inj3 h
      refine fin_go ?_
      try cbv
      exact ⟨[], rfl, rfl, trivial, trivial, trivial⟩
    · replace h := ite_f e h
      clear e
      try cbv
      obtain ⟨rfl, rfl, rfl⟩ := inj3 h
      refine fin_go ?_
      try cbv
      exact ⟨[], rfl, rfl, trivial, trivial, trivial⟩
end Go.Proofs.YtjmofeakajdbiaaDoor
end

set_option linter.unusedVariables false
noncomputable section
namespace Go.Proofs.YtjmofeakajdbiaaDoor
open Go Go.AM
def L82_1 : Nat → Bool → Int → Bool → Option (Int × Int)
  | 0, _, _, _ => none
  | n + 1, b1, z2, b6 =>
    (if b6 = true then some ((0 : Int), (10 : Int)) else (if b1 = true then letF (IntKind.wrap .u64 (z2 - 1)) fun z7 => letF (IntKind.wrap .i64 z7) fun z8 => letF (IntKind.wrap .i64 (0 - z8)) fun z9 => letF (IntKind.wrap .i64 (z9 - 1)) fun z10 => some (z10, (0 : Int)) else letF (IntKind.wrap .i64 z2) fun z11 => some (z11, (0 : Int))))
def F82 (n : Nat) (b1 : Bool) (z2 : Int) (b3 : Bool) : Option (Int × Int) :=
  letB (!b3) fun b4 => (if b4 = true then L82_1 n b1 z2 true else (if (9223372036854775808 : Int) < z2 then L82_1 n b1 z2 true else (if z2 = (9223372036854775808 : Int) then letB (!b1) fun b5 => L82_1 n b1 z2 b5 else L82_1 n b1 z2 false)))
set_option maxRecDepth 100000 in
set_option maxHeartbeats 40000000 in
theorem T82 (n : Nat) : ∀ ⦃b1 : Bool⦄ ⦃z2 : Int⦄ ⦃b3 : Bool⦄ ⦃r1 : Int⦄ ⦃r2 : Int⦄, F82 n b1 z2 b3 = some (r1, r2) →
    Trip Tryd.prog inv 82 [.d (.agg [.bool b1, .int .u64 z2]), .d (.bool b3)] [] (.t [.d (.int .i64 r1), .d (.int .i64 r2)]) [] [] := by
  intro b1 z2 b3 r1 r2 h
  unfold F82 at h
  refine Trip.of tab_ok tab_one fol Tryd.func82 rfl (by kernel_rfl) rfl rfl rfl (fun M hM hI => ?_)
  try cbv
  refine seq_go ?_
  try cbv
  refine seq_go ?_
  try cbv
  refine seq_join (T := Nat × Bool) (fun t => ⟨[(2, .v (.c (.ptr (.loc 0) 0))), (4, .v (.d (.int .i64 0))), (5, .v (.d (.int .i64 0))), (6, .v (.d (.bool t.2)))], [(.loc 0, .cells [.d (.bool b1), .d (.int .u64 z2)])], 672⟩) (fun t => t.1 ≤ n ∧ L82_1 t.1 b1 z2 t.2 = some (r1, r2)) ?_ ?_
  · try cbv
    replace h := letB_inv h
    obtain ⟨b4, hz, h⟩ := h
    refine ⟨b4, not_eq' hz, ?_⟩
    clear hz
    try cbv
    cases b4
    · replace h := ite_f Bool.false_ne_true h
      try cbv
      refine splitL (fun e => ?_) (fun e => ?_)
      · replace h := ite_t e h
        clear e
        try cbv
        exact join_next (n, true) [2, 4, 5, 6] [.loc 0] 672 ⟨by omega, h⟩ (by cbv)
      · replace h := ite_f (Int.not_lt.2 e) h
        clear e
        try cbv
        refine splitI (fun e => ?_) (fun e => ?_)
        · replace h := ite_t e h
          clear e
          try cbv
          replace h := letB_inv h
          obtain ⟨b5, hz, h⟩ := h
          refine ⟨b5, not_eq' hz, ?_⟩
          clear hz
          try cbv
          exact join_next (n, b5) [2, 4, 5, 6] [.loc 0] 672 ⟨by omega, h⟩ (by cbv)
        · replace h := ite_f e h
          clear e
          try cbv
          exact join_next (n, false) [2, 4, 5, 6] [.loc 0] 672 ⟨by omega, h⟩ (by cbv)
    · replace h := ite_t rfl h
      try cbv
      exact join_next (n, true) [2, 4, 5, 6] [.loc 0] 672 ⟨by omega, h⟩ (by cbv)
  · clear h
    rintro ⟨m1, b6⟩ ⟨hm1, h⟩
    replace hm1 : m1 ≤ n := hm1
    cases m1 with
    | zero =>
      replace h : L82_1 0 b1 z2 b6 = some (r1, r2) := h
      rw [L82_1] at h
      cases h
    | succ m1 =>
      replace h : L82_1 (m1 + 1) b1 z2 b6 = some (r1, r2) := h
      rw [L82_1] at h
      try cbv
      cases b6
      · replace h := ite_f Bool.false_ne_true h
        try cbv
        refine seq_go ?_
        try cbv
        cases b1
        · replace h := ite_f Bool.false_ne_true h
          try cbv
          refine seq_go ?_
          try cbv
          replace h := letF_inv h
          obtain ⟨z11, hz, h⟩ := h
          refine ⟨z11, hz, ?_⟩
          clear hz
          try cbv
          obtain ⟨rfl, rfl⟩ := inj2 h
          refine fin_go ?_
          try cbv
          exact ⟨[], rfl, rfl, trivial, trivial, trivial⟩
        · replace h := ite_t rfl h
          try cbv
          refine seq_go ?_
          try cbv
          replace h := letF_inv h
          obtain ⟨z7, hz, h⟩ := h
          refine ⟨z7, hz, ?_⟩
          clear hz
          try cbv
          replace h := letF_inv h
          obtain ⟨z8, hz, h⟩ := h
          refine ⟨z8, hz, ?_⟩
          clear hz
          try cbv
          replace h := letF_inv h
          obtain ⟨z9, hz, h⟩ := h
          refine ⟨z9, hz, ?_⟩
          clear hz
          try cbv
          replace h := letF_inv h
          obtain ⟨z10, hz, h⟩ := h
          refine ⟨z10, hz, ?_⟩
          clear hz
          try cbv
          obtain ⟨rfl, rfl⟩ := inj2 h
          refine fin_go ?_
          try cbv
          exact ⟨[], rfl, rfl, trivial, trivial, trivial⟩
      · replace h := ite_t rfl h
        try cbv
        refine seq_go ?_
        try cbv
        obtain ⟨rfl, rfl⟩ := inj2 h
        refine fin_go ?_
        try cbv
        exact ⟨[], rfl, rfl, trivial, trivial, trivial⟩
end Go.Proofs.YtjmofeakajdbiaaDoor
end

set_option linter.unusedVariables false
noncomputable section
namespace Go.Proofs.YtjmofeakajdbiaaDoor
open Go Go.AM
mutual
def L68_3 : Nat → ByteArray → Bool → Bool → Int → Bool → Int → Option (Int × Int)
  | 0, _, _, _, _, _, _ => none
  | n + 1, s6, b7, b10, z11, b12, z13 =>
    szF s6 fun z14 => (if z11 < z14 then L68_4 n s6 b7 b10 z11 b12 z13 b10 else L68_4 n s6 b7 b10 z11 b12 z13 false)
def L68_4 : Nat → ByteArray → Bool → Bool → Int → Bool → Int → Bool → Option (Int × Int)
  | 0, _, _, _, _, _, _, _ => none
  | n + 1, s6, b7, b10, z11, b12, z13, b15 =>
    (if b15 = true then bO3 (F80 n b12 z13 false (10 : Int)) fun b16 z17 b18 => (if b18 = true then atF s6 z11 fun z19 => letF (IntKind.wrap .u8 (z19 - 48)) fun z20 => letF (IntKind.wrap .u64 z20) fun z21 => bO3 (F81 n b16 z17 false z21) fun b22 z23 b24 => L68_5 n s6 b7 z11 b24 b22 z23 else L68_5 n s6 b7 z11 false b16 z17) else bO2 (F82 n b7 z13 b10) fun z29 z30 => some (z29, z30))
def L68_5 : Nat → ByteArray → Bool → Int → Bool → Bool → Int → Option (Int × Int)
  | 0, _, _, _, _, _, _ => none
  | n + 1, s6, b7, z11, b25, b26, z27 =>
    letF (IntKind.wrap .i64 (z11 + 1)) fun z28 => L68_3 n s6 b7 b25 z28 b26 z27
end
def L68_2 : Nat → ByteArray → Bool → Option (Int × Int)
  | 0, _, _ => none
  | n + 1, s6, b7 =>
    bO1 (F79 n s6 b7) fun b8 => letB (!b8) fun b9 => (if b9 = true then some ((0 : Int), (2 : Int)) else L68_3 n s6 b7 true (0 : Int) false (0 : Int))
def L68_1 : Nat → ByteArray → Bool → Option (Int × Int)
  | 0, _, _ => none
  | n + 1, s1, b4 =>
    (if b4 = true then subToF s1 (1 : Int) fun s5 => L68_2 n s5 true else L68_2 n s1 false)
def F68 (n : Nat) (s1 : ByteArray) : Option (Int × Int) :=
  szF s1 fun z2 => (if (0 : Int) < z2 then atF s1 (0 : Int) fun z3 => (if z3 = (45 : Int) then L68_1 n s1 true else L68_1 n s1 false) else L68_1 n s1 false)
set_option maxRecDepth 100000 in
set_option maxHeartbeats 40000000 in
theorem T68 (n : Nat) : ∀ ⦃s1 : ByteArray⦄ ⦃r1 : Int⦄ ⦃r2 : Int⦄, F68 n s1 = some (r1, r2) →
    Trip Tryd.prog inv 68 [.d (.str s1)] [] (.t [.d (.int .i64 r1), .d (.int .i64 r2)]) [] [] := by
  intro s1 r1 r2 h
  unfold F68 at h
  refine Trip.of tab_ok tab_one fol Tryd.func68 rfl (by kernel_rfl) rfl rfl rfl (fun M hM hI => ?_)
  try cbv
  refine seq_go ?_
  try cbv
  refine seq_join (T := Nat × Bool) (fun t => ⟨[(0, .v (.d (.str s1))), (2, .v (.d (.int .i64 0))), (3, .v (.d (.int .i64 0))), (4, .v (.d (.bool t.2)))], [], 352⟩) (fun t => t.1 ≤ n ∧ L68_1 t.1 s1 t.2 = some (r1, r2)) ?_ ?_
  · try cbv
    replace h := szF_inv M h
    obtain ⟨z2, hz, h⟩ := h
    refine ⟨z2, hz, ?_⟩
    clear hz
    try cbv
    refine splitL (fun e => ?_) (fun e => ?_)
    · replace h := ite_t e h
      clear e
      try cbv
      replace h := atF_inv h
      obtain ⟨z3, hz, h⟩ := h
      refine ⟨z3, hz, ?_⟩
      clear hz
      try cbv
      refine splitI (fun e => ?_) (fun e => ?_)
      · replace h := ite_t e h
        clear e
        try cbv
        exact join_next (n, true) [0, 2, 3, 4] [] 352 ⟨by omega, h⟩ (by cbv)
      · replace h := ite_f e h
        clear e
        try cbv
        exact join_next (n, false) [0, 2, 3, 4] [] 352 ⟨by omega, h⟩ (by cbv)
    · replace h := ite_f (Int.not_lt.2 e) h
      clear e
      try cbv
      exact join_next (n, false) [0, 2, 3, 4] [] 352 ⟨by omega, h⟩ (by cbv)
  · clear h
    rintro ⟨m1, b4⟩ ⟨hm1, h⟩
    replace hm1 : m1 ≤ n := hm1
    cases m1 with
    | zero =>
      replace h : L68_1 0 s1 b4 = some (r1, r2) := h
      rw [L68_1] at h
      cases h
    | succ m1 =>
      replace h : L68_1 (m1 + 1) s1 b4 = some (r1, r2) := h
      rw [L68_1] at h
      try cbv
      refine seq_join (T := Nat × ByteArray × Bool) (fun t => ⟨[(0, .v (.d (.str t.2.1))), (2, .v (.d (.int .i64 0))), (3, .v (.d (.int .i64 0))), (4, .v (.d (.bool t.2.2)))], [], 480⟩) (fun t => t.1 ≤ m1 ∧ L68_2 t.1 t.2.1 t.2.2 = some (r1, r2)) ?_ ?_
      · try cbv
        refine seq_go ?_
        try cbv
        cases b4
        · replace h := ite_f Bool.false_ne_true h
          try cbv
          exact join_next (m1, (s1, false)) [0, 2, 3, 4] [] 480 ⟨by omega, h⟩ (by cbv)
        · replace h := ite_t rfl h
          try cbv
          replace h := subToF_inv M h
          obtain ⟨s5, hb, hz, h⟩ := h
          refine ⟨s5, hb, hz, ?_⟩
          clear hb hz
          try cbv
          exact join_next (m1, (s5, true)) [0, 2, 3, 4] [] 480 ⟨by omega, h⟩ (by cbv)
      · clear h
        rintro ⟨m2, s6, b7⟩ ⟨hm2, h⟩
        replace hm2 : m2 ≤ m1 := hm2
        cases m2 with
        | zero =>
          replace h : L68_2 0 s6 b7 = some (r1, r2) := h
          rw [L68_2] at h
          cases h
        | succ m2 =>
          replace h : L68_2 (m2 + 1) s6 b7 = some (r1, r2) := h
          rw [L68_2] at h
          try cbv
          refine seq_go ?_
          try cbv
          refine seq_go ?_
          try cbv
          replace h := bO1_inv h
          obtain ⟨b8, hr, h⟩ := h
          refine call_go rfl rfl ?_
          try cbv
          refine call_pure hM hI (T79 _ hr) rfl ?_
          clear hr
          try cbv
          replace h := letB_inv h
          obtain ⟨b9, hz, h⟩ := h
          refine ⟨b9, not_eq' hz, ?_⟩
          clear hz
          try cbv
          cases b9
          · replace h := ite_f Bool.false_ne_true h
            try cbv
            refine seq_go ?_
            try cbv
            refine seq_go ?_
            try cbv
            refine seq_go ?_
            try cbv
            refine loop_inv (T := Nat × Bool × Int × Bool × Int) [0, 2, 3, 4, 5, 6, 7] [.loc 640] 768 (fun t => ⟨[(0, .v (.d (.str s6))), (2, .v (.d (.int .i64 0))), (3, .v (.d (.int .i64 0))), (4, .v (.d (.bool b7))), (5, .v (.c (.ptr (.loc 640) 0))), (6, .v (.d (.bool t.2.1))), (7, .v (.d (.int .i64 t.2.2.1)))], [(.loc 640, .cells [.d (.bool t.2.2.2.1), .d (.int .u64 t.2.2.2.2)])], 768⟩)
              (fun t => t.1 ≤ m2 ∧ L68_3 t.1 s6 b7 t.2.1 t.2.2.1 t.2.2.2.1 t.2.2.2.2 = some (r1, r2)) (fun t => t.1) (m2, (true, (0 : Int), false, (0 : Int))) ⟨Nat.le_refl _, h⟩ (by cbv) ?_
            clear h
            rintro ⟨m3, b10, z11, b12, z13⟩ ⟨hm3, h⟩
            replace hm3 : m3 ≤ m2 := hm3
            cases m3 with
            | zero =>
              replace h : L68_3 0 s6 b7 b10 z11 b12 z13 = some (r1, r2) := h
              rw [L68_3] at h
              cases h
            | succ m3 =>
              replace h : L68_3 (m3 + 1) s6 b7 b10 z11 b12 z13 = some (r1, r2) := h
              rw [L68_3] at h
              try cbv
              refine seq_go ?_
              try cbv
              refine seq_join (T := Nat × Bool) (fun t => ⟨[(0, .v (.d (.str s6))), (2, .v (.d (.int .i64 0))), (3, .v (.d (.int .i64 0))), (4, .v (.d (.bool b7))), (5, .v (.c (.ptr (.loc 640) 0))), (6, .v (.d (.bool b10))), (7, .v (.d (.int .i64 z11))), (30, .v (.d (.bool t.2)))], [(.loc 640, .cells [.d (.bool b12), .d (.int .u64 z13)])], 992⟩) (fun t => t.1 ≤ m3 ∧ L68_4 t.1 s6 b7 b10 z11 b12 z13 t.2 = some (r1, r2)) ?_ ?_
              · try cbv
                replace h := szF_inv M h
                obtain ⟨z14, hz, h⟩ := h
                refine ⟨z14, hz, ?_⟩
                clear hz
                try cbv
                refine splitL (fun e => ?_) (fun e => ?_)
                · replace h := ite_t e h
                  clear e
                  try cbv
                  exact join_next (m3, b10) [0, 2, 3, 4, 5, 6, 7, 30] [.loc 640] 992 ⟨by omega, h⟩ (by cbv)
                · replace h := ite_f (Int.not_lt.2 e) h
                  clear e
                  try cbv
                  exact join_next (m3, false) [0, 2, 3, 4, 5, 6, 7, 30] [.loc 640] 992 ⟨by omega, h⟩ (by cbv)
              · clear h
                rintro ⟨m4, b15⟩ ⟨hm4, h⟩
                replace hm4 : m4 ≤ m3 := hm4
                cases m4 with
                | zero =>
                  replace h : L68_4 0 s6 b7 b10 z11 b12 z13 b15 = some (r1, r2) := h
                  rw [L68_4] at h
                  cases h
                | succ m4 =>
                  replace h : L68_4 (m4 + 1) s6 b7 b10 z11 b12 z13 b15 = some (r1, r2) := h
                  rw [L68_4] at h
                  try cbv
                  cases b15
                  · replace h := ite_f Bool.false_ne_true h
                    try cbv
                    refine seq_go ?_
                    try cbv
                    refine seq_go ?_
                    try cbv
                    replace h := bO2_inv h
                    obtain ⟨z29, z30, hr, h⟩ := h
                    refine call_go rfl rfl ?_
                    try cbv
                    refine call_pure hM hI (T82 _ hr) rfl ?_
                    clear hr
                    try cbv
                    obtain ⟨rfl, rfl⟩ := inj2 h
                    refine fin_go ?_
                    try cbv
                    exact ⟨[], rfl, rfl, trivial, trivial, trivial⟩
                  · replace h := ite_t rfl h
                    try cbv
                    refine seq_join (T := Nat × Bool × Bool × Int) (fun t => ⟨[(0, .v (.d (.str s6))), (2, .v (.d (.int .i64 0))), (3, .v (.d (.int .i64 0))), (4, .v (.d (.bool b7))), (5, .v (.c (.ptr (.loc 640) 0))), (6, .v (.d (.bool t.2.1))), (7, .v (.d (.int .i64 z11)))], [(.loc 640, .cells [.d (.bool t.2.2.1), .d (.int .u64 t.2.2.2)])], 1696⟩) (fun t => t.1 ≤ m4 ∧ L68_5 t.1 s6 b7 z11 t.2.1 t.2.2.1 t.2.2.2 = some (r1, r2)) ?_ ?_
                    · try cbv
                      refine seq_go ?_
                      try cbv
                      replace h := bO3_inv h
                      obtain ⟨b16, z17, b18, hr, h⟩ := h
                      refine call_go rfl rfl ?_
                      try cbv
                      refine call_pure hM hI (T80 _ hr) rfl ?_
                      clear hr
                      try cbv
                      refine seq_go ?_
                      try cbv
                      cases b18
                      · replace h := ite_f Bool.false_ne_true h
                        try cbv
                        exact join_next (m4, (false, b16, z17)) [0, 2, 3, 4, 5, 6, 7] [.loc 640] 1696 ⟨by omega, h⟩ (by cbv)
                      · replace h := ite_t rfl h
                        try cbv
                        replace h := atF_inv h
                        obtain ⟨z19, hz, h⟩ := h
                        refine ⟨z19, hz, ?_⟩
                        clear hz
                        try cbv
                        replace h := letF_inv h
                        obtain ⟨z20, hz, h⟩ := h
                        refine ⟨z20, hz, ?_⟩
                        clear hz
                        try cbv
                        replace h := letF_inv h
                        obtain ⟨z21, hz, h⟩ := h
                        refine ⟨z21, hz, ?_⟩
                        clear hz
                        try cbv
                        replace h := bO3_inv h
                        obtain ⟨b22, z23, b24, hr, h⟩ := h
                        first | refine .inr (.inl ⟨[], ?_⟩) | refine .inl ⟨[], ?_⟩
                        try cbv
                        refine call_pure hM hI (T81 _ hr) rfl ?_
                        clear hr
                        try cbv
                        refine drawn ?_ ?_
                        · show _ = true
                          kernel_rfl
                        try cbv
                        exact join_next (m4, (b24, b22, z23)) [0, 2, 3, 4, 5, 6, 7] [.loc 640] 1696 ⟨by omega, h⟩ (by cbv)
                    · clear h
                      rintro ⟨m5, b25, b26, z27⟩ ⟨hm5, h⟩
                      replace hm5 : m5 ≤ m4 := hm5
                      cases m5 with
                      | zero =>
                        replace h : L68_5 0 s6 b7 z11 b25 b26 z27 = some (r1, r2) := h
                        rw [L68_5] at h
                        cases h
                      | succ m5 =>
                        replace h : L68_5 (m5 + 1) s6 b7 z11 b25 b26 z27 = some (r1, r2) := h
                        rw [L68_5] at h
                        try cbv
                        replace h := letF_inv h
                        obtain ⟨z28, hz, h⟩ := h
                        refine ⟨z28, hz, ?_⟩
                        clear hz
                        try cbv
                        exact loop_next (m5, (b25, z28, b26, z27)) [0, 2, 3, 4, 5, 6, 7] [.loc 640] 768 ⟨by omega, h⟩ (Nat.lt_succ_of_le (by omega)) (by cbv)
          · replace h := ite_t rfl h
            try cbv
            refine seq_go ?_
            try cbv
            obtain ⟨rfl, rfl⟩ := inj2 h
            refine fin_go ?_
            try cbv
            exact ⟨[], rfl, rfl, trivial, trivial, trivial⟩
end Go.Proofs.YtjmofeakajdbiaaDoor
end

set_option linter.unusedVariables false
noncomputable section
namespace Go.Proofs.YtjmofeakajdbiaaDoor
open Go Go.AM
def L69_3 : Nat → Bool → Option (Int)
  | 0, _ => none
  | n + 1, b10 =>
    (if b10 = true then some (1 : Int) else some (0 : Int))
mutual
def L69_1 : Nat → ByteArray → Int → Option (Int)
  | 0, _, _ => none
  | n + 1, s1, z2 =>
    (if z2 < (3 : Int) then L69_2 n s1 z2 true else L69_2 n s1 z2 false)
def L69_2 : Nat → ByteArray → Int → Bool → Option (Int)
  | 0, _, _, _ => none
  | n + 1, s1, z2, b3 =>
    (if b3 = true then getF ([.str k___, .str k____1, .str k____2]) z2 fun x4 => ds_str x4 fun s5 => bO1 (F65 n s1 s5) fun b6 => (if b6 = true then some (2 : Int) else letF (IntKind.wrap .i64 (z2 + 1)) fun z7 => L69_1 n s1 z7) else atF s1 (0 : Int) fun z8 => bO1 (F64 n k__________________ z8) fun z9 => (if (0 : Int) ≤ z9 then L69_3 n true else L69_3 n false))
end
def F69 (n : Nat) (s1 : ByteArray) : Option (Int) :=
  L69_1 n s1 (0 : Int)
set_option maxRecDepth 100000 in
set_option maxHeartbeats 40000000 in
theorem T69 (n : Nat) : ∀ ⦃s1 : ByteArray⦄ ⦃r1 : Int⦄, F69 n s1 = some r1 →
    Trip Tryd.prog inv 69 [.d (.str s1)] [] (.v (.d (.int .i64 r1))) [] [] := by
  intro s1 r1 h
  unfold F69 at h
  refine Trip.of tab_ok tab_one fol Tryd.func69 rfl (by kernel_rfl) rfl rfl rfl (fun M hM hI => ?_)
  try cbv
  refine seq_go ?_
  try cbv
  refine seq_go ?_
  try cbv
  refine seq_go ?_
  try cbv
  refine ⟨false, ?_⟩
  try cbv
  refine ⟨true, ?_⟩
  try cbv
  refine ⟨3, (M.lenI_eq _).trans rfl, ?_⟩
  try cbv
  refine loop_inv (T := Nat × Int) [0, 2, 5, 6, 7] [] 128 (fun t => ⟨[(0, .v (.d (.str s1))), (2, .v (.d (.int .i64 0))), (5, .v (.c (.tl false 1 ([.str k___, .str k____1, .str k____2])))), (6, .v (.d (.int .i64 3))), (7, .v (.d (.int .i64 t.2)))], [], 128⟩)
    (fun t => t.1 ≤ n ∧ L69_1 t.1 s1 t.2 = some r1) (fun t => t.1) (n, (0 : Int)) ⟨Nat.le_refl _, h⟩ (by cbv) ?_
  clear h
  rintro ⟨m1, z2⟩ ⟨hm1, h⟩
  replace hm1 : m1 ≤ n := hm1
  cases m1 with
  | zero =>
    replace h : L69_1 0 s1 z2 = some r1 := h
    rw [L69_1] at h
    cases h
  | succ m1 =>
    replace h : L69_1 (m1 + 1) s1 z2 = some r1 := h
    rw [L69_1] at h
    try cbv
    refine seq_join (T := Nat × Bool) (fun t => ⟨[(0, .v (.d (.str s1))), (2, .v (.d (.int .i64 0))), (5, .v (.c (.tl false 1 ([.str k___, .str k____1, .str k____2])))), (6, .v (.d (.int .i64 3))), (7, .v (.d (.int .i64 z2))), (8, .v (.d (.bool t.2)))], [], 160⟩) (fun t => t.1 ≤ m1 ∧ L69_2 t.1 s1 z2 t.2 = some r1) ?_ ?_
    · try cbv
      refine splitL (fun e => ?_) (fun e => ?_)
      · replace h := ite_t e h
        clear e
        try cbv
        exact join_next (m1, true) [0, 2, 5, 6, 7, 8] [] 160 ⟨by omega, h⟩ (by cbv)
      · replace h := ite_f (Int.not_lt.2 e) h
        clear e
        try cbv
        exact join_next (m1, false) [0, 2, 5, 6, 7, 8] [] 160 ⟨by omega, h⟩ (by cbv)
    · clear h
      rintro ⟨m2, b3⟩ ⟨hm2, h⟩
      replace hm2 : m2 ≤ m1 := hm2
      cases m2 with
      | zero =>
        replace h : L69_2 0 s1 z2 b3 = some r1 := h
        rw [L69_2] at h
        cases h
      | succ m2 =>
        replace h : L69_2 (m2 + 1) s1 z2 b3 = some r1 := h
        rw [L69_2] at h
        try cbv
        refine seq_go ?_
        try cbv
        cases b3
        · replace h := ite_f Bool.false_ne_true h
          try cbv
          refine seq_go ?_
          try cbv
          refine seq_join (T := Nat × Bool) (fun t => ⟨[(0, .v (.d (.str s1))), (2, .v (.d (.int .i64 0))), (5, .v (.c (.tl false 1 ([.str k___, .str k____1, .str k____2])))), (6, .v (.d (.int .i64 3))), (7, .v (.d (.int .i64 z2))), (18, .v (.d (.bool t.2)))], [], 288⟩) (fun t => t.1 ≤ m2 ∧ L69_3 t.1 t.2 = some r1) ?_ ?_
          · try cbv
            replace h := atF_inv h
            obtain ⟨z8, hz, h⟩ := h
            refine ⟨z8, hz, ?_⟩
            clear hz
            try cbv
            replace h := bO1_inv h
            obtain ⟨z9, hr, h⟩ := h
            refine call_go rfl rfl ?_
            try cbv
            refine call_pure hM hI (T64 _ hr) rfl ?_
            clear hr
            try cbv
            refine splitLe (fun e => ?_) (fun e => ?_)
            · replace h := ite_t e h
              clear e
              try cbv
              exact join_next (m2, true) [0, 2, 5, 6, 7, 18] [] 288 ⟨by omega, h⟩ (by cbv)
            · replace h := ite_f (Int.not_le.2 e) h
              clear e
              try cbv
              exact join_next (m2, false) [0, 2, 5, 6, 7, 18] [] 288 ⟨by omega, h⟩ (by cbv)
          · clear h
            rintro ⟨m3, b10⟩ ⟨hm3, h⟩
            replace hm3 : m3 ≤ m2 := hm3
            cases m3 with
            | zero =>
              replace h : L69_3 0 b10 = some r1 := h
              rw [L69_3] at h
              cases h
            | succ m3 =>
              replace h : L69_3 (m3 + 1) b10 = some r1 := h
              rw [L69_3] at h
              try cbv
              cases b10
              · replace h := ite_f Bool.false_ne_true h
                try cbv
                refine seq_go ?_
                try cbv
                obtain rfl := Option.some.inj h
                refine fin_go ?_
                try cbv
                exact ⟨[], rfl, rfl, trivial, trivial, trivial⟩
              · replace h := ite_t rfl h
                try cbv
                refine seq_go ?_
                try cbv
                obtain rfl := Option.some.inj h
                refine fin_go ?_
                try cbv
                exact ⟨[], rfl, rfl, trivial, trivial, trivial⟩
        · replace h := ite_t rfl h
          try cbv
          refine seq_go ?_
          try cbv
          refine seq_go ?_
          try cbv
          replace h := getF_inv h
          obtain ⟨x4, ⟨hx0, hx⟩, h⟩ := h
          refine ⟨x4, hx0, hx, ?_⟩
          clear hx0 hx
          replace h := ds_str_inv h
          obtain ⟨s5, rfl, h⟩ := h
          try cbv
          refine seq_go ?_
          try cbv
          replace h := bO1_inv h
          obtain ⟨b6, hr, h⟩ := h
          refine call_go rfl rfl ?_
          try cbv
          refine call_pure hM hI (T65 _ hr) rfl ?_
          clear hr
          try cbv
          cases b6
          · replace h := ite_f Bool.false_ne_true h
            try cbv
            replace h := letF_inv h
            obtain ⟨z7, hz, h⟩ := h
            refine ⟨z7, hz, ?_⟩
            clear hz
            try cbv
            exact loop_next (m2, z7) [0, 2, 5, 6, 7] [] 128 ⟨by omega, h⟩ (Nat.lt_succ_of_le (by omega)) (by cbv)
          · replace h := ite_t rfl h
            try cbv
            refine seq_go ?_
            try cbv
            obtain rfl := Option.some.inj h
            refine fin_go ?_
            try cbv
            exact ⟨[], rfl, rfl, trivial, trivial, trivial⟩
end Go.Proofs.YtjmofeakajdbiaaDoor
end

set_option linter.unusedVariables false
noncomputable section
namespace Go.Proofs.YtjmofeakajdbiaaDoor
open Go Go.AM
def L49_2 : Nat → ByteArray → Int → Option (Int × ByteArray)
  | 0, _, _ => none
  | n + 1, s7, z11 =>
    some (z11, s7)
def L49_3 : Nat → ByteArray → Bool → Option (Int × ByteArray)
  | 0, _, _ => none
  | n + 1, s14, b17 =>
    (if b17 = true then some ((0 : Int), ByteArray.empty) else some ((4 : Int), s14))
def L49_4 : Nat → ByteArray → Int → Bool → Option (Int × ByteArray)
  | 0, _, _, _ => none
  | n + 1, s1, z18, b19 =>
    (if b19 = true then subF s1 (0 : Int) z18 fun s20 => some ((5 : Int), s20) else some ((0 : Int), ByteArray.empty))
def L49_1 : Nat → ByteArray → Int → Bool → Option (Int × ByteArray)
  | 0, _, _, _ => none
  | n + 1, s1, z2, b5 =>
    (if b5 = true then bO1 (F51 n s1) fun z6 => subF s1 (0 : Int) z6 fun s7 => bO1 (F11 n s7) fun b8 => (if b8 = true then L49_2 n s7 (1 : Int) else bO1 (F13 n s7) fun b9 => (if b9 = true then L49_2 n s7 (2 : Int) else bO1 (F15 n s7) fun b10 => (if b10 = true then L49_2 n s7 (3 : Int) else L49_2 n s7 (0 : Int)))) else bO1 (F67 n z2) fun b12 => (if b12 = true then bO1 (F51x2 n s1) fun z13 => subF s1 (0 : Int) z13 fun s14 => bO2 (F68 n s14) fun z15 z16 => (if z16 = (0 : Int) then L49_3 n s14 false else L49_3 n s14 true) else bO1 (F69 n s1) fun z18 => (if (0 : Int) < z18 then L49_4 n s1 z18 true else L49_4 n s1 z18 false)))
def F49 (n : Nat) (s1 : ByteArray) : Option (Int × ByteArray) :=
  atF s1 (0 : Int) fun z2 => bO1 (F32 n z2) fun b3 => (if b3 = true then L49_1 n s1 z2 true else bO1 (F34 n z2) fun b4 => L49_1 n s1 z2 b4)
set_option maxRecDepth 100000 in
set_option maxHeartbeats 40000000 in
theorem T49 (n : Nat) : ∀ ⦃s1 : ByteArray⦄ ⦃r1 : Int⦄ ⦃r2 : ByteArray⦄, F49 n s1 = some (r1, r2) →
    Trip Tryd.prog inv 49 [.d (.str s1)] [] (.v (.d (.agg [.int .u8 r1, .str r2, .int .i64 0]))) [] [] := by
  intro s1 r1 r2 h
  unfold F49 at h
  refine Trip.of tab_ok tab_one fol Tryd.func49 rfl (by kernel_rfl) rfl rfl rfl (fun M hM hI => ?_)
  try cbv
  refine seq_go ?_
  try cbv
  refine seq_go ?_
  try cbv
  refine seq_go ?_
  try cbv
  replace h := atF_inv h
  obtain ⟨z2, hz, h⟩ := h
  refine ⟨z2, hz, ?_⟩
  clear hz
  try cbv
  refine seq_join (T := Nat × Bool) (fun t => ⟨[(0, .v (.d (.str s1))), (2, .v (.c (.ptr (.loc 0) 0))), (3, .v (.d (.int .u8 z2))), (11, .v (.d (.bool t.2)))], [(.loc 0, .cells [.d (.int .u8 0), .d (.str ByteArray.empty), .d (.int .i64 0)])], 352⟩) (fun t => t.1 ≤ n ∧ L49_1 t.1 s1 z2 t.2 = some (r1, r2)) ?_ ?_
  · try cbv
    replace h := bO1_inv h
    obtain ⟨b3, hr, h⟩ := h
    refine call_go rfl rfl ?_
    try cbv
    refine call_pure hM hI (T32 _ hr) rfl ?_
    clear hr
    try cbv
    cases b3
    · replace h := ite_f Bool.false_ne_true h
      try cbv
      replace h := bO1_inv h
      obtain ⟨b4, hr, h⟩ := h
      refine call_go rfl rfl ?_
      try cbv
      refine call_pure hM hI (T34 _ hr) rfl ?_
      clear hr
      try cbv
      exact join_next (n, b4) [0, 2, 3, 11] [.loc 0] 352 ⟨by omega, h⟩ (by cbv)
    · replace h := ite_t rfl h
      try cbv
      exact join_next (n, true) [0, 2, 3, 11] [.loc 0] 352 ⟨by omega, h⟩ (by cbv)
  · clear h
    rintro ⟨m1, b5⟩ ⟨hm1, h⟩
    replace hm1 : m1 ≤ n := hm1
    cases m1 with
    | zero =>
      replace h : L49_1 0 s1 z2 b5 = some (r1, r2) := h
      rw [L49_1] at h
      cases h
    | succ m1 =>
      replace h : L49_1 (m1 + 1) s1 z2 b5 = some (r1, r2) := h
      rw [L49_1] at h
      try cbv
      cases b5
      · replace h := ite_f Bool.false_ne_true h
        try cbv
        refine seq_go ?_
        try cbv
        replace h := bO1_inv h
        obtain ⟨b12, hr, h⟩ := h
        refine call_go rfl rfl ?_
        try cbv
        refine call_pure hM hI (T67 _ hr) rfl ?_
        clear hr
        try cbv
        cases b12
        · replace h := ite_f Bool.false_ne_true h
          try cbv
          refine seq_go ?_
          try cbv
          refine seq_go ?_
          try cbv
          replace h := bO1_inv h
          obtain ⟨z18, hr, h⟩ := h
          refine call_go rfl rfl ?_
          try cbv
          refine call_pure hM hI (T69 _ hr) rfl ?_
          clear hr
          try cbv
          refine seq_join (T := Nat × Bool) (fun t => ⟨[(0, .v (.d (.str s1))), (2, .v (.c (.ptr (.loc 0) 0))), (8, .v (.d (.int .i64 z18))), (60, .v (.d (.bool t.2)))], [(.loc 0, .cells [.d (.int .u8 0), .d (.str ByteArray.empty), .d (.int .i64 0)])], 608⟩) (fun t => t.1 ≤ m1 ∧ L49_4 t.1 s1 z18 t.2 = some (r1, r2)) ?_ ?_
          · try cbv
            refine splitL (fun e => ?_) (fun e => ?_)
            · replace h := ite_t e h
              clear e
              try cbv
              exact join_next (m1, true) [0, 2, 8, 60] [.loc 0] 608 ⟨by omega, h⟩ (by cbv)
            · replace h := ite_f (Int.not_lt.2 e) h
              clear e
              try cbv
              exact join_next (m1, false) [0, 2, 8, 60] [.loc 0] 608 ⟨by omega, h⟩ (by cbv)
          · clear h
            rintro ⟨m4, b19⟩ ⟨hm4, h⟩
            replace hm4 : m4 ≤ m1 := hm4
            cases m4 with
            | zero =>
              replace h : L49_4 0 s1 z18 b19 = some (r1, r2) := h
              rw [L49_4] at h
              cases h
            | succ m4 =>
              replace h : L49_4 (m4 + 1) s1 z18 b19 = some (r1, r2) := h
              rw [L49_4] at h
              try cbv
              cases b19
              · replace h := ite_f Bool.false_ne_true h
                try cbv
                refine seq_go ?_
                try cbv
                obtain ⟨rfl, rfl⟩ := inj2 h
                refine fin_go ?_
                try cbv
                exact ⟨[], rfl, rfl, trivial, trivial, trivial⟩
              · replace h := ite_t rfl h
                try cbv
                refine seq_go ?_
                try cbv
                replace h := subF_inv M h
                obtain ⟨s20, hb, hz, h⟩ := h
                refine ⟨s20, hb, hz, ?_⟩
                clear hb hz
                try cbv
                obtain ⟨rfl, rfl⟩ := inj2 h
                refine fin_go ?_
                try cbv
                exact ⟨[], rfl, rfl, trivial, trivial, trivial⟩
        · replace h := ite_t rfl h
          try cbv
          refine seq_go ?_
          try cbv
          replace h := bO1_inv h
          obtain ⟨z13, hr, h⟩ := h
          refine call_go rfl rfl ?_
          try cbv
          refine call_pure hM hI (T51x2 _ hr) rfl ?_
          clear hr
          try cbv
          replace h := subF_inv M h
          obtain ⟨s14, hb, hz, h⟩ := h
          refine ⟨s14, hb, hz, ?_⟩
          clear hb hz
          try cbv
          refine seq_go ?_
          try cbv
          refine seq_go ?_
          try cbv
          replace h := bO2_inv h
          obtain ⟨z15, z16, hr, h⟩ := h
          refine call_go rfl rfl ?_
          try cbv
          refine call_pure hM hI (T68 _ hr) rfl ?_
          clear hr
          try cbv
          refine seq_join (T := Nat × Bool) (fun t => ⟨[(0, .v (.d (.str s1))), (2, .v (.c (.ptr (.loc 0) 0))), (5, .v (.c (.ptr (.loc 608) 0))), (54, .v (.d (.bool t.2)))], [(.loc 0, .cells [.d (.int .u8 0), .d (.str ByteArray.empty), .d (.int .i64 0)]), (.loc 608, .cells [.d (.int .u8 4), .d (.str s14), .d (.int .i64 0)])], 992⟩) (fun t => t.1 ≤ m1 ∧ L49_3 t.1 s14 t.2 = some (r1, r2)) ?_ ?_
          · try cbv
            refine splitI (fun e => ?_) (fun e => ?_)
            · replace h := ite_t e h
              clear e
              try cbv
              exact join_next (m1, false) [0, 2, 5, 54] [.loc 0, .loc 608] 992 ⟨by omega, h⟩ (by cbv)
            · replace h := ite_f e h
              clear e
              try cbv
              exact join_next (m1, true) [0, 2, 5, 54] [.loc 0, .loc 608] 992 ⟨by omega, h⟩ (by cbv)
          · clear h
            rintro ⟨m3, b17⟩ ⟨hm3, h⟩
            replace hm3 : m3 ≤ m1 := hm3
            cases m3 with
            | zero =>
              replace h : L49_3 0 s14 b17 = some (r1, r2) := h
              rw [L49_3] at h
              cases h
            | succ m3 =>
              replace h : L49_3 (m3 + 1) s14 b17 = some (r1, r2) := h
              rw [L49_3] at h
              try cbv
              cases b17
              · replace h := ite_f Bool.false_ne_true h
                try cbv
                refine seq_go ?_
                try cbv
                obtain ⟨rfl, rfl⟩ := inj2 h
                refine fin_go ?_
                try cbv
                exact ⟨[], rfl, rfl, trivial, trivial, trivial⟩
              · replace h := ite_t rfl h
                try cbv
                refine seq_go ?_
                try cbv
                obtain ⟨rfl, rfl⟩ := inj2 h
                refine fin_go ?_
                try cbv
                exact ⟨[], rfl, rfl, trivial, trivial, trivial⟩
      · replace h := ite_t rfl h
        try cbv
        refine seq_go ?_
        try cbv
        replace h := bO1_inv h
        obtain ⟨z6, hr, h⟩ := h
        refine call_go rfl rfl ?_
        try cbv
        refine call_pure hM hI (T51 _ hr) rfl ?_
        clear hr
        try cbv
        replace h := subF_inv M h
        obtain ⟨s7, hb, hz, h⟩ := h
        refine ⟨s7, hb, hz, ?_⟩
        clear hb hz
        try cbv
        refine seq_join (T := Nat × Int) (fun t => ⟨[(0, .v (.d (.str s1))), (2, .v (.c (.ptr (.loc 0) 0))), (3, .v (.d (.int .u8 z2))), (4, .v (.c (.ptr (.loc 512) 0)))], [(.loc 0, .cells [.d (.int .u8 0), .d (.str ByteArray.empty), .d (.int .i64 0)]), (.loc 512, .cells [.d (.int .u8 t.2), .d (.str s7), .d (.int .i64 0)])], 1024⟩) (fun t => t.1 ≤ m1 ∧ L49_2 t.1 s7 t.2 = some (r1, r2)) ?_ ?_
        · try cbv
          refine seq_go ?_
          try cbv
          replace h := bO1_inv h
          obtain ⟨b8, hr, h⟩ := h
          refine call_go rfl rfl ?_
          try cbv
          refine call_pure hM hI (T11 _ hr) rfl ?_
          clear hr
          try cbv
          cases b8
          · replace h := ite_f Bool.false_ne_true h
            try cbv
            refine seq_go ?_
            try cbv
            replace h := bO1_inv h
            obtain ⟨b9, hr, h⟩ := h
            refine call_go rfl rfl ?_
            try cbv
            refine call_pure hM hI (T13 _ hr) rfl ?_
            clear hr
            try cbv
            cases b9
            · replace h := ite_f Bool.false_ne_true h
              try cbv
              refine seq_go ?_
              try cbv
              replace h := bO1_inv h
              obtain ⟨b10, hr, h⟩ := h
              refine call_go rfl rfl ?_
              try cbv
              refine call_pure hM hI (T15 _ hr) rfl ?_
              clear hr
              try cbv
              cases b10
              · replace h := ite_f Bool.false_ne_true h
                try cbv
                exact join_next (m1, (0 : Int)) [0, 2, 3, 4] [.loc 0, .loc 512] 1024 ⟨by omega, h⟩ (by cbv)
              · replace h := ite_t rfl h
                try cbv
                exact join_next (m1, (3 : Int)) [0, 2, 3, 4] [.loc 0, .loc 512] 1024 ⟨by omega, h⟩ (by cbv)
            · replace h := ite_t rfl h
              try cbv
              exact join_next (m1, (2 : Int)) [0, 2, 3, 4] [.loc 0, .loc 512] 1024 ⟨by omega, h⟩ (by cbv)
          · replace h := ite_t rfl h
            try cbv
            exact join_next (m1, (1 : Int)) [0, 2, 3, 4] [.loc 0, .loc 512] 1024 ⟨by omega, h⟩ (by cbv)
        · clear h
          rintro ⟨m2, z11⟩ ⟨hm2, h⟩
          replace hm2 : m2 ≤ m1 := hm2
          cases m2 with
          | zero =>
            replace h : L49_2 0 s7 z11 = some (r1, r2) := h
            rw [L49_2] at h
            cases h
          | succ m2 =>
            replace h : L49_2 (m2 + 1) s7 z11 = some (r1, r2) := h
            rw [L49_2] at h
            try cbv
            refine seq_go ?_
            try cbv
            obtain ⟨rfl, rfl⟩ := inj2 h
            refine fin_go ?_
            try cbv
            exact ⟨[], rfl, rfl, trivial, trivial, trivial⟩
end Go.Proofs.YtjmofeakajdbiaaDoor
end

set_option linter.unusedVariables false
noncomputable section
namespace Go.Proofs.YtjmofeakajdbiaaDoor
open Go Go.AM

theorem atF_0 {γ : Type} {s : ByteArray} {b : UInt8} {k : Int → Option γ} (h : (bl s)[0]? = some b) : atF s (0 : Int) k = k (b.toNat : Int) := atF_get (i := 0) h
def dig (b : UInt8) : Bool := inZ 48 57 (b.toNat : Int)
def letter (b : UInt8) : Bool := inZ 97 122 (b.toNat : Int) || inZ 65 90 (b.toNat : Int)
def dvalF (a : Nat) (l : List UInt8) : Nat := l.foldl (fun a b => a * 10 + (b.toNat - 48)) a
theorem dvalF_ge : ∀ (l : List UInt8) (a : Nat), a ≤ dvalF a l
  | [], a => Nat.le_refl _
  | b :: l, a => by
    have := dvalF_ge l (a * 10 + (b.toNat - 48))
    show a ≤ dvalF (a * 10 + (b.toNat - 48)) l
    omega
def numOK (l : List UInt8) : Bool := decide (dvalF 0 l < 9223372036854775808)

theorem evL51x2 {s : ByteArray} (hs : s.size ≤ maxLen) : ∀ (rest pre : List UInt8), pre ++ rest = bl s → Ev (fun n => L51x2_1 n s (pre.length : Int)) (((pre.length + (rest.takeWhile dig).length : Nat) : Int))
  | [], pre, h => by
    refine .succ (.succ (.of fun n => ?_))
    rw [L51x2_1, szF_eq, ← h, if_neg (by simp), L51x2_2, if_neg Bool.false_ne_true]
    simp
  | b :: rest, pre, h => by
    have hlt : pre.length < (bl s).length := by rw [← h]; simp
    have hb := pre_get h
    cases hp : dig b with
    | false =>
      refine .succ (.succ (.of fun n => ?_))
      rw [L51x2_1, szF_eq, if_pos (by omega), atF_get hb, f67]
      simp only [bO1]
      rw [show inZ 48 57 (b.toNat : Int) = false from hp, L51x2_2, if_neg Bool.false_ne_true]
      simp [hp]
    | true =>
      have ih := evL51x2 hs rest (pre ++ [b]) (by simpa using h)
      have e : (pre ++ [b]).length + (rest.takeWhile dig).length = pre.length + ((b :: rest).takeWhile dig).length := by
        simp [hp]; omega
      rw [e] at ih
      refine .succ (.succ (ih.congr fun n => ?_))
      rw [L51x2_1, szF_eq, if_pos (by omega), atF_get hb, f67]
      simp only [bO1]
      rw [show inZ 48 57 (b.toNat : Int) = true from hp, L51x2_2, if_pos rfl]
      simp only [letF]
      rw [wrap_succ (N := (bl s).length) hlt (by rw [← bl_len]; exact hs)]
      simp
theorem ev51x2 {s : ByteArray} (hs : s.size ≤ maxLen) : Ev (fun n => F51x2 n s) (((bl s).takeWhile dig).length : Int) := by
  have := evL51x2 hs (bl s) [] rfl
  unfold F51x2
  simpa using this

theorem dig_range {b : UInt8} (h : dig b = true) : 48 ≤ b.toNat ∧ b.toNat ≤ 57 := by
  unfold dig inZ at h
  simp at h
  omega
theorem evL79 {s : ByteArray} (hs : s.size ≤ maxLen) (hne : bl s ≠ []) : ∀ (rest pre : List UInt8), pre ++ rest = bl s → rest.all dig = true → Ev (fun n => L79_1 n s false ((bl s).length : Int) (pre.length : Int)) true
  | [], pre, h, _ => by
    refine .succ (.succ (.of fun n => ?_))
    have hl : pre.length = (bl s).length := by rw [← h]; simp
    rw [L79_1, if_neg (by omega), L79_2, if_neg Bool.false_ne_true, if_neg (fun e => hne (empty_iff.1 e))]
    simp [letB]
  | b :: rest, pre, h, ha => by
    have hlt : pre.length < (bl s).length := by rw [← h]; simp
    have hb := pre_get h
    simp only [List.all_cons, Bool.and_eq_true] at ha
    obtain ⟨h1, h2⟩ := dig_range ha.1
    have ih := evL79 hs hne rest (pre ++ [b]) (by simpa using h) ha.2
    refine .succ (.succ (.succ (ih.congr fun n => ?_)))
    rw [L79_1, if_pos (by omega), L79_2, if_pos rfl, atF_get hb, if_neg (by omega), atF_get hb, if_neg (by omega), L79_3, if_neg Bool.false_ne_true]
    simp only [letF]
    rw [wrap_succ (N := (bl s).length) hlt (by rw [← bl_len]; exact hs)]
    simp
theorem ev79 {s : ByteArray} (hs : s.size ≤ maxLen) (hne : bl s ≠ []) (ha : (bl s).all dig = true) : Ev (fun n => F79 n s false) true := by
  have := evL79 hs hne (bl s) [] rfl ha
  unfold F79
  refine this.congr fun n => ?_
  rw [szF_eq]; rfl

theorem f82_no (n : Nat) (z : Int) : F82 (n + 1) false z false = some (0, 10) := by
  unfold F82
  simp only [letB, Bool.not_false, if_true]
  rw [L82_1, if_pos rfl]
theorem f82_yes (n : Nat) (z : Nat) (hz : z < 18446744073709551616) : ∃ v, F82 (n + 1) false (z : Int) true = some (v, if z < 9223372036854775808 then 0 else 10) := by
  unfold F82
  simp only [letB, Bool.not_true, Bool.false_eq_true, if_false]
  by_cases h1 : z < 9223372036854775808
  · refine ⟨IntKind.wrap .i64 (z : Int), ?_⟩
    rw [if_neg (by omega), if_neg (by omega), L82_1, if_neg Bool.false_ne_true, if_neg Bool.false_ne_true, if_pos h1]
    simp only [letF]
  · refine ⟨0, ?_⟩
    rw [if_neg h1]
    by_cases h2 : z = 9223372036854775808
    · rw [if_neg (by omega), if_pos (by omega), Bool.not_false, L82_1, if_pos rfl]
    · rw [if_pos (by omega), L82_1, if_pos rfl]
theorem wrap_u8 {x : Int} (h : 0 ≤ x ∧ x < 256) : IntKind.u8.wrap x = x := by
  have := IntKind.wrap_u8 x
  rw [this]; omega
theorem wrap_u64 {x : Int} (h : 0 ≤ x ∧ x < 18446744073709551616) : IntKind.u64.wrap x = x := by
  rw [IntKind.wrap_u64]; omega
theorem evL68 {s : ByteArray} (hs : s.size ≤ maxLen) : ∀ (rest pre : List UInt8) (z : Nat), pre ++ rest = bl s → rest.all dig = true → z < 18446744073709551616 →
    ∃ v, Ev (fun n => L68_3 n s false true (pre.length : Int) false (z : Int)) (v, if dvalF z rest < 9223372036854775808 then 0 else 10)
  | [], pre, z, h, _, hz => by
    have hl : pre.length = (bl s).length := by rw [← h]; simp
    obtain ⟨v, hv⟩ := f82_yes 0 z hz
    refine ⟨v, .succ (.succ (.succ (.of fun n => ?_)))⟩
    obtain ⟨v', hv'⟩ := f82_yes n z hz
    have e : v' = v := by
      have : ∀ n, F82 (n + 1) false (z : Int) true = F82 1 false (z : Int) true := fun n => by
        unfold F82
        simp only [letB, Bool.not_true, Bool.false_eq_true, if_false]
        simp only [L82_1]
      rw [this, hv] at hv'
      cases hv'; rfl
    subst e
    rw [L68_3, szF_eq, if_neg (by omega), L68_4, if_neg Bool.false_ne_true, hv']
    rfl
  | b :: rest, pre, z, h, ha, hz => by
    have hlt : pre.length < (bl s).length := by rw [← h]; simp
    have hb := pre_get h
    simp only [List.all_cons, Bool.and_eq_true] at ha
    obtain ⟨h1, h2⟩ := dig_range ha.1
    have hN : (bl s).length ≤ maxLen := by rw [← bl_len]; exact hs
    have f80 : ∀ n, F80 n false (z : Int) false 10 = some (false, ((z * 10 % 18446744073709551616 : Nat) : Int), decide (z * 10 < 18446744073709551616)) := fun n => by
      unfold F80 F86
      rw [if_pos (by omega)]
      simp only [bO2, letB, beq_self_eq_true, Bool.not_true, Bool.false_eq_true, if_false]
      have e1 : (z : Int) * 10 % 18446744073709551616 = ((z * 10 % 18446744073709551616 : Nat) : Int) := by omega
      rw [e1]
      by_cases h : z * 10 < 18446744073709551616
      · rw [if_pos (by omega)]; simp [h]
      · rw [if_neg (by omega)]; simp [h]
    have tail : ∀ (y : Int), Ev (fun n => L68_3 n s false false ((pre.length + 1 : Nat) : Int) false y) (0, 10) := fun y => by
      refine .succ (.succ (.succ (.of fun n => ?_)))
      rw [L68_3, szF_eq]
      have e : ∀ c : Prop, ∀ [Decidable c], (if c then L68_4 (n + 2) s false false ((pre.length + 1 : Nat) : Int) false y false else L68_4 (n + 2) s false false ((pre.length + 1 : Nat) : Int) false y false) = L68_4 (n + 2) s false false ((pre.length + 1 : Nat) : Int) false y false := fun c _ => by split <;> rfl
      rw [e, L68_4, if_neg Bool.false_ne_true, f82_no]
      rfl
    have open2 : ∀ n, L68_3 (n + 2) s false true (pre.length : Int) false (z : Int) = bO3 (F80 n false (z : Int) false 10) fun b16 z17 b18 => (if b18 = true then letF (IntKind.wrap .u8 ((b.toNat : Int) - 48)) fun z20 => letF (IntKind.wrap .u64 z20) fun z21 => bO3 (F81 n b16 z17 false z21) fun b22 z23 b24 => L68_5 n s false (pre.length : Int) b24 b22 z23 else L68_5 n s false (pre.length : Int) false b16 z17) := fun n => by
      rw [L68_3, szF_eq, if_pos (by omega), L68_4, if_pos rfl]
      congr 1
      funext b16 z17 b18
      rw [atF_get hb]
    have open5 : ∀ n b24 b22 y, L68_5 (n + 1) s false (pre.length : Int) b24 b22 y = L68_3 n s false b24 ((pre.length + 1 : Nat) : Int) b22 y := fun n b24 b22 y => by
      rw [L68_5]
      simp only [letF]
      rw [wrap_succ (N := (bl s).length) hlt hN]
    by_cases hm : z * 10 < 18446744073709551616
    · have e1 : z * 10 % 18446744073709551616 = z * 10 := Nat.mod_eq_of_lt hm
      have f81 : ∀ n, F81 n false ((z * 10 : Nat) : Int) false ((b.toNat : Int) - 48) = some (false, (((z * 10 + (b.toNat - 48)) % 18446744073709551616 : Nat) : Int), decide (z * 10 + (b.toNat - 48) < 18446744073709551616)) := fun n => by
        unfold F81 addF
        simp only [letB, beq_self_eq_true, if_true]
        rw [if_pos (by omega)]
        have e2 : (((z * 10 : Nat) : Int) + ((b.toNat : Int) - 48) + 0) % 18446744073709551616 = (((z * 10 + (b.toNat - 48)) % 18446744073709551616 : Nat) : Int) := by omega
        rw [e2]
        by_cases h : z * 10 + (b.toNat - 48) < 18446744073709551616
        · rw [if_pos (by omega)]; simp [h]
        · rw [if_neg (by omega)]; simp [h]
      have step : ∀ n, L68_3 (n + 3) s false true (pre.length : Int) false (z : Int) = L68_3 n s false (decide (z * 10 + (b.toNat - 48) < 18446744073709551616)) ((pre.length + 1 : Nat) : Int) false (((z * 10 + (b.toNat - 48)) % 18446744073709551616 : Nat) : Int) := fun n => by
        rw [open2, f80, e1]
        simp only [bO3, decide_eq_true hm, if_true, letF]
        rw [wrap_u8 (by omega), wrap_u64 (by omega), f81]
        simp only []
        rw [open5]
      by_cases hc : z * 10 + (b.toNat - 48) < 18446744073709551616
      · obtain ⟨v, hv⟩ := evL68 hs rest (pre ++ [b]) (z * 10 + (b.toNat - 48)) (by simpa using h) ha.2 hc
        refine ⟨v, .succ (.succ (.succ (Ev.congr (r := (v, if dvalF z (b :: rest) < 9223372036854775808 then 0 else 10)) hv fun n => ?_)))⟩
        rw [step, decide_eq_true hc, Nat.mod_eq_of_lt hc]
        simp
      · have big : ¬ dvalF z (b :: rest) < 9223372036854775808 := by
          have := dvalF_ge rest (z * 10 + (b.toNat - 48))
          show ¬ dvalF (z * 10 + (b.toNat - 48)) rest < _
          omega
        refine ⟨0, .succ (.succ (.succ ?_))⟩
        rw [if_neg big]
        exact (tail _).congr fun n => by rw [step, decide_eq_false hc]
    · have big : ¬ dvalF z (b :: rest) < 9223372036854775808 := by
        have := dvalF_ge rest (z * 10 + (b.toNat - 48))
        show ¬ dvalF (z * 10 + (b.toNat - 48)) rest < _
        omega
      refine ⟨0, .succ (.succ (.succ ?_))⟩
      rw [if_neg big]
      exact (tail _).congr fun n => by
        rw [open2, f80]
        simp only [bO3, decide_eq_false hm, Bool.false_eq_true, if_false]
        rw [open5]
theorem ev68 {s : ByteArray} (hs : s.size ≤ maxLen) (hne : bl s ≠ []) (ha : (bl s).all dig = true) : ∃ v, Ev (fun n => F68 n s) (v, if numOK (bl s) = true then 0 else 10) := by
  obtain ⟨v, hv⟩ := evL68 hs (bl s) [] 0 rfl ha (by omega)
  obtain ⟨b, r, h⟩ := List.exists_cons_of_ne_nil hne
  have hb : (bl s)[0]? = some b := by rw [h]; rfl
  have hd : dig b = true := by rw [h] at ha; simp only [List.all_cons, Bool.and_eq_true] at ha; exact ha.1
  obtain ⟨h1, h2⟩ := dig_range hd
  refine ⟨v, .succ (.succ (Ev.congr (A := fun n => bO1 (F79 n s false) fun b8 => letB (!b8) fun b9 => (if b9 = true then some ((0 : Int), (2 : Int)) else L68_3 n s false true (0 : Int) false (0 : Int))) ?_ fun n => ?_))⟩
  · refine Ev.bO1 (ev79 hs hne ha) ?_
    simp only [letB, Bool.not_true, Bool.false_eq_true, if_false]
    have e : (if numOK (bl s) = true then (0 : Int) else 10) = if dvalF 0 (bl s) < 9223372036854775808 then 0 else 10 := by simp [numOK]
    rw [e]
    exact hv
  · unfold F68
    rw [szF_eq, if_pos (by rw [h]; simp), atF_0 hb, if_neg (by omega), L68_1, if_neg Bool.false_ne_true, L68_2]

def twoS (l : List UInt8) : Bool := Lib.hasPrefix l [61, 61] || Lib.hasPrefix l [61, 62] || Lib.hasPrefix l [45, 62]
def signsL : List UInt8 := [40, 41, 123, 125, 60, 62, 44, 59, 58, 61, 38, 42, 46, 43, 45, 47, 37]
def sgn (b : UInt8) : Bool := decide (b ∈ signsL)
theorem indexByte_mem : ∀ (l : List UInt8) (b : UInt8), decide ((0 : Int) ≤ Lib.indexByte l b) = decide (b ∈ l)
  | [], b => by simp [Lib.indexByte]
  | x :: l, b => by
    have ih := indexByte_mem l b
    have hg := Lib.indexByte_ge l b
    unfold Lib.indexByte
    by_cases h : x = b
    · subst h; simp
    · have h' : (x == b) = false := by simpa using h
      rw [h']
      simp only [Bool.false_eq_true, if_false, List.mem_cons, Ne.symm h, false_or]
      rw [← ih]
      split
      · rename_i h2
        have := eq_of_beq h2
        rw [this]
      · rename_i h2
        have h3 : Lib.indexByte l b ≠ -1 := by simpa using h2
        have e1 : (0 : Int) ≤ Lib.indexByte l b + 1 := by omega
        have e2 : (0 : Int) ≤ Lib.indexByte l b := by omega
        simp [e1, e2]
theorem ev69 {s : ByteArray} {b : UInt8} {r : List UInt8} (h : bl s = b :: r) : Ev (fun n => F69 n s) (if twoS (bl s) = true then 2 else if sgn b = true then 1 else 0) := by
  have hb : (bl s)[0]? = some b := by rw [h]; rfl
  refine .succ (.succ (.succ (.succ (.succ (.succ (.succ (.succ (.succ (.of fun n => ?_)))))))))
  have p1 : ∀ n, F65 n s k___ = some (Lib.hasPrefix (bl s) [61, 61]) := fun n => rfl
  have p2 : ∀ n, F65 n s k____1 = some (Lib.hasPrefix (bl s) [61, 62]) := fun n => rfl
  have p3 : ∀ n, F65 n s k____2 = some (Lib.hasPrefix (bl s) [45, 62]) := fun n => rfl
  have g0 : ([.str k___, .str k____1, .str k____2] : List D)[0]? = some (.str k___) := rfl
  have g1 : ([.str k___, .str k____1, .str k____2] : List D)[1]? = some (.str k____1) := rfl
  have g2 : ([.str k___, .str k____1, .str k____2] : List D)[2]? = some (.str k____2) := rfl
  have w0 : IntKind.wrap .i64 ((0 : Nat) + 1 : Int) = ((1 : Nat) : Int) := by decide
  have w1 : IntKind.wrap .i64 ((1 : Nat) + 1 : Int) = ((2 : Nat) : Int) := by decide
  have w2 : IntKind.wrap .i64 ((2 : Nat) + 1 : Int) = ((3 : Nat) : Int) := by decide
  have last : ∀ n, F64 n k__________________ (b.toNat : Int) = some (Lib.indexByte signsL b) := fun n => by
    have e : (b.toNat : Int).toNat.toUInt8 = b := by rw [Int.toNat_natCast]; exact UInt8.ofNat_toNat
    show some (Lib.indexByte (bl k__________________) ((b.toNat : Int).toNat.toUInt8)) = _
    rw [e]; rfl
  have z0 : (0 : Int) = ((0 : Nat) : Int) := rfl
  unfold F69 twoS
  rw [z0, L69_1, if_pos (by decide), L69_2, if_pos rfl, getF_nat g0]
  simp only [ds_str, p1, bO1, letF]
  cases q1 : Lib.hasPrefix (bl s) [61, 61] with
  | true => simp
  | false =>
    simp only [Bool.false_eq_true, if_false, Bool.false_or]
    rw [w0, L69_1, if_pos (by decide), L69_2, if_pos rfl, getF_nat g1]
    simp only [ds_str, p2, bO1, letF]
    cases q2 : Lib.hasPrefix (bl s) [61, 62] with
    | true => simp
    | false =>
      simp only [Bool.false_eq_true, if_false, Bool.false_or]
      rw [w1, L69_1, if_pos (by decide), L69_2, if_pos rfl, getF_nat g2]
      simp only [ds_str, p3, bO1, letF]
      cases q3 : Lib.hasPrefix (bl s) [45, 62] with
      | true => simp
      | false =>
        simp only [Bool.false_eq_true, if_false]
        rw [w2, L69_1, if_neg (by decide), L69_2, if_neg Bool.false_ne_true, atF_0 hb, last]
        simp only [bO1]
        have hm := indexByte_mem signsL b
        cases q4 : sgn b with
        | true =>
          have : (0 : Int) ≤ Lib.indexByte signsL b := by
            rw [show decide (b ∈ signsL) = true from q4] at hm; simpa using hm
          rw [if_pos this, L69_3]
          simp
        | false =>
          have : ¬ (0 : Int) ≤ Lib.indexByte signsL b := by
            rw [show decide (b ∈ signsL) = false from q4] at hm; simpa using hm
          rw [if_neg this, L69_3]
          simp

def kindW (t : List UInt8) : Int := if word (tx t) = true then 1 else if nm 97 122 (tx t) = true then 2 else if nm 65 90 (tx t) = true then 3 else 0
def oneL (l : List UInt8) : Int × List UInt8 :=
  match l with
  | [] => (0, [])
  | b :: r =>
    if letter b = true then (kindW (l.takeWhile pB), l.takeWhile pB)
    else if dig b = true then (if numOK (l.takeWhile dig) = true then (4, l.takeWhile dig) else (0, []))
    else if twoS l = true then (5, l.take 2) else if sgn b = true then (5, l.take 1) else (0, [])
theorem takeWhile_take {α : Type} (p : α → Bool) : ∀ l : List α, l.take (l.takeWhile p).length = l.takeWhile p
  | [] => rfl
  | x :: l => by
    cases h : p x
    · simp [h]
    · simp [h, takeWhile_take p l]
theorem takeWhile_le {α : Type} (p : α → Bool) (l : List α) : (l.takeWhile p).length ≤ l.length := (List.takeWhile_sublist p).length_le
theorem all_takeWhile {α : Type} (p : α → Bool) : ∀ l : List α, (l.takeWhile p).all p = true
  | [] => rfl
  | x :: l => by
    cases h : p x
    · simp [h]
    · simp [h, all_takeWhile p l]
theorem tx_nil : tx [] = ByteArray.empty := rfl
theorem ev49 {s : ByteArray} (hs : s.size ≤ maxLen) (hne : bl s ≠ []) : Ev (fun n => F49 n s) ((oneL (bl s)).1, tx (oneL (bl s)).2) := by
  obtain ⟨b, r, h⟩ := List.exists_cons_of_ne_nil hne
  have hb : (bl s)[0]? = some b := by rw [h]; rfl
  have hN : (bl s).length ≤ maxLen := by rw [← bl_len]; exact hs
  have z0 : (0 : Int) = ((0 : Nat) : Int) := rfl
  have szt : ∀ t : List UInt8, t.length ≤ (bl s).length → (tx t).size ≤ maxLen := fun t ht => by rw [bl_len, bl_tx]; omega
  have head : ∀ n, F49 n s = L49_1 n s (b.toNat : Int) (letter b) := fun n => by
    unfold F49
    rw [atF_0 hb, f32, f34]
    unfold letter
    cases inZ 97 122 (b.toNat : Int) <;> simp [bO1]
  have hone : oneL (bl s) = (if letter b = true then (kindW ((bl s).takeWhile pB), (bl s).takeWhile pB)
    else if dig b = true then (if numOK ((bl s).takeWhile dig) = true then (4, (bl s).takeWhile dig) else (0, []))
    else if twoS (bl s) = true then (5, (bl s).take 2) else if sgn b = true then (5, (bl s).take 1) else (0, [])) := by rw [h]; rfl
  rw [hone]
  cases hl : letter b with
  | true =>
    simp only [if_true]
    have ht := szt _ (takeWhile_le pB (bl s))
    refine .succ (Ev.congr (A := fun n => bO1 (F51 n s) fun z6 => subF s (0 : Int) z6 fun s7 => bO1 (F11 n s7) fun b8 => (if b8 = true then L49_2 n s7 (1 : Int) else bO1 (F13 n s7) fun b9 => (if b9 = true then L49_2 n s7 (2 : Int) else bO1 (F15 n s7) fun b10 => (if b10 = true then L49_2 n s7 (3 : Int) else L49_2 n s7 (0 : Int))))) ?_ fun n => by rw [head, hl, L49_1, if_pos rfl])
    refine Ev.bO1 (ev51 hs) (Ev.congr (A := fun n => bO1 (F11 n (tx ((bl s).takeWhile pB))) fun b8 => (if b8 = true then L49_2 n (tx ((bl s).takeWhile pB)) (1 : Int) else bO1 (F13 n (tx ((bl s).takeWhile pB))) fun b9 => (if b9 = true then L49_2 n (tx ((bl s).takeWhile pB)) (2 : Int) else bO1 (F15 n (tx ((bl s).takeWhile pB))) fun b10 => (if b10 = true then L49_2 n (tx ((bl s).takeWhile pB)) (3 : Int) else L49_2 n (tx ((bl s).takeWhile pB)) (0 : Int))))) ?_ fun n => ?_)
    · have l2 : ∀ k : Int, Ev (fun n => L49_2 n (tx ((bl s).takeWhile pB)) k) (k, tx ((bl s).takeWhile pB)) := fun k => .succ (.of fun n => by rw [L49_2])
      refine Ev.bO1 (ev11 _) ?_
      unfold kindW
      cases word (tx ((bl s).takeWhile pB)) with
      | true => simp only [if_true]; exact l2 1
      | false =>
        simp only [Bool.false_eq_true, if_false]
        refine Ev.bO1 (ev13 ht) ?_
        cases nm 97 122 (tx ((bl s).takeWhile pB)) with
        | true => simp only [if_true]; exact l2 2
        | false =>
          simp only [Bool.false_eq_true, if_false]
          refine Ev.bO1 (ev15 ht) ?_
          cases nm 65 90 (tx ((bl s).takeWhile pB)) with
          | true => simp only [if_true]; exact l2 3
          | false => simp only [Bool.false_eq_true, if_false]; exact l2 0
    · have := subF_eq (s := s) (i := 0) (j := ((bl s).takeWhile pB).length) (k := fun s7 => bO1 (F11 n s7) fun b8 => (if b8 = true then L49_2 n s7 (1 : Int) else bO1 (F13 n s7) fun b9 => (if b9 = true then L49_2 n s7 (2 : Int) else bO1 (F15 n s7) fun b10 => (if b10 = true then L49_2 n s7 (3 : Int) else L49_2 n s7 (0 : Int))))) (Nat.zero_le _) (takeWhile_le pB (bl s))
      rw [takeWhile_take] at this
      exact this.symm
  | false =>
    simp only [Bool.false_eq_true, if_false]
    cases hd : dig b with
    | true =>
      simp only [if_true]
      have ht := szt _ (takeWhile_le dig (bl s))
      have hne' : bl (tx ((bl s).takeWhile dig)) ≠ [] := by rw [bl_tx, h]; simp [hd]
      obtain ⟨v, hv⟩ := ev68 ht hne' (by rw [bl_tx]; exact all_takeWhile dig _)
      rw [bl_tx] at hv
      refine .succ (Ev.congr (A := fun n => bO1 (F51x2 n s) fun z13 => subF s (0 : Int) z13 fun s14 => bO2 (F68 n s14) fun z15 z16 => (if z16 = (0 : Int) then L49_3 n s14 false else L49_3 n s14 true)) ?_ fun n => ?_)
      · refine Ev.bO1 (ev51x2 hs) (Ev.congr (A := fun n => bO2 (F68 n (tx ((bl s).takeWhile dig))) fun z15 z16 => (if z16 = (0 : Int) then L49_3 n (tx ((bl s).takeWhile dig)) false else L49_3 n (tx ((bl s).takeWhile dig)) true)) ?_ fun n => ?_)
        · refine Ev.bO2 hv ?_
          cases numOK ((bl s).takeWhile dig) with
          | true => simp only [if_true]; exact .succ (.of fun n => by rw [L49_3, if_neg Bool.false_ne_true])
          | false => simp only [Bool.false_eq_true, if_false]; exact .succ (.of fun n => by rw [if_neg (by decide), L49_3, if_pos rfl, tx_nil])
        · have := subF_eq (s := s) (i := 0) (j := ((bl s).takeWhile dig).length) (k := fun s14 => bO2 (F68 n s14) fun z15 z16 => (if z16 = (0 : Int) then L49_3 n s14 false else L49_3 n s14 true)) (Nat.zero_le _) (takeWhile_le dig (bl s))
          rw [takeWhile_take] at this
          exact this.symm
      · rw [head, hl, L49_1, if_neg Bool.false_ne_true, f67, show inZ 48 57 (b.toNat : Int) = true from hd]
        simp [bO1]
    | false =>
      simp only [Bool.false_eq_true, if_false]
      refine .succ (Ev.congr (A := fun n => bO1 (F69 n s) fun z18 => (if (0 : Int) < z18 then L49_4 n s z18 true else L49_4 n s z18 false)) ?_ fun n => ?_)
      · refine Ev.bO1 (ev69 h) ?_
        cases ht : twoS (bl s) with
        | true =>
          simp only [if_true]
          have h2 : 2 ≤ (bl s).length := by
            unfold twoS at ht
            rw [h] at ht ⊢
            match r, ht with
            | [], ht => simp [hasPrefix_two] at ht
            | c :: r, _ => simp
          refine .succ (.of fun n => ?_)
          have := subF_eq (s := s) (i := 0) (j := 2) (k := fun s20 => some ((5 : Int), s20)) (by omega) h2
          rw [if_pos (by decide), L49_4, if_pos rfl]
          exact this
        | false =>
          simp only [Bool.false_eq_true, if_false]
          cases hg : sgn b with
          | true =>
            simp only [if_true]
            refine .succ (.of fun n => ?_)
            have := subF_eq (s := s) (i := 0) (j := 1) (k := fun s20 => some ((5 : Int), s20)) (by omega) (by rw [h]; simp)
            rw [if_pos (by decide), L49_4, if_pos rfl]
            exact this
          | false =>
            simp only [Bool.false_eq_true, if_false]
            refine .succ (.of fun n => ?_)
            rw [if_neg (by decide), L49_4, if_neg Bool.false_ne_true, tx_nil]
      · rw [head, hl, L49_1, if_neg Bool.false_ne_true, f67, show inZ 48 57 (b.toNat : Int) = false from hd]
        simp [bO1]
end Go.Proofs.YtjmofeakajdbiaaDoor

set_option linter.unusedVariables false
noncomputable section
namespace Go.Proofs.YtjmofeakajdbiaaDoor
open Go Go.AM
def L84_1 : Nat → Int → Bool → Option (Int)
  | 0, _, _ => none
  | n + 1, z1, b2 =>
    (if b2 = true then letF (IntKind.wrap .i64 (0 - z1)) fun z3 => some z3 else some z1)
def F84 (n : Nat) (z1 : Int) : Option (Int) :=
  (if (0 : Int) < z1 then L84_1 n z1 true else L84_1 n z1 false)
set_option maxRecDepth 100000 in
set_option maxHeartbeats 40000000 in
theorem T84 (n : Nat) : ∀ ⦃z1 : Int⦄ ⦃r1 : Int⦄, F84 n z1 = some r1 →
    Trip Tryd.prog inv 84 [.d (.int .i64 z1)] [] (.v (.d (.int .i64 r1))) [] [] := by
  intro z1 r1 h
  unfold F84 at h
  refine Trip.of tab_ok tab_one fol Tryd.func84 rfl (by kernel_rfl) rfl rfl rfl (fun M hM hI => ?_)
  try cbv
  refine seq_go ?_
  try cbv
  refine seq_go ?_
  try cbv
  refine seq_join (T := Nat × Bool) (fun t => ⟨[(0, .v (.d (.int .i64 z1))), (2, .v (.d (.int .i64 0))), (4, .v (.d (.bool t.2)))], [], 96⟩) (fun t => t.1 ≤ n ∧ L84_1 t.1 z1 t.2 = some r1) ?_ ?_
  · try cbv
    refine splitL (fun e => ?_) (fun e => ?_)
    · replace h := ite_t e h
      clear e
      try cbv
      exact join_next (n, true) [0, 2, 4] [] 96 ⟨by omega, h⟩ (by cbv)
    · replace h := ite_f (Int.not_lt.2 e) h
      clear e
      try cbv
      exact join_next (n, false) [0, 2, 4] [] 96 ⟨by omega, h⟩ (by cbv)
  · clear h
    rintro ⟨m1, b2⟩ ⟨hm1, h⟩
    replace hm1 : m1 ≤ n := hm1
    cases m1 with
    | zero =>
      replace h : L84_1 0 z1 b2 = some r1 := h
      rw [L84_1] at h
      cases h
    | succ m1 =>
      replace h : L84_1 (m1 + 1) z1 b2 = some r1 := h
      rw [L84_1] at h
      try cbv
      cases b2
      · replace h := ite_f Bool.false_ne_true h
        try cbv
        refine seq_go ?_
        try cbv
        obtain rfl := Option.some.inj h
        refine fin_go ?_
        try cbv
        exact ⟨[], rfl, rfl, trivial, trivial, trivial⟩
      · replace h := ite_t rfl h
        try cbv
        refine seq_go ?_
        try cbv
        replace h := letF_inv h
        obtain ⟨z3, hz, h⟩ := h
        refine ⟨z3, hz, ?_⟩
        clear hz
        try cbv
        obtain rfl := Option.some.inj h
        refine fin_go ?_
        try cbv
        exact ⟨[], rfl, rfl, trivial, trivial, trivial⟩
end Go.Proofs.YtjmofeakajdbiaaDoor
end

set_option linter.unusedVariables false
noncomputable section
namespace Go.Proofs.YtjmofeakajdbiaaDoor
open Go Go.AM
def L74_4 : Nat → Bool → Option (Int × Int)
  | 0, _ => none
  | n + 1, b8 =>
    (if b8 = true then some ((0 : Int), (10 : Int)) else some ((-9223372036854775808 : Int), (0 : Int)))
def L74_5 : Nat → Int → Int → Bool → Option (Int × Int)
  | 0, _, _, _ => none
  | n + 1, z4, z5, b11 =>
    (if b11 = true then some ((0 : Int), (10 : Int)) else letF (IntKind.wrap .i64 (0 - z5)) fun z12 => letF (IntKind.wrap .i64 (z4 * z12)) fun z13 => some (z13, (0 : Int)))
def L74_3 : Nat → Int → Int → Bool → Option (Int × Int)
  | 0, _, _, _ => none
  | n + 1, z4, z5, b7 =>
    (if b7 = true then (if z4 = (-1 : Int) then L74_4 n false else L74_4 n true) else letF (IntKind.wrap .i64 (0 - z5)) fun z9 => needF ((z9 : Int) ≠ 0) (letF (IntKind.wrap .i64 (Int.tdiv (-9223372036854775808) z9)) fun z10 => (if z4 < z10 then L74_5 n z4 z5 true else L74_5 n z4 z5 false)))
def L74_6 : Nat → Int → Int → Bool → Option (Int × Int)
  | 0, _, _, _ => none
  | n + 1, z4, z5, b15 =>
    (if b15 = true then some ((0 : Int), (10 : Int)) else letF (IntKind.wrap .i64 (z4 * z5)) fun z16 => some (z16, (0 : Int)))
def L74_2 : Nat → Int → Int → Bool → Option (Int × Int)
  | 0, _, _, _ => none
  | n + 1, z4, z5, b6 =>
    (if b6 = true then (if z5 = (-9223372036854775808 : Int) then L74_3 n z4 z5 true else L74_3 n z4 z5 false) else needF ((z5 : Int) ≠ 0) (letF (IntKind.wrap .i64 (Int.tdiv 9223372036854775807 z5)) fun z14 => (if z4 < z14 then L74_6 n z4 z5 true else L74_6 n z4 z5 false)))
def L74_1 : Nat → Int → Int → Bool → Option (Int × Int)
  | 0, _, _, _ => none
  | n + 1, z1, z2, b3 =>
    (if b3 = true then some ((0 : Int), (0 : Int)) else bO1 (F84 n z1) fun z4 => bO1 (F84 n z2) fun z5 => (if z1 < (0 : Int) then (if z2 < (0 : Int) then L74_2 n z4 z5 false else L74_2 n z4 z5 true) else (if z2 < (0 : Int) then L74_2 n z4 z5 true else L74_2 n z4 z5 false)))
def F74 (n : Nat) (z1 : Int) (z2 : Int) : Option (Int × Int) :=
  (if z1 = (0 : Int) then L74_1 n z1 z2 true else (if z2 = (0 : Int) then L74_1 n z1 z2 true else L74_1 n z1 z2 false))
set_option maxRecDepth 100000 in
set_option maxHeartbeats 40000000 in
theorem T74 (n : Nat) : ∀ ⦃z1 : Int⦄ ⦃z2 : Int⦄ ⦃r1 : Int⦄ ⦃r2 : Int⦄, F74 n z1 z2 = some (r1, r2) →
    Trip Tryd.prog inv 74 [.d (.int .i64 z1), .d (.int .i64 z2)] [] (.t [.d (.int .i64 r1), .d (.int .i64 r2)]) [] [] := by
  intro z1 z2 r1 r2 h
  unfold F74 at h
  refine Trip.of tab_ok tab_one fol Tryd.func74 rfl (by kernel_rfl) rfl rfl rfl (fun M hM hI => ?_)
  try cbv
  refine seq_go ?_
  try cbv
  refine seq_go ?_
  try cbv
  refine seq_join (T := Nat × Bool) (fun t => ⟨[(0, .v (.d (.int .i64 z1))), (1, .v (.d (.int .i64 z2))), (4, .v (.d (.int .i64 0))), (5, .v (.d (.int .i64 0))), (13, .v (.d (.bool t.2)))], [], 256⟩) (fun t => t.1 ≤ n ∧ L74_1 t.1 z1 z2 t.2 = some (r1, r2)) ?_ ?_
  · try cbv
    refine splitI (fun e => ?_) (fun e => ?_)
    · replace h := ite_t e h
      clear e
      try cbv
      exact join_next (n, true) [0, 1, 4, 5, 13] [] 256 ⟨by omega, h⟩ (by cbv)
    · replace h := ite_f e h
      clear e
      try cbv
      refine splitI (fun e => ?_) (fun e => ?_)
      · replace h := ite_t e h
        clear e
        try cbv
        exact join_next (n, true) [0, 1, 4, 5, 13] [] 256 ⟨by omega, h⟩ (by cbv)
      · replace h := ite_f e h
        clear e
        try cbv
        exact join_next (n, false) [0, 1, 4, 5, 13] [] 256 ⟨by omega, h⟩ (by cbv)
  · clear h
    rintro ⟨m1, b3⟩ ⟨hm1, h⟩
    replace hm1 : m1 ≤ n := hm1
    cases m1 with
    | zero =>
      replace h : L74_1 0 z1 z2 b3 = some (r1, r2) := h
      rw [L74_1] at h
      cases h
    | succ m1 =>
      replace h : L74_1 (m1 + 1) z1 z2 b3 = some (r1, r2) := h
      rw [L74_1] at h
      try cbv
      cases b3
      · replace h := ite_f Bool.false_ne_true h
        try cbv
        refine seq_go ?_
        try cbv
        replace h := bO1_inv h
        obtain ⟨z4, hr, h⟩ := h
        refine call_go rfl rfl ?_
        try cbv
        refine call_pure hM hI (T84 _ hr) rfl ?_
        clear hr
        try cbv
        replace h := bO1_inv h
        obtain ⟨z5, hr, h⟩ := h
        refine call_go rfl rfl ?_
        try cbv
        refine call_pure hM hI (T84 _ hr) rfl ?_
        clear hr
        try cbv
        refine seq_go ?_
        try cbv
        refine seq_join (T := Nat × Bool) (fun t => ⟨[(4, .v (.d (.int .i64 0))), (5, .v (.d (.int .i64 0))), (6, .v (.d (.int .i64 z4))), (7, .v (.d (.int .i64 z5))), (22, .v (.d (.bool t.2)))], [], 608⟩) (fun t => t.1 ≤ m1 ∧ L74_2 t.1 z4 z5 t.2 = some (r1, r2)) ?_ ?_
        · try cbv
          refine splitL (fun e => ?_) (fun e => ?_)
          · replace h := ite_t e h
            clear e
            try cbv
            refine splitL (fun e => ?_) (fun e => ?_)
            · replace h := ite_t e h
              clear e
              try cbv
              refine ⟨false, rfl, ?_⟩
              try cbv
              exact join_next (m1, false) [4, 5, 6, 7, 22] [] 608 ⟨by omega, h⟩ (by cbv)
            · replace h := ite_f (Int.not_lt.2 e) h
              clear e
              try cbv
              refine ⟨true, rfl, ?_⟩
              try cbv
              exact join_next (m1, true) [4, 5, 6, 7, 22] [] 608 ⟨by omega, h⟩ (by cbv)
          · replace h := ite_f (Int.not_lt.2 e) h
            clear e
            try cbv
            refine splitL (fun e => ?_) (fun e => ?_)
            · replace h := ite_t e h
              clear e
              try cbv
              refine ⟨true, rfl, ?_⟩
              try cbv
              exact join_next (m1, true) [4, 5, 6, 7, 22] [] 608 ⟨by omega, h⟩ (by cbv)
            · replace h := ite_f (Int.not_lt.2 e) h
              clear e
              try cbv
              refine ⟨false, rfl, ?_⟩
              try cbv
              exact join_next (m1, false) [4, 5, 6, 7, 22] [] 608 ⟨by omega, h⟩ (by cbv)
        · clear h
          rintro ⟨m2, b6⟩ ⟨hm2, h⟩
          replace hm2 : m2 ≤ m1 := hm2
          cases m2 with
          | zero =>
            replace h : L74_2 0 z4 z5 b6 = some (r1, r2) := h
            rw [L74_2] at h
            cases h
          | succ m2 =>
            replace h : L74_2 (m2 + 1) z4 z5 b6 = some (r1, r2) := h
            rw [L74_2] at h
            try cbv
            cases b6
            · replace h := ite_f Bool.false_ne_true h
              try cbv
              refine seq_go ?_
              try cbv
              refine seq_join (T := Nat × Bool) (fun t => ⟨[(4, .v (.d (.int .i64 0))), (5, .v (.d (.int .i64 0))), (6, .v (.d (.int .i64 z4))), (7, .v (.d (.int .i64 z5))), (39, .v (.d (.bool t.2)))], [], 736⟩) (fun t => t.1 ≤ m2 ∧ L74_6 t.1 z4 z5 t.2 = some (r1, r2)) ?_ ?_
              · try cbv
                replace h := needF_inv h
                obtain ⟨hn, h⟩ := h
                replace h := letF_inv h
                obtain ⟨z14, hz, h⟩ := h
                refine ⟨z14, hn, hz, ?_⟩
                clear hn hz
                try cbv
                refine splitL (fun e => ?_) (fun e => ?_)
                · replace h := ite_t e h
                  clear e
                  try cbv
                  exact join_next (m2, true) [4, 5, 6, 7, 39] [] 736 ⟨by omega, h⟩ (by cbv)
                · replace h := ite_f (Int.not_lt.2 e) h
                  clear e
                  try cbv
                  exact join_next (m2, false) [4, 5, 6, 7, 39] [] 736 ⟨by omega, h⟩ (by cbv)
              · clear h
                rintro ⟨m6, b15⟩ ⟨hm6, h⟩
                replace hm6 : m6 ≤ m2 := hm6
                cases m6 with
                | zero =>
                  replace h : L74_6 0 z4 z5 b15 = some (r1, r2) := h
                  rw [L74_6] at h
                  cases h
                | succ m6 =>
                  replace h : L74_6 (m6 + 1) z4 z5 b15 = some (r1, r2) := h
                  rw [L74_6] at h
                  try cbv
                  cases b15
                  · replace h := ite_f Bool.false_ne_true h
                    try cbv
                    refine seq_go ?_
                    try cbv
                    replace h := letF_inv h
                    obtain ⟨z16, hz, h⟩ := h
                    refine ⟨z16, hz, ?_⟩
                    clear hz
                    try cbv
                    obtain ⟨rfl, rfl⟩ := inj2 h
                    refine fin_go ?_
                    try cbv
                    exact ⟨[], rfl, rfl, trivial, trivial, trivial⟩
                  · replace h := ite_t rfl h
                    try cbv
                    refine seq_go ?_
                    try cbv
                    obtain ⟨rfl, rfl⟩ := inj2 h
                    refine fin_go ?_
                    try cbv
                    exact ⟨[], rfl, rfl, trivial, trivial, trivial⟩
            · replace h := ite_t rfl h
              try cbv
              refine seq_go ?_
              try cbv
              refine seq_join (T := Nat × Bool) (fun t => ⟨[(4, .v (.d (.int .i64 0))), (5, .v (.d (.int .i64 0))), (6, .v (.d (.int .i64 z4))), (7, .v (.d (.int .i64 z5))), (24, .v (.d (.bool t.2)))], [], 672⟩) (fun t => t.1 ≤ m2 ∧ L74_3 t.1 z4 z5 t.2 = some (r1, r2)) ?_ ?_
              · try cbv
                refine splitI (fun e => ?_) (fun e => ?_)
                · replace h := ite_t e h
                  clear e
                  try cbv
                  exact join_next (m2, true) [4, 5, 6, 7, 24] [] 672 ⟨by omega, h⟩ (by cbv)
                · replace h := ite_f e h
                  clear e
                  try cbv
                  exact join_next (m2, false) [4, 5, 6, 7, 24] [] 672 ⟨by omega, h⟩ (by cbv)
              · clear h
                rintro ⟨m3, b7⟩ ⟨hm3, h⟩
                replace hm3 : m3 ≤ m2 := hm3
                cases m3 with
                | zero =>
                  replace h : L74_3 0 z4 z5 b7 = some (r1, r2) := h
                  rw [L74_3] at h
                  cases h
                | succ m3 =>
                  replace h : L74_3 (m3 + 1) z4 z5 b7 = some (r1, r2) := h
                  rw [L74_3] at h
                  try cbv
                  cases b7
                  · replace h := ite_f Bool.false_ne_true h
                    try cbv
                    refine seq_go ?_
                    try cbv
                    refine seq_join (T := Nat × Bool) (fun t => ⟨[(4, .v (.d (.int .i64 0))), (5, .v (.d (.int .i64 0))), (6, .v (.d (.int .i64 z4))), (7, .v (.d (.int .i64 z5))), (31, .v (.d (.bool t.2)))], [], 832⟩) (fun t => t.1 ≤ m3 ∧ L74_5 t.1 z4 z5 t.2 = some (r1, r2)) ?_ ?_
                    · try cbv
                      replace h := letF_inv h
                      obtain ⟨z9, hz, h⟩ := h
                      refine ⟨z9, hz, ?_⟩
                      clear hz
                      try cbv
                      replace h := needF_inv h
                      obtain ⟨hn, h⟩ := h
                      replace h := letF_inv h
                      obtain ⟨z10, hz, h⟩ := h
                      refine ⟨z10, hn, hz, ?_⟩
                      clear hn hz
                      try cbv
                      refine splitL (fun e => ?_) (fun e => ?_)
                      · replace h := ite_t e h
                        clear e
                        try cbv
                        exact join_next (m3, true) [4, 5, 6, 7, 31] [] 832 ⟨by omega, h⟩ (by cbv)
                      · replace h := ite_f (Int.not_lt.2 e) h
                        clear e
                        try cbv
                        exact join_next (m3, false) [4, 5, 6, 7, 31] [] 832 ⟨by omega, h⟩ (by cbv)
                    · clear h
                      rintro ⟨m5, b11⟩ ⟨hm5, h⟩
                      replace hm5 : m5 ≤ m3 := hm5
                      cases m5 with
                      | zero =>
                        replace h : L74_5 0 z4 z5 b11 = some (r1, r2) := h
                        rw [L74_5] at h
                        cases h
                      | succ m5 =>
                        replace h : L74_5 (m5 + 1) z4 z5 b11 = some (r1, r2) := h
                        rw [L74_5] at h
                        try cbv
                        cases b11
                        · replace h := ite_f Bool.false_ne_true h
                          try cbv
                          refine seq_go ?_
                          try cbv
                          replace h := letF_inv h
                          obtain ⟨z12, hz, h⟩ := h
                          refine ⟨z12, hz, ?_⟩
                          clear hz
                          try cbv
                          replace h := letF_inv h
                          obtain ⟨z13, hz, h⟩ := h
                          refine ⟨z13, hz, ?_⟩
                          clear hz
                          try cbv
                          obtain ⟨rfl, rfl⟩ := inj2 h
                          refine fin_go ?_
                          try cbv
                          exact ⟨[], rfl, rfl, trivial, trivial, trivial⟩
                        · replace h := ite_t rfl h
                          try cbv
                          refine seq_go ?_
                          try cbv
                          obtain ⟨rfl, rfl⟩ := inj2 h
                          refine fin_go ?_
                          try cbv
                          exact ⟨[], rfl, rfl, trivial, trivial, trivial⟩
                  · replace h := ite_t rfl h
                    try cbv
                    refine seq_go ?_
                    try cbv
                    refine seq_join (T := Nat × Bool) (fun t => ⟨[(4, .v (.d (.int .i64 0))), (5, .v (.d (.int .i64 0))), (6, .v (.d (.int .i64 z4))), (7, .v (.d (.int .i64 z5))), (26, .v (.d (.bool t.2)))], [], 736⟩) (fun t => t.1 ≤ m3 ∧ L74_4 t.1 t.2 = some (r1, r2)) ?_ ?_
                    · try cbv
                      refine splitI (fun e => ?_) (fun e => ?_)
                      · replace h := ite_t e h
                        clear e
                        try cbv
                        exact join_next (m3, false) [4, 5, 6, 7, 26] [] 736 ⟨by omega, h⟩ (by cbv)
                      · replace h := ite_f e h
                        clear e
                        try cbv
                        exact join_next (m3, true) [4, 5, 6, 7, 26] [] 736 ⟨by omega, h⟩ (by cbv)
                    · clear h
                      rintro ⟨m4, b8⟩ ⟨hm4, h⟩
                      replace hm4 : m4 ≤ m3 := hm4
                      cases m4 with
                      | zero =>
                        replace h : L74_4 0 b8 = some (r1, r2) := h
                        rw [L74_4] at h
                        cases h
                      | succ m4 =>
                        replace h : L74_4 (m4 + 1) b8 = some (r1, r2) := h
                        rw [L74_4] at h
                        try cbv
                        cases b8
                        · replace h := ite_f Bool.false_ne_true h
                          try cbv
                          refine seq_go ?_
                          try cbv
                          obtain ⟨rfl, rfl⟩ := inj2 h
                          refine fin_go ?_
                          try cbv
                          exact ⟨[], rfl, rfl, trivial, trivial, trivial⟩
                        · replace h := ite_t rfl h
                          try cbv
                          refine seq_go ?_
                          try cbv
                          obtain ⟨rfl, rfl⟩ := inj2 h
                          refine fin_go ?_
                          try cbv
                          exact ⟨[], rfl, rfl, trivial, trivial, trivial⟩
      · replace h := ite_t rfl h
        try cbv
        refine seq_go ?_
        try cbv
        obtain ⟨rfl, rfl⟩ := inj2 h
        refine fin_go ?_
        try cbv
        exact ⟨[], rfl, rfl, trivial, trivial, trivial⟩
end Go.Proofs.YtjmofeakajdbiaaDoor
end

set_option linter.unusedVariables false
noncomputable section
namespace Go.Proofs.YtjmofeakajdbiaaDoor
open Go Go.AM
def L75_1 : Nat → Int → Int → Bool → Option (Int × Int)
  | 0, _, _, _ => none
  | n + 1, z1, z2, b6 =>
    (if b6 = true then some ((0 : Int), (10 : Int)) else letF (IntKind.wrap .i64 (z1 - z2)) fun z7 => some (z7, (0 : Int)))
def F75 (n : Nat) (z1 : Int) (z2 : Int) : Option (Int × Int) :=
  (if (0 : Int) ≤ z2 then letF (IntKind.wrap .i64 ((-9223372036854775808) + z2)) fun z3 => (if z1 < z3 then L75_1 n z1 z2 true else (if z2 < (0 : Int) then letF (IntKind.wrap .i64 (9223372036854775807 + z2)) fun z4 => (if z4 < z1 then L75_1 n z1 z2 true else L75_1 n z1 z2 false) else L75_1 n z1 z2 false)) else (if z2 < (0 : Int) then letF (IntKind.wrap .i64 (9223372036854775807 + z2)) fun z5 => (if z5 < z1 then L75_1 n z1 z2 true else L75_1 n z1 z2 false) else L75_1 n z1 z2 false))
set_option maxRecDepth 100000 in
set_option maxHeartbeats 40000000 in
theorem T75 (n : Nat) : ∀ ⦃z1 : Int⦄ ⦃z2 : Int⦄ ⦃r1 : Int⦄ ⦃r2 : Int⦄, F75 n z1 z2 = some (r1, r2) →
    Trip Tryd.prog inv 75 [.d (.int .i64 z1), .d (.int .i64 z2)] [] (.t [.d (.int .i64 r1), .d (.int .i64 r2)]) [] [] := by
  intro z1 z2 r1 r2 h
  unfold F75 at h
  refine Trip.of tab_ok tab_one fol Tryd.func75 rfl (by kernel_rfl) rfl rfl rfl (fun M hM hI => ?_)
  try cbv
  refine seq_go ?_
  try cbv
  refine seq_go ?_
  try cbv
  refine seq_join (T := Nat × Bool) (fun t => ⟨[(0, .v (.d (.int .i64 z1))), (1, .v (.d (.int .i64 z2))), (4, .v (.d (.int .i64 0))), (5, .v (.d (.int .i64 0))), (23, .v (.d (.bool t.2)))], [], 640⟩) (fun t => t.1 ≤ n ∧ L75_1 t.1 z1 z2 t.2 = some (r1, r2)) ?_ ?_
  · try cbv
    refine splitLe (fun e => ?_) (fun e => ?_)
    · replace h := ite_t e h
      clear e
      try cbv
      replace h := letF_inv h
      obtain ⟨z3, hz, h⟩ := h
      refine ⟨z3, hz, ?_⟩
      clear hz
      try cbv
      refine splitL (fun e => ?_) (fun e => ?_)
      · replace h := ite_t e h
        clear e
        try cbv
        exact join_next (n, true) [0, 1, 4, 5, 23] [] 640 ⟨by omega, h⟩ (by cbv)
      · replace h := ite_f (Int.not_lt.2 e) h
        clear e
        try cbv
        refine splitL (fun e => ?_) (fun e => ?_)
        · replace h := ite_t e h
          clear e
          try cbv
          replace h := letF_inv h
          obtain ⟨z4, hz, h⟩ := h
          refine ⟨z4, hz, ?_⟩
          clear hz
          try cbv
          refine splitL (fun e => ?_) (fun e => ?_)
          · replace h := ite_t e h
            clear e
            try cbv
            exact join_next (n, true) [0, 1, 4, 5, 23] [] 640 ⟨by omega, h⟩ (by cbv)
          · replace h := ite_f (Int.not_lt.2 e) h
            clear e
            try cbv
            exact join_next (n, false) [0, 1, 4, 5, 23] [] 640 ⟨by omega, h⟩ (by cbv)
        · replace h := ite_f (Int.not_lt.2 e) h
          clear e
          try cbv
          exact join_next (n, false) [0, 1, 4, 5, 23] [] 640 ⟨by omega, h⟩ (by cbv)
    · replace h := ite_f (Int.not_le.2 e) h
      clear e
      try cbv
      refine splitL (fun e => ?_) (fun e => ?_)
      · replace h := ite_t e h
        clear e
        try cbv
        replace h := letF_inv h
        obtain ⟨z5, hz, h⟩ := h
        refine ⟨z5, hz, ?_⟩
        clear hz
        try cbv
        refine splitL (fun e => ?_) (fun e => ?_)
        · replace h := ite_t e h
          clear e
          try cbv
          exact join_next (n, true) [0, 1, 4, 5, 23] [] 640 ⟨by omega, h⟩ (by cbv)
        · replace h := ite_f (Int.not_lt.2 e) h
          clear e
          try cbv
          exact join_next (n, false) [0, 1, 4, 5, 23] [] 640 ⟨by omega, h⟩ (by cbv)
      · replace h := ite_f (Int.not_lt.2 e) h
        clear e
        try cbv
        exact join_next (n, false) [0, 1, 4, 5, 23] [] 640 ⟨by omega, h⟩ (by cbv)
  · clear h
    rintro ⟨m1, b6⟩ ⟨hm1, h⟩
    replace hm1 : m1 ≤ n := hm1
    cases m1 with
    | zero =>
      replace h : L75_1 0 z1 z2 b6 = some (r1, r2) := h
      rw [L75_1] at h
      cases h
    | succ m1 =>
      replace h : L75_1 (m1 + 1) z1 z2 b6 = some (r1, r2) := h
      rw [L75_1] at h
      try cbv
      cases b6
      · replace h := ite_f Bool.false_ne_true h
        try cbv
        refine seq_go ?_
        try cbv
        replace h := letF_inv h
        obtain ⟨z7, hz, h⟩ := h
        refine ⟨z7, hz, ?_⟩
        clear hz
        try cbv
        obtain ⟨rfl, rfl⟩ := inj2 h
        refine fin_go ?_
        try cbv
        exact ⟨[], rfl, rfl, trivial, trivial, trivial⟩
      · replace h := ite_t rfl h
        try cbv
        refine seq_go ?_
        try cbv
        obtain ⟨rfl, rfl⟩ := inj2 h
        refine fin_go ?_
        try cbv
        exact ⟨[], rfl, rfl, trivial, trivial, trivial⟩
end Go.Proofs.YtjmofeakajdbiaaDoor
end

set_option linter.unusedVariables false
noncomputable section
namespace Go.Proofs.YtjmofeakajdbiaaDoor
open Go Go.AM
def F76 (n : Nat) (z1 : Int) : Option (Int × Int) :=
  bO2 (F75 n (0 : Int) z1) fun z2 z3 => some (z2, z3)
set_option maxRecDepth 100000 in
set_option maxHeartbeats 40000000 in
theorem T76 (n : Nat) : ∀ ⦃z1 : Int⦄ ⦃r1 : Int⦄ ⦃r2 : Int⦄, F76 n z1 = some (r1, r2) →
    Trip Tryd.prog inv 76 [.d (.int .i64 z1)] [] (.t [.d (.int .i64 r1), .d (.int .i64 r2)]) [] [] := by
  intro z1 r1 r2 h
  unfold F76 at h
  refine Trip.of tab_ok tab_one fol Tryd.func76 rfl (by kernel_rfl) rfl rfl rfl (fun M hM hI => ?_)
  try cbv
  refine seq_go ?_
  try cbv
  refine seq_go ?_
  try cbv
  replace h := bO2_inv h
  obtain ⟨z2, z3, hr, h⟩ := h
  refine call_go rfl rfl ?_
  try cbv
  refine call_pure hM hI (T75 _ hr) rfl ?_
  clear hr
  try cbv
  obtain ⟨rfl, rfl⟩ := inj2 h
  refine fin_go ?_
  try cbv
  exact ⟨[], rfl, rfl, trivial, trivial, trivial⟩
end Go.Proofs.YtjmofeakajdbiaaDoor
end

set_option linter.unusedVariables false
noncomputable section
namespace Go.Proofs.YtjmofeakajdbiaaDoor
open Go Go.AM
def L63_12 : Nat → Int → Bool → Option (Int × Int)
  | 0, _, _ => none
  | n + 1, z16, b32 =>
    (if b32 = true then some (z16, (0 : Int)) else bO2 (F76 n z16) fun z33 z34 => some (z33, z34))
mutual
def L63_7 : Nat → ByteArray → Int → Int → Int → Option (Int × Int)
  | 0, _, _, _, _ => none
  | n + 1, s1, z5, z16, z17 =>
    szF s1 fun z18 => (if z17 < z18 then L63_8 n s1 z5 z16 z17 true else L63_8 n s1 z5 z16 z17 false)
def L63_8 : Nat → ByteArray → Int → Int → Int → Bool → Option (Int × Int)
  | 0, _, _, _, _, _ => none
  | n + 1, s1, z5, z16, z17, b19 =>
    (if b19 = true then bO2 (F74 n z16 (10 : Int)) fun z20 z21 => (if z21 = (0 : Int) then L63_9 n s1 z5 z17 z20 z21 true else L63_9 n s1 z5 z17 z20 z21 false) else (if z5 = (1 : Int) then L63_12 n z16 true else L63_12 n z16 false))
def L63_9 : Nat → ByteArray → Int → Int → Int → Int → Bool → Option (Int × Int)
  | 0, _, _, _, _, _, _ => none
  | n + 1, s1, z5, z17, z20, z21, b22 =>
    (if b22 = true then atF s1 z17 fun z23 => letF (IntKind.wrap .u8 (z23 - 48)) fun z24 => letF (IntKind.wrap .i64 z24) fun z25 => bO2 (F75 n z20 z25) fun z26 z27 => L63_10 n s1 z5 z17 z26 z27 else L63_10 n s1 z5 z17 z20 z21)
def L63_10 : Nat → ByteArray → Int → Int → Int → Int → Option (Int × Int)
  | 0, _, _, _, _, _ => none
  | n + 1, s1, z5, z17, z28, z29 =>
    (if z29 = (0 : Int) then L63_11 n s1 z5 z17 z28 false else L63_11 n s1 z5 z17 z28 true)
def L63_11 : Nat → ByteArray → Int → Int → Int → Bool → Option (Int × Int)
  | 0, _, _, _, _, _ => none
  | n + 1, s1, z5, z17, z28, b30 =>
    (if b30 = true then some ((0 : Int), (10 : Int)) else letF (IntKind.wrap .i64 (z17 + 1)) fun z31 => L63_7 n s1 z5 z28 z31)
end
mutual
def L63_4 : Nat → ByteArray → Int → Int → Option (Int × Int)
  | 0, _, _, _ => none
  | n + 1, s1, z5, z9 =>
    szF s1 fun z10 => (if z9 < z10 then L63_5 n s1 z5 z9 true else L63_5 n s1 z5 z9 false)
def L63_5 : Nat → ByteArray → Int → Int → Bool → Option (Int × Int)
  | 0, _, _, _, _ => none
  | n + 1, s1, z5, z9, b11 =>
    (if b11 = true then atF s1 z9 fun z12 => (if z12 < (48 : Int) then L63_6 n s1 z5 z9 true else atF s1 z9 fun z13 => (if (57 : Int) < z13 then L63_6 n s1 z5 z9 true else L63_6 n s1 z5 z9 false)) else L63_7 n s1 z5 (0 : Int) z5)
def L63_6 : Nat → ByteArray → Int → Int → Bool → Option (Int × Int)
  | 0, _, _, _, _ => none
  | n + 1, s1, z5, z9, b14 =>
    (if b14 = true then some ((0 : Int), (2 : Int)) else letF (IntKind.wrap .i64 (z9 + 1)) fun z15 => L63_4 n s1 z5 z15)
end
def L63_3 : Nat → ByteArray → Int → Bool → Option (Int × Int)
  | 0, _, _, _ => none
  | n + 1, s1, z5, b8 =>
    (if b8 = true then some ((0 : Int), (2 : Int)) else L63_4 n s1 z5 z5)
def L63_2 : Nat → ByteArray → Int → Option (Int × Int)
  | 0, _, _ => none
  | n + 1, s1, z5 =>
    szF s1 fun z6 => (if z6 = z5 then L63_3 n s1 z5 true else (if z5 = (1 : Int) then atF s1 (1 : Int) fun z7 => (if z7 = (48 : Int) then L63_3 n s1 z5 true else L63_3 n s1 z5 false) else L63_3 n s1 z5 false))
def L63_1 : Nat → ByteArray → Bool → Option (Int × Int)
  | 0, _, _ => none
  | n + 1, s1, b4 =>
    (if b4 = true then L63_2 n s1 (1 : Int) else L63_2 n s1 (0 : Int))
def F63 (n : Nat) (s1 : ByteArray) : Option (Int × Int) :=
  szF s1 fun z2 => (if (0 : Int) < z2 then atF s1 (0 : Int) fun z3 => (if z3 = (45 : Int) then L63_1 n s1 true else L63_1 n s1 false) else L63_1 n s1 false)
set_option maxRecDepth 100000 in
set_option maxHeartbeats 40000000 in
theorem T63 (n : Nat) : ∀ ⦃s1 : ByteArray⦄ ⦃r1 : Int⦄ ⦃r2 : Int⦄, F63 n s1 = some (r1, r2) →
    Trip Tryd.prog inv 63 [.d (.str s1)] [] (.t [.d (.int .i64 r1), .d (.int .i64 r2)]) [] [] := by
  intro s1 r1 r2 h
  unfold F63 at h
  refine Trip.of tab_ok tab_one fol Tryd.func63 rfl (by kernel_rfl) rfl rfl rfl (fun M hM hI => ?_)
  try cbv
  refine seq_go ?_
  try cbv
  refine seq_go ?_
  try cbv
  refine seq_join (T := Nat × Int) (fun t => ⟨[(0, .v (.d (.str s1))), (2, .v (.d (.int .i64 0))), (3, .v (.d (.int .i64 0))), (4, .v (.d (.int .i64 t.2)))], [], 384⟩) (fun t => t.1 ≤ n ∧ L63_2 t.1 s1 t.2 = some (r1, r2)) ?_ ?_
  · try cbv
    refine seq_join (T := Nat × Bool) (fun t => ⟨[(0, .v (.d (.str s1))), (2, .v (.d (.int .i64 0))), (3, .v (.d (.int .i64 0))), (4, .v (.d (.int .i64 0))), (17, .v (.d (.bool t.2)))], [], 352⟩) (fun t => t.1 ≤ n ∧ L63_1 t.1 s1 t.2 = some (r1, r2)) ?_ ?_
    · try cbv
      replace h := szF_inv M h
      obtain ⟨z2, hz, h⟩ := h
      refine ⟨z2, hz, ?_⟩
      clear hz
      try cbv
      refine splitL (fun e => ?_) (fun e => ?_)
      · replace h := ite_t e h
        clear e
        try cbv
        replace h := atF_inv h
        obtain ⟨z3, hz, h⟩ := h
        refine ⟨z3, hz, ?_⟩
        clear hz
        try cbv
        refine splitI (fun e => ?_) (fun e => ?_)
        · replace h := ite_t e h
          clear e
          try cbv
          exact join_next (n, true) [0, 2, 3, 4, 17] [] 352 ⟨by omega, h⟩ (by cbv)
        · replace h := ite_f e h
          clear e
          try cbv
          exact join_next (n, false) [0, 2, 3, 4, 17] [] 352 ⟨by omega, h⟩ (by cbv)
      · replace h := ite_f (Int.not_lt.2 e) h
        clear e
        try cbv
        exact join_next (n, false) [0, 2, 3, 4, 17] [] 352 ⟨by omega, h⟩ (by cbv)
    · clear h
      rintro ⟨m1, b4⟩ ⟨hm1, h⟩
      replace hm1 : m1 ≤ n := hm1
      cases m1 with
      | zero =>
        replace h : L63_1 0 s1 b4 = some (r1, r2) := h
        rw [L63_1] at h
        cases h
      | succ m1 =>
        replace h : L63_1 (m1 + 1) s1 b4 = some (r1, r2) := h
        rw [L63_1] at h
        try cbv
        cases b4
        · replace h := ite_f Bool.false_ne_true h
          try cbv
          exact join_next (m1, (0 : Int)) [0, 2, 3, 4] [] 384 ⟨by omega, h⟩ (by cbv)
        · replace h := ite_t rfl h
          try cbv
          exact join_next (m1, (1 : Int)) [0, 2, 3, 4] [] 384 ⟨by omega, h⟩ (by cbv)
  · clear h
    rintro ⟨m2, z5⟩ ⟨hm2, h⟩
    replace hm2 : m2 ≤ n := hm2
    cases m2 with
    | zero =>
      replace h : L63_2 0 s1 z5 = some (r1, r2) := h
      rw [L63_2] at h
      cases h
    | succ m2 =>
      replace h : L63_2 (m2 + 1) s1 z5 = some (r1, r2) := h
      rw [L63_2] at h
      try cbv
      refine seq_go ?_
      try cbv
      refine seq_join (T := Nat × Bool) (fun t => ⟨[(0, .v (.d (.str s1))), (2, .v (.d (.int .i64 0))), (3, .v (.d (.int .i64 0))), (4, .v (.d (.int .i64 z5))), (30, .v (.d (.bool t.2)))], [], 800⟩) (fun t => t.1 ≤ m2 ∧ L63_3 t.1 s1 z5 t.2 = some (r1, r2)) ?_ ?_
      · try cbv
        replace h := szF_inv M h
        obtain ⟨z6, hz, h⟩ := h
        refine ⟨z6, hz, ?_⟩
        clear hz
        try cbv
        refine splitI (fun e => ?_) (fun e => ?_)
        · replace h := ite_t e h
          clear e
          try cbv
          exact join_next (m2, true) [0, 2, 3, 4, 30] [] 800 ⟨by omega, h⟩ (by cbv)
        · replace h := ite_f e h
          clear e
          try cbv
          refine splitI (fun e => ?_) (fun e => ?_)
          · replace h := ite_t e h
            clear e
            try cbv
            replace h := atF_inv h
            obtain ⟨z7, hz, h⟩ := h
            refine ⟨z7, hz, ?_⟩
            clear hz
            try cbv
            refine splitI (fun e => ?_) (fun e => ?_)
            · replace h := ite_t e h
              clear e
              try cbv
              exact join_next (m2, true) [0, 2, 3, 4, 30] [] 800 ⟨by omega, h⟩ (by cbv)
            · replace h := ite_f e h
              clear e
              try cbv
              exact join_next (m2, false) [0, 2, 3, 4, 30] [] 800 ⟨by omega, h⟩ (by cbv)
          · replace h := ite_f e h
            clear e
            try cbv
            exact join_next (m2, false) [0, 2, 3, 4, 30] [] 800 ⟨by omega, h⟩ (by cbv)
      · clear h
        rintro ⟨m3, b8⟩ ⟨hm3, h⟩
        replace hm3 : m3 ≤ m2 := hm3
        cases m3 with
        | zero =>
          replace h : L63_3 0 s1 z5 b8 = some (r1, r2) := h
          rw [L63_3] at h
          cases h
        | succ m3 =>
          replace h : L63_3 (m3 + 1) s1 z5 b8 = some (r1, r2) := h
          rw [L63_3] at h
          try cbv
          cases b8
          · replace h := ite_f Bool.false_ne_true h
            try cbv
            refine seq_go ?_
            try cbv
            refine seq_go ?_
            try cbv
            refine loop_inv (T := Nat × Int) [0, 2, 3, 4, 5] [] 864 (fun t => ⟨[(0, .v (.d (.str s1))), (2, .v (.d (.int .i64 0))), (3, .v (.d (.int .i64 0))), (4, .v (.d (.int .i64 z5))), (5, .v (.d (.int .i64 t.2)))], [], 864⟩)
              (fun t => t.1 ≤ m3 ∧ L63_4 t.1 s1 z5 t.2 = some (r1, r2)) (fun t => t.1) (m3, z5) ⟨Nat.le_refl _, h⟩ (by cbv) ?_
            clear h
            rintro ⟨m4, z9⟩ ⟨hm4, h⟩
            replace hm4 : m4 ≤ m3 := hm4
            cases m4 with
            | zero =>
              replace h : L63_4 0 s1 z5 z9 = some (r1, r2) := h
              rw [L63_4] at h
              cases h
            | succ m4 =>
              replace h : L63_4 (m4 + 1) s1 z5 z9 = some (r1, r2) := h
              rw [L63_4] at h
              try cbv
              refine seq_go ?_
              try cbv
              refine seq_join (T := Nat × Bool) (fun t => ⟨[(0, .v (.d (.str s1))), (2, .v (.d (.int .i64 0))), (3, .v (.d (.int .i64 0))), (4, .v (.d (.int .i64 z5))), (5, .v (.d (.int .i64 z9))), (35, .v (.d (.bool t.2)))], [], 992⟩) (fun t => t.1 ≤ m4 ∧ L63_5 t.1 s1 z5 z9 t.2 = some (r1, r2)) ?_ ?_
              · try cbv
                replace h := szF_inv M h
                obtain ⟨z10, hz, h⟩ := h
                refine ⟨z10, hz, ?_⟩
                clear hz
                try cbv
                refine splitL (fun e => ?_) (fun e => ?_)
                · replace h := ite_t e h
                  clear e
                  try cbv
                  exact join_next (m4, true) [0, 2, 3, 4, 5, 35] [] 992 ⟨by omega, h⟩ (by cbv)
                · replace h := ite_f (Int.not_lt.2 e) h
                  clear e
                  try cbv
                  exact join_next (m4, false) [0, 2, 3, 4, 5, 35] [] 992 ⟨by omega, h⟩ (by cbv)
              · clear h
                rintro ⟨m5, b11⟩ ⟨hm5, h⟩
                replace hm5 : m5 ≤ m4 := hm5
                cases m5 with
                | zero =>
                  replace h : L63_5 0 s1 z5 z9 b11 = some (r1, r2) := h
                  rw [L63_5] at h
                  cases h
                | succ m5 =>
                  replace h : L63_5 (m5 + 1) s1 z5 z9 b11 = some (r1, r2) := h
                  rw [L63_5] at h
                  try cbv
                  cases b11
                  · replace h := ite_f Bool.false_ne_true h
                    try cbv
                    refine seq_go ?_
                    try cbv
                    refine seq_go ?_
                    try cbv
                    refine seq_go ?_
                    try cbv
                    refine loop_inv (T := Nat × Int × Int) [0, 2, 3, 4, 5, 6, 7] [] 1088 (fun t => ⟨[(0, .v (.d (.str s1))), (2, .v (.d (.int .i64 0))), (3, .v (.d (.int .i64 0))), (4, .v (.d (.int .i64 z5))), (5, .v (.d (.int .i64 z9))), (6, .v (.d (.int .i64 t.2.1))), (7, .v (.d (.int .i64 t.2.2)))], [], 1088⟩)
                      (fun t => t.1 ≤ m5 ∧ L63_7 t.1 s1 z5 t.2.1 t.2.2 = some (r1, r2)) (fun t => t.1) (m5, ((0 : Int), z5)) ⟨Nat.le_refl _, h⟩ (by cbv) ?_
                    clear h
                    rintro ⟨m7, z16, z17⟩ ⟨hm7, h⟩
                    replace hm7 : m7 ≤ m5 := hm7
                    cases m7 with
                    | zero =>
                      replace h : L63_7 0 s1 z5 z16 z17 = some (r1, r2) := h
                      rw [L63_7] at h
                      cases h
                    | succ m7 =>
                      replace h : L63_7 (m7 + 1) s1 z5 z16 z17 = some (r1, r2) := h
                      rw [L63_7] at h
                      try cbv
                      refine seq_go ?_
                      try cbv
                      refine seq_join (T := Nat × Bool) (fun t => ⟨[(0, .v (.d (.str s1))), (2, .v (.d (.int .i64 0))), (3, .v (.d (.int .i64 0))), (4, .v (.d (.int .i64 z5))), (5, .v (.d (.int .i64 z9))), (6, .v (.d (.int .i64 z16))), (7, .v (.d (.int .i64 z17))), (52, .v (.d (.bool t.2)))], [], 1216⟩) (fun t => t.1 ≤ m7 ∧ L63_8 t.1 s1 z5 z16 z17 t.2 = some (r1, r2)) ?_ ?_
                      · try cbv
                        replace h := szF_inv M h
                        obtain ⟨z18, hz, h⟩ := h
                        refine ⟨z18, hz, ?_⟩
                        clear hz
                        try cbv
                        refine splitL (fun e => ?_) (fun e => ?_)
                        · replace h := ite_t e h
                          clear e
                          try cbv
                          exact join_next (m7, true) [0, 2, 3, 4, 5, 6, 7, 52] [] 1216 ⟨by omega, h⟩ (by cbv)
                        · replace h := ite_f (Int.not_lt.2 e) h
                          clear e
                          try cbv
                          exact join_next (m7, false) [0, 2, 3, 4, 5, 6, 7, 52] [] 1216 ⟨by omega, h⟩ (by cbv)
                      · clear h
                        rintro ⟨m8, b19⟩ ⟨hm8, h⟩
                        replace hm8 : m8 ≤ m7 := hm8
                        cases m8 with
                        | zero =>
                          replace h : L63_8 0 s1 z5 z16 z17 b19 = some (r1, r2) := h
                          rw [L63_8] at h
                          cases h
                        | succ m8 =>
                          replace h : L63_8 (m8 + 1) s1 z5 z16 z17 b19 = some (r1, r2) := h
                          rw [L63_8] at h
                          try cbv
                          cases b19
                          · replace h := ite_f Bool.false_ne_true h
                            try cbv
                            refine seq_go ?_
                            try cbv
                            refine seq_join (T := Nat × Bool) (fun t => ⟨[(0, .v (.d (.str s1))), (2, .v (.d (.int .i64 0))), (3, .v (.d (.int .i64 0))), (4, .v (.d (.int .i64 z5))), (5, .v (.d (.int .i64 z9))), (6, .v (.d (.int .i64 z16))), (7, .v (.d (.int .i64 z17))), (76, .v (.d (.bool t.2)))], [], 1280⟩) (fun t => t.1 ≤ m8 ∧ L63_12 t.1 z16 t.2 = some (r1, r2)) ?_ ?_
                            · try cbv
                              refine splitI (fun e => ?_) (fun e => ?_)
                              · replace h := ite_t e h
                                clear e
                                try cbv
                                exact join_next (m8, true) [0, 2, 3, 4, 5, 6, 7, 76] [] 1280 ⟨by omega, h⟩ (by cbv)
                              · replace h := ite_f e h
                                clear e
                                try cbv
                                exact join_next (m8, false) [0, 2, 3, 4, 5, 6, 7, 76] [] 1280 ⟨by omega, h⟩ (by cbv)
                            · clear h
                              rintro ⟨m12, b32⟩ ⟨hm12, h⟩
                              replace hm12 : m12 ≤ m8 := hm12
                              cases m12 with
                              | zero =>
                                replace h : L63_12 0 z16 b32 = some (r1, r2) := h
                                rw [L63_12] at h
                                cases h
                              | succ m12 =>
                                replace h : L63_12 (m12 + 1) z16 b32 = some (r1, r2) := h
                                rw [L63_12] at h
                                try cbv
                                cases b32
                                · replace h := ite_f Bool.false_ne_true h
                                  try cbv
                                  refine seq_go ?_
                                  try cbv
                                  replace h := bO2_inv h
                                  obtain ⟨z33, z34, hr, h⟩ := h
                                  refine call_go rfl rfl ?_
                                  try cbv
                                  refine call_pure hM hI (T76 _ hr) rfl ?_
                                  clear hr
                                  try cbv
                                  obtain ⟨rfl, rfl⟩ := inj2 h
                                  refine fin_go ?_
                                  try cbv
                                  exact ⟨[], rfl, rfl, trivial, trivial, trivial⟩
                                · replace h := ite_t rfl h
                                  try cbv
                                  refine seq_go ?_
                                  try cbv
                                  obtain ⟨rfl, rfl⟩ := inj2 h
                                  refine fin_go ?_
                                  try cbv
                                  exact ⟨[], rfl, rfl, trivial, trivial, trivial⟩
                          · replace h := ite_t rfl h
                            try cbv
                            refine seq_go ?_
                            try cbv
                            refine seq_go ?_
                            try cbv
                            replace h := bO2_inv h
                            obtain ⟨z20, z21, hr, h⟩ := h
                            refine call_go rfl rfl ?_
                            try cbv
                            refine call_pure hM hI (T74 _ hr) rfl ?_
                            clear hr
                            try cbv
                            refine seq_join (T := Nat × Int × Int) (fun t => ⟨[(0, .v (.d (.str s1))), (2, .v (.d (.int .i64 0))), (3, .v (.d (.int .i64 0))), (4, .v (.d (.int .i64 z5))), (5, .v (.d (.int .i64 z9))), (6, .v (.d (.int .i64 z16))), (7, .v (.d (.int .i64 z17))), (8, .v (.d (.int .i64 t.2.1))), (9, .v (.d (.int .i64 t.2.2)))], [], 1888⟩) (fun t => t.1 ≤ m8 ∧ L63_10 t.1 s1 z5 z17 t.2.1 t.2.2 = some (r1, r2)) ?_ ?_
                            · try cbv
                              refine seq_join (T := Nat × Bool) (fun t => ⟨[(0, .v (.d (.str s1))), (2, .v (.d (.int .i64 0))), (3, .v (.d (.int .i64 0))), (4, .v (.d (.int .i64 z5))), (5, .v (.d (.int .i64 z9))), (6, .v (.d (.int .i64 z16))), (7, .v (.d (.int .i64 z17))), (8, .v (.d (.int .i64 z20))), (9, .v (.d (.int .i64 z21))), (61, .v (.d (.bool t.2)))], [], 1504⟩) (fun t => t.1 ≤ m8 ∧ L63_9 t.1 s1 z5 z17 z20 z21 t.2 = some (r1, r2)) ?_ ?_
                              · try cbv
                                refine splitI (fun e => ?_) (fun e => ?_)
                                · replace h := ite_t e h
                                  clear e
                                  try cbv
                                  exact join_next (m8, true) [0, 2, 3, 4, 5, 6, 7, 8, 9, 61] [] 1504 ⟨by omega, h⟩ (by cbv)
                                · replace h := ite_f e h
                                  clear e
                                  try cbv
                                  exact join_next (m8, false) [0, 2, 3, 4, 5, 6, 7, 8, 9, 61] [] 1504 ⟨by omega, h⟩ (by cbv)
                              · clear h
                                rintro ⟨m9, b22⟩ ⟨hm9, h⟩
                                replace hm9 : m9 ≤ m8 := hm9
                                cases m9 with
                                | zero =>
                                  replace h : L63_9 0 s1 z5 z17 z20 z21 b22 = some (r1, r2) := h
                                  rw [L63_9] at h
                                  cases h
                                | succ m9 =>
                                  replace h : L63_9 (m9 + 1) s1 z5 z17 z20 z21 b22 = some (r1, r2) := h
                                  rw [L63_9] at h
                                  try cbv
                                  cases b22
                                  · replace h := ite_f Bool.false_ne_true h
                                    try cbv
                                    exact join_next (m9, (z20, z21)) [0, 2, 3, 4, 5, 6, 7, 8, 9] [] 1888 ⟨by omega, h⟩ (by cbv)
                                  · replace h := ite_t rfl h
                                    try cbv
                                    replace h := atF_inv h
                                    obtain ⟨z23, hz, h⟩ := h
                                    refine ⟨z23, hz, ?_⟩
                                    clear hz
                                    try cbv
                                    replace h := letF_inv h
                                    obtain ⟨z24, hz, h⟩ := h
                                    refine ⟨z24, hz, ?_⟩
                                    clear hz
                                    try cbv
                                    replace h := letF_inv h
                                    obtain ⟨z25, hz, h⟩ := h
                                    refine ⟨z25, hz, ?_⟩
                                    clear hz
                                    try cbv
                                    replace h := bO2_inv h
                                    obtain ⟨z26, z27, hr, h⟩ := h
                                    refine call_go rfl rfl ?_
                                    try cbv
                                    refine call_pure hM hI (T75 _ hr) rfl ?_
                                    clear hr
                                    try cbv
                                    exact join_next (m9, (z26, z27)) [0, 2, 3, 4, 5, 6, 7, 8, 9] [] 1888 ⟨by omega, h⟩ (by cbv)
                            · clear h
                              rintro ⟨m10, z28, z29⟩ ⟨hm10, h⟩
                              replace hm10 : m10 ≤ m8 := hm10
                              cases m10 with
                              | zero =>
                                replace h : L63_10 0 s1 z5 z17 z28 z29 = some (r1, r2) := h
                                rw [L63_10] at h
                                cases h
                              | succ m10 =>
                                replace h : L63_10 (m10 + 1) s1 z5 z17 z28 z29 = some (r1, r2) := h
                                rw [L63_10] at h
                                try cbv
                                refine seq_go ?_
                                try cbv
                                refine seq_join (T := Nat × Bool) (fun t => ⟨[(0, .v (.d (.str s1))), (2, .v (.d (.int .i64 0))), (3, .v (.d (.int .i64 0))), (4, .v (.d (.int .i64 z5))), (5, .v (.d (.int .i64 z9))), (6, .v (.d (.int .i64 z16))), (7, .v (.d (.int .i64 z17))), (8, .v (.d (.int .i64 z28))), (9, .v (.d (.int .i64 z29))), (73, .v (.d (.bool t.2)))], [], 1952⟩) (fun t => t.1 ≤ m10 ∧ L63_11 t.1 s1 z5 z17 z28 t.2 = some (r1, r2)) ?_ ?_
                                · try cbv
                                  refine splitI (fun e => ?_) (fun e => ?_)
                                  · replace h := ite_t e h
                                    clear e
                                    try cbv
                                    exact join_next (m10, false) [0, 2, 3, 4, 5, 6, 7, 8, 9, 73] [] 1952 ⟨by omega, h⟩ (by cbv)
                                  · replace h := ite_f e h
                                    clear e
                                    try cbv
                                    exact join_next (m10, true) [0, 2, 3, 4, 5, 6, 7, 8, 9, 73] [] 1952 ⟨by omega, h⟩ (by cbv)
                                · clear h
                                  rintro ⟨m11, b30⟩ ⟨hm11, h⟩
                                  replace hm11 : m11 ≤ m10 := hm11
                                  cases m11 with
                                  | zero =>
                                    replace h : L63_11 0 s1 z5 z17 z28 b30 = some (r1, r2) := h
                                    rw [L63_11] at h
                                    cases h
                                  | succ m11 =>
                                    replace h : L63_11 (m11 + 1) s1 z5 z17 z28 b30 = some (r1, r2) := h
                                    rw [L63_11] at h
                                    try cbv
                                    cases b30
                                    · replace h := ite_f Bool.false_ne_true h
                                      try cbv
                                      replace h := letF_inv h
                                      obtain ⟨z31, hz, h⟩ := h
                                      refine ⟨z31, hz, ?_⟩
                                      clear hz
                                      try cbv
                                      exact loop_next (m11, (z28, z31)) [0, 2, 3, 4, 5, 6, 7] [] 1088 ⟨by omega, h⟩ (Nat.lt_succ_of_le (by omega)) (by cbv)
                                    · replace h := ite_t rfl h
                                      try cbv
                                      refine seq_go ?_
                                      try cbv
                                      obtain ⟨rfl, rfl⟩ := inj2 h
                                      refine fin_go ?_
                                      try cbv
                                      exact ⟨[], rfl, rfl, trivial, trivial, trivial⟩
                  · replace h := ite_t rfl h
                    try cbv
                    refine seq_go ?_
                    try cbv
                    refine seq_join (T := Nat × Bool) (fun t => ⟨[(0, .v (.d (.str s1))), (2, .v (.d (.int .i64 0))), (3, .v (.d (.int .i64 0))), (4, .v (.d (.int .i64 z5))), (5, .v (.d (.int .i64 z9))), (47, .v (.d (.bool t.2)))], [], 1312⟩) (fun t => t.1 ≤ m5 ∧ L63_6 t.1 s1 z5 z9 t.2 = some (r1, r2)) ?_ ?_
                    · try cbv
                      replace h := atF_inv h
                      obtain ⟨z12, hz, h⟩ := h
                      refine ⟨z12, hz, ?_⟩
                      clear hz
                      try cbv
                      refine splitL (fun e => ?_) (fun e => ?_)
                      · replace h := ite_t e h
                        clear e
                        try cbv
                        exact join_next (m5, true) [0, 2, 3, 4, 5, 47] [] 1312 ⟨by omega, h⟩ (by cbv)
                      · replace h := ite_f (Int.not_lt.2 e) h
                        clear e
                        try cbv
                        replace h := atF_inv h
                        obtain ⟨z13, hz, h⟩ := h
                        refine ⟨z13, hz, ?_⟩
                        clear hz
                        try cbv
                        refine splitL (fun e => ?_) (fun e => ?_)
                        · replace h := ite_t e h
                          clear e
                          try cbv
                          exact join_next (m5, true) [0, 2, 3, 4, 5, 47] [] 1312 ⟨by omega, h⟩ (by cbv)
                        · replace h := ite_f (Int.not_lt.2 e) h
                          clear e
                          try cbv
                          exact join_next (m5, false) [0, 2, 3, 4, 5, 47] [] 1312 ⟨by omega, h⟩ (by cbv)
                    · clear h
                      rintro ⟨m6, b14⟩ ⟨hm6, h⟩
                      replace hm6 : m6 ≤ m5 := hm6
                      cases m6 with
                      | zero =>
                        replace h : L63_6 0 s1 z5 z9 b14 = some (r1, r2) := h
                        rw [L63_6] at h
                        cases h
                      | succ m6 =>
                        replace h : L63_6 (m6 + 1) s1 z5 z9 b14 = some (r1, r2) := h
                        rw [L63_6] at h
                        try cbv
                        cases b14
                        · replace h := ite_f Bool.false_ne_true h
                          try cbv
                          replace h := letF_inv h
                          obtain ⟨z15, hz, h⟩ := h
                          refine ⟨z15, hz, ?_⟩
                          clear hz
                          try cbv
                          exact loop_next (m6, z15) [0, 2, 3, 4, 5] [] 864 ⟨by omega, h⟩ (Nat.lt_succ_of_le (by omega)) (by cbv)
                        · replace h := ite_t rfl h
                          try cbv
                          refine seq_go ?_
                          try cbv
                          obtain ⟨rfl, rfl⟩ := inj2 h
                          refine fin_go ?_
                          try cbv
                          exact ⟨[], rfl, rfl, trivial, trivial, trivial⟩
          · replace h := ite_t rfl h
            try cbv
            refine seq_go ?_
            try cbv
            obtain ⟨rfl, rfl⟩ := inj2 h
            refine fin_go ?_
            try cbv
            exact ⟨[], rfl, rfl, trivial, trivial, trivial⟩
end Go.Proofs.YtjmofeakajdbiaaDoor
end

set_option linter.unusedVariables false
noncomputable section
namespace Go.Proofs.YtjmofeakajdbiaaDoor
open Go Go.AM
def L47_5 : Nat → Bool → Option (Int)
  | 0, _ => none
  | n + 1, b15 =>
    (if b15 = true then some (4 : Int) else some (0 : Int))
def L47_4 : Nat → ByteArray → Bool → Option (Int)
  | 0, _, _ => none
  | n + 1, s1, b12 =>
    (if b12 = true then some (0 : Int) else bO2 (F63 n s1) fun z13 z14 => (if z14 = (0 : Int) then L47_5 n true else L47_5 n false))
mutual
def L47_1 : Nat → ByteArray → Int → Option (Int)
  | 0, _, _ => none
  | n + 1, s1, z5 =>
    (if z5 < (20 : Int) then L47_2 n s1 z5 true else L47_2 n s1 z5 false)
def L47_2 : Nat → ByteArray → Int → Bool → Option (Int)
  | 0, _, _, _ => none
  | n + 1, s1, z5, b6 =>
    (if b6 = true then getF ([.str k___, .str k____1, .str k____2, .str k___1, .str k___2, .str k___3, .str k___4, .str k___5, .str k___6, .str k___7, .str k___8, .str k___9, .str k___10, .str k___11, .str k__, .str k___12, .str k___13, .str k___14, .str k___15, .str k___16]) z5 fun x7 => ds_str x7 fun s8 => (if s8 = s1 then L47_3 n s1 z5 true else L47_3 n s1 z5 false) else (if s1 = ByteArray.empty then L47_4 n s1 true else atF s1 (0 : Int) fun z11 => (if z11 = (45 : Int) then L47_4 n s1 true else L47_4 n s1 false)))
def L47_3 : Nat → ByteArray → Int → Bool → Option (Int)
  | 0, _, _, _ => none
  | n + 1, s1, z5, b9 =>
    (if b9 = true then some (5 : Int) else letF (IntKind.wrap .i64 (z5 + 1)) fun z10 => L47_1 n s1 z10)
end
def F47 (n : Nat) (s1 : ByteArray) : Option (Int) :=
  bO1 (F12 n s1) fun b2 => (if b2 = true then some (1 : Int) else bO1 (F14 n s1) fun b3 => (if b3 = true then some (2 : Int) else bO1 (F16 n s1) fun b4 => (if b4 = true then some (3 : Int) else L47_1 n s1 (0 : Int))))
set_option maxRecDepth 100000 in
set_option maxHeartbeats 40000000 in
theorem T47 (n : Nat) : ∀ ⦃s1 : ByteArray⦄ ⦃r1 : Int⦄, F47 n s1 = some r1 →
    Trip Tryd.prog inv 47 [.d (.str s1)] [] (.v (.d (.int .u8 r1))) [] [] := by
  intro s1 r1 h
  unfold F47 at h
  refine Trip.of tab_ok tab_one fol Tryd.func47 rfl (by kernel_rfl) rfl rfl rfl (fun M hM hI => ?_)
  try cbv
  refine seq_go ?_
  try cbv
  refine seq_go ?_
  try cbv
  refine seq_go ?_
  try cbv
  replace h := bO1_inv h
  obtain ⟨b2, hr, h⟩ := h
  refine call_go rfl rfl ?_
  try cbv
  refine call_pure hM hI (T12 _ hr) rfl ?_
  clear hr
  try cbv
  cases b2
  · replace h := ite_f Bool.false_ne_true h
    try cbv
    refine seq_go ?_
    try cbv
    replace h := bO1_inv h
    obtain ⟨b3, hr, h⟩ := h
    refine call_go rfl rfl ?_
    try cbv
    refine call_pure hM hI (T14 _ hr) rfl ?_
    clear hr
    try cbv
    cases b3
    · replace h := ite_f Bool.false_ne_true h
      try cbv
      refine seq_go ?_
      try cbv
      replace h := bO1_inv h
      obtain ⟨b4, hr, h⟩ := h
      refine call_go rfl rfl ?_
      try cbv
      refine call_pure hM hI (T16 _ hr) rfl ?_
      clear hr
      try cbv
      cases b4
      · replace h := ite_f Bool.false_ne_true h
        try cbv
        refine seq_go ?_
        try cbv
        refine ⟨false, ?_⟩
        try cbv
        refine ⟨true, ?_⟩
        try cbv
        refine seq_go ?_
        try cbv
        refine seq_go ?_
        try cbv
        refine loop_inv (T := Nat × Int) [0, 2, 3, 4] [] 416 (fun t => ⟨[(0, .v (.d (.str s1))), (2, .v (.d (.int .u8 0))), (3, .v (.c (.tl false 1 ([.str k___, .str k____1, .str k____2, .str k___1, .str k___2, .str k___3, .str k___4, .str k___5, .str k___6, .str k___7, .str k___8, .str k___9, .str k___10, .str k___11, .str k__, .str k___12, .str k___13, .str k___14, .str k___15, .str k___16])))), (4, .v (.d (.int .i64 t.2)))], [], 416⟩)
          (fun t => t.1 ≤ n ∧ L47_1 t.1 s1 t.2 = some r1) (fun t => t.1) (n, (0 : Int)) ⟨Nat.le_refl _, h⟩ (by cbv) ?_
        clear h
        rintro ⟨m1, z5⟩ ⟨hm1, h⟩
        replace hm1 : m1 ≤ n := hm1
        cases m1 with
        | zero =>
          replace h : L47_1 0 s1 z5 = some r1 := h
          rw [L47_1] at h
          cases h
        | succ m1 =>
          replace h : L47_1 (m1 + 1) s1 z5 = some r1 := h
          rw [L47_1] at h
          try cbv
          refine seq_go ?_
          try cbv
          refine seq_join (T := Nat × Bool) (fun t => ⟨[(0, .v (.d (.str s1))), (2, .v (.d (.int .u8 0))), (3, .v (.c (.tl false 1 ([.str k___, .str k____1, .str k____2, .str k___1, .str k___2, .str k___3, .str k___4, .str k___5, .str k___6, .str k___7, .str k___8, .str k___9, .str k___10, .str k___11, .str k__, .str k___12, .str k___13, .str k___14, .str k___15, .str k___16])))), (4, .v (.d (.int .i64 z5))), (20, .v (.d (.bool t.2)))], [], 544⟩) (fun t => t.1 ≤ m1 ∧ L47_2 t.1 s1 z5 t.2 = some r1) ?_ ?_
          · try cbv
            refine ⟨20, (M.lenI_eq _).trans rfl, ?_⟩
            try cbv
            refine splitL (fun e => ?_) (fun e => ?_)
            · replace h := ite_t e h
              clear e
              try cbv
              exact join_next (m1, true) [0, 2, 3, 4, 20] [] 544 ⟨by omega, h⟩ (by cbv)
            · replace h := ite_f (Int.not_lt.2 e) h
              clear e
              try cbv
              exact join_next (m1, false) [0, 2, 3, 4, 20] [] 544 ⟨by omega, h⟩ (by cbv)
          · clear h
            rintro ⟨m2, b6⟩ ⟨hm2, h⟩
            replace hm2 : m2 ≤ m1 := hm2
            cases m2 with
            | zero =>
              replace h : L47_2 0 s1 z5 b6 = some r1 := h
              rw [L47_2] at h
              cases h
            | succ m2 =>
              replace h : L47_2 (m2 + 1) s1 z5 b6 = some r1 := h
              rw [L47_2] at h
              try cbv
              cases b6
              · replace h := ite_f Bool.false_ne_true h
                try cbv
                refine seq_go ?_
                try cbv
                refine seq_join (T := Nat × Bool) (fun t => ⟨[(0, .v (.d (.str s1))), (2, .v (.d (.int .u8 0))), (3, .v (.c (.tl false 1 ([.str k___, .str k____1, .str k____2, .str k___1, .str k___2, .str k___3, .str k___4, .str k___5, .str k___6, .str k___7, .str k___8, .str k___9, .str k___10, .str k___11, .str k__, .str k___12, .str k___13, .str k___14, .str k___15, .str k___16])))), (4, .v (.d (.int .i64 z5))), (35, .v (.d (.bool t.2)))], [], 768⟩) (fun t => t.1 ≤ m2 ∧ L47_4 t.1 s1 t.2 = some r1) ?_ ?_
                · try cbv
                  refine splitS (fun e => ?_) (fun e => ?_)
                  · replace h := ite_t (bytes_eq.1 e) h
                    clear e
                    try cbv
                    exact join_next (m2, true) [0, 2, 3, 4, 35] [] 768 ⟨by omega, h⟩ (by cbv)
                  · replace h := ite_f (bytes_ne.1 e) h
                    clear e
                    try cbv
                    replace h := atF_inv h
                    obtain ⟨z11, hz, h⟩ := h
                    refine ⟨z11, hz, ?_⟩
                    clear hz
                    try cbv
                    refine splitI (fun e => ?_) (fun e => ?_)
                    · replace h := ite_t e h
                      clear e
                      try cbv
                      exact join_next (m2, true) [0, 2, 3, 4, 35] [] 768 ⟨by omega, h⟩ (by cbv)
                    · replace h := ite_f e h
                      clear e
                      try cbv
                      exact join_next (m2, false) [0, 2, 3, 4, 35] [] 768 ⟨by omega, h⟩ (by cbv)
                · clear h
                  rintro ⟨m4, b12⟩ ⟨hm4, h⟩
                  replace hm4 : m4 ≤ m2 := hm4
                  cases m4 with
                  | zero =>
                    replace h : L47_4 0 s1 b12 = some r1 := h
                    rw [L47_4] at h
                    cases h
                  | succ m4 =>
                    replace h : L47_4 (m4 + 1) s1 b12 = some r1 := h
                    rw [L47_4] at h
                    try cbv
                    cases b12
                    · replace h := ite_f Bool.false_ne_true h
                      try cbv
                      refine seq_go ?_
                      try cbv
                      replace h := bO2_inv h
                      obtain ⟨z13, z14, hr, h⟩ := h
                      refine call_go rfl rfl ?_
                      try cbv
                      refine call_pure hM hI (T63 _ hr) rfl ?_
                      clear hr
                      try cbv
                      refine seq_go ?_
                      try cbv
                      refine seq_join (T := Nat × Bool) (fun t => ⟨[(0, .v (.d (.str s1))), (2, .v (.d (.int .u8 0))), (3, .v (.c (.tl false 1 ([.str k___, .str k____1, .str k____2, .str k___1, .str k___2, .str k___3, .str k___4, .str k___5, .str k___6, .str k___7, .str k___8, .str k___9, .str k___10, .str k___11, .str k__, .str k___12, .str k___13, .str k___14, .str k___15, .str k___16])))), (4, .v (.d (.int .i64 z5))), (42, .v (.d (.bool t.2)))], [], 1056⟩) (fun t => t.1 ≤ m4 ∧ L47_5 t.1 t.2 = some r1) ?_ ?_
                      · try cbv
                        refine splitI (fun e => ?_) (fun e => ?_)
                        · replace h := ite_t e h
                          clear e
                          try cbv
                          exact join_next (m4, true) [0, 2, 3, 4, 42] [] 1056 ⟨by omega, h⟩ (by cbv)
                        · replace h := ite_f e h
                          clear e
                          try cbv
                          exact join_next (m4, false) [0, 2, 3, 4, 42] [] 1056 ⟨by omega, h⟩ (by cbv)
                      · clear h
                        rintro ⟨m5, b15⟩ ⟨hm5, h⟩
                        replace hm5 : m5 ≤ m4 := hm5
                        cases m5 with
                        | zero =>
                          replace h : L47_5 0 b15 = some r1 := h
                          rw [L47_5] at h
                          cases h
                        | succ m5 =>
                          replace h : L47_5 (m5 + 1) b15 = some r1 := h
                          rw [L47_5] at h
                          try cbv
                          cases b15
                          · replace h := ite_f Bool.false_ne_true h
                            try cbv
                            refine seq_go ?_
                            try cbv
                            obtain rfl := Option.some.inj h
                            refine fin_go ?_
                            try cbv
                            exact ⟨[], rfl, rfl, trivial, trivial, trivial⟩
                          · replace h := ite_t rfl h
                            try cbv
                            refine seq_go ?_
                            try cbv
                            obtain rfl := Option.some.inj h
                            refine fin_go ?_
                            try cbv
                            exact ⟨[], rfl, rfl, trivial, trivial, trivial⟩
                    · replace h := ite_t rfl h
                      try cbv
                      refine seq_go ?_
                      try cbv
                      obtain rfl := Option.some.inj h
                      refine fin_go ?_
                      try cbv
                      exact ⟨[], rfl, rfl, trivial, trivial, trivial⟩
              · replace h := ite_t rfl h
                try cbv
                refine seq_go ?_
                try cbv
                refine seq_join (T := Nat × Bool) (fun t => ⟨[(0, .v (.d (.str s1))), (2, .v (.d (.int .u8 0))), (3, .v (.c (.tl false 1 ([.str k___, .str k____1, .str k____2, .str k___1, .str k___2, .str k___3, .str k___4, .str k___5, .str k___6, .str k___7, .str k___8, .str k___9, .str k___10, .str k___11, .str k__, .str k___12, .str k___13, .str k___14, .str k___15, .str k___16])))), (4, .v (.d (.int .i64 z5))), (28, .v (.d (.bool t.2)))], [], 736⟩) (fun t => t.1 ≤ m2 ∧ L47_3 t.1 s1 z5 t.2 = some r1) ?_ ?_
                · try cbv
                  replace h := getF_inv h
                  obtain ⟨x7, ⟨hx0, hx⟩, h⟩ := h
                  refine ⟨x7, hx0, hx, ?_⟩
                  clear hx0 hx
                  replace h := ds_str_inv h
                  obtain ⟨s8, rfl, h⟩ := h
                  try cbv
                  refine splitS (fun e => ?_) (fun e => ?_)
                  · replace h := ite_t (bytes_eq.1 e) h
                    clear e
                    try cbv
                    exact join_next (m2, true) [0, 2, 3, 4, 28] [] 736 ⟨by omega, h⟩ (by cbv)
                  · replace h := ite_f (bytes_ne.1 e) h
                    clear e
                    try cbv
                    exact join_next (m2, false) [0, 2, 3, 4, 28] [] 736 ⟨by omega, h⟩ (by cbv)
                · clear h
                  rintro ⟨m3, b9⟩ ⟨hm3, h⟩
                  replace hm3 : m3 ≤ m2 := hm3
                  cases m3 with
                  | zero =>
                    replace h : L47_3 0 s1 z5 b9 = some r1 := h
                    rw [L47_3] at h
                    cases h
                  | succ m3 =>
                    replace h : L47_3 (m3 + 1) s1 z5 b9 = some r1 := h
                    rw [L47_3] at h
                    try cbv
                    cases b9
                    · replace h := ite_f Bool.false_ne_true h
                      try cbv
                      replace h := letF_inv h
                      obtain ⟨z10, hz, h⟩ := h
                      refine ⟨z10, hz, ?_⟩
                      clear hz
                      try cbv
                      exact loop_next (m3, z10) [0, 2, 3, 4] [] 416 ⟨by omega, h⟩ (Nat.lt_succ_of_le (by omega)) (by cbv)
                    · replace h := ite_t rfl h
                      try cbv
                      refine seq_go ?_
                      try cbv
                      obtain rfl := Option.some.inj h
                      refine fin_go ?_
                      try cbv
                      exact ⟨[], rfl, rfl, trivial, trivial, trivial⟩
      · replace h := ite_t rfl h
        try cbv
        refine seq_go ?_
        try cbv
        obtain rfl := Option.some.inj h
        refine fin_go ?_
        try cbv
        exact ⟨[], rfl, rfl, trivial, trivial, trivial⟩
    · replace h := ite_t rfl h
      try cbv
      refine seq_go ?_
      try cbv
      obtain rfl := Option.some.inj h
      refine fin_go ?_
      try cbv
      exact ⟨[], rfl, rfl, trivial, trivial, trivial⟩
  · replace h := ite_t rfl h
    try cbv
    refine seq_go ?_
    try cbv
    obtain rfl := Option.some.inj h
    refine fin_go ?_
    try cbv
    exact ⟨[], rfl, rfl, trivial, trivial, trivial⟩
end Go.Proofs.YtjmofeakajdbiaaDoor
end

set_option linter.unusedVariables false
noncomputable section
namespace Go.Proofs.YtjmofeakajdbiaaDoor
open Go Go.AM
mutual
def L46_2 : Nat → ByteArray → Int → Option (Int)
  | 0, _, _ => none
  | n + 1, s1, z6 =>
    szF s1 fun z7 => (if z6 < z7 then atF s1 z6 fun z8 => (if (48 : Int) ≤ z8 then atF s1 z6 fun z9 => (if z9 ≤ (57 : Int) then L46_3 n s1 z6 true else L46_3 n s1 z6 false) else L46_3 n s1 z6 false) else L46_3 n s1 z6 false)
def L46_3 : Nat → ByteArray → Int → Bool → Option (Int)
  | 0, _, _, _ => none
  | n + 1, s1, z6, b10 =>
    (if b10 = true then letF (IntKind.wrap .i64 (z6 + 1)) fun z11 => L46_2 n s1 z11 else some z6)
end
mutual
def L46_5 : Nat → ByteArray → Int → Option (Int)
  | 0, _, _ => none
  | n + 1, s1, z14 =>
    szF s1 fun z15 => (if z14 < z15 then atF s1 z14 fun z16 => bO1 (F53 n z16) fun b17 => L46_6 n s1 z14 b17 else L46_6 n s1 z14 false)
def L46_6 : Nat → ByteArray → Int → Bool → Option (Int)
  | 0, _, _, _ => none
  | n + 1, s1, z14, b18 =>
    (if b18 = true then letF (IntKind.wrap .i64 (z14 + 1)) fun z19 => L46_5 n s1 z19 else some z14)
end
def L46_7 : Nat → Int → Bool → Option (Int)
  | 0, _, _ => none
  | n + 1, z4, b24 =>
    (if b24 = true then letF (IntKind.wrap .i64 (z4 + 1)) fun z25 => some z25 else some z4)
def L46_4 : Nat → ByteArray → Int → Int → Bool → Option (Int)
  | 0, _, _, _, _ => none
  | n + 1, s1, z2, z4, b13 =>
    (if b13 = true then L46_5 n s1 z4 else szF s1 fun z20 => (if z4 < z20 then letF (IntKind.wrap .i64 (z4 + 1)) fun z21 => subF s1 z2 z21 fun s22 => bO1 (F47 n s22) fun z23 => (if z23 = (5 : Int) then L46_7 n z4 true else L46_7 n z4 false) else L46_7 n z4 false))
def L46_1 : Nat → ByteArray → Int → Int → Int → Bool → Option (Int)
  | 0, _, _, _, _, _ => none
  | n + 1, s1, z2, z3, z4, b5 =>
    (if b5 = true then L46_2 n s1 z4 else bO1 (F53 n z3) fun b12 => (if b12 = true then (if z3 = (95 : Int) then L46_4 n s1 z2 z4 false else L46_4 n s1 z2 z4 true) else L46_4 n s1 z2 z4 false))
def F46 (n : Nat) (s1 : ByteArray) (z2 : Int) : Option (Int) :=
  atF s1 z2 fun z3 => letF (IntKind.wrap .i64 (z2 + 1)) fun z4 => (if (48 : Int) ≤ z3 then (if z3 ≤ (57 : Int) then L46_1 n s1 z2 z3 z4 true else L46_1 n s1 z2 z3 z4 false) else L46_1 n s1 z2 z3 z4 false)
set_option maxRecDepth 100000 in
set_option maxHeartbeats 40000000 in
theorem T46 (n : Nat) : ∀ ⦃s1 : ByteArray⦄ ⦃z2 : Int⦄ ⦃r1 : Int⦄, F46 n s1 z2 = some r1 →
    Trip Tryd.prog inv 46 [.d (.str s1), .d (.int .i64 z2)] [] (.v (.d (.int .i64 r1))) [] [] := by
  intro s1 z2 r1 h
  unfold F46 at h
  refine Trip.of tab_ok tab_one fol Tryd.func46 rfl (by kernel_rfl) rfl rfl rfl (fun M hM hI => ?_)
  try cbv
  refine seq_go ?_
  try cbv
  refine seq_go ?_
  try cbv
  replace h := atF_inv h
  obtain ⟨z3, hz, h⟩ := h
  refine ⟨z3, hz, ?_⟩
  clear hz
  try cbv
  refine seq_go ?_
  try cbv
  replace h := letF_inv h
  obtain ⟨z4, hz, h⟩ := h
  refine ⟨z4, hz, ?_⟩
  clear hz
  try cbv
  refine seq_go ?_
  try cbv
  refine seq_join (T := Nat × Bool) (fun t => ⟨[(0, .v (.d (.str s1))), (1, .v (.d (.int .i64 z2))), (4, .v (.d (.int .i64 0))), (5, .v (.d (.int .u8 z3))), (6, .v (.d (.int .i64 z4))), (17, .v (.d (.bool t.2)))], [], 448⟩) (fun t => t.1 ≤ n ∧ L46_1 t.1 s1 z2 z3 z4 t.2 = some r1) ?_ ?_
  · try cbv
    refine splitLe (fun e => ?_) (fun e => ?_)
    · replace h := ite_t e h
      clear e
      try cbv
      refine splitLe (fun e => ?_) (fun e => ?_)
      · replace h := ite_t e h
        clear e
        try cbv
        exact join_next (n, true) [0, 1, 4, 5, 6, 17] [] 448 ⟨by omega, h⟩ (by cbv)
      · replace h := ite_f (Int.not_le.2 e) h
        clear e
        try cbv
        exact join_next (n, false) [0, 1, 4, 5, 6, 17] [] 448 ⟨by omega, h⟩ (by cbv)
    · replace h := ite_f (Int.not_le.2 e) h
      clear e
      try cbv
      exact join_next (n, false) [0, 1, 4, 5, 6, 17] [] 448 ⟨by omega, h⟩ (by cbv)
  · clear h
    rintro ⟨m1, b5⟩ ⟨hm1, h⟩
    replace hm1 : m1 ≤ n := hm1
    cases m1 with
    | zero =>
      replace h : L46_1 0 s1 z2 z3 z4 b5 = some r1 := h
      rw [L46_1] at h
      cases h
    | succ m1 =>
      replace h : L46_1 (m1 + 1) s1 z2 z3 z4 b5 = some r1 := h
      rw [L46_1] at h
      try cbv
      cases b5
      · replace h := ite_f Bool.false_ne_true h
        try cbv
        refine seq_go ?_
        try cbv
        refine seq_join (T := Nat × Bool) (fun t => ⟨[(0, .v (.d (.str s1))), (1, .v (.d (.int .i64 z2))), (4, .v (.d (.int .i64 0))), (6, .v (.d (.int .i64 z4))), (42, .v (.d (.bool t.2)))], [], 640⟩) (fun t => t.1 ≤ m1 ∧ L46_4 t.1 s1 z2 z4 t.2 = some r1) ?_ ?_
        · try cbv
          replace h := bO1_inv h
          obtain ⟨b12, hr, h⟩ := h
          refine call_go rfl rfl ?_
          try cbv
          refine call_pure hM hI (T53 _ hr) rfl ?_
          clear hr
          try cbv
          cases b12
          · replace h := ite_f Bool.false_ne_true h
            try cbv
            exact join_next (m1, false) [0, 1, 4, 6, 42] [] 640 ⟨by omega, h⟩ (by cbv)
          · replace h := ite_t rfl h
            try cbv
            refine splitI (fun e => ?_) (fun e => ?_)
            · replace h := ite_t e h
              clear e
              try cbv
              exact join_next (m1, false) [0, 1, 4, 6, 42] [] 640 ⟨by omega, h⟩ (by cbv)
            · replace h := ite_f e h
              clear e
              try cbv
              exact join_next (m1, true) [0, 1, 4, 6, 42] [] 640 ⟨by omega, h⟩ (by cbv)
        · clear h
          rintro ⟨m4, b13⟩ ⟨hm4, h⟩
          replace hm4 : m4 ≤ m1 := hm4
          cases m4 with
          | zero =>
            replace h : L46_4 0 s1 z2 z4 b13 = some r1 := h
            rw [L46_4] at h
            cases h
          | succ m4 =>
            replace h : L46_4 (m4 + 1) s1 z2 z4 b13 = some r1 := h
            rw [L46_4] at h
            try cbv
            cases b13
            · replace h := ite_f Bool.false_ne_true h
              try cbv
              refine seq_go ?_
              try cbv
              refine seq_join (T := Nat × Bool) (fun t => ⟨[(4, .v (.d (.int .i64 0))), (6, .v (.d (.int .i64 z4))), (68, .v (.d (.bool t.2)))], [], 1056⟩) (fun t => t.1 ≤ m4 ∧ L46_7 t.1 z4 t.2 = some r1) ?_ ?_
              · try cbv
                replace h := szF_inv M h
                obtain ⟨z20, hz, h⟩ := h
                refine ⟨z20, hz, ?_⟩
                clear hz
                try cbv
                refine splitL (fun e => ?_) (fun e => ?_)
                · replace h := ite_t e h
                  clear e
                  try cbv
                  replace h := letF_inv h
                  obtain ⟨z21, hz, h⟩ := h
                  refine ⟨z21, hz, ?_⟩
                  clear hz
                  try cbv
                  replace h := subF_inv M h
                  obtain ⟨s22, hb, hz, h⟩ := h
                  refine ⟨s22, hb, hz, ?_⟩
                  clear hb hz
                  try cbv
                  replace h := bO1_inv h
                  obtain ⟨z23, hr, h⟩ := h
                  refine call_go rfl rfl ?_
                  try cbv
                  refine call_pure hM hI (T47 _ hr) rfl ?_
                  clear hr
                  try cbv
                  refine splitI (fun e => ?_) (fun e => ?_)
                  · replace h := ite_t e h
                    clear e
                    try cbv
                    exact join_next (m4, true) [4, 6, 68] [] 1056 ⟨by omega, h⟩ (by cbv)
                  · replace h := ite_f e h
                    clear e
                    try cbv
                    exact join_next (m4, false) [4, 6, 68] [] 1056 ⟨by omega, h⟩ (by cbv)
                · replace h := ite_f (Int.not_lt.2 e) h
                  clear e
                  try cbv
                  exact join_next (m4, false) [4, 6, 68] [] 1056 ⟨by omega, h⟩ (by cbv)
              · clear h
                rintro ⟨m7, b24⟩ ⟨hm7, h⟩
                replace hm7 : m7 ≤ m4 := hm7
                cases m7 with
                | zero =>
                  replace h : L46_7 0 z4 b24 = some r1 := h
                  rw [L46_7] at h
                  cases h
                | succ m7 =>
                  replace h : L46_7 (m7 + 1) z4 b24 = some r1 := h
                  rw [L46_7] at h
                  try cbv
                  cases b24
                  · replace h := ite_f Bool.false_ne_true h
                    try cbv
                    refine seq_go ?_
                    try cbv
                    obtain rfl := Option.some.inj h
                    refine fin_go ?_
                    try cbv
                    exact ⟨[], rfl, rfl, trivial, trivial, trivial⟩
                  · replace h := ite_t rfl h
                    try cbv
                    refine seq_go ?_
                    try cbv
                    replace h := letF_inv h
                    obtain ⟨z25, hz, h⟩ := h
                    refine ⟨z25, hz, ?_⟩
                    clear hz
                    try cbv
                    obtain rfl := Option.some.inj h
                    refine fin_go ?_
                    try cbv
                    exact ⟨[], rfl, rfl, trivial, trivial, trivial⟩
            · replace h := ite_t rfl h
              try cbv
              refine seq_go ?_
              try cbv
              refine loop_inv (T := Nat × Int) [0, 1, 4, 6] [] 640 (fun t => ⟨[(0, .v (.d (.str s1))), (1, .v (.d (.int .i64 z2))), (4, .v (.d (.int .i64 0))), (6, .v (.d (.int .i64 t.2)))], [], 640⟩)
                (fun t => t.1 ≤ m4 ∧ L46_5 t.1 s1 t.2 = some r1) (fun t => t.1) (m4, z4) ⟨Nat.le_refl _, h⟩ (by cbv) ?_
              clear h
              rintro ⟨m5, z14⟩ ⟨hm5, h⟩
              replace hm5 : m5 ≤ m4 := hm5
              cases m5 with
              | zero =>
                replace h : L46_5 0 s1 z14 = some r1 := h
                rw [L46_5] at h
                cases h
              | succ m5 =>
                replace h : L46_5 (m5 + 1) s1 z14 = some r1 := h
                rw [L46_5] at h
                try cbv
                refine seq_go ?_
                try cbv
                refine seq_join (T := Nat × Bool) (fun t => ⟨[(0, .v (.d (.str s1))), (1, .v (.d (.int .i64 z2))), (4, .v (.d (.int .i64 0))), (6, .v (.d (.int .i64 z14))), (52, .v (.d (.bool t.2)))], [], 960⟩) (fun t => t.1 ≤ m5 ∧ L46_6 t.1 s1 z14 t.2 = some r1) ?_ ?_
                · try cbv
                  replace h := szF_inv M h
                  obtain ⟨z15, hz, h⟩ := h
                  refine ⟨z15, hz, ?_⟩
                  clear hz
                  try cbv
                  refine splitL (fun e => ?_) (fun e => ?_)
                  · replace h := ite_t e h
                    clear e
                    try cbv
                    replace h := atF_inv h
                    obtain ⟨z16, hz, h⟩ := h
                    refine ⟨z16, hz, ?_⟩
                    clear hz
                    try cbv
                    replace h := bO1_inv h
                    obtain ⟨b17, hr, h⟩ := h
                    refine call_go rfl rfl ?_
                    try cbv
                    refine call_pure hM hI (T53 _ hr) rfl ?_
                    clear hr
                    try cbv
                    exact join_next (m5, b17) [0, 1, 4, 6, 52] [] 960 ⟨by omega, h⟩ (by cbv)
                  · replace h := ite_f (Int.not_lt.2 e) h
                    clear e
                    try cbv
                    exact join_next (m5, false) [0, 1, 4, 6, 52] [] 960 ⟨by omega, h⟩ (by cbv)
                · clear h
                  rintro ⟨m6, b18⟩ ⟨hm6, h⟩
                  replace hm6 : m6 ≤ m5 := hm6
                  cases m6 with
                  | zero =>
                    replace h : L46_6 0 s1 z14 b18 = some r1 := h
                    rw [L46_6] at h
                    cases h
                  | succ m6 =>
                    replace h : L46_6 (m6 + 1) s1 z14 b18 = some r1 := h
                    rw [L46_6] at h
                    try cbv
                    cases b18
                    · replace h := ite_f Bool.false_ne_true h
                      try cbv
                      refine seq_go ?_
                      try cbv
                      obtain rfl := Option.some.inj h
                      refine fin_go ?_
                      try cbv
                      exact ⟨[], rfl, rfl, trivial, trivial, trivial⟩
                    · replace h := ite_t rfl h
                      try cbv
                      replace h := letF_inv h
                      obtain ⟨z19, hz, h⟩ := h
                      refine ⟨z19, hz, ?_⟩
                      clear hz
                      try cbv
                      exact loop_next (m6, z19) [0, 1, 4, 6] [] 640 ⟨by omega, h⟩ (Nat.lt_succ_of_le (by omega)) (by cbv)
      · replace h := ite_t rfl h
        try cbv
        refine seq_go ?_
        try cbv
        refine loop_inv (T := Nat × Int) [0, 1, 4, 5, 6] [] 448 (fun t => ⟨[(0, .v (.d (.str s1))), (1, .v (.d (.int .i64 z2))), (4, .v (.d (.int .i64 0))), (5, .v (.d (.int .u8 z3))), (6, .v (.d (.int .i64 t.2)))], [], 448⟩)
          (fun t => t.1 ≤ m1 ∧ L46_2 t.1 s1 t.2 = some r1) (fun t => t.1) (m1, z4) ⟨Nat.le_refl _, h⟩ (by cbv) ?_
        clear h
        rintro ⟨m2, z6⟩ ⟨hm2, h⟩
        replace hm2 : m2 ≤ m1 := hm2
        cases m2 with
        | zero =>
          replace h : L46_2 0 s1 z6 = some r1 := h
          rw [L46_2] at h
          cases h
        | succ m2 =>
          replace h : L46_2 (m2 + 1) s1 z6 = some r1 := h
          rw [L46_2] at h
          try cbv
          refine seq_go ?_
          try cbv
          refine seq_join (T := Nat × Bool) (fun t => ⟨[(0, .v (.d (.str s1))), (1, .v (.d (.int .i64 z2))), (4, .v (.d (.int .i64 0))), (5, .v (.d (.int .u8 z3))), (6, .v (.d (.int .i64 z6))), (33, .v (.d (.bool t.2)))], [], 960⟩) (fun t => t.1 ≤ m2 ∧ L46_3 t.1 s1 z6 t.2 = some r1) ?_ ?_
          · try cbv
            replace h := szF_inv M h
            obtain ⟨z7, hz, h⟩ := h
            refine ⟨z7, hz, ?_⟩
            clear hz
            try cbv
            refine splitL (fun e => ?_) (fun e => ?_)
            · replace h := ite_t e h
              clear e
              try cbv
              replace h := atF_inv h
              obtain ⟨z8, hz, h⟩ := h
              refine ⟨z8, hz, ?_⟩
              clear hz
              try cbv
              refine splitLe (fun e => ?_) (fun e => ?_)
              · replace h := ite_t e h
                clear e
                try cbv
                replace h := atF_inv h
                obtain ⟨z9, hz, h⟩ := h
                refine ⟨z9, hz, ?_⟩
                clear hz
                try cbv
                refine splitLe (fun e => ?_) (fun e => ?_)
                · replace h := ite_t e h
                  clear e
                  try cbv
                  exact join_next (m2, true) [0, 1, 4, 5, 6, 33] [] 960 ⟨by omega, h⟩ (by cbv)
                · replace h := ite_f (Int.not_le.2 e) h
                  clear e
                  try cbv
                  exact join_next (m2, false) [0, 1, 4, 5, 6, 33] [] 960 ⟨by omega, h⟩ (by cbv)
              · replace h := ite_f (Int.not_le.2 e) h
                clear e
                try cbv
                exact join_next (m2, false) [0, 1, 4, 5, 6, 33] [] 960 ⟨by omega, h⟩ (by cbv)
            · replace h := ite_f (Int.not_lt.2 e) h
              clear e
              try cbv
              exact join_next (m2, false) [0, 1, 4, 5, 6, 33] [] 960 ⟨by omega, h⟩ (by cbv)
          · clear h
            rintro ⟨m3, b10⟩ ⟨hm3, h⟩
            replace hm3 : m3 ≤ m2 := hm3
            cases m3 with
            | zero =>
              replace h : L46_3 0 s1 z6 b10 = some r1 := h
              rw [L46_3] at h
              cases h
            | succ m3 =>
              replace h : L46_3 (m3 + 1) s1 z6 b10 = some r1 := h
              rw [L46_3] at h
              try cbv
              cases b10
              · replace h := ite_f Bool.false_ne_true h
                try cbv
                refine seq_go ?_
                try cbv
                obtain rfl := Option.some.inj h
                refine fin_go ?_
                try cbv
                exact ⟨[], rfl, rfl, trivial, trivial, trivial⟩
              · replace h := ite_t rfl h
                try cbv
                replace h := letF_inv h
                obtain ⟨z11, hz, h⟩ := h
                refine ⟨z11, hz, ?_⟩
                clear hz
                try cbv
                exact loop_next (m3, z11) [0, 1, 4, 5, 6] [] 448 ⟨by omega, h⟩ (Nat.lt_succ_of_le (by omega)) (by cbv)
end Go.Proofs.YtjmofeakajdbiaaDoor
end
