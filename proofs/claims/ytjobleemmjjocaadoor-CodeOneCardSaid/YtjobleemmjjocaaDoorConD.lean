/- Part of a proof. No condition. (Part 4: YtjobleemmjjocaaDoorShelf, YtjobleemmjjocaaDoorSh, YtjobleemmjjocaaDoorXDs, YtjobleemmjjocaaDoorX60, YtjobleemmjjocaaDoorX59, YtjobleemmjjocaaDoorX61, YtjobleemmjjocaaDoorX83, YtjobleemmjjocaaDoorX71, YtjobleemmjjocaaDoorX51, YtjobleemmjjocaaDoorX53, YtjobleemmjjocaaDoorX55, YtjobleemmjjocaaDoorX52,.) -/
import Derived.Shelf.Strings.Builder1
import Derived.Shelf.Strings.Builder2
import Derived.Shelf.Strings.OnBuilder
import Derived.Shelf.Strconv.Itoa0
import Derived.Shelf.Strconv.Itoa1
import Derived.Shelf.LaysM
import Derived.Shelf.Strconv.Itoa2
import Derived.Shelf.Strconv.Itoa3
import Derived.Shelf.Strconv.Itoa4
import Derived.Ground.Names2Prog
import Derived.Shelf.Slices.Clone
import Derived.Ground.SlgnProg
import Derived.Shelf.SlicesE.Clone
import Derived.Test.YtjobleemmjjocaaDoorProg
import Derived.Lib.AppendIntMem
import Derived.Test.YtjobleemmjjocaaDoorConC
set_option linter.unusedVariables false
set_option linter.unusedSimpArgs false
/-
  DERIVED: THE SHELF's CONTRACTS AT THIS DUMP, IN PLAIN WORDS (tools/lay-plain.mjs out of 'TrydShelf.lean', which tools/lay-shelf.mjs wrote): THE SAME DECLARATIONS UNDER THE SAME NAMES: 'import', 'namespace', 'open', 'def', 'theorem' AND NOTHING ELSE: no command of the shelf's: FOR A HAND-IN. Each laying: the table of numbers ('.._ren') and one theorem, a field a fact of the dump's own or the kernel's comparison; each contract: ONE APPLICATION.
-/
namespace Go.Proofs
open Go.Shelf
def Tryd.lays169_ren : Go.Shelf.Ren := ⟨fun | 169 => 87 | n => n, fun | 70 => 120 | 9 => 9 | 0 => 0 | 72 => 122 | 37 => 107 | 127 => 135 | 3 => 3 | 5 => 5 | n => n, fun | n => n⟩
theorem Tryd.lays169 : Go.Proofs.Lays.n169 Tryd.prog Tryd.lays169_ren := {
  mixed := by kernel_rfl
  f169 := Tryd.func87.trans (congrArg some (by kernel_rfl))
  t0 := Tryd.underlying0
  a0 := Tryd.isAgg0
  z0 := Tryd.sizeOf0
  v0 := Tryd.zeroValue0
  t3 := Tryd.underlying3
  a3 := Tryd.isAgg3
  z3 := Tryd.sizeOf3
  v3 := Tryd.zeroValue3
  t9 := Tryd.underlying9
  a9 := Tryd.isAgg9
  z9 := Tryd.sizeOf9
  v9 := Tryd.zeroValue9
  t37 := Tryd.underlying107
  a37 := Tryd.isAgg107
  z37 := Tryd.sizeOf107
  v37 := Tryd.zeroValue107
  t70 := Tryd.underlying120
  a70 := Tryd.isAgg120
  z70 := Tryd.sizeOf120
  v70 := Tryd.zeroValue120
  t72 := Tryd.underlying122
  a72 := Tryd.isAgg122
  z72 := Tryd.sizeOf122
  v72 := Tryd.zeroValue122
  t127 := Tryd.underlying135
  a127 := Tryd.isAgg135
  z127 := Tryd.sizeOf135
  v127 := Tryd.zeroValue135 }
theorem Tryd.Builder_Extra_169 : Builder.Extra Tryd.prog Tryd.lays169_ren := {
  sizeBuilder := by kernel_rfl
  liesBuilder := by kernel_rfl
  t5 := Tryd.underlying5
  a5 := Tryd.isAgg5
  z5 := Tryd.sizeOf5
  v5 := Tryd.zeroValue5
  infoByte := by kernel_rfl
  cellsByte := by kernel_rfl
  sizeByte := by kernel_rfl
  neB5 := by decide }
open Go.RowKit in
/-- (*strings.Builder).String: "String returns the accumulated string.": OF A BUILDER THAT HOLDS AT LEAST ONE BYTE. ✋ THE MODEL FREEZES THOSE BYTES IN THE BUFFER (unsafe.String): a later write INTO them ends the model's run without an answer; a later append BEHIND them goes on. The statement's order of evaluation is drawn: one draw. (LAID: no walk: one application.) -/
theorem Tryd.Builder_String (B b : Nat) (l : List UInt8) (w : World) (h : Lib.IsBuilder 122 5 B b (Lib.byteCells l) w) (h0 : l ≠ []) :
    Calls Tryd.prog 87 #[.pointer (some ⟨b, 0, none⟩)] w fun e w' => e = .returned (.string ⟨l.toArray⟩) ∧ Below B w w' := Any.Builder_String Tryd.lays169 Tryd.Builder_Extra_169 B b l w h h0
open Go.RowKit in
/-- (*strings.Builder).String OF A BUILDER THAT HOLDS NO BYTE: the empty string. (Its buffer is nil, or a row of which it has taken nothing yet; where that row has NO capacity the model lays one new block for unsafe.SliceData's 'some address'.) One draw. (LAID: no walk: one application.) -/
theorem Tryd.Builder_String_empty (B b : Nat) (w : World) (h : Lib.IsBuilder 122 5 B b [] w) (hBw : B ≤ w.heap.size) :
    Calls Tryd.prog 87 #[.pointer (some ⟨b, 0, none⟩)] w fun e w' => e = .returned (.string ⟨#[]⟩) ∧ Below B w w' := Any.Builder_String_empty Tryd.lays169 Tryd.Builder_Extra_169 B b w h hBw
open Go.RowKit in
/-- (*strings.Builder).String: "String returns the accumulated string.": WHATEVER THE BUILDER HOLDS. (LAID: no walk: one application.) -/
theorem Tryd.Builder_String_any (B b : Nat) (l : List UInt8) (w : World) (h : Lib.IsBuilder 122 5 B b (Lib.byteCells l) w) (hBw : B ≤ w.heap.size) :
    Calls Tryd.prog 87 #[.pointer (some ⟨b, 0, none⟩)] w fun e w' => e = .returned (.string ⟨l.toArray⟩) ∧ Below B w w' := Any.Builder_String_any Tryd.lays169 Tryd.Builder_Extra_169 B b l w h hBw
def Tryd.lays241_ren : Go.Shelf.Ren := ⟨fun | 241 => 95 | 277 => 103 | n => n, fun | 70 => 120 | 3 => 3 | 0 => 0 | 72 => 122 | 37 => 107 | 5 => 5 | n => n, fun | n => n⟩
theorem Tryd.lays241 : Go.Proofs.Lays.n241 Tryd.prog Tryd.lays241_ren := {
  mixed := by kernel_rfl
  f241 := Tryd.func95.trans (congrArg some (by kernel_rfl))
  f277 := Tryd.func103.trans (congrArg some (by kernel_rfl))
  t0 := Tryd.underlying0
  a0 := Tryd.isAgg0
  z0 := Tryd.sizeOf0
  v0 := Tryd.zeroValue0
  t3 := Tryd.underlying3
  a3 := Tryd.isAgg3
  z3 := Tryd.sizeOf3
  v3 := Tryd.zeroValue3
  t37 := Tryd.underlying107
  a37 := Tryd.isAgg107
  z37 := Tryd.sizeOf107
  v37 := Tryd.zeroValue107
  t70 := Tryd.underlying120
  a70 := Tryd.isAgg120
  z70 := Tryd.sizeOf120
  v70 := Tryd.zeroValue120
  t72 := Tryd.underlying122
  a72 := Tryd.isAgg122
  z72 := Tryd.sizeOf122
  v72 := Tryd.zeroValue122 }
theorem Tryd.Builder_Extra_241 : Builder.Extra Tryd.prog Tryd.lays241_ren := {
  sizeBuilder := by kernel_rfl
  liesBuilder := by kernel_rfl
  t5 := Tryd.underlying5
  a5 := Tryd.isAgg5
  z5 := Tryd.sizeOf5
  v5 := Tryd.zeroValue5
  infoByte := by kernel_rfl
  cellsByte := by kernel_rfl
  sizeByte := by kernel_rfl
  neB5 := by decide }
open Go.RowKit in
/-- (*strings.Builder).grow (no doc but "grow copies the buffer to a new, larger buffer so that there are at least n bytes of capacity beyond len(b.buf)."): AT A BUILDER WITHOUT A BUFFER: a new row of whatever bytes for its buffer, none of them its own yet. Three draws. (LAID: no walk: one application.) -/
theorem Tryd.Builder_grow_fresh (B b n : Nat) (w : World) (hB : B ≤ b) (hbk : w.heap[b]? = some (.cells #[.pointer (some ⟨b, 0, none⟩), .slice none 0 0] 122 (0, 0))) (hBw : B ≤ w.heap.size) (hn : n ≤ 281474976710656) :
    Calls Tryd.prog 95 #[.pointer (some ⟨b, 0, none⟩), .int .i64 n] w fun e w' => e = .returned (.tuple #[]) ∧ (Lib.BuilderAt 122 5 B b (.pointer (some ⟨b, 0, none⟩)) [] w' ∧ Below B w w') := Any.Builder_grow_fresh Tryd.lays241 Tryd.Builder_Extra_241 B b n w hB hbk hBw hn
def Tryd.lays165_ren : Go.Shelf.Ren := ⟨fun | 165 => 85 | 240 => 94 | 241 => 95 | 276 => 102 | 277 => 103 | n => n, fun | 70 => 120 | 3 => 3 | 0 => 0 | 4 => 4 | 9 => 9 | 20 => 20 | 72 => 122 | 37 => 107 | 164 => 143 | 5 => 5 | n => n, fun | n => n⟩
theorem Tryd.lays165 : Go.Proofs.Lays.n165 Tryd.prog Tryd.lays165_ren := {
  mixed := by kernel_rfl
  f165 := Tryd.func85.trans (congrArg some (by kernel_rfl))
  f240 := Tryd.func94.trans (congrArg some (by kernel_rfl))
  f241 := Tryd.func95.trans (congrArg some (by kernel_rfl))
  f276 := Tryd.func102.trans (congrArg some (by kernel_rfl))
  f277 := Tryd.func103.trans (congrArg some (by kernel_rfl))
  t0 := Tryd.underlying0
  a0 := Tryd.isAgg0
  z0 := Tryd.sizeOf0
  v0 := Tryd.zeroValue0
  t3 := Tryd.underlying3
  a3 := Tryd.isAgg3
  z3 := Tryd.sizeOf3
  v3 := Tryd.zeroValue3
  t4 := Tryd.underlying4
  a4 := Tryd.isAgg4
  z4 := Tryd.sizeOf4
  v4 := Tryd.zeroValue4
  t9 := Tryd.underlying9
  a9 := Tryd.isAgg9
  z9 := Tryd.sizeOf9
  v9 := Tryd.zeroValue9
  t20 := Tryd.underlying20
  a20 := Tryd.isAgg20
  z20 := Tryd.sizeOf20
  v20 := Tryd.zeroValue20
  t37 := Tryd.underlying107
  a37 := Tryd.isAgg107
  z37 := Tryd.sizeOf107
  v37 := Tryd.zeroValue107
  t70 := Tryd.underlying120
  a70 := Tryd.isAgg120
  z70 := Tryd.sizeOf120
  v70 := Tryd.zeroValue120
  t72 := Tryd.underlying122
  a72 := Tryd.isAgg122
  z72 := Tryd.sizeOf122
  v72 := Tryd.zeroValue122
  t164 := Tryd.underlying143
  a164 := Tryd.isAgg143
  z164 := Tryd.sizeOf143
  v164 := Tryd.zeroValue143 }
theorem Tryd.Builder_Extra_165 : Builder.Extra Tryd.prog Tryd.lays165_ren := {
  sizeBuilder := by kernel_rfl
  liesBuilder := by kernel_rfl
  t5 := Tryd.underlying5
  a5 := Tryd.isAgg5
  z5 := Tryd.sizeOf5
  v5 := Tryd.zeroValue5
  infoByte := by kernel_rfl
  cellsByte := by kernel_rfl
  sizeByte := by kernel_rfl
  neB5 := by decide }
open Go.RowKit in
/-- (*strings.Builder).Grow AT A BUILDER THAT HAS NOT BEEN WRITTEN ('var b strings.Builder; b.Grow(n)'): "Grow grows b's capacity, if necessary, to guarantee space for another n bytes.": it holds no byte behind it as before it. (LAID: no walk: one application.) -/
theorem Tryd.Builder_Grow_fresh (B b n : Nat) (w : World) (hB : B ≤ b) (hbk : w.heap[b]? = some (.cells #[.pointer none, .slice none 0 0] 122 (0, 0))) (hBw : B ≤ w.heap.size) (hn : n ≤ 281474976710656) :
    Calls Tryd.prog 85 #[.pointer (some ⟨b, 0, none⟩), .int .i64 n] w fun e w' => e = .returned (.tuple #[]) ∧ (Lib.BuilderAt 122 5 B b (.pointer (some ⟨b, 0, none⟩)) [] w' ∧ Below B w w') := Any.Builder_Grow_fresh Tryd.lays165 Tryd.Builder_Extra_165 B b n w hB hbk hBw hn
def Tryd.lays156_ren : Go.Shelf.Ren := ⟨fun | 156 => 76 | 165 => 85 | 166 => 86 | 169 => 87 | 240 => 94 | 241 => 95 | 276 => 102 | 277 => 103 | n => n, fun | 31 => 46 | 9 => 9 | 3 => 3 | 4 => 4 | 0 => 0 | 20 => 20 | 72 => 122 | 76 => 126 | 70 => 120 | 37 => 107 | 75 => 125 | 127 => 135 | 164 => 143 | 5 => 5 | 80 => 128 | n => n, fun | n => n⟩
theorem Tryd.lays156 : Go.Proofs.Lays.n156 Tryd.prog Tryd.lays156_ren := {
  mixed := by kernel_rfl
  f156 := Tryd.func76.trans (congrArg some (by kernel_rfl))
  f165 := Tryd.func85.trans (congrArg some (by kernel_rfl))
  f166 := Tryd.func86.trans (congrArg some (by kernel_rfl))
  f169 := Tryd.func87.trans (congrArg some (by kernel_rfl))
  f240 := Tryd.func94.trans (congrArg some (by kernel_rfl))
  f241 := Tryd.func95.trans (congrArg some (by kernel_rfl))
  f276 := Tryd.func102.trans (congrArg some (by kernel_rfl))
  f277 := Tryd.func103.trans (congrArg some (by kernel_rfl))
  t0 := Tryd.underlying0
  a0 := Tryd.isAgg0
  z0 := Tryd.sizeOf0
  v0 := Tryd.zeroValue0
  t3 := Tryd.underlying3
  a3 := Tryd.isAgg3
  z3 := Tryd.sizeOf3
  v3 := Tryd.zeroValue3
  t4 := Tryd.underlying4
  a4 := Tryd.isAgg4
  z4 := Tryd.sizeOf4
  v4 := Tryd.zeroValue4
  t9 := Tryd.underlying9
  a9 := Tryd.isAgg9
  z9 := Tryd.sizeOf9
  v9 := Tryd.zeroValue9
  t20 := Tryd.underlying20
  a20 := Tryd.isAgg20
  z20 := Tryd.sizeOf20
  v20 := Tryd.zeroValue20
  t31 := Tryd.underlying46
  a31 := Tryd.isAgg46
  z31 := Tryd.sizeOf46
  v31 := Tryd.zeroValue46
  t37 := Tryd.underlying107
  a37 := Tryd.isAgg107
  z37 := Tryd.sizeOf107
  v37 := Tryd.zeroValue107
  t70 := Tryd.underlying120
  a70 := Tryd.isAgg120
  z70 := Tryd.sizeOf120
  v70 := Tryd.zeroValue120
  t72 := Tryd.underlying122
  a72 := Tryd.isAgg122
  z72 := Tryd.sizeOf122
  v72 := Tryd.zeroValue122
  t75 := Tryd.underlying125
  a75 := Tryd.isAgg125
  z75 := Tryd.sizeOf125
  v75 := Tryd.zeroValue125
  t76 := Tryd.underlying126
  a76 := Tryd.isAgg126
  z76 := Tryd.sizeOf126
  v76 := Tryd.zeroValue126
  t127 := Tryd.underlying135
  a127 := Tryd.isAgg135
  z127 := Tryd.sizeOf135
  v127 := Tryd.zeroValue135
  t164 := Tryd.underlying143
  a164 := Tryd.isAgg143
  z164 := Tryd.sizeOf143
  v164 := Tryd.zeroValue143 }
theorem Tryd.Builder_Extra_156 : Builder.Extra Tryd.prog Tryd.lays156_ren := {
  sizeBuilder := by kernel_rfl
  liesBuilder := by kernel_rfl
  t5 := Tryd.underlying5
  a5 := Tryd.isAgg5
  z5 := Tryd.sizeOf5
  v5 := Tryd.zeroValue5
  infoByte := by kernel_rfl
  cellsByte := by kernel_rfl
  sizeByte := by kernel_rfl
  neB5 := by decide }
open Go.RowKit in
/-- No element: the empty string; the world is as it was. (Whatever the slice's address and capacity: a nil slice too.) (LAID: no walk: one application.) -/
theorem Tryd.strings_Join_none (a : Option Addr) (c : Nat) (sep : ByteArray) (w : World) :
    Calls Tryd.prog 76 #[.slice a 0 c, .string sep] w fun e w' => e = .returned (.string ⟨#[]⟩) ∧ w' = w := Any.strings_Join_none Tryd.lays156 Tryd.Builder_Extra_156 a c sep w
open Go.RowKit in
/-- strings.Join: "Join concatenates the elements of its first argument to create a single string. The separator string sep is placed between elements in the resulting string.": HOWEVER MANY ELEMENTS. Below the heap's end the world is as it was. (LAID: no walk: one application.) -/
theorem Tryd.strings_Join (bk o c : Nat) (xs : List ByteArray) (sep : ByteArray) (w : World) (hcells : ∀ (j : Nat) x, xs[j]? = some x → w.cell? ⟨bk, o + j, none⟩ = some (.string x)) (hbk : bk < w.heap.size) (hN : xs.length ≤ 140737488355328) (hcap : xs.length ≤ c) (hlen : (Lib.join (xs.map (·.data.toList)) sep.data.toList).length ≤ 140737488355328) :
    Calls Tryd.prog 76 #[.slice (some ⟨bk, o, none⟩) xs.length c, .string sep] w fun e w' => e = .returned (.string ⟨(Lib.join (xs.map (·.data.toList)) sep.data.toList).toArray⟩) ∧ Below w.heap.size w w' := Any.strings_Join Tryd.lays156 Tryd.Builder_Extra_156 bk o c xs sep w hcells hbk hN hcap hlen
def Tryd.lays129_ren : Go.Shelf.Ren := ⟨fun | 129 => 98 | n => n, fun | 53 => 35 | 3 => 3 | 4 => 4 | 46 => 141 | 5 => 5 | 9 => 9 | n => n, fun | n => n⟩
theorem Tryd.lays129 : Go.Proofs.Lays.n129 Tryd.prog Tryd.lays129_ren := {
  mixed := by kernel_rfl
  f129 := Tryd.func98.trans (congrArg some (by kernel_rfl))
  t3 := Tryd.underlying3
  a3 := Tryd.isAgg3
  z3 := Tryd.sizeOf3
  v3 := Tryd.zeroValue3
  t4 := Tryd.underlying4
  a4 := Tryd.isAgg4
  z4 := Tryd.sizeOf4
  v4 := Tryd.zeroValue4
  t5 := Tryd.underlying5
  a5 := Tryd.isAgg5
  z5 := Tryd.sizeOf5
  v5 := Tryd.zeroValue5
  t9 := Tryd.underlying9
  a9 := Tryd.isAgg9
  z9 := Tryd.sizeOf9
  v9 := Tryd.zeroValue9
  t46 := Tryd.underlying141
  a46 := Tryd.isAgg141
  z46 := Tryd.sizeOf141
  v46 := Tryd.zeroValue141
  t53 := Tryd.underlying35
  a53 := Tryd.isAgg35
  z53 := Tryd.sizeOf35
  v53 := Tryd.zeroValue35 }
/-- bits.Len64: "Len64 returns the minimum number of bits required to represent x; the result is 0 for x == 0.": IT RETURNS 'Lib.bitLen x'; the world is as it was. ('h0', 'h1': x is a uint64.) (LAID: no walk: one application.) -/
theorem Tryd.bits_Len64 (x : Int) (w : World) (h0 : 0 ≤ x) (h1 : x ≤ 18446744073709551615) :
    Calls Tryd.prog 98 #[.int .u64 x] w fun e w' => e = .returned (.int .i64 (Lib.bitLen x.toNat)) ∧ w' = w := Any.bits_Len64 Tryd.lays129 x w h0 h1
def Tryd.lays317_ren : Go.Shelf.Ren := ⟨fun | 317 => 97 | n => n, fun | 3 => 3 | 46 => 141 | n => n, fun | n => n⟩
theorem Tryd.lays317 : Go.Proofs.Lays.n317 Tryd.prog Tryd.lays317_ren := {
  mixed := by kernel_rfl
  f317 := Tryd.func97.trans (congrArg some (by kernel_rfl))
  t3 := Tryd.underlying3
  a3 := Tryd.isAgg3
  z3 := Tryd.sizeOf3
  v3 := Tryd.zeroValue3
  t46 := Tryd.underlying141
  a46 := Tryd.isAgg141
  z46 := Tryd.sizeOf141
  v46 := Tryd.zeroValue141 }
open Go.Lib in
/-- internal/strconv.log10Pow2: "log10Pow2(x) returns ⌊log₁₀ 2**x⌋ = ⌊x * log₁₀ 2⌋.": '(x * 78913) >> 18', at an x up to 64 (a length in bits). The world is as it was. (LAID: no walk: one application.) -/
theorem Tryd.internal_strconv_log10Pow2 (x : Nat) (h : x ≤ 64) (w : World) :
    Calls Tryd.prog 97 #[.int .i64 x] w fun e w' => e = .returned (.int .i64 (Lib.l10 x)) ∧ w' = w := Any.internal_strconv_log10Pow2 Tryd.lays317 x h w
def Tryd.lays318_ren : Go.Shelf.Ren := ⟨fun | 318 => 99 | n => n, fun | 3 => 3 | 4 => 4 | n => n, fun | n => n⟩
theorem Tryd.lays318 : Go.Proofs.Lays.n318 Tryd.prog Tryd.lays318_ren := {
  mixed := by kernel_rfl
  f318 := Tryd.func99.trans (congrArg some (by kernel_rfl))
  t3 := Tryd.underlying3
  a3 := Tryd.isAgg3
  z3 := Tryd.sizeOf3
  v3 := Tryd.zeroValue3
  t4 := Tryd.underlying4
  a4 := Tryd.isAgg4
  z4 := Tryd.sizeOf4
  v4 := Tryd.zeroValue4 }
open Go.Lib in
/-- internal/strconv.bool2: "bool2 converts b to an integer: 1 for true, 0 for false." The world is as it was. (LAID: no walk: one application.) -/
theorem Tryd.internal_strconv_bool2_int (b : Bool) (w : World) :
    Calls Tryd.prog 99 #[.bool b] w fun e w' => e = .returned (.int .i64 (if b then 1 else 0)) ∧ w' = w := Any.internal_strconv_bool2_int Tryd.lays318 b w
def Tryd.lays283_ren : Go.Shelf.Ren := ⟨fun | 283 => 90 | n => n, fun | 3 => 3 | 9 => 9 | 4 => 4 | n => n, fun | n => n⟩
theorem Tryd.lays283 : Go.Proofs.Lays.n283 Tryd.prog Tryd.lays283_ren := {
  mixed := by kernel_rfl
  f283 := Tryd.func90.trans (congrArg some (by kernel_rfl))
  t3 := Tryd.underlying3
  a3 := Tryd.isAgg3
  z3 := Tryd.sizeOf3
  v3 := Tryd.zeroValue3
  t4 := Tryd.underlying4
  a4 := Tryd.isAgg4
  z4 := Tryd.sizeOf4
  v4 := Tryd.zeroValue4
  t9 := Tryd.underlying9
  a9 := Tryd.isAgg9
  z9 := Tryd.sizeOf9
  v9 := Tryd.zeroValue9 }
def Tryd.laysM284_ren : Go.Shelf.Ren := ⟨fun | 284 => 91 | 129 => 98 | 317 => 97 | 318 => 99 | n => n, fun | 53 => 35 | 3 => 3 | 212 => 138 | 0 => 0 | 4 => 4 | 46 => 141 | 5 => 5 | 9 => 9 | n => n, fun | 17 => 0 | n => n⟩
theorem Tryd.laysM284 : Go.Proofs.LaysM.n284 Tryd.prog Tryd.laysM284_ren := {
  mixed := by kernel_rfl
  f129 := Tryd.func98.trans (congrArg some (by kernel_rfl))
  f284 := Tryd.func91.trans (congrArg some (by kernel_rfl))
  f317 := Tryd.func97.trans (congrArg some (by kernel_rfl))
  f318 := Tryd.func99.trans (congrArg some (by kernel_rfl))
  t0 := Tryd.underlying0
  a0 := Tryd.isAgg0
  z0 := Tryd.sizeOf0
  v0 := Tryd.zeroValue0
  t3 := Tryd.underlying3
  a3 := Tryd.isAgg3
  z3 := Tryd.sizeOf3
  v3 := Tryd.zeroValue3
  t4 := Tryd.underlying4
  a4 := Tryd.isAgg4
  z4 := Tryd.sizeOf4
  v4 := Tryd.zeroValue4
  t5 := Tryd.underlying5
  a5 := Tryd.isAgg5
  z5 := Tryd.sizeOf5
  v5 := Tryd.zeroValue5
  t9 := Tryd.underlying9
  a9 := Tryd.isAgg9
  z9 := Tryd.sizeOf9
  v9 := Tryd.zeroValue9
  t46 := Tryd.underlying141
  a46 := Tryd.isAgg141
  z46 := Tryd.sizeOf141
  v46 := Tryd.zeroValue141
  t53 := Tryd.underlying35
  a53 := Tryd.isAgg35
  z53 := Tryd.sizeOf35
  v53 := Tryd.zeroValue35
  t212 := Tryd.underlying138
  a212 := Tryd.isAgg138
  z212 := Tryd.sizeOf138
  v212 := Tryd.zeroValue138
  g17 := by kernel_rfl
  i0 := by kernel_rfl
  i3 := by kernel_rfl
  i4 := by kernel_rfl
  i5 := by kernel_rfl
  i9 := by kernel_rfl
  i46 := by kernel_rfl
  i53 := by kernel_rfl
  i212 := by kernel_rfl
  m17 := by kernel_rfl }
open Go.Lib in
/-- internal/strconv.numDigits, at a d that is not 0: THE NUMBER OF d's DECIMAL DIGITS. The world is as it was. (LAID: no walk: one application.) -/
theorem Tryd.internal_strconv_numDigits (u : Nat) (h1 : 1 ≤ u) (h2 : u < 18446744073709551616) (w : World) (htab : Lib.TabIs Tryd.prog w "internal/strconv.uint64pow10" .u64 Lib.pow10Tab) :
    Calls Tryd.prog 91 #[.int .u64 u] w fun e w' => e = .returned (.int .i64 (Lib.nDigits u)) ∧ w' = w := Any.internal_strconv_numDigits Tryd.laysM284 u h1 h2 w htab
def Tryd.lays285_ren : Go.Shelf.Ren := ⟨fun | 285 => 92 | n => n, fun | 37 => 107 | 53 => 35 | 3 => 3 | 4 => 4 | 51 => 139 | 9 => 9 | 5 => 5 | 0 => 0 | n => n, fun | n => n⟩
theorem Tryd.lays285 : Go.Proofs.Lays.n285 Tryd.prog Tryd.lays285_ren := {
  mixed := by kernel_rfl
  f285 := Tryd.func92.trans (congrArg some (by kernel_rfl))
  t0 := Tryd.underlying0
  a0 := Tryd.isAgg0
  z0 := Tryd.sizeOf0
  v0 := Tryd.zeroValue0
  t3 := Tryd.underlying3
  a3 := Tryd.isAgg3
  z3 := Tryd.sizeOf3
  v3 := Tryd.zeroValue3
  t4 := Tryd.underlying4
  a4 := Tryd.isAgg4
  z4 := Tryd.sizeOf4
  v4 := Tryd.zeroValue4
  t5 := Tryd.underlying5
  a5 := Tryd.isAgg5
  z5 := Tryd.sizeOf5
  v5 := Tryd.zeroValue5
  t9 := Tryd.underlying9
  a9 := Tryd.isAgg9
  z9 := Tryd.sizeOf9
  v9 := Tryd.zeroValue9
  t37 := Tryd.underlying107
  a37 := Tryd.isAgg107
  z37 := Tryd.sizeOf107
  v37 := Tryd.zeroValue107
  t51 := Tryd.underlying139
  a51 := Tryd.isAgg139
  z51 := Tryd.sizeOf139
  v51 := Tryd.zeroValue139
  t53 := Tryd.underlying35
  a53 := Tryd.isAgg35
  z53 := Tryd.sizeOf35
  v53 := Tryd.zeroValue35 }
open Go.RowKit Go.Sort Go.Lib in
/-- internal/strconv.formatBase10: "formatBase10 formats the decimal representation of u into a. The caller is responsible for ensuring that a is big enough to hold u. If a is too big, leading zeros will be filled in as needed.": THE ROW HOLDS u's DIGITS ('FmtInv .. 0 ..': every place t holds 'dg u (len - 1 - t)'); all else is as it was but for the count of draws. (LAID: no walk: one application.) -/
theorem Tryd.internal_strconv_formatBase10 (blk off cap : Nat) (u : Nat) (d : Array UInt8) (w : World) (hH : Holds (fun (b : UInt8) => Value.int .u8 (b.toNat : Int)) w blk off d) (hu : u < 10 ^ d.size) (hu64 : u < 18446744073709551616) (hsz : d.size < 4611686018427387904) :
    Calls Tryd.prog 92 #[.slice (some ⟨blk, off, none⟩) d.size cap, .int .u64 u] w fun e w' =>
      e = .returned (.tuple #[]) ∧ ∃ (n v' : Nat) (dk : Array UInt8), w' = (putRow (fun (b : UInt8) => Value.int .u8 (b.toNat : Int)) w blk off dk).drewN n ∧ FmtInv d.size u 0 v' dk := Any.internal_strconv_formatBase10 Tryd.lays285 blk off cap u d w hH hu hu64 hsz
def Tryd.laysM246_ren : Go.Shelf.Ren := ⟨fun | 246 => 82 | 283 => 90 | 284 => 91 | 285 => 92 | 286 => 93 | 129 => 98 | 317 => 97 | 318 => 99 | 319 => 100 | 320 => 101 | 337 => 104 | 338 => 105 | n => n, fun | 2 => 2 | 3 => 3 | 9 => 9 | 4 => 4 | 171 => 130 | 0 => 0 | 53 => 35 | 37 => 107 | 5 => 5 | 173 => 133 | 212 => 138 | 51 => 139 | 20 => 20 | 213 => 140 | 46 => 141 | 232 => 147 | 233 => 148 | n => n, fun | 17 => 0 | 18 => 2 | 19 => 3 | n => n⟩
theorem Tryd.laysM246 : Go.Proofs.LaysM.n246 Tryd.prog Tryd.laysM246_ren := {
  mixed := by kernel_rfl
  f129 := Tryd.func98.trans (congrArg some (by kernel_rfl))
  f246 := Tryd.func82.trans (congrArg some (by kernel_rfl))
  f283 := Tryd.func90.trans (congrArg some (by kernel_rfl))
  f284 := Tryd.func91.trans (congrArg some (by kernel_rfl))
  f285 := Tryd.func92.trans (congrArg some (by kernel_rfl))
  f286 := Tryd.func93.trans (congrArg some (by kernel_rfl))
  f317 := Tryd.func97.trans (congrArg some (by kernel_rfl))
  f318 := Tryd.func99.trans (congrArg some (by kernel_rfl))
  f319 := Tryd.func100.trans (congrArg some (by kernel_rfl))
  f320 := Tryd.func101.trans (congrArg some (by kernel_rfl))
  f337 := Tryd.func104.trans (congrArg some (by kernel_rfl))
  f338 := Tryd.func105.trans (congrArg some (by kernel_rfl))
  t0 := Tryd.underlying0
  a0 := Tryd.isAgg0
  z0 := Tryd.sizeOf0
  v0 := Tryd.zeroValue0
  t2 := Tryd.underlying2
  a2 := Tryd.isAgg2
  z2 := Tryd.sizeOf2
  v2 := Tryd.zeroValue2
  t3 := Tryd.underlying3
  a3 := Tryd.isAgg3
  z3 := Tryd.sizeOf3
  v3 := Tryd.zeroValue3
  t4 := Tryd.underlying4
  a4 := Tryd.isAgg4
  z4 := Tryd.sizeOf4
  v4 := Tryd.zeroValue4
  t5 := Tryd.underlying5
  a5 := Tryd.isAgg5
  z5 := Tryd.sizeOf5
  v5 := Tryd.zeroValue5
  t9 := Tryd.underlying9
  a9 := Tryd.isAgg9
  z9 := Tryd.sizeOf9
  v9 := Tryd.zeroValue9
  t20 := Tryd.underlying20
  a20 := Tryd.isAgg20
  z20 := Tryd.sizeOf20
  v20 := Tryd.zeroValue20
  t37 := Tryd.underlying107
  a37 := Tryd.isAgg107
  z37 := Tryd.sizeOf107
  v37 := Tryd.zeroValue107
  t46 := Tryd.underlying141
  a46 := Tryd.isAgg141
  z46 := Tryd.sizeOf141
  v46 := Tryd.zeroValue141
  t51 := Tryd.underlying139
  a51 := Tryd.isAgg139
  z51 := Tryd.sizeOf139
  v51 := Tryd.zeroValue139
  t53 := Tryd.underlying35
  a53 := Tryd.isAgg35
  z53 := Tryd.sizeOf35
  v53 := Tryd.zeroValue35
  t171 := Tryd.underlying130
  a171 := Tryd.isAgg130
  z171 := Tryd.sizeOf130
  v171 := Tryd.zeroValue130
  t173 := Tryd.underlying133
  a173 := Tryd.isAgg133
  z173 := Tryd.sizeOf133
  v173 := Tryd.zeroValue133
  t212 := Tryd.underlying138
  a212 := Tryd.isAgg138
  z212 := Tryd.sizeOf138
  v212 := Tryd.zeroValue138
  t213 := Tryd.underlying140
  a213 := Tryd.isAgg140
  z213 := Tryd.sizeOf140
  t232 := Tryd.underlying147
  a232 := Tryd.isAgg147
  z232 := Tryd.sizeOf147
  v232 := Tryd.zeroValue147
  t233 := Tryd.underlying148
  a233 := Tryd.isAgg148
  z233 := Tryd.sizeOf148
  v233 := Tryd.zeroValue148
  g17 := by kernel_rfl
  g18 := by kernel_rfl
  g19 := by kernel_rfl
  i0 := by kernel_rfl
  i2 := by kernel_rfl
  i3 := by kernel_rfl
  i4 := by kernel_rfl
  i5 := by kernel_rfl
  i9 := by kernel_rfl
  i20 := by kernel_rfl
  i37 := by kernel_rfl
  i46 := by kernel_rfl
  i51 := by kernel_rfl
  i53 := by kernel_rfl
  i171 := by kernel_rfl
  i173 := by kernel_rfl
  i212 := by kernel_rfl
  i232 := by kernel_rfl
  i233 := by kernel_rfl
  m17 := by kernel_rfl
  m18 := by kernel_rfl
  m19 := by kernel_rfl }
open Go.RowKit Go.Sort Go.Lib in
/-- internal/strconv.FormatInt: "FormatInt returns the string representation of i in the given base": AT BASE 10: i's decimal numeral, for every int64. The world behind the call: the world before it, new blocks behind the heap, draws. (LAID: no walk: one application.) -/
theorem Tryd.internal_strconv_FormatInt_10 (n : Int) (h0 : -9223372036854775808 ≤ n) (h1 : n ≤ 9223372036854775807) (w : World) (htab : Lib.TabIs Tryd.prog w "internal/strconv.uint64pow10" .u64 Lib.pow10Tab) :
    Calls Tryd.prog 82 #[.int .i64 n, .int .i64 10] w fun e w' => e = .returned (.string ⟨(Lib.itoa n).toArray⟩) ∧ ∃ k os, w' = grow (w.drewN k) os := Any.internal_strconv_FormatInt_10 Tryd.laysM246 n h0 h1 w htab
def Tryd.laysM243_ren : Go.Shelf.Ren := ⟨fun | 243 => 70 | 246 => 82 | 283 => 90 | 284 => 91 | 285 => 92 | 286 => 93 | 129 => 98 | 317 => 97 | 318 => 99 | 319 => 100 | 320 => 101 | 337 => 104 | 338 => 105 | n => n, fun | 3 => 3 | 9 => 9 | 2 => 2 | 4 => 4 | 171 => 130 | 0 => 0 | 53 => 35 | 37 => 107 | 5 => 5 | 173 => 133 | 212 => 138 | 51 => 139 | 20 => 20 | 213 => 140 | 46 => 141 | 232 => 147 | 233 => 148 | n => n, fun | 17 => 0 | 18 => 2 | 19 => 3 | n => n⟩
theorem Tryd.laysM243 : Go.Proofs.LaysM.n243 Tryd.prog Tryd.laysM243_ren := {
  mixed := by kernel_rfl
  f129 := Tryd.func98.trans (congrArg some (by kernel_rfl))
  f243 := Tryd.func70.trans (congrArg some (by kernel_rfl))
  f246 := Tryd.func82.trans (congrArg some (by kernel_rfl))
  f283 := Tryd.func90.trans (congrArg some (by kernel_rfl))
  f284 := Tryd.func91.trans (congrArg some (by kernel_rfl))
  f285 := Tryd.func92.trans (congrArg some (by kernel_rfl))
  f286 := Tryd.func93.trans (congrArg some (by kernel_rfl))
  f317 := Tryd.func97.trans (congrArg some (by kernel_rfl))
  f318 := Tryd.func99.trans (congrArg some (by kernel_rfl))
  f319 := Tryd.func100.trans (congrArg some (by kernel_rfl))
  f320 := Tryd.func101.trans (congrArg some (by kernel_rfl))
  f337 := Tryd.func104.trans (congrArg some (by kernel_rfl))
  f338 := Tryd.func105.trans (congrArg some (by kernel_rfl))
  t0 := Tryd.underlying0
  a0 := Tryd.isAgg0
  z0 := Tryd.sizeOf0
  v0 := Tryd.zeroValue0
  t2 := Tryd.underlying2
  a2 := Tryd.isAgg2
  z2 := Tryd.sizeOf2
  v2 := Tryd.zeroValue2
  t3 := Tryd.underlying3
  a3 := Tryd.isAgg3
  z3 := Tryd.sizeOf3
  v3 := Tryd.zeroValue3
  t4 := Tryd.underlying4
  a4 := Tryd.isAgg4
  z4 := Tryd.sizeOf4
  v4 := Tryd.zeroValue4
  t5 := Tryd.underlying5
  a5 := Tryd.isAgg5
  z5 := Tryd.sizeOf5
  v5 := Tryd.zeroValue5
  t9 := Tryd.underlying9
  a9 := Tryd.isAgg9
  z9 := Tryd.sizeOf9
  v9 := Tryd.zeroValue9
  t20 := Tryd.underlying20
  a20 := Tryd.isAgg20
  z20 := Tryd.sizeOf20
  v20 := Tryd.zeroValue20
  t37 := Tryd.underlying107
  a37 := Tryd.isAgg107
  z37 := Tryd.sizeOf107
  v37 := Tryd.zeroValue107
  t46 := Tryd.underlying141
  a46 := Tryd.isAgg141
  z46 := Tryd.sizeOf141
  v46 := Tryd.zeroValue141
  t51 := Tryd.underlying139
  a51 := Tryd.isAgg139
  z51 := Tryd.sizeOf139
  v51 := Tryd.zeroValue139
  t53 := Tryd.underlying35
  a53 := Tryd.isAgg35
  z53 := Tryd.sizeOf35
  v53 := Tryd.zeroValue35
  t171 := Tryd.underlying130
  a171 := Tryd.isAgg130
  z171 := Tryd.sizeOf130
  v171 := Tryd.zeroValue130
  t173 := Tryd.underlying133
  a173 := Tryd.isAgg133
  z173 := Tryd.sizeOf133
  v173 := Tryd.zeroValue133
  t212 := Tryd.underlying138
  a212 := Tryd.isAgg138
  z212 := Tryd.sizeOf138
  v212 := Tryd.zeroValue138
  t213 := Tryd.underlying140
  a213 := Tryd.isAgg140
  z213 := Tryd.sizeOf140
  t232 := Tryd.underlying147
  a232 := Tryd.isAgg147
  z232 := Tryd.sizeOf147
  v232 := Tryd.zeroValue147
  t233 := Tryd.underlying148
  a233 := Tryd.isAgg148
  z233 := Tryd.sizeOf148
  v233 := Tryd.zeroValue148
  g17 := by kernel_rfl
  g18 := by kernel_rfl
  g19 := by kernel_rfl
  i0 := by kernel_rfl
  i2 := by kernel_rfl
  i3 := by kernel_rfl
  i4 := by kernel_rfl
  i5 := by kernel_rfl
  i9 := by kernel_rfl
  i20 := by kernel_rfl
  i37 := by kernel_rfl
  i46 := by kernel_rfl
  i51 := by kernel_rfl
  i53 := by kernel_rfl
  i171 := by kernel_rfl
  i173 := by kernel_rfl
  i212 := by kernel_rfl
  i232 := by kernel_rfl
  i233 := by kernel_rfl
  m17 := by kernel_rfl
  m18 := by kernel_rfl
  m19 := by kernel_rfl }
open Go.RowKit Go.Sort Go.Lib in
/-- internal/strconv.Itoa: "Itoa is equivalent to FormatInt(int64(i), 10).": i's decimal numeral, for every int. (LAID: no walk: one application.) -/
theorem Tryd.internal_strconv_Itoa (n : Int) (h0 : -9223372036854775808 ≤ n) (h1 : n ≤ 9223372036854775807) (w : World) (htab : Lib.TabIs Tryd.prog w "internal/strconv.uint64pow10" .u64 Lib.pow10Tab) :
    Calls Tryd.prog 70 #[.int .i64 n] w fun e w' => e = .returned (.string ⟨(Lib.itoa n).toArray⟩) ∧ ∃ k os, w' = grow (w.drewN k) os := Any.internal_strconv_Itoa Tryd.laysM243 n h0 h1 w htab
def Tryd.laysM171_ren : Go.Shelf.Ren := ⟨fun | 171 => 44 | 243 => 70 | 246 => 82 | 283 => 90 | 284 => 91 | 285 => 92 | 286 => 93 | 129 => 98 | 317 => 97 | 318 => 99 | 319 => 100 | 320 => 101 | 337 => 104 | 338 => 105 | n => n, fun | 3 => 3 | 9 => 9 | 2 => 2 | 4 => 4 | 171 => 130 | 0 => 0 | 53 => 35 | 37 => 107 | 5 => 5 | 173 => 133 | 212 => 138 | 51 => 139 | 20 => 20 | 213 => 140 | 46 => 141 | 232 => 147 | 233 => 148 | n => n, fun | 17 => 0 | 18 => 2 | 19 => 3 | n => n⟩
theorem Tryd.laysM171 : Go.Proofs.LaysM.n171 Tryd.prog Tryd.laysM171_ren := {
  mixed := by kernel_rfl
  f129 := Tryd.func98.trans (congrArg some (by kernel_rfl))
  f171 := Tryd.func44.trans (congrArg some (by kernel_rfl))
  f243 := Tryd.func70.trans (congrArg some (by kernel_rfl))
  f246 := Tryd.func82.trans (congrArg some (by kernel_rfl))
  f283 := Tryd.func90.trans (congrArg some (by kernel_rfl))
  f284 := Tryd.func91.trans (congrArg some (by kernel_rfl))
  f285 := Tryd.func92.trans (congrArg some (by kernel_rfl))
  f286 := Tryd.func93.trans (congrArg some (by kernel_rfl))
  f317 := Tryd.func97.trans (congrArg some (by kernel_rfl))
  f318 := Tryd.func99.trans (congrArg some (by kernel_rfl))
  f319 := Tryd.func100.trans (congrArg some (by kernel_rfl))
  f320 := Tryd.func101.trans (congrArg some (by kernel_rfl))
  f337 := Tryd.func104.trans (congrArg some (by kernel_rfl))
  f338 := Tryd.func105.trans (congrArg some (by kernel_rfl))
  t0 := Tryd.underlying0
  a0 := Tryd.isAgg0
  z0 := Tryd.sizeOf0
  v0 := Tryd.zeroValue0
  t2 := Tryd.underlying2
  a2 := Tryd.isAgg2
  z2 := Tryd.sizeOf2
  v2 := Tryd.zeroValue2
  t3 := Tryd.underlying3
  a3 := Tryd.isAgg3
  z3 := Tryd.sizeOf3
  v3 := Tryd.zeroValue3
  t4 := Tryd.underlying4
  a4 := Tryd.isAgg4
  z4 := Tryd.sizeOf4
  v4 := Tryd.zeroValue4
  t5 := Tryd.underlying5
  a5 := Tryd.isAgg5
  z5 := Tryd.sizeOf5
  v5 := Tryd.zeroValue5
  t9 := Tryd.underlying9
  a9 := Tryd.isAgg9
  z9 := Tryd.sizeOf9
  v9 := Tryd.zeroValue9
  t20 := Tryd.underlying20
  a20 := Tryd.isAgg20
  z20 := Tryd.sizeOf20
  v20 := Tryd.zeroValue20
  t37 := Tryd.underlying107
  a37 := Tryd.isAgg107
  z37 := Tryd.sizeOf107
  v37 := Tryd.zeroValue107
  t46 := Tryd.underlying141
  a46 := Tryd.isAgg141
  z46 := Tryd.sizeOf141
  v46 := Tryd.zeroValue141
  t51 := Tryd.underlying139
  a51 := Tryd.isAgg139
  z51 := Tryd.sizeOf139
  v51 := Tryd.zeroValue139
  t53 := Tryd.underlying35
  a53 := Tryd.isAgg35
  z53 := Tryd.sizeOf35
  v53 := Tryd.zeroValue35
  t171 := Tryd.underlying130
  a171 := Tryd.isAgg130
  z171 := Tryd.sizeOf130
  v171 := Tryd.zeroValue130
  t173 := Tryd.underlying133
  a173 := Tryd.isAgg133
  z173 := Tryd.sizeOf133
  v173 := Tryd.zeroValue133
  t212 := Tryd.underlying138
  a212 := Tryd.isAgg138
  z212 := Tryd.sizeOf138
  v212 := Tryd.zeroValue138
  t213 := Tryd.underlying140
  a213 := Tryd.isAgg140
  z213 := Tryd.sizeOf140
  t232 := Tryd.underlying147
  a232 := Tryd.isAgg147
  z232 := Tryd.sizeOf147
  v232 := Tryd.zeroValue147
  t233 := Tryd.underlying148
  a233 := Tryd.isAgg148
  z233 := Tryd.sizeOf148
  v233 := Tryd.zeroValue148
  g17 := by kernel_rfl
  g18 := by kernel_rfl
  g19 := by kernel_rfl
  i0 := by kernel_rfl
  i2 := by kernel_rfl
  i3 := by kernel_rfl
  i4 := by kernel_rfl
  i5 := by kernel_rfl
  i9 := by kernel_rfl
  i20 := by kernel_rfl
  i37 := by kernel_rfl
  i46 := by kernel_rfl
  i51 := by kernel_rfl
  i53 := by kernel_rfl
  i171 := by kernel_rfl
  i173 := by kernel_rfl
  i212 := by kernel_rfl
  i232 := by kernel_rfl
  i233 := by kernel_rfl
  m17 := by kernel_rfl
  m18 := by kernel_rfl
  m19 := by kernel_rfl }
open Go.RowKit Go.Sort Go.Lib in
/-- strconv.Itoa: "Itoa is equivalent to FormatInt(int64(i), 10).": i's DECIMAL NUMERAL ('Lib.itoa': a '-' where i is negative, then the digits), FOR EVERY int. The world behind the call: the world before it, new blocks behind the heap (the library's 'var a [24]byte'), draws. (LAID: no walk: one application.) -/
theorem Tryd.strconv_Itoa (n : Int) (h0 : -9223372036854775808 ≤ n) (h1 : n ≤ 9223372036854775807) (w : World) (htab : Lib.TabIs Tryd.prog w "internal/strconv.uint64pow10" .u64 Lib.pow10Tab) :
    Calls Tryd.prog 44 #[.int .i64 n] w fun e w' => e = .returned (.string ⟨(Lib.itoa n).toArray⟩) ∧ ∃ k os, w' = grow (w.drewN k) os := Any.strconv_Itoa Tryd.laysM171 n h0 h1 w htab
def Tryd.laysM173_ren : Go.Shelf.Ren := ⟨fun | 173 => 77 | 246 => 82 | 283 => 90 | 284 => 91 | 285 => 92 | 286 => 93 | 129 => 98 | 317 => 97 | 318 => 99 | 319 => 100 | 320 => 101 | 337 => 104 | 338 => 105 | n => n, fun | 2 => 2 | 3 => 3 | 9 => 9 | 4 => 4 | 171 => 130 | 0 => 0 | 53 => 35 | 37 => 107 | 5 => 5 | 173 => 133 | 212 => 138 | 51 => 139 | 20 => 20 | 213 => 140 | 46 => 141 | 232 => 147 | 233 => 148 | n => n, fun | 17 => 0 | 18 => 2 | 19 => 3 | n => n⟩
theorem Tryd.laysM173 : Go.Proofs.LaysM.n173 Tryd.prog Tryd.laysM173_ren := {
  mixed := by kernel_rfl
  f129 := Tryd.func98.trans (congrArg some (by kernel_rfl))
  f173 := Tryd.func77.trans (congrArg some (by kernel_rfl))
  f246 := Tryd.func82.trans (congrArg some (by kernel_rfl))
  f283 := Tryd.func90.trans (congrArg some (by kernel_rfl))
  f284 := Tryd.func91.trans (congrArg some (by kernel_rfl))
  f285 := Tryd.func92.trans (congrArg some (by kernel_rfl))
  f286 := Tryd.func93.trans (congrArg some (by kernel_rfl))
  f317 := Tryd.func97.trans (congrArg some (by kernel_rfl))
  f318 := Tryd.func99.trans (congrArg some (by kernel_rfl))
  f319 := Tryd.func100.trans (congrArg some (by kernel_rfl))
  f320 := Tryd.func101.trans (congrArg some (by kernel_rfl))
  f337 := Tryd.func104.trans (congrArg some (by kernel_rfl))
  f338 := Tryd.func105.trans (congrArg some (by kernel_rfl))
  t0 := Tryd.underlying0
  a0 := Tryd.isAgg0
  z0 := Tryd.sizeOf0
  v0 := Tryd.zeroValue0
  t2 := Tryd.underlying2
  a2 := Tryd.isAgg2
  z2 := Tryd.sizeOf2
  v2 := Tryd.zeroValue2
  t3 := Tryd.underlying3
  a3 := Tryd.isAgg3
  z3 := Tryd.sizeOf3
  v3 := Tryd.zeroValue3
  t4 := Tryd.underlying4
  a4 := Tryd.isAgg4
  z4 := Tryd.sizeOf4
  v4 := Tryd.zeroValue4
  t5 := Tryd.underlying5
  a5 := Tryd.isAgg5
  z5 := Tryd.sizeOf5
  v5 := Tryd.zeroValue5
  t9 := Tryd.underlying9
  a9 := Tryd.isAgg9
  z9 := Tryd.sizeOf9
  v9 := Tryd.zeroValue9
  t20 := Tryd.underlying20
  a20 := Tryd.isAgg20
  z20 := Tryd.sizeOf20
  v20 := Tryd.zeroValue20
  t37 := Tryd.underlying107
  a37 := Tryd.isAgg107
  z37 := Tryd.sizeOf107
  v37 := Tryd.zeroValue107
  t46 := Tryd.underlying141
  a46 := Tryd.isAgg141
  z46 := Tryd.sizeOf141
  v46 := Tryd.zeroValue141
  t51 := Tryd.underlying139
  a51 := Tryd.isAgg139
  z51 := Tryd.sizeOf139
  v51 := Tryd.zeroValue139
  t53 := Tryd.underlying35
  a53 := Tryd.isAgg35
  z53 := Tryd.sizeOf35
  v53 := Tryd.zeroValue35
  t171 := Tryd.underlying130
  a171 := Tryd.isAgg130
  z171 := Tryd.sizeOf130
  v171 := Tryd.zeroValue130
  t173 := Tryd.underlying133
  a173 := Tryd.isAgg133
  z173 := Tryd.sizeOf133
  v173 := Tryd.zeroValue133
  t212 := Tryd.underlying138
  a212 := Tryd.isAgg138
  z212 := Tryd.sizeOf138
  v212 := Tryd.zeroValue138
  t213 := Tryd.underlying140
  a213 := Tryd.isAgg140
  z213 := Tryd.sizeOf140
  t232 := Tryd.underlying147
  a232 := Tryd.isAgg147
  z232 := Tryd.sizeOf147
  v232 := Tryd.zeroValue147
  t233 := Tryd.underlying148
  a233 := Tryd.isAgg148
  z233 := Tryd.sizeOf148
  v233 := Tryd.zeroValue148
  g17 := by kernel_rfl
  g18 := by kernel_rfl
  g19 := by kernel_rfl
  i0 := by kernel_rfl
  i2 := by kernel_rfl
  i3 := by kernel_rfl
  i4 := by kernel_rfl
  i5 := by kernel_rfl
  i9 := by kernel_rfl
  i20 := by kernel_rfl
  i37 := by kernel_rfl
  i46 := by kernel_rfl
  i51 := by kernel_rfl
  i53 := by kernel_rfl
  i171 := by kernel_rfl
  i173 := by kernel_rfl
  i212 := by kernel_rfl
  i232 := by kernel_rfl
  i233 := by kernel_rfl
  m17 := by kernel_rfl
  m18 := by kernel_rfl
  m19 := by kernel_rfl }
open Go.RowKit Go.Sort Go.Lib in
/-- strconv.FormatInt: "FormatInt returns the string representation of i in the given base": AT BASE 10: i's decimal numeral, for every int64. (LAID: no walk: one application.) -/
theorem Tryd.strconv_FormatInt_10 (n : Int) (h0 : -9223372036854775808 ≤ n) (h1 : n ≤ 9223372036854775807) (w : World) (htab : Lib.TabIs Tryd.prog w "internal/strconv.uint64pow10" .u64 Lib.pow10Tab) :
    Calls Tryd.prog 77 #[.int .i64 n, .int .i64 10] w fun e w' => e = .returned (.string ⟨(Lib.itoa n).toArray⟩) ∧ ∃ k os, w' = grow (w.drewN k) os := Any.strconv_FormatInt_10 Tryd.laysM173 n h0 h1 w htab
end Go.Proofs

/- Contracts of strconv and strings at the seat's program. No condition. -/
set_option linter.unusedVariables false
namespace Go.Proofs.YtjobleemmjjocaaDoor
open Go Go.AM

theorem two {vals : Array Value} (h : vals.size = 2) : ∃ v u, vals = #[v, u] :=
  ⟨vals[0], vals[1], by
    apply Array.ext
    · simpa using h
    · intro i h1 h2
      match i, h2 with
      | 0, _ => rfl
      | 1, _ => rfl⟩
theorem relStr {w : World} {Z : Zone} {s : ByteArray} {v : Value} (h : RelD w Z (.str s) v) : v = .string s := by cases h; rfl
def itoaB (z : Int) : ByteArray := ⟨(Lib.itoa z).toArray⟩
def joinB (xs : List ByteArray) (sep : ByteArray) : ByteArray := ⟨(Lib.join (xs.map (·.data.toList)) sep.data.toList).toArray⟩
def F44 (n : Nat) (z : Int) : Option ByteArray := if -9223372036854775808 ≤ z ∧ z ≤ 9223372036854775807 then some (itoaB z) else none
def F77 (n : Nat) (z b : Int) : Option ByteArray := if b = 10 ∧ -9223372036854775808 ≤ z ∧ z ≤ 9223372036854775807 then some (itoaB z) else none
def F76 (n : Nat) (l : List D) (sep : ByteArray) : Option ByteArray :=
  match strsD l with
  | some xs => if xs.length ≤ 140737488355328 ∧ (Lib.join (xs.map (·.data.toList)) sep.data.toList).length ≤ 140737488355328 then some (joinB xs sep) else none
  | none => none

theorem T44 (n : Nat) : ∀ ⦃z : Int⦄ ⦃r1 : ByteArray⦄, F44 n z = some r1 → Trip Tryd.prog inv 44 [.d (.int .i64 z)] [] (.v (.d (.str r1))) [] [] := by
  intro z r1 h
  unfold F44 at h
  split at h
  · rename_i hz
    cases h
    refine Trip.ofCalls (xs := [.int .i64 z]) ⟨_, _, Tryd.func44, rfl, by kernel_rfl⟩ fun w Z vals hr hsz hv => ?_
    obtain ⟨v, rfl⟩ : ∃ v, vals = #[v] := Array.size_eq_one_iff.1 hsz
    cases hv 0 _ _ rfl rfl
    refine (Tryd.strconv_Itoa z hz.1 hz.2 w hr).mono ?_
    rintro e w' ⟨rfl, k, os, rfl⟩
    exact ⟨_, rfl, below_apart (Lib.below_grow _ w (Nat.le_refl _) k os), fun _ _ _ => .str _⟩
  · cases h
theorem T77 (n : Nat) : ∀ ⦃z b : Int⦄ ⦃r1 : ByteArray⦄, F77 n z b = some r1 → Trip Tryd.prog inv 77 [.d (.int .i64 z), .d (.int .i64 b)] [] (.v (.d (.str r1))) [] [] := by
  intro z b r1 h
  unfold F77 at h
  split at h
  · rename_i hz
    cases h
    obtain ⟨rfl, hz⟩ := hz
    refine Trip.ofCalls (xs := [.int .i64 z, .int .i64 10]) ⟨_, _, Tryd.func77, rfl, by kernel_rfl⟩ fun w Z vals hr hsz hv => ?_
    obtain ⟨v, u, rfl⟩ : ∃ v u, vals = #[v, u] := two hsz
    cases hv 0 _ _ rfl rfl
    cases hv 1 _ _ rfl rfl
    refine (Tryd.strconv_FormatInt_10 z hz.1 hz.2 w hr).mono ?_
    rintro e w' ⟨rfl, k, os, rfl⟩
    exact ⟨_, rfl, below_apart (Lib.below_grow _ w (Nat.le_refl _) k os), fun _ _ _ => .str _⟩
  · cases h
theorem T76 (n : Nat) : ∀ ⦃l : List D⦄ ⦃sep r1 : ByteArray⦄, F76 n l sep = some r1 → Trip Tryd.prog inv 76 [.d (.list false 1 l), .d (.str sep)] [] (.v (.d (.str r1))) [] [] := by
  intro l sep r1 h
  unfold F76 at h
  split at h
  rotate_left
  · cases h
  rename_i xs hxs
  obtain rfl := strsD_map hxs
  split at h
  rotate_left
  · cases h
  rename_i hb
  cases h
  refine Trip.ofCalls (xs := [.list false 1 (xs.map D.str), .str sep]) ⟨_, _, Tryd.func76, rfl, by kernel_rfl⟩ fun w Z vals hr hsz hv => ?_
  obtain ⟨v, u, rfl⟩ : ∃ v u, vals = #[v, u] := two hsz
  cases hv 1 _ _ rfl rfl
  cases hv 0 _ _ rfl rfl with
  | list _ _ _ A cap b o U hcap hmax hfit ha hc hrr =>
    by_cases he : xs = []
    · subst he
      refine (Tryd.strings_Join_none A cap sep w).mono ?_
      rintro e w' ⟨rfl, rfl⟩
      exact ⟨_, rfl, ⟨rfl, rfl, rfl, Nat.le_refl _, fun _ _ _ => rfl⟩, fun _ _ _ => .str _⟩
    · have hA := ha (by simpa using he)
      subst hA
      have cells : ∀ (j : Nat) x, xs[j]? = some x → w.cell? ⟨b, o + j, none⟩ = some (.string x) := by
        intro j x hx
        have h1 : (xs.map D.str)[j]? = some (.str x) := by simp [hx]
        have h2 := (hc j _ 0 _ h1 rfl).1
        have h3 := hrr j _ 0 _ h1 rfl
        simp only [Nat.mul_one, Nat.add_zero] at h2
        rw [h2, relStr h3]
      have hbk : b < w.heap.size := by
        obtain ⟨x, xs', rfl⟩ := List.exists_cons_of_ne_nil he
        have := World.block_lt_of_cell? w ⟨b, o + 0, none⟩ (cells 0 x rfl)
        exact this
      have := Tryd.strings_Join b o cap xs sep w cells hbk hb.1 (by simpa using hcap) hb.2
      rw [List.length_map]
      refine this.mono ?_
      rintro e w' ⟨rfl, hbl⟩
      exact ⟨_, rfl, below_apart hbl, fun _ _ _ => .str _⟩
end Go.Proofs.YtjobleemmjjocaaDoor

/- Printed by lift.py: functional texts of functions, and their contracts. No condition. -/
set_option linter.unusedVariables false
noncomputable section
namespace Go.Proofs.YtjobleemmjjocaaDoor
open Go Go.AM
def ds_t56 {γ : Type} (x : D) (k : ByteArray → Int → Int → List D → Option γ) : Option γ := match x with | .agg [.str a0, .int .i64 a1, .int .i64 a2, .list true 9 a3] => k a0 a1 a2 a3 | _ => none
theorem ds_t56_inv {γ : Type} {x : D} {k : ByteArray → Int → Int → List D → Option γ} {r : γ} (h : ds_t56 x k = some r) : ∃ a0 a1 a2 a3, x = .agg [.str a0, .int .i64 a1, .int .i64 a2, .list true 9 a3] ∧ k a0 a1 a2 a3 = some r := by
  unfold ds_t56 at h
  split at h
  · exact ⟨_, _, _, _, rfl, h⟩
  · cases h
def ds_t48 {γ : Type} (x : D) (k : Int → Int → Int → Int → List D → List D → Int → ByteArray → List D → Option γ) : Option γ := match x with | .agg [.int .u8 a0, .int .i64 a1, .int .i64 a2, .int .i64 a3, .list false 1 a4, .list false 1 a5, .int .i64 a6, .str a7, .list false 1 a8] => k a0 a1 a2 a3 a4 a5 a6 a7 a8 | _ => none
theorem ds_t48_inv {γ : Type} {x : D} {k : Int → Int → Int → Int → List D → List D → Int → ByteArray → List D → Option γ} {r : γ} (h : ds_t48 x k = some r) : ∃ a0 a1 a2 a3 a4 a5 a6 a7 a8, x = .agg [.int .u8 a0, .int .i64 a1, .int .i64 a2, .int .i64 a3, .list false 1 a4, .list false 1 a5, .int .i64 a6, .str a7, .list false 1 a8] ∧ k a0 a1 a2 a3 a4 a5 a6 a7 a8 = some r := by
  unfold ds_t48 at h
  split at h
  · exact ⟨_, _, _, _, _, _, _, _, _, rfl, h⟩
  · cases h
def ds_str {γ : Type} (x : D) (k : ByteArray → Option γ) : Option γ := match x with | .str a0 => k a0 | _ => none
theorem ds_str_inv {γ : Type} {x : D} {k : ByteArray → Option γ} {r : γ} (h : ds_str x k = some r) : ∃ a0, x = .str a0 ∧ k a0 = some r := by
  unfold ds_str at h
  split at h
  · exact ⟨_, rfl, h⟩
  · cases h
def ds_t82 {γ : Type} (x : D) (k : Int → ByteArray → List D → Int → ByteArray → List D → List D → Int → Int → ByteArray → ByteArray → ByteArray → List D → List D → Int → Int → Option γ) : Option γ := match x with | .agg [.int .u8 a0, .str a1, .list true 4 a2, .int .u8 a3, .str a4, .list true 3 a5, .list true 15 a6, .int .u8 a7, .int .i64 a8, .str a9, .str a10, .str a11, .list false 1 a12, .list true 8 a13, .int .i64 a14, .int .i64 a15] => k a0 a1 a2 a3 a4 a5 a6 a7 a8 a9 a10 a11 a12 a13 a14 a15 | _ => none
theorem ds_t82_inv {γ : Type} {x : D} {k : Int → ByteArray → List D → Int → ByteArray → List D → List D → Int → Int → ByteArray → ByteArray → ByteArray → List D → List D → Int → Int → Option γ} {r : γ} (h : ds_t82 x k = some r) : ∃ a0 a1 a2 a3 a4 a5 a6 a7 a8 a9 a10 a11 a12 a13 a14 a15, x = .agg [.int .u8 a0, .str a1, .list true 4 a2, .int .u8 a3, .str a4, .list true 3 a5, .list true 15 a6, .int .u8 a7, .int .i64 a8, .str a9, .str a10, .str a11, .list false 1 a12, .list true 8 a13, .int .i64 a14, .int .i64 a15] ∧ k a0 a1 a2 a3 a4 a5 a6 a7 a8 a9 a10 a11 a12 a13 a14 a15 = some r := by
  unfold ds_t82 at h
  split at h
  · exact ⟨_, _, _, _, _, _, _, _, _, _, _, _, _, _, _, _, rfl, h⟩
  · cases h
def k_live : ByteArray := ⟨#[108, 105, 118, 101]⟩
def k_dead : ByteArray := ⟨#[100, 101, 97, 100]⟩
def k_const : ByteArray := ⟨#[99, 111, 110, 115, 116]⟩
def k_use : ByteArray := ⟨#[117, 115, 101]⟩
def k_ref : ByteArray := ⟨#[114, 101, 102]⟩
def k_mut : ByteArray := ⟨#[109, 117, 116]⟩
def k_put : ByteArray := ⟨#[112, 117, 116]⟩
def k_drop : ByteArray := ⟨#[100, 114, 111, 112]⟩
def k_unary : ByteArray := ⟨#[117, 110, 97, 114, 121]⟩
def k_binary : ByteArray := ⟨#[98, 105, 110, 97, 114, 121]⟩
def k_struct : ByteArray := ⟨#[115, 116, 114, 117, 99, 116]⟩
def k_enum : ByteArray := ⟨#[101, 110, 117, 109]⟩
def k_split : ByteArray := ⟨#[115, 112, 108, 105, 116]⟩
def k_jump : ByteArray := ⟨#[106, 117, 109, 112]⟩
def k_branch : ByteArray := ⟨#[98, 114, 97, 110, 99, 104]⟩
def k_switch : ByteArray := ⟨#[115, 119, 105, 116, 99, 104]⟩
def k_call : ByteArray := ⟨#[99, 97, 108, 108]⟩
def k_return : ByteArray := ⟨#[114, 101, 116, 117, 114, 110]⟩
def k_wrap : ByteArray := ⟨#[119, 114, 97, 112]⟩
def k_unwrap : ByteArray := ⟨#[117, 110, 119, 114, 97, 112]⟩
def k_clone : ByteArray := ⟨#[99, 108, 111, 110, 101]⟩
def k_cellget : ByteArray := ⟨#[99, 101, 108, 108, 103, 101, 116]⟩
def k_cellset : ByteArray := ⟨#[99, 101, 108, 108, 115, 101, 116]⟩
def k_load : ByteArray := ⟨#[108, 111, 97, 100]⟩
def k_store : ByteArray := ⟨#[115, 116, 111, 114, 101]⟩
def k_fetch : ByteArray := ⟨#[102, 101, 116, 99, 104]⟩
def k_chan : ByteArray := ⟨#[99, 104, 97, 110]⟩
def k_send : ByteArray := ⟨#[115, 101, 110, 100]⟩
def k_recv : ByteArray := ⟨#[114, 101, 99, 118]⟩
def k_lock : ByteArray := ⟨#[108, 111, 99, 107]⟩
def k_unlock : ByteArray := ⟨#[117, 110, 108, 111, 99, 107]⟩
def k_scope : ByteArray := ⟨#[115, 99, 111, 112, 101]⟩
def k_spawn : ByteArray := ⟨#[115, 112, 97, 119, 110]⟩
def k_join : ByteArray := ⟨#[106, 111, 105, 110]⟩
def ds_w4 {γ : Type} (x : D) (k : ByteArray → Int → Int → Bool → Bool → Bool → Bool → (List D) → Option γ) : Option γ := match x with | .agg [.str a0, .int .i64 a1, .int .i64 a2, .bool a3, .bool a4, .bool a5, .bool a6, .list false 1 a7] => k a0 a1 a2 a3 a4 a5 a6 a7 | _ => none
theorem ds_w4_inv {γ : Type} {x : D} {k : ByteArray → Int → Int → Bool → Bool → Bool → Bool → (List D) → Option γ} {r : γ} (h : ds_w4 x k = some r) : ∃ a0 a1 a2 a3 a4 a5 a6 a7, x = .agg [.str a0, .int .i64 a1, .int .i64 a2, .bool a3, .bool a4, .bool a5, .bool a6, .list false 1 a7] ∧ k a0 a1 a2 a3 a4 a5 a6 a7 = some r := by
  unfold ds_w4 at h
  split at h
  · exact ⟨_, _, _, _, _, _, _, _, rfl, h⟩
  · cases h
def k__ : ByteArray := ⟨#[42]⟩
def ds_i64 {γ : Type} (x : D) (k : Int → Option γ) : Option γ := match x with | .int .i64 a0 => k a0 | _ => none
theorem ds_i64_inv {γ : Type} {x : D} {k : Int → Option γ} {r : γ} (h : ds_i64 x k = some r) : ∃ a0, x = .int .i64 a0 ∧ k a0 = some r := by
  unfold ds_i64 at h
  split at h
  · exact ⟨_, rfl, h⟩
  · cases h
def k_main : ByteArray := ⟨#[109, 97, 105, 110]⟩
def k_E : ByteArray := ⟨#[69]⟩
def k___1 : ByteArray := ⟨#[32]⟩
def k___2 : ByteArray := ⟨#[46]⟩
def k___3 : ByteArray := ⟨#[44]⟩
def k___4 : ByteArray := ⟨#[63]⟩
def k_a : ByteArray := ⟨#[97]⟩
def k_switch_4_7_E : ByteArray := ⟨#[115, 119, 105, 116, 99, 104, 32, 52, 44, 55, 32, 69]⟩
def k_use_2__a__ : ByteArray := ⟨#[117, 115, 101, 32, 50, 32, 46, 97, 46, 42]⟩
def k_const_1_5 : ByteArray := ⟨#[99, 111, 110, 115, 116, 32, 49, 32, 53]⟩
end Go.Proofs.YtjobleemmjjocaaDoor
end

/- Printed by lift.py: functional texts of functions, and their contracts. No condition. -/
set_option linter.unusedVariables false
noncomputable section
namespace Go.Proofs.YtjobleemmjjocaaDoor
open Go Go.AM
def F60 (n : Nat) (s1 : ByteArray) : Option (Bool) :=
  szF s1 fun z2 => (if (1 : Int) ≤ z2 then szF s1 fun z3 => (if z3 ≤ (16 : Int) then some true else some false) else some false)
set_option maxRecDepth 100000 in
set_option maxHeartbeats 40000000 in
theorem T60 (n : Nat) : ∀ ⦃s1 : ByteArray⦄ ⦃r1 : Bool⦄, F60 n s1 = some r1 →
    Trip Tryd.prog inv 60 [.d (.str s1)] [] (.v (.d (.bool r1))) [] [] := by
  intro s1 r1 h
  unfold F60 at h
  refine Trip.of tab_ok tab_one fol Tryd.func60 rfl (by kernel_rfl) rfl rfl rfl (fun M hM hI => ?_)
  try cbv
  replace h := szF_inv M h
  obtain ⟨z2, hz, h⟩ := h
  refine ⟨z2, hz, ?_⟩
  clear hz
  try cbv
  refine splitLe (fun e => ?_) (fun e => ?_)
  · replace h := ite_t e h
    clear e
    try cbv
    replace h := szF_inv M h
    obtain ⟨z3, hz, h⟩ := h
    refine ⟨z3, hz, ?_⟩
    clear hz
    try cbv
    refine splitLe (fun e => ?_) (fun e => ?_)
    · replace h := ite_t e h
      clear e
      try cbv
      obtain rfl := Option.some.inj h
      refine fin_go ?_
      try cbv
      exact ⟨[], rfl, rfl, trivial, trivial, trivial⟩
    · replace h := ite_f (Int.not_le.2 e) h
      clear e
      try cbv
      obtain rfl := Option.some.inj h
      refine fin_go ?_
      try cbv
      exact ⟨[], rfl, rfl, trivial, trivial, trivial⟩
  · replace h := ite_f (Int.not_le.2 e) h
    clear e
    try cbv
    obtain rfl := Option.some.inj h
    refine fin_go ?_
    try cbv
    exact ⟨[], rfl, rfl, trivial, trivial, trivial⟩
end Go.Proofs.YtjobleemmjjocaaDoor
end

/- Printed by lift.py: functional texts of functions, and their contracts. No condition. -/
set_option linter.unusedVariables false
noncomputable section
namespace Go.Proofs.YtjobleemmjjocaaDoor
open Go Go.AM
def L59_1 : Nat → (List D) → Int → Option (Bool)
  | 0, _, _ => none
  | n + 1, l1, z3 =>
    lenF l1 fun z4 => (if z3 < z4 then getF l1 z3 fun x5 => ds_str x5 fun s6 => (if s6 = k__ then letF (IntKind.wrap .i64 (z3 + 1)) fun z7 => L59_1 n l1 z7 else getF l1 z3 fun x8 => ds_str x8 fun s9 => bO1 (F60 n s9) fun b10 => (if b10 = true then letF (IntKind.wrap .i64 (z3 + 1)) fun z11 => L59_1 n l1 z11 else some false)) else some true)
def F59 (n : Nat) (l1 : List D) : Option (Bool) :=
  lenF l1 fun z2 => (if (40 : Int) < z2 then some false else L59_1 n l1 (0 : Int))
set_option maxRecDepth 100000 in
set_option maxHeartbeats 40000000 in
theorem T59 (n : Nat) : ∀ ⦃l1 : List D⦄ ⦃r1 : Bool⦄, F59 n l1 = some r1 →
    Trip Tryd.prog inv 59 [.d (.list false 1 l1)] [] (.v (.d (.bool r1))) [] [] := by
  intro l1 r1 h
  unfold F59 at h
  refine Trip.of tab_ok tab_one fol Tryd.func59 rfl (by kernel_rfl) rfl rfl rfl (fun M hM hI => ?_)
  try cbv
  replace h := lenF_inv M h
  obtain ⟨z2, hz, h⟩ := h
  refine ⟨z2, hz, ?_⟩
  clear hz
  try cbv
  refine splitL (fun e => ?_) (fun e => ?_)
  · replace h := ite_t e h
    clear e
    try cbv
    obtain rfl := Option.some.inj h
    refine fin_go ?_
    try cbv
    exact ⟨[], rfl, rfl, trivial, trivial, trivial⟩
  · replace h := ite_f (Int.not_lt.2 e) h
    clear e
    try cbv
    refine loop_inv (T := Nat × Int) [0, 2, 3] [] 160 (fun t => ⟨[(0, .v (.d (.list false 1 l1))), (2, .v (.d (.bool false))), (3, .v (.d (.int .i64 t.2)))], [], 160⟩)
      (fun t => t.1 ≤ n ∧ L59_1 t.1 l1 t.2 = some r1) (fun t => t.1) (n, (0 : Int)) ⟨Nat.le_refl _, h⟩ (by cbv) ?_
    clear h
    rintro ⟨m1, z3⟩ ⟨hm1, h⟩
    replace hm1 : m1 ≤ n := hm1
    cases m1 with
    | zero => cases (show (none : Option _) = some _ from h)
    | succ m1 =>
      replace h : L59_1 (m1 + 1) l1 z3 = some r1 := h
      rw [L59_1] at h
      try cbv
      replace h := lenF_inv M h
      obtain ⟨z4, hz, h⟩ := h
      refine ⟨z4, hz, ?_⟩
      clear hz
      try cbv
      refine splitL (fun e => ?_) (fun e => ?_)
      · replace h := ite_t e h
        clear e
        try cbv
        replace h := getF_inv h
        obtain ⟨x5, ⟨hx0, hx⟩, h⟩ := h
        refine ⟨x5, hx0, hx, ?_⟩
        clear hx0 hx
        replace h := ds_str_inv h
        obtain ⟨s6, rfl, h⟩ := h
        try cbv
        refine splitS (fun e => ?_) (fun e => ?_)
        · replace h := ite_t (bytes_eq.1 e) h
          clear e
          try cbv
          replace h := letF_inv h
          obtain ⟨z7, hz, h⟩ := h
          refine ⟨z7, hz, ?_⟩
          clear hz
          try cbv
          exact loop_next (m1, z7) [0, 2, 3] [] 160 ⟨by omega, h⟩ (Nat.lt_succ_of_le (by omega)) (by cbv)
        · replace h := ite_f (bytes_ne.1 e) h
          clear e
          try cbv
          replace h := getF_inv h
          obtain ⟨x8, ⟨hx0, hx⟩, h⟩ := h
          refine ⟨x8, hx0, hx, ?_⟩
          clear hx0 hx
          replace h := ds_str_inv h
          obtain ⟨s9, rfl, h⟩ := h
          try cbv
          replace h := bO1_inv h
          obtain ⟨b10, hr, h⟩ := h
          refine call_go rfl rfl ?_
          try cbv
          refine call_pure hM hI (T60 _ hr) rfl ?_
          clear hr
          try cbv
          cases b10
          · replace h := ite_f Bool.false_ne_true h
            try cbv
            obtain rfl := Option.some.inj h
            refine fin_go ?_
            try cbv
            exact ⟨[], rfl, rfl, trivial, trivial, trivial⟩
          · replace h := ite_t rfl h
            try cbv
            replace h := letF_inv h
            obtain ⟨z11, hz, h⟩ := h
            refine ⟨z11, hz, ?_⟩
            clear hz
            try cbv
            exact loop_next (m1, z11) [0, 2, 3] [] 160 ⟨by omega, h⟩ (Nat.lt_succ_of_le (by omega)) (by cbv)
      · replace h := ite_f (Int.not_lt.2 e) h
        clear e
        try cbv
        obtain rfl := Option.some.inj h
        refine fin_go ?_
        try cbv
        exact ⟨[], rfl, rfl, trivial, trivial, trivial⟩
end Go.Proofs.YtjobleemmjjocaaDoor
end

/- Printed by lift.py: functional texts of functions, and their contracts. No condition. -/
set_option linter.unusedVariables false
noncomputable section
namespace Go.Proofs.YtjobleemmjjocaaDoor
open Go Go.AM
def F61 (n : Nat) (z1 : Int) (z2 : Int) (z3 : Int) (z4 : Int) (l5 : List D) (l6 : List D) (z7 : Int) (s8 : ByteArray) (l9 : List D) : Option (Bool) :=
  (if z2 = (0 : Int) then (if z3 = (0 : Int) then (if z4 = (0 : Int) then lenF l5 fun z10 => (if z10 = (0 : Int) then lenF l6 fun z11 => (if z11 = (0 : Int) then (if z7 = (0 : Int) then (if s8 = ByteArray.empty then lenF l9 fun z12 => (if z12 = (0 : Int) then some true else some false) else some false) else some false) else some false) else some false) else some false) else some false) else some false)
set_option maxRecDepth 100000 in
set_option maxHeartbeats 40000000 in
theorem T61 (n : Nat) : ∀ ⦃z1 : Int⦄ ⦃z2 : Int⦄ ⦃z3 : Int⦄ ⦃z4 : Int⦄ ⦃l5 : List D⦄ ⦃l6 : List D⦄ ⦃z7 : Int⦄ ⦃s8 : ByteArray⦄ ⦃l9 : List D⦄ ⦃r1 : Bool⦄, F61 n z1 z2 z3 z4 l5 l6 z7 s8 l9 = some r1 →
    Trip Tryd.prog inv 61 [.d (.agg [.int .u8 z1, .int .i64 z2, .int .i64 z3, .int .i64 z4, .list false 1 l5, .list false 1 l6, .int .i64 z7, .str s8, .list false 1 l9])] [] (.v (.d (.bool r1))) [] [] := by
  intro z1 z2 z3 z4 l5 l6 z7 s8 l9 r1 h
  unfold F61 at h
  refine Trip.of tab_ok tab_one fol Tryd.func61 rfl (by kernel_rfl) rfl rfl rfl (fun M hM hI => ?_)
  try cbv
  refine splitI (fun e => ?_) (fun e => ?_)
  · replace h := ite_t e h
    clear e
    try cbv
    refine splitI (fun e => ?_) (fun e => ?_)
    · replace h := ite_t e h
      clear e
      try cbv
      refine splitI (fun e => ?_) (fun e => ?_)
      · replace h := ite_t e h
        clear e
        try cbv
        replace h := lenF_inv M h
        obtain ⟨z10, hz, h⟩ := h
        refine ⟨z10, hz, ?_⟩
        clear hz
        try cbv
        refine splitI (fun e => ?_) (fun e => ?_)
        · replace h := ite_t e h
          clear e
          try cbv
          replace h := lenF_inv M h
          obtain ⟨z11, hz, h⟩ := h
          refine ⟨z11, hz, ?_⟩
          clear hz
          try cbv
          refine splitI (fun e => ?_) (fun e => ?_)
          · replace h := ite_t e h
            clear e
            try cbv
            refine splitI (fun e => ?_) (fun e => ?_)
            · replace h := ite_t e h
              clear e
              try cbv
              refine splitS (fun e => ?_) (fun e => ?_)
              · replace h := ite_t (bytes_eq.1 e) h
                clear e
                try cbv
                replace h := lenF_inv M h
                obtain ⟨z12, hz, h⟩ := h
                refine ⟨z12, hz, ?_⟩
                clear hz
                try cbv
                refine splitI (fun e => ?_) (fun e => ?_)
                · replace h := ite_t e h
                  clear e
                  try cbv
                  obtain rfl := Option.some.inj h
                  refine fin_go ?_
                  try cbv
                  exact ⟨[], rfl, rfl, trivial, trivial, trivial⟩
                · replace h := ite_f e h
                  clear e
                  try cbv
                  obtain rfl := Option.some.inj h
                  refine fin_go ?_
                  try cbv
                  exact ⟨[], rfl, rfl, trivial, trivial, trivial⟩
              · replace h := ite_f (bytes_ne.1 e) h
                clear e
                try cbv
                obtain rfl := Option.some.inj h
                refine fin_go ?_
                try cbv
                exact ⟨[], rfl, rfl, trivial, trivial, trivial⟩
            · replace h := ite_f e h
              clear e
              try cbv
              obtain rfl := Option.some.inj h
              refine fin_go ?_
              try cbv
              exact ⟨[], rfl, rfl, trivial, trivial, trivial⟩
          · replace h := ite_f e h
            clear e
            try cbv
            obtain rfl := Option.some.inj h
            refine fin_go ?_
            try cbv
            exact ⟨[], rfl, rfl, trivial, trivial, trivial⟩
        · replace h := ite_f e h
          clear e
          try cbv
          obtain rfl := Option.some.inj h
          refine fin_go ?_
          try cbv
          exact ⟨[], rfl, rfl, trivial, trivial, trivial⟩
      · replace h := ite_f e h
        clear e
        try cbv
        obtain rfl := Option.some.inj h
        refine fin_go ?_
        try cbv
        exact ⟨[], rfl, rfl, trivial, trivial, trivial⟩
    · replace h := ite_f e h
      clear e
      try cbv
      obtain rfl := Option.some.inj h
      refine fin_go ?_
      try cbv
      exact ⟨[], rfl, rfl, trivial, trivial, trivial⟩
  · replace h := ite_f e h
    clear e
    try cbv
    obtain rfl := Option.some.inj h
    refine fin_go ?_
    try cbv
    exact ⟨[], rfl, rfl, trivial, trivial, trivial⟩
end Go.Proofs.YtjobleemmjjocaaDoor
end

/- Printed by lift.py: functional texts of functions, and their contracts. No condition. -/
set_option linter.unusedVariables false
noncomputable section
namespace Go.Proofs.YtjobleemmjjocaaDoor
open Go Go.AM
def F83 (n : Nat) (s1 : ByteArray) : Option (ByteArray) :=
  some s1
set_option maxRecDepth 100000 in
set_option maxHeartbeats 40000000 in
theorem T83 (n : Nat) : ∀ ⦃s1 : ByteArray⦄ ⦃r1 : ByteArray⦄, F83 n s1 = some r1 →
    Trip Tryd.prog inv 83 [.d (.str s1)] [] (.v (.d (.agg [.str r1, .int .i64 1, .int .i64 0, .bool true, .bool false, .bool false, .bool false, .list false 1 []]))) [] [] := by
  intro s1 r1 h
  unfold F83 at h
  refine Trip.of tab_ok tab_one fol Tryd.func83 rfl (by kernel_rfl) rfl rfl rfl (fun M hM hI => ?_)
  try cbv
  obtain rfl := Option.some.inj h
  refine fin_go ?_
  try cbv
  exact ⟨[], rfl, rfl, trivial, trivial, trivial⟩
end Go.Proofs.YtjobleemmjjocaaDoor
end

/- Printed by lift.py: functional texts of functions, and their contracts. No condition. -/
set_option linter.unusedVariables false
noncomputable section
namespace Go.Proofs.YtjobleemmjjocaaDoor
open Go Go.AM
def F71 (n : Nat) : Option (List D × ByteArray × ByteArray × ByteArray × ByteArray × ByteArray × List D × List D × List D × List D × ByteArray × ByteArray × ByteArray × ByteArray × ByteArray × ByteArray × ByteArray × ByteArray) :=
  bO1 (F83 n k_use) fun s1 => bO1 (F83 n k_ref) fun s2 => bO1 (F83 n k_mut) fun s3 => bO1 (F83 n k_put) fun s4 => bO1 (F83 n k_drop) fun s5 => bO1 (F83 n k_clone) fun s6 => bO1 (F83 n k_cellget) fun s7 => bO1 (F83 n k_cellset) fun s8 => bO1 (F83 n k_load) fun s9 => bO1 (F83 n k_store) fun s10 => bO1 (F83 n k_fetch) fun s11 => bO1 (F83 n k_send) fun s12 => bO1 (F83 n k_recv) fun s13 => some ([.int .i64 1, .int .i64 2, .int .i64 3], s1, s2, s3, s4, s5, [.int .i64 7, .int .i64 8], [.int .i64 9, .int .i64 10, .int .i64 11, .int .i64 12, .int .i64 13, .int .i64 14, .int .i64 15, .int .i64 16, .int .i64 17], [.int .i64 6, .int .i64 7, .int .i64 8, .int .i64 9, .int .i64 10, .int .i64 11], [.int .i64 6, .int .i64 10], s6, s7, s8, s9, s10, s11, s12, s13)
set_option maxRecDepth 100000 in
set_option maxHeartbeats 40000000 in
theorem T71 (n : Nat) : ∀ ⦃r1 : List D⦄ ⦃r2 : ByteArray⦄ ⦃r3 : ByteArray⦄ ⦃r4 : ByteArray⦄ ⦃r5 : ByteArray⦄ ⦃r6 : ByteArray⦄ ⦃r7 : List D⦄ ⦃r8 : List D⦄ ⦃r9 : List D⦄ ⦃r10 : List D⦄ ⦃r11 : ByteArray⦄ ⦃r12 : ByteArray⦄ ⦃r13 : ByteArray⦄ ⦃r14 : ByteArray⦄ ⦃r15 : ByteArray⦄ ⦃r16 : ByteArray⦄ ⦃r17 : ByteArray⦄ ⦃r18 : ByteArray⦄, F71 n = some (r1, r2, r3, r4, r5, r6, r7, r8, r9, r10, r11, r12, r13, r14, r15, r16, r17, r18) →
    Trip Tryd.prog inv 71 [] [] (.v (.d (.agg [.str ByteArray.empty, .int .i64 0, .int .i64 0, .bool false, .bool false, .bool false, .bool false, .list false 1 [], .str k_live, .int .i64 1, .int .i64 0, .bool false, .bool false, .bool false, .bool false, .list false 1 [], .str k_dead, .int .i64 1, .int .i64 0, .bool false, .bool false, .bool false, .bool false, .list false 1 [], .str k_const, .int .i64 4, .int .i64 0, .bool false, .bool false, .bool true, .bool false, .list false 1 r1, .str r2, .int .i64 1, .int .i64 0, .bool true, .bool false, .bool false, .bool false, .list false 1 [], .str r3, .int .i64 1, .int .i64 0, .bool true, .bool false, .bool false, .bool false, .list false 1 [], .str r4, .int .i64 1, .int .i64 0, .bool true, .bool false, .bool false, .bool false, .list false 1 [], .str r5, .int .i64 1, .int .i64 0, .bool true, .bool false, .bool false, .bool false, .list false 1 [], .str r6, .int .i64 1, .int .i64 0, .bool true, .bool false, .bool false, .bool false, .list false 1 [], .str k_unary, .int .i64 4, .int .i64 0, .bool false, .bool false, .bool false, .bool false, .list false 1 r7, .str k_binary, .int .i64 4, .int .i64 0, .bool false, .bool false, .bool false, .bool false, .list false 1 r8, .str k_struct, .int .i64 0, .int .i64 7, .bool false, .bool false, .bool false, .bool true, .list false 1 [], .str k_enum, .int .i64 7, .int .i64 6, .bool false, .bool false, .bool false, .bool true, .list false 1 [], .str k_split, .int .i64 0, .int .i64 7, .bool false, .bool false, .bool false, .bool true, .list false 1 [], .str k_jump, .int .i64 2, .int .i64 0, .bool false, .bool false, .bool false, .bool false, .list false 1 [], .str k_branch, .int .i64 2, .int .i64 0, .bool false, .bool false, .bool false, .bool false, .list false 1 [], .str k_switch, .int .i64 0, .int .i64 0, .bool false, .bool true, .bool false, .bool true, .list false 1 [], .str k_call, .int .i64 3, .int .i64 5, .bool false, .bool false, .bool false, .bool false, .list false 1 [], .str k_return, .int .i64 0, .int .i64 0, .bool false, .bool false, .bool false, .bool false, .list false 1 [], .str k_wrap, .int .i64 4, .int .i64 0, .bool false, .bool false, .bool false, .bool false, .list false 1 r9, .str k_unwrap, .int .i64 4, .int .i64 0, .bool false, .bool false, .bool false, .bool false, .list false 1 r10, .str r11, .int .i64 1, .int .i64 0, .bool true, .bool false, .bool false, .bool false, .list false 1 [], .str r12, .int .i64 1, .int .i64 0, .bool true, .bool false, .bool false, .bool false, .list false 1 [], .str r13, .int .i64 1, .int .i64 0, .bool true, .bool false, .bool false, .bool false, .list false 1 [], .str r14, .int .i64 1, .int .i64 0, .bool true, .bool false, .bool false, .bool false, .list false 1 [], .str r15, .int .i64 1, .int .i64 0, .bool true, .bool false, .bool false, .bool false, .list false 1 [], .str r16, .int .i64 1, .int .i64 0, .bool true, .bool false, .bool false, .bool false, .list false 1 [], .str k_chan, .int .i64 0, .int .i64 0, .bool false, .bool false, .bool true, .bool false, .list false 1 [], .str r17, .int .i64 1, .int .i64 0, .bool true, .bool false, .bool false, .bool false, .list false 1 [], .str r18, .int .i64 1, .int .i64 0, .bool true, .bool false, .bool false, .bool false, .list false 1 [], .str k_lock, .int .i64 1, .int .i64 1, .bool true, .bool false, .bool false, .bool false, .list false 1 [], .str k_unlock, .int .i64 0, .int .i64 0, .bool false, .bool false, .bool false, .bool false, .list false 1 [], .str k_scope, .int .i64 0, .int .i64 0, .bool false, .bool false, .bool false, .bool false, .list false 1 [], .str k_spawn, .int .i64 3, .int .i64 5, .bool false, .bool false, .bool false, .bool false, .list false 1 [], .str k_join, .int .i64 0, .int .i64 0, .bool false, .bool false, .bool false, .bool false, .list false 1 []]))) [] [] := by
  intro r1 r2 r3 r4 r5 r6 r7 r8 r9 r10 r11 r12 r13 r14 r15 r16 r17 r18 h
  unfold F71 at h
  refine Trip.of tab_ok tab_one fol Tryd.func71 rfl (by kernel_rfl) rfl rfl rfl (fun M hM hI => ?_)
  try cbv
  refine ⟨false, ?_⟩
  try cbv
  refine ⟨true, ?_⟩
  try cbv
  replace h := bO1_inv h
  obtain ⟨s1, hr, h⟩ := h
  refine call_go rfl rfl ?_
  try cbv
  refine call_pure hM hI (T83 _ hr) rfl ?_
  clear hr
  try cbv
  replace h := bO1_inv h
  obtain ⟨s2, hr, h⟩ := h
  refine call_go rfl rfl ?_
  try cbv
  refine call_pure hM hI (T83 _ hr) rfl ?_
  clear hr
  try cbv
  replace h := bO1_inv h
  obtain ⟨s3, hr, h⟩ := h
  refine call_go rfl rfl ?_
  try cbv
  refine call_pure hM hI (T83 _ hr) rfl ?_
  clear hr
  try cbv
  replace h := bO1_inv h
  obtain ⟨s4, hr, h⟩ := h
  refine call_go rfl rfl ?_
  try cbv
  refine call_pure hM hI (T83 _ hr) rfl ?_
  clear hr
  try cbv
  replace h := bO1_inv h
  obtain ⟨s5, hr, h⟩ := h
  refine call_go rfl rfl ?_
  try cbv
  refine call_pure hM hI (T83 _ hr) rfl ?_
  clear hr
  try cbv
  refine ⟨false, ?_⟩
  try cbv
  refine ⟨true, ?_⟩
  try cbv
  refine ⟨false, ?_⟩
  try cbv
  refine ⟨true, ?_⟩
  try cbv
  refine ⟨false, ?_⟩
  try cbv
  refine ⟨true, ?_⟩
  try cbv
  refine ⟨false, ?_⟩
  try cbv
  refine ⟨true, ?_⟩
  try cbv
  replace h := bO1_inv h
  obtain ⟨s6, hr, h⟩ := h
  refine call_go rfl rfl ?_
  try cbv
  refine call_pure hM hI (T83 _ hr) rfl ?_
  clear hr
  try cbv
  replace h := bO1_inv h
  obtain ⟨s7, hr, h⟩ := h
  refine call_go rfl rfl ?_
  try cbv
  refine call_pure hM hI (T83 _ hr) rfl ?_
  clear hr
  try cbv
  replace h := bO1_inv h
  obtain ⟨s8, hr, h⟩ := h
  refine call_go rfl rfl ?_
  try cbv
  refine call_pure hM hI (T83 _ hr) rfl ?_
  clear hr
  try cbv
  replace h := bO1_inv h
  obtain ⟨s9, hr, h⟩ := h
  refine call_go rfl rfl ?_
  try cbv
  refine call_pure hM hI (T83 _ hr) rfl ?_
  clear hr
  try cbv
  replace h := bO1_inv h
  obtain ⟨s10, hr, h⟩ := h
  refine call_go rfl rfl ?_
  try cbv
  refine call_pure hM hI (T83 _ hr) rfl ?_
  clear hr
  try cbv
  replace h := bO1_inv h
  obtain ⟨s11, hr, h⟩ := h
  refine call_go rfl rfl ?_
  try cbv
  refine call_pure hM hI (T83 _ hr) rfl ?_
  clear hr
  try cbv
  replace h := bO1_inv h
  obtain ⟨s12, hr, h⟩ := h
  refine call_go rfl rfl ?_
  try cbv
  refine call_pure hM hI (T83 _ hr) rfl ?_
  clear hr
  try cbv
  replace h := bO1_inv h
  obtain ⟨s13, hr, h⟩ := h
  refine call_go rfl rfl ?_
  try cbv
  refine call_pure hM hI (T83 _ hr) rfl ?_
  clear hr
  try cbv
  obtain ⟨rfl, rfl, rfl, rfl, rfl, rfl, rfl, rfl, rfl, rfl, rfl, rfl, rfl, rfl, rfl, rfl, rfl, rfl⟩ := inj18 h
  refine fin_go ?_
  try cbv
  exact ⟨[], rfl, rfl, trivial, trivial, trivial⟩
end Go.Proofs.YtjobleemmjjocaaDoor
end

/- Printed by lift.py: functional texts of functions, and their contracts. No condition. -/
set_option linter.unusedVariables false
noncomputable section
namespace Go.Proofs.YtjobleemmjjocaaDoor
open Go Go.AM
def F51 (n : Nat) (z1 : Int) : Option (ByteArray × Int × Int × Bool × Bool × Bool × Bool × List D × Bool) :=
  bO18 (F71 n) fun l2 s3 s4 s5 s6 s7 l8 l9 l10 l11 s12 s13 s14 s15 s16 s17 s18 s19 => (if z1 = (0 : Int) then some (ByteArray.empty, (0 : Int), (0 : Int), false, false, false, false, ([] : List D), false) else letF (IntKind.wrap .i64 z1) fun z20 => (if (35 : Int) ≤ z20 then some (ByteArray.empty, (0 : Int), (0 : Int), false, false, false, false, ([] : List D), false) else needF (0 ≤ z1 ∧ z1 < 35) (getF [.agg [.str ByteArray.empty, .int .i64 0, .int .i64 0, .bool false, .bool false, .bool false, .bool false, .list false 1 []], .agg [.str k_live, .int .i64 1, .int .i64 0, .bool false, .bool false, .bool false, .bool false, .list false 1 []], .agg [.str k_dead, .int .i64 1, .int .i64 0, .bool false, .bool false, .bool false, .bool false, .list false 1 []], .agg [.str k_const, .int .i64 4, .int .i64 0, .bool false, .bool false, .bool true, .bool false, .list false 1 l2], .agg [.str s3, .int .i64 1, .int .i64 0, .bool true, .bool false, .bool false, .bool false, .list false 1 []], .agg [.str s4, .int .i64 1, .int .i64 0, .bool true, .bool false, .bool false, .bool false, .list false 1 []], .agg [.str s5, .int .i64 1, .int .i64 0, .bool true, .bool false, .bool false, .bool false, .list false 1 []], .agg [.str s6, .int .i64 1, .int .i64 0, .bool true, .bool false, .bool false, .bool false, .list false 1 []], .agg [.str s7, .int .i64 1, .int .i64 0, .bool true, .bool false, .bool false, .bool false, .list false 1 []], .agg [.str k_unary, .int .i64 4, .int .i64 0, .bool false, .bool false, .bool false, .bool false, .list false 1 l8], .agg [.str k_binary, .int .i64 4, .int .i64 0, .bool false, .bool false, .bool false, .bool false, .list false 1 l9], .agg [.str k_struct, .int .i64 0, .int .i64 7, .bool false, .bool false, .bool false, .bool true, .list false 1 []], .agg [.str k_enum, .int .i64 7, .int .i64 6, .bool false, .bool false, .bool false, .bool true, .list false 1 []], .agg [.str k_split, .int .i64 0, .int .i64 7, .bool false, .bool false, .bool false, .bool true, .list false 1 []], .agg [.str k_jump, .int .i64 2, .int .i64 0, .bool false, .bool false, .bool false, .bool false, .list false 1 []], .agg [.str k_branch, .int .i64 2, .int .i64 0, .bool false, .bool false, .bool false, .bool false, .list false 1 []], .agg [.str k_switch, .int .i64 0, .int .i64 0, .bool false, .bool true, .bool false, .bool true, .list false 1 []], .agg [.str k_call, .int .i64 3, .int .i64 5, .bool false, .bool false, .bool false, .bool false, .list false 1 []], .agg [.str k_return, .int .i64 0, .int .i64 0, .bool false, .bool false, .bool false, .bool false, .list false 1 []], .agg [.str k_wrap, .int .i64 4, .int .i64 0, .bool false, .bool false, .bool false, .bool false, .list false 1 l10], .agg [.str k_unwrap, .int .i64 4, .int .i64 0, .bool false, .bool false, .bool false, .bool false, .list false 1 l11], .agg [.str s12, .int .i64 1, .int .i64 0, .bool true, .bool false, .bool false, .bool false, .list false 1 []], .agg [.str s13, .int .i64 1, .int .i64 0, .bool true, .bool false, .bool false, .bool false, .list false 1 []], .agg [.str s14, .int .i64 1, .int .i64 0, .bool true, .bool false, .bool false, .bool false, .list false 1 []], .agg [.str s15, .int .i64 1, .int .i64 0, .bool true, .bool false, .bool false, .bool false, .list false 1 []], .agg [.str s16, .int .i64 1, .int .i64 0, .bool true, .bool false, .bool false, .bool false, .list false 1 []], .agg [.str s17, .int .i64 1, .int .i64 0, .bool true, .bool false, .bool false, .bool false, .list false 1 []], .agg [.str k_chan, .int .i64 0, .int .i64 0, .bool false, .bool false, .bool true, .bool false, .list false 1 []], .agg [.str s18, .int .i64 1, .int .i64 0, .bool true, .bool false, .bool false, .bool false, .list false 1 []], .agg [.str s19, .int .i64 1, .int .i64 0, .bool true, .bool false, .bool false, .bool false, .list false 1 []], .agg [.str k_lock, .int .i64 1, .int .i64 1, .bool true, .bool false, .bool false, .bool false, .list false 1 []], .agg [.str k_unlock, .int .i64 0, .int .i64 0, .bool false, .bool false, .bool false, .bool false, .list false 1 []], .agg [.str k_scope, .int .i64 0, .int .i64 0, .bool false, .bool false, .bool false, .bool false, .list false 1 []], .agg [.str k_spawn, .int .i64 3, .int .i64 5, .bool false, .bool false, .bool false, .bool false, .list false 1 []], .agg [.str k_join, .int .i64 0, .int .i64 0, .bool false, .bool false, .bool false, .bool false, .list false 1 []]] z1 fun x29 => ds_w4 x29 fun s21 z22 z23 b24 b25 b26 b27 l28 => some (s21, z22, z23, b24, b25, b26, b27, l28, true))))
set_option maxRecDepth 100000 in
set_option maxHeartbeats 40000000 in
theorem T51 (n : Nat) : ∀ ⦃z1 : Int⦄ ⦃r1 : ByteArray⦄ ⦃r2 : Int⦄ ⦃r3 : Int⦄ ⦃r4 : Bool⦄ ⦃r5 : Bool⦄ ⦃r6 : Bool⦄ ⦃r7 : Bool⦄ ⦃r8 : List D⦄ ⦃r9 : Bool⦄, F51 n z1 = some (r1, r2, r3, r4, r5, r6, r7, r8, r9) →
    Trip Tryd.prog inv 51 [.d (.int .u8 z1)] [] (.t [.d (.agg [.str r1, .int .i64 r2, .int .i64 r3, .bool r4, .bool r5, .bool r6, .bool r7, .list false 1 r8]), .d (.bool r9)]) [] [] := by
  intro z1 r1 r2 r3 r4 r5 r6 r7 r8 r9 h
  unfold F51 at h
  refine Trip.of tab_ok tab_one fol Tryd.func51 rfl (by kernel_rfl) rfl rfl rfl (fun M hM hI => ?_)
  try cbv
  replace h := bO18_inv h
  obtain ⟨l2, s3, s4, s5, s6, s7, l8, l9, l10, l11, s12, s13, s14, s15, s16, s17, s18, s19, hr, h⟩ := h
  refine call_go rfl rfl ?_
  try cbv
  refine call_pure hM hI (T71 _ hr) rfl ?_
  clear hr
  try cbv
  refine splitI (fun e => ?_) (fun e => ?_)
  · replace h := ite_t e h
    clear e
    try cbv
    obtain ⟨rfl, rfl, rfl, rfl, rfl, rfl, rfl, rfl, rfl⟩ := inj9 h
    refine fin_go ?_
    try cbv
    exact ⟨[], rfl, rfl, trivial, trivial, trivial⟩
  · replace h := ite_f e h
    clear e
    try cbv
    replace h := letF_inv h
    obtain ⟨z20, hz, h⟩ := h
    refine ⟨z20, hz, ?_⟩
    clear hz
    try cbv
    refine splitLe (fun e => ?_) (fun e => ?_)
    · replace h := ite_t e h
      clear e
      try cbv
      obtain ⟨rfl, rfl, rfl, rfl, rfl, rfl, rfl, rfl, rfl⟩ := inj9 h
      refine fin_go ?_
      try cbv
      exact ⟨[], rfl, rfl, trivial, trivial, trivial⟩
    · replace h := ite_f (Int.not_le.2 e) h
      clear e
      try cbv
      replace h := needF_inv h
      obtain ⟨hn, h⟩ := h
      refine ⟨hn.1, hn.2, false, ?_⟩
      clear hn
      try cbv
      replace h := getF_inv h
      obtain ⟨x29, ⟨hx0, hx⟩, h⟩ := h
      replace h := ds_w4_inv h
      obtain ⟨s21, z22, z23, b24, b25, b26, b27, l28, rfl, h⟩ := h
      refine ⟨35, _, rfl, hx, ?_⟩
      clear hx0 hx
      try cbv
      obtain ⟨rfl, rfl, rfl, rfl, rfl, rfl, rfl, rfl, rfl⟩ := inj9 h
      refine fin_go ?_
      try cbv
      exact ⟨[], rfl, rfl, trivial, trivial, trivial⟩
end Go.Proofs.YtjobleemmjjocaaDoor
end

/- Printed by lift.py: functional texts of functions, and their contracts. No condition. -/
set_option linter.unusedVariables false
noncomputable section
namespace Go.Proofs.YtjobleemmjjocaaDoor
open Go Go.AM
def F53 (n : Nat) (s1 : ByteArray) : Option (Bool) :=
  szF s1 fun z2 => (if (1 : Int) ≤ z2 then szF s1 fun z3 => (if z3 ≤ (16 : Int) then some true else some false) else some false)
set_option maxRecDepth 100000 in
set_option maxHeartbeats 40000000 in
theorem T53 (n : Nat) : ∀ ⦃s1 : ByteArray⦄ ⦃r1 : Bool⦄, F53 n s1 = some r1 →
    Trip Tryd.prog inv 53 [.d (.str s1)] [] (.v (.d (.bool r1))) [] [] := by
  intro s1 r1 h
  unfold F53 at h
  refine Trip.of tab_ok tab_one fol Tryd.func53 rfl (by kernel_rfl) rfl rfl rfl (fun M hM hI => ?_)
  try cbv
  replace h := szF_inv M h
  obtain ⟨z2, hz, h⟩ := h
  refine ⟨z2, hz, ?_⟩
  clear hz
  try cbv
  refine splitLe (fun e => ?_) (fun e => ?_)
  · replace h := ite_t e h
    clear e
    try cbv
    replace h := szF_inv M h
    obtain ⟨z3, hz, h⟩ := h
    refine ⟨z3, hz, ?_⟩
    clear hz
    try cbv
    refine splitLe (fun e => ?_) (fun e => ?_)
    · replace h := ite_t e h
      clear e
      try cbv
      obtain rfl := Option.some.inj h
      refine fin_go ?_
      try cbv
      exact ⟨[], rfl, rfl, trivial, trivial, trivial⟩
    · replace h := ite_f (Int.not_le.2 e) h
      clear e
      try cbv
      obtain rfl := Option.some.inj h
      refine fin_go ?_
      try cbv
      exact ⟨[], rfl, rfl, trivial, trivial, trivial⟩
  · replace h := ite_f (Int.not_le.2 e) h
    clear e
    try cbv
    obtain rfl := Option.some.inj h
    refine fin_go ?_
    try cbv
    exact ⟨[], rfl, rfl, trivial, trivial, trivial⟩
end Go.Proofs.YtjobleemmjjocaaDoor
end

/- Printed by lift.py: functional texts of functions, and their contracts. No condition. -/
set_option linter.unusedVariables false
noncomputable section
namespace Go.Proofs.YtjobleemmjjocaaDoor
open Go Go.AM
def F55 (n : Nat) (s1 : ByteArray) (z2 : Int) (z3 : Int) (b4 : Bool) (b5 : Bool) (b6 : Bool) (b7 : Bool) (l8 : List D) (z9 : Int) (z10 : Int) (z11 : Int) (z12 : Int) (l13 : List D) (l14 : List D) (z15 : Int) (s16 : ByteArray) (l17 : List D) : Option (Bool) :=
  (if b6 = true then (if z9 = (27 : Int) then (if (1 : Int) ≤ z15 then (if z15 ≤ (8 : Int) then some true else some false) else some false) else (if z10 = (2 : Int) then (if z15 = (0 : Int) then some true else (if z15 = (1 : Int) then some true else some false)) else (if z10 = (1 : Int) then some true else (if z15 = (0 : Int) then some true else some false)))) else (if z15 = (0 : Int) then some true else some false))
set_option maxRecDepth 100000 in
set_option maxHeartbeats 40000000 in
theorem T55 (n : Nat) : ∀ ⦃s1 : ByteArray⦄ ⦃z2 : Int⦄ ⦃z3 : Int⦄ ⦃b4 : Bool⦄ ⦃b5 : Bool⦄ ⦃b6 : Bool⦄ ⦃b7 : Bool⦄ ⦃l8 : List D⦄ ⦃z9 : Int⦄ ⦃z10 : Int⦄ ⦃z11 : Int⦄ ⦃z12 : Int⦄ ⦃l13 : List D⦄ ⦃l14 : List D⦄ ⦃z15 : Int⦄ ⦃s16 : ByteArray⦄ ⦃l17 : List D⦄ ⦃r1 : Bool⦄, F55 n s1 z2 z3 b4 b5 b6 b7 l8 z9 z10 z11 z12 l13 l14 z15 s16 l17 = some r1 →
    Trip Tryd.prog inv 55 [.d (.agg [.str s1, .int .i64 z2, .int .i64 z3, .bool b4, .bool b5, .bool b6, .bool b7, .list false 1 l8]), .d (.agg [.int .u8 z9, .int .i64 z10, .int .i64 z11, .int .i64 z12, .list false 1 l13, .list false 1 l14, .int .i64 z15, .str s16, .list false 1 l17])] [] (.v (.d (.bool r1))) [] [] := by
  intro s1 z2 z3 b4 b5 b6 b7 l8 z9 z10 z11 z12 l13 l14 z15 s16 l17 r1 h
  unfold F55 at h
  refine Trip.of tab_ok tab_one fol Tryd.func55 rfl (by kernel_rfl) rfl rfl rfl (fun M hM hI => ?_)
  try cbv
  cases b6
  · replace h := ite_f Bool.false_ne_true h
    try cbv
    refine splitI (fun e => ?_) (fun e => ?_)
    · replace h := ite_t e h
      clear e
      try cbv
      obtain rfl := Option.some.inj h
      refine fin_go ?_
      try cbv
      exact ⟨[], rfl, rfl, trivial, trivial, trivial⟩
    · replace h := ite_f e h
      clear e
      try cbv
      obtain rfl := Option.some.inj h
      refine fin_go ?_
      try cbv
      exact ⟨[], rfl, rfl, trivial, trivial, trivial⟩
  · replace h := ite_t rfl h
    try cbv
    refine splitI (fun e => ?_) (fun e => ?_)
    · replace h := ite_t e h
      clear e
      try cbv
      refine splitLe (fun e => ?_) (fun e => ?_)
      · replace h := ite_t e h
        clear e
        try cbv
        refine splitLe (fun e => ?_) (fun e => ?_)
        · replace h := ite_t e h
          clear e
          try cbv
          obtain rfl := Option.some.inj h
          refine fin_go ?_
          try cbv
          exact ⟨[], rfl, rfl, trivial, trivial, trivial⟩
        · replace h := ite_f (Int.not_le.2 e) h
          clear e
          try cbv
          obtain rfl := Option.some.inj h
          refine fin_go ?_
          try cbv
          exact ⟨[], rfl, rfl, trivial, trivial, trivial⟩
      · replace h := ite_f (Int.not_le.2 e) h
        clear e
        try cbv
        obtain rfl := Option.some.inj h
        refine fin_go ?_
        try cbv
        exact ⟨[], rfl, rfl, trivial, trivial, trivial⟩
    · replace h := ite_f e h
      clear e
      try cbv
      refine splitI (fun e => ?_) (fun e => ?_)
      · replace h := ite_t e h
        clear e
        try cbv
        refine splitI (fun e => ?_) (fun e => ?_)
        · replace h := ite_t e h
          clear e
          try cbv
          obtain rfl := Option.some.inj h
          refine fin_go ?_
          try cbv
          exact ⟨[], rfl, rfl, trivial, trivial, trivial⟩
        · replace h := ite_f e h
          clear e
          try cbv
          refine splitI (fun e => ?_) (fun e => ?_)
          · replace h := ite_t e h
            clear e
            try cbv
            obtain rfl := Option.some.inj h
            refine fin_go ?_
            try cbv
            exact ⟨[], rfl, rfl, trivial, trivial, trivial⟩
          · replace h := ite_f e h
            clear e
            try cbv
            obtain rfl := Option.some.inj h
            refine fin_go ?_
            try cbv
            exact ⟨[], rfl, rfl, trivial, trivial, trivial⟩
      · replace h := ite_f e h
        clear e
        try cbv
        refine splitI (fun e => ?_) (fun e => ?_)
        · replace h := ite_t e h
          clear e
          try cbv
          obtain rfl := Option.some.inj h
          refine fin_go ?_
          try cbv
          exact ⟨[], rfl, rfl, trivial, trivial, trivial⟩
        · replace h := ite_f e h
          clear e
          try cbv
          refine splitI (fun e => ?_) (fun e => ?_)
          · replace h := ite_t e h
            clear e
            try cbv
            obtain rfl := Option.some.inj h
            refine fin_go ?_
            try cbv
            exact ⟨[], rfl, rfl, trivial, trivial, trivial⟩
          · replace h := ite_f e h
            clear e
            try cbv
            obtain rfl := Option.some.inj h
            refine fin_go ?_
            try cbv
            exact ⟨[], rfl, rfl, trivial, trivial, trivial⟩
end Go.Proofs.YtjobleemmjjocaaDoor
end

/- Printed by lift.py: functional texts of functions, and their contracts. No condition. -/
set_option linter.unusedVariables false
noncomputable section
namespace Go.Proofs.YtjobleemmjjocaaDoor
open Go Go.AM
def F52 (n : Nat) (s1 : ByteArray) : Option (Bool) :=
  (if s1 = k__ then some false else bO1 (F53 n s1) fun b2 => (if b2 = true then some false else some true))
set_option maxRecDepth 100000 in
set_option maxHeartbeats 40000000 in
theorem T52 (n : Nat) : ∀ ⦃s1 : ByteArray⦄ ⦃r1 : Bool⦄, F52 n s1 = some r1 →
    Trip Tryd.prog inv 52 [.d (.str s1)] [] (.v (.d (.bool r1))) [] [] := by
  intro s1 r1 h
  unfold F52 at h
  refine Trip.of tab_ok tab_one fol Tryd.func52 rfl (by kernel_rfl) rfl rfl rfl (fun M hM hI => ?_)
  try cbv
  refine splitS (fun e => ?_) (fun e => ?_)
  · replace h := ite_t (bytes_eq.1 e) h
    clear e
    try cbv
    obtain rfl := Option.some.inj h
    refine fin_go ?_
    try cbv
    exact ⟨[], rfl, rfl, trivial, trivial, trivial⟩
  · replace h := ite_f (bytes_ne.1 e) h
    clear e
    try cbv
    replace h := bO1_inv h
    obtain ⟨b2, hr, h⟩ := h
    refine call_go rfl rfl ?_
    try cbv
    refine call_pure hM hI (T53 _ hr) rfl ?_
    clear hr
    try cbv
    cases b2
    · replace h := ite_f Bool.false_ne_true h
      try cbv
      obtain rfl := Option.some.inj h
      refine fin_go ?_
      try cbv
      exact ⟨[], rfl, rfl, trivial, trivial, trivial⟩
    · replace h := ite_t rfl h
      try cbv
      obtain rfl := Option.some.inj h
      refine fin_go ?_
      try cbv
      exact ⟨[], rfl, rfl, trivial, trivial, trivial⟩
end Go.Proofs.YtjobleemmjjocaaDoor
end

/- Printed by lift.py: functional texts of functions, and their contracts. No condition. -/
set_option linter.unusedVariables false
noncomputable section
namespace Go.Proofs.YtjobleemmjjocaaDoor
open Go Go.AM
def L72_1 : Nat → (List D) → Int → Int → Option (Int)
  | 0, _, _, _ => none
  | n + 1, l1, z2, z3 =>
    (if z3 < z2 then getF l1 z3 fun x4 => ds_str x4 fun s5 => bO1 (F52 n s5) fun b6 => (if b6 = true then some z3 else letF (IntKind.wrap .i64 (z3 + 1)) fun z7 => L72_1 n l1 z2 z7) else some (-1 : Int))
def F72 (n : Nat) (l1 : List D) : Option (Int) :=
  lenF l1 fun z2 => L72_1 n l1 z2 (0 : Int)
set_option maxRecDepth 100000 in
set_option maxHeartbeats 40000000 in
theorem T72 (n : Nat) : ∀ ⦃l1 : List D⦄ ⦃r1 : Int⦄, F72 n l1 = some r1 →
    Trip Tryd.prog inv 72 [.d (.list false 1 l1), .c (.fn 52 [])] [] (.v (.d (.int .i64 r1))) [] [] := by
  intro l1 r1 h
  unfold F72 at h
  refine Trip.of tab_ok tab_one fol Tryd.func72 rfl (by kernel_rfl) rfl rfl rfl (fun M hM hI => ?_)
  try cbv
  replace h := lenF_inv M h
  obtain ⟨z2, hz, h⟩ := h
  refine ⟨z2, hz, ?_⟩
  clear hz
  try cbv
  refine loop_inv (T := Nat × Int) [0, 1, 4, 7, 8] [] 128 (fun t => ⟨[(0, .v (.d (.list false 1 l1))), (1, .v (.c (.fn 52 []))), (4, .v (.d (.int .i64 0))), (7, .v (.d (.int .i64 z2))), (8, .v (.d (.int .i64 t.2)))], [], 128⟩)
    (fun t => t.1 ≤ n ∧ L72_1 t.1 l1 z2 t.2 = some r1) (fun t => t.1) (n, (0 : Int)) ⟨Nat.le_refl _, h⟩ (by cbv) ?_
  clear h
  rintro ⟨m1, z3⟩ ⟨hm1, h⟩
  replace hm1 : m1 ≤ n := hm1
  cases m1 with
  | zero => cases (show (none : Option _) = some _ from h)
  | succ m1 =>
    replace h : L72_1 (m1 + 1) l1 z2 z3 = some r1 := h
    rw [L72_1] at h
    try cbv
    refine splitL (fun e => ?_) (fun e => ?_)
    · replace h := ite_t e h
      clear e
      try cbv
      replace h := getF_inv h
      obtain ⟨x4, ⟨hx0, hx⟩, h⟩ := h
      refine ⟨x4, hx0, hx, ?_⟩
      clear hx0 hx
      replace h := ds_str_inv h
      obtain ⟨s5, rfl, h⟩ := h
      try cbv
      replace h := bO1_inv h
      obtain ⟨b6, hr, h⟩ := h
      refine call_go rfl rfl ?_
      try cbv
      refine call_pure hM hI (T52 _ hr) rfl ?_
      clear hr
      try cbv
      cases b6
      · replace h := ite_f Bool.false_ne_true h
        try cbv
        replace h := letF_inv h
        obtain ⟨z7, hz, h⟩ := h
        refine ⟨z7, hz, ?_⟩
        clear hz
        try cbv
        exact loop_next (m1, z7) [0, 1, 4, 7, 8] [] 128 ⟨by omega, h⟩ (Nat.lt_succ_of_le (by omega)) (by cbv)
      · replace h := ite_t rfl h
        try cbv
        obtain rfl := Option.some.inj h
        refine fin_go ?_
        try cbv
        exact ⟨[], rfl, rfl, trivial, trivial, trivial⟩
    · replace h := ite_f (Int.not_lt.2 e) h
      clear e
      try cbv
      obtain rfl := Option.some.inj h
      refine fin_go ?_
      try cbv
      exact ⟨[], rfl, rfl, trivial, trivial, trivial⟩
end Go.Proofs.YtjobleemmjjocaaDoor
end

/- Printed by lift.py: functional texts of functions, and their contracts. No condition. -/
set_option linter.unusedVariables false
noncomputable section
namespace Go.Proofs.YtjobleemmjjocaaDoor
open Go Go.AM
def F56 (n : Nat) (l1 : List D) : Option (Bool) :=
  bO1 (F72 n l1) fun z2 => (if (0 : Int) ≤ z2 then some true else some false)
set_option maxRecDepth 100000 in
set_option maxHeartbeats 40000000 in
theorem T56 (n : Nat) : ∀ ⦃l1 : List D⦄ ⦃r1 : Bool⦄, F56 n l1 = some r1 →
    Trip Tryd.prog inv 56 [.d (.list false 1 l1), .c (.fn 52 [])] [] (.v (.d (.bool r1))) [] [] := by
  intro l1 r1 h
  unfold F56 at h
  refine Trip.of tab_ok tab_one fol Tryd.func56 rfl (by kernel_rfl) rfl rfl rfl (fun M hM hI => ?_)
  try cbv
  replace h := bO1_inv h
  obtain ⟨z2, hr, h⟩ := h
  refine call_go rfl rfl ?_
  try cbv
  refine call_pure hM hI (T72 _ hr) rfl ?_
  clear hr
  try cbv
  refine splitLe (fun e => ?_) (fun e => ?_)
  · replace h := ite_t e h
    clear e
    try cbv
    obtain rfl := Option.some.inj h
    refine fin_go ?_
    try cbv
    exact ⟨[], rfl, rfl, trivial, trivial, trivial⟩
  · replace h := ite_f (Int.not_le.2 e) h
    clear e
    try cbv
    obtain rfl := Option.some.inj h
    refine fin_go ?_
    try cbv
    exact ⟨[], rfl, rfl, trivial, trivial, trivial⟩
end Go.Proofs.YtjobleemmjjocaaDoor
end

/- Printed by lift.py: functional texts of functions, and their contracts. No condition. -/
set_option linter.unusedVariables false
noncomputable section
namespace Go.Proofs.YtjobleemmjjocaaDoor
open Go Go.AM
def F54 (n : Nat) (z1 : Int) (s2 : ByteArray) (z3 : Int) (z4 : Int) (l5 : List D) : Option (Bool × ByteArray × Int × Int × List D) :=
  (if z1 < (0 : Int) then some (true, s2, z3, z4, l5) else lenF l5 fun z6 => (if z6 < z1 then some (true, s2, z3, z4, l5) else some (false, s2, z3, z4, l5)))
set_option maxRecDepth 100000 in
set_option maxHeartbeats 40000000 in
theorem T54 (n : Nat) : ∀ ⦃z1 : Int⦄ ⦃s2 : ByteArray⦄ ⦃z3 : Int⦄ ⦃z4 : Int⦄ ⦃l5 : List D⦄ ⦃r1 : Bool⦄ ⦃r2 : ByteArray⦄ ⦃r3 : Int⦄ ⦃r4 : Int⦄ ⦃r5 : List D⦄, F54 n z1 s2 z3 z4 l5 = some (r1, r2, r3, r4, r5) →
    Trip Tryd.prog inv 54 [.d (.int .i64 z1), .c (.ptr (.ext 0) 0)] [.cells [.d (.str s2), .d (.int .i64 z3), .d (.int .i64 z4), .d (.list true 9 l5)]] (.v (.d (.bool r1))) [.cells [.d (.str r2), .d (.int .i64 r3), .d (.int .i64 r4), .d (.list true 9 r5)]] [] := by
  intro z1 s2 z3 z4 l5 r1 r2 r3 r4 r5 h
  unfold F54 at h
  refine Trip.of tab_ok tab_one fol Tryd.func54 rfl (by kernel_rfl) rfl rfl rfl (fun M hM hI => ?_)
  try cbv
  refine splitL (fun e => ?_) (fun e => ?_)
  · replace h := ite_t e h
    clear e
    try cbv
    obtain ⟨rfl, rfl, rfl, rfl, rfl⟩ := inj5 h
    refine fin_go ?_
    try cbv
    exact ⟨[], rfl, rfl, ⟨rfl, trivial⟩, trivial, trivial⟩
  · replace h := ite_f (Int.not_lt.2 e) h
    clear e
    try cbv
    replace h := lenF_inv M h
    obtain ⟨z6, hz, h⟩ := h
    refine ⟨z6, hz, ?_⟩
    clear hz
    try cbv
    refine splitL (fun e => ?_) (fun e => ?_)
    · replace h := ite_t e h
      clear e
      try cbv
      obtain ⟨rfl, rfl, rfl, rfl, rfl⟩ := inj5 h
      refine fin_go ?_
      try cbv
      exact ⟨[], rfl, rfl, ⟨rfl, trivial⟩, trivial, trivial⟩
    · replace h := ite_f (Int.not_lt.2 e) h
      clear e
      try cbv
      obtain ⟨rfl, rfl, rfl, rfl, rfl⟩ := inj5 h
      refine fin_go ?_
      try cbv
      exact ⟨[], rfl, rfl, ⟨rfl, trivial⟩, trivial, trivial⟩
end Go.Proofs.YtjobleemmjjocaaDoor
end

/- Printed by lift.py: functional texts of functions, and their contracts. No condition. -/
set_option linter.unusedVariables false
noncomputable section
namespace Go.Proofs.YtjobleemmjjocaaDoor
open Go Go.AM
def L73_1 : Nat → (List D) → Int → Int → ByteArray → Int → Int → (List D) → Option (Int × ByteArray × Int × Int × List D)
  | 0, _, _, _, _, _, _, _ => none
  | n + 1, l1, z6, z7, s8, z9, z10, l11 =>
    (if z7 < z6 then getF l1 z7 fun x12 => ds_i64 x12 fun z13 => bO5 (F54 n z13 s8 z9 z10 l11) fun b14 s15 z16 z17 l18 => (if b14 = true then some (z7, s15, z16, z17, l18) else letF (IntKind.wrap .i64 (z7 + 1)) fun z19 => L73_1 n l1 z6 z19 s15 z16 z17 l18) else some ((-1 : Int), s8, z9, z10, l11))
def F73 (n : Nat) (l1 : List D) (s2 : ByteArray) (z3 : Int) (z4 : Int) (l5 : List D) : Option (Int × ByteArray × Int × Int × List D) :=
  lenF l1 fun z6 => L73_1 n l1 z6 (0 : Int) s2 z3 z4 l5
set_option maxRecDepth 100000 in
set_option maxHeartbeats 40000000 in
theorem T73 (n : Nat) : ∀ ⦃l1 : List D⦄ ⦃s2 : ByteArray⦄ ⦃z3 : Int⦄ ⦃z4 : Int⦄ ⦃l5 : List D⦄ ⦃r1 : Int⦄ ⦃r2 : ByteArray⦄ ⦃r3 : Int⦄ ⦃r4 : Int⦄ ⦃r5 : List D⦄, F73 n l1 s2 z3 z4 l5 = some (r1, r2, r3, r4, r5) →
    Trip Tryd.prog inv 73 [.d (.list false 1 l1), .c (.fn 54 [.ext 0])] [.cells [.d (.str s2), .d (.int .i64 z3), .d (.int .i64 z4), .d (.list true 9 l5)]] (.v (.d (.int .i64 r1))) [.cells [.d (.str r2), .d (.int .i64 r3), .d (.int .i64 r4), .d (.list true 9 r5)]] [] := by
  intro l1 s2 z3 z4 l5 r1 r2 r3 r4 r5 h
  unfold F73 at h
  refine Trip.of tab_ok tab_one fol Tryd.func73 rfl (by kernel_rfl) rfl rfl rfl (fun M hM hI => ?_)
  try cbv
  replace h := lenF_inv M h
  obtain ⟨z6, hz, h⟩ := h
  refine ⟨z6, hz, ?_⟩
  clear hz
  try cbv
  refine loop_inv (T := Nat × Int × ByteArray × Int × Int × List D) [0, 1, 4, 7, 8] [.ext 0] 128 (fun t => ⟨[(0, .v (.d (.list false 1 l1))), (1, .v (.c (.fn 54 [.ext 0]))), (4, .v (.d (.int .i64 0))), (7, .v (.d (.int .i64 z6))), (8, .v (.d (.int .i64 t.2.1)))], [(.ext 0, .cells [.d (.str t.2.2.1), .d (.int .i64 t.2.2.2.1), .d (.int .i64 t.2.2.2.2.1), .d (.list true 9 t.2.2.2.2.2)])], 128⟩)
    (fun t => t.1 ≤ n ∧ L73_1 t.1 l1 z6 t.2.1 t.2.2.1 t.2.2.2.1 t.2.2.2.2.1 t.2.2.2.2.2 = some (r1, r2, r3, r4, r5)) (fun t => t.1) (n, ((0 : Int), s2, z3, z4, l5)) ⟨Nat.le_refl _, h⟩ (by cbv) ?_
  clear h
  rintro ⟨m1, z7, s8, z9, z10, l11⟩ ⟨hm1, h⟩
  replace hm1 : m1 ≤ n := hm1
  cases m1 with
  | zero => cases (show (none : Option _) = some _ from h)
  | succ m1 =>
    replace h : L73_1 (m1 + 1) l1 z6 z7 s8 z9 z10 l11 = some (r1, r2, r3, r4, r5) := h
    rw [L73_1] at h
    try cbv
    refine splitL (fun e => ?_) (fun e => ?_)
    · replace h := ite_t e h
      clear e
      try cbv
      replace h := getF_inv h
      obtain ⟨x12, ⟨hx0, hx⟩, h⟩ := h
      refine ⟨x12, hx0, hx, ?_⟩
      clear hx0 hx
      replace h := ds_i64_inv h
      obtain ⟨z13, rfl, h⟩ := h
      try cbv
      replace h := bO5_inv h
      obtain ⟨b14, s15, z16, z17, l18, hr, h⟩ := h
      refine call_go rfl rfl ?_
      try cbv
      refine call_with hM hI [.ext 0] (T54 _ hr) rfl (by simp) ⟨rfl, trivial⟩ ⟨trivial, trivial⟩ (by simp) ?_
      clear hr
      try cbv
      cases b14
      · replace h := ite_f Bool.false_ne_true h
        try cbv
        replace h := letF_inv h
        obtain ⟨z19, hz, h⟩ := h
        refine ⟨z19, hz, ?_⟩
        clear hz
        try cbv
        exact loop_next (m1, (z19, s15, z16, z17, l18)) [0, 1, 4, 7, 8] [.ext 0] 128 ⟨by omega, h⟩ (Nat.lt_succ_of_le (by omega)) (by cbv)
      · replace h := ite_t rfl h
        try cbv
        obtain ⟨rfl, rfl, rfl, rfl, rfl⟩ := inj5 h
        refine fin_go ?_
        try cbv
        exact ⟨[], rfl, rfl, ⟨rfl, trivial⟩, trivial, trivial⟩
    · replace h := ite_f (Int.not_lt.2 e) h
      clear e
      try cbv
      obtain ⟨rfl, rfl, rfl, rfl, rfl⟩ := inj5 h
      refine fin_go ?_
      try cbv
      exact ⟨[], rfl, rfl, ⟨rfl, trivial⟩, trivial, trivial⟩
end Go.Proofs.YtjobleemmjjocaaDoor
end

/- Printed by lift.py: functional texts of functions, and their contracts. No condition. -/
set_option linter.unusedVariables false
noncomputable section
namespace Go.Proofs.YtjobleemmjjocaaDoor
open Go Go.AM
def F57 (n : Nat) (l1 : List D) (s2 : ByteArray) (z3 : Int) (z4 : Int) (l5 : List D) : Option (Bool × ByteArray × Int × Int × List D) :=
  bO5 (F73 n l1 s2 z3 z4 l5) fun z6 s7 z8 z9 l10 => (if (0 : Int) ≤ z6 then some (true, s7, z8, z9, l10) else some (false, s7, z8, z9, l10))
set_option maxRecDepth 100000 in
set_option maxHeartbeats 40000000 in
theorem T57 (n : Nat) : ∀ ⦃l1 : List D⦄ ⦃s2 : ByteArray⦄ ⦃z3 : Int⦄ ⦃z4 : Int⦄ ⦃l5 : List D⦄ ⦃r1 : Bool⦄ ⦃r2 : ByteArray⦄ ⦃r3 : Int⦄ ⦃r4 : Int⦄ ⦃r5 : List D⦄, F57 n l1 s2 z3 z4 l5 = some (r1, r2, r3, r4, r5) →
    Trip Tryd.prog inv 57 [.d (.list false 1 l1), .c (.fn 54 [.ext 0])] [.cells [.d (.str s2), .d (.int .i64 z3), .d (.int .i64 z4), .d (.list true 9 l5)]] (.v (.d (.bool r1))) [.cells [.d (.str r2), .d (.int .i64 r3), .d (.int .i64 r4), .d (.list true 9 r5)]] [] := by
  intro l1 s2 z3 z4 l5 r1 r2 r3 r4 r5 h
  unfold F57 at h
  refine Trip.of tab_ok tab_one fol Tryd.func57 rfl (by kernel_rfl) rfl rfl rfl (fun M hM hI => ?_)
  try cbv
  replace h := bO5_inv h
  obtain ⟨z6, s7, z8, z9, l10, hr, h⟩ := h
  refine call_go rfl rfl ?_
  try cbv
  refine call_with hM hI [.ext 0] (T73 _ hr) rfl (by simp) ⟨rfl, trivial⟩ ⟨trivial, trivial⟩ (by simp) ?_
  clear hr
  try cbv
  refine splitLe (fun e => ?_) (fun e => ?_)
  · replace h := ite_t e h
    clear e
    try cbv
    obtain ⟨rfl, rfl, rfl, rfl, rfl⟩ := inj5 h
    refine fin_go ?_
    try cbv
    exact ⟨[], rfl, rfl, ⟨rfl, trivial⟩, trivial, trivial⟩
  · replace h := ite_f (Int.not_le.2 e) h
    clear e
    try cbv
    obtain ⟨rfl, rfl, rfl, rfl, rfl⟩ := inj5 h
    refine fin_go ?_
    try cbv
    exact ⟨[], rfl, rfl, ⟨rfl, trivial⟩, trivial, trivial⟩
end Go.Proofs.YtjobleemmjjocaaDoor
end

/- Printed by lift.py: functional texts of functions, and their contracts. No condition. -/
set_option linter.unusedVariables false
noncomputable section
namespace Go.Proofs.YtjobleemmjjocaaDoor
open Go Go.AM
def L84_1 : Nat → (List D) → Int → Int → Int → Option (Int)
  | 0, _, _, _, _ => none
  | n + 1, l1, z2, z3, z4 =>
    (if z4 < z3 then getF l1 z4 fun x5 => ds_i64 x5 fun z6 => (if z2 = z6 then some z4 else letF (IntKind.wrap .i64 (z4 + 1)) fun z7 => L84_1 n l1 z2 z3 z7) else some (-1 : Int))
def F84 (n : Nat) (l1 : List D) (z2 : Int) : Option (Int) :=
  lenF l1 fun z3 => L84_1 n l1 z2 z3 (0 : Int)
set_option maxRecDepth 100000 in
set_option maxHeartbeats 40000000 in
theorem T84 (n : Nat) : ∀ ⦃l1 : List D⦄ ⦃z2 : Int⦄ ⦃r1 : Int⦄, F84 n l1 z2 = some r1 →
    Trip Tryd.prog inv 84 [.d (.list false 1 l1), .d (.int .i64 z2)] [] (.v (.d (.int .i64 r1))) [] [] := by
  intro l1 z2 r1 h
  unfold F84 at h
  refine Trip.of tab_ok tab_one fol Tryd.func84 rfl (by kernel_rfl) rfl rfl rfl (fun M hM hI => ?_)
  try cbv
  replace h := lenF_inv M h
  obtain ⟨z3, hz, h⟩ := h
  refine ⟨z3, hz, ?_⟩
  clear hz
  try cbv
  refine loop_inv (T := Nat × Int) [0, 1, 4, 7, 8] [] 128 (fun t => ⟨[(0, .v (.d (.list false 1 l1))), (1, .v (.d (.int .i64 z2))), (4, .v (.d (.int .i64 0))), (7, .v (.d (.int .i64 z3))), (8, .v (.d (.int .i64 t.2)))], [], 128⟩)
    (fun t => t.1 ≤ n ∧ L84_1 t.1 l1 z2 z3 t.2 = some r1) (fun t => t.1) (n, (0 : Int)) ⟨Nat.le_refl _, h⟩ (by cbv) ?_
  clear h
  rintro ⟨m1, z4⟩ ⟨hm1, h⟩
  replace hm1 : m1 ≤ n := hm1
  cases m1 with
  | zero => cases (show (none : Option _) = some _ from h)
  | succ m1 =>
    replace h : L84_1 (m1 + 1) l1 z2 z3 z4 = some r1 := h
    rw [L84_1] at h
    try cbv
    refine splitL (fun e => ?_) (fun e => ?_)
    · replace h := ite_t e h
      clear e
      try cbv
      replace h := getF_inv h
      obtain ⟨x5, ⟨hx0, hx⟩, h⟩ := h
      refine ⟨x5, hx0, hx, ?_⟩
      clear hx0 hx
      replace h := ds_i64_inv h
      obtain ⟨z6, rfl, h⟩ := h
      try cbv
      refine splitI (fun e => ?_) (fun e => ?_)
      · replace h := ite_t e h
        clear e
        try cbv
        obtain rfl := Option.some.inj h
        refine fin_go ?_
        try cbv
        exact ⟨[], rfl, rfl, trivial, trivial, trivial⟩
      · replace h := ite_f e h
        clear e
        try cbv
        replace h := letF_inv h
        obtain ⟨z7, hz, h⟩ := h
        refine ⟨z7, hz, ?_⟩
        clear hz
        try cbv
        exact loop_next (m1, z7) [0, 1, 4, 7, 8] [] 128 ⟨by omega, h⟩ (Nat.lt_succ_of_le (by omega)) (by cbv)
    · replace h := ite_f (Int.not_lt.2 e) h
      clear e
      try cbv
      obtain rfl := Option.some.inj h
      refine fin_go ?_
      try cbv
      exact ⟨[], rfl, rfl, trivial, trivial, trivial⟩
end Go.Proofs.YtjobleemmjjocaaDoor
end

/- Printed by lift.py: functional texts of functions, and their contracts. No condition. -/
set_option linter.unusedVariables false
noncomputable section
namespace Go.Proofs.YtjobleemmjjocaaDoor
open Go Go.AM
def F74 (n : Nat) (l1 : List D) (z2 : Int) : Option (Bool) :=
  bO1 (F84 n l1 z2) fun z3 => (if (0 : Int) ≤ z3 then some true else some false)
set_option maxRecDepth 100000 in
set_option maxHeartbeats 40000000 in
theorem T74 (n : Nat) : ∀ ⦃l1 : List D⦄ ⦃z2 : Int⦄ ⦃r1 : Bool⦄, F74 n l1 z2 = some r1 →
    Trip Tryd.prog inv 74 [.d (.list false 1 l1), .d (.int .i64 z2)] [] (.v (.d (.bool r1))) [] [] := by
  intro l1 z2 r1 h
  unfold F74 at h
  refine Trip.of tab_ok tab_one fol Tryd.func74 rfl (by kernel_rfl) rfl rfl rfl (fun M hM hI => ?_)
  try cbv
  replace h := bO1_inv h
  obtain ⟨z3, hr, h⟩ := h
  refine call_go rfl rfl ?_
  try cbv
  refine call_pure hM hI (T84 _ hr) rfl ?_
  clear hr
  try cbv
  refine splitLe (fun e => ?_) (fun e => ?_)
  · replace h := ite_t e h
    clear e
    try cbv
    obtain rfl := Option.some.inj h
    refine fin_go ?_
    try cbv
    exact ⟨[], rfl, rfl, trivial, trivial, trivial⟩
  · replace h := ite_f (Int.not_le.2 e) h
    clear e
    try cbv
    obtain rfl := Option.some.inj h
    refine fin_go ?_
    try cbv
    exact ⟨[], rfl, rfl, trivial, trivial, trivial⟩
end Go.Proofs.YtjobleemmjjocaaDoor
end

/- Printed by lift.py: functional texts of functions, and their contracts. No condition. -/
set_option linter.unusedVariables false
noncomputable section
namespace Go.Proofs.YtjobleemmjjocaaDoor
open Go Go.AM
def F58 (n : Nat) (l1 : List D) (z2 : Int) (l3 : List D) (s4 : ByteArray) (z5 : Int) (z6 : Int) (l7 : List D) (s8 : ByteArray) (z9 : Int) (z10 : Int) (b11 : Bool) (b12 : Bool) (b13 : Bool) (b14 : Bool) (l15 : List D) (z16 : Int) (z17 : Int) (z18 : Int) (z19 : Int) (l20 : List D) (l21 : List D) (z22 : Int) (s23 : ByteArray) (l24 : List D) (z25 : Int) (z26 : Int) : Option (Bool) :=
  (if z25 = (0 : Int) then (if z26 = (0 : Int) then some true else some false) else (if z25 = (1 : Int) then (if (0 : Int) ≤ z26 then (if z26 < z6 then some true else some false) else some false) else (if z25 = (2 : Int) then (if (0 : Int) ≤ z26 then lenF l7 fun z27 => (if z26 ≤ z27 then some true else some false) else some false) else (if z25 = (3 : Int) then (if (0 : Int) ≤ z26 then lenF l1 fun z28 => (if z26 < z28 then some true else some false) else some false) else (if z25 = (4 : Int) then bO1 (F74 n l15 z26) fun b29 => some b29 else (if z25 = (5 : Int) then (if (0 : Int) ≤ z17 then lenF l1 fun z30 => (if z17 < z30 then getF l1 z17 fun x31 => ds_t56 x31 fun s32 z33 z34 l35 => (if z26 = z33 then some true else some false) else some false) else some false) else (if z25 = (6 : Int) then (if z26 = (0 : Int) then some true else (if z26 = (1 : Int) then some true else some false)) else (if (0 : Int) ≤ z26 then (if z26 < (6 : Int) then some true else (if z26 = (6 : Int) then (if z16 = (12 : Int) then some false else some true) else some false)) else some false))))))))
set_option maxRecDepth 100000 in
set_option maxHeartbeats 40000000 in
theorem T58 (n : Nat) : ∀ ⦃l1 : List D⦄ ⦃z2 : Int⦄ ⦃l3 : List D⦄ ⦃s4 : ByteArray⦄ ⦃z5 : Int⦄ ⦃z6 : Int⦄ ⦃l7 : List D⦄ ⦃s8 : ByteArray⦄ ⦃z9 : Int⦄ ⦃z10 : Int⦄ ⦃b11 : Bool⦄ ⦃b12 : Bool⦄ ⦃b13 : Bool⦄ ⦃b14 : Bool⦄ ⦃l15 : List D⦄ ⦃z16 : Int⦄ ⦃z17 : Int⦄ ⦃z18 : Int⦄ ⦃z19 : Int⦄ ⦃l20 : List D⦄ ⦃l21 : List D⦄ ⦃z22 : Int⦄ ⦃s23 : ByteArray⦄ ⦃l24 : List D⦄ ⦃z25 : Int⦄ ⦃z26 : Int⦄ ⦃r1 : Bool⦄, F58 n l1 z2 l3 s4 z5 z6 l7 s8 z9 z10 b11 b12 b13 b14 l15 z16 z17 z18 z19 l20 l21 z22 s23 l24 z25 z26 = some r1 →
    Trip Tryd.prog inv 58 [.d (.agg [.list true 4 l1, .int .i64 z2, .list true 16 l3]), .d (.agg [.str s4, .int .i64 z5, .int .i64 z6, .list true 9 l7]), .d (.agg [.str s8, .int .i64 z9, .int .i64 z10, .bool b11, .bool b12, .bool b13, .bool b14, .list false 1 l15]), .d (.agg [.int .u8 z16, .int .i64 z17, .int .i64 z18, .int .i64 z19, .list false 1 l20, .list false 1 l21, .int .i64 z22, .str s23, .list false 1 l24]), .d (.int .i64 z25), .d (.int .i64 z26)] [] (.v (.d (.bool r1))) [] [] := by
  intro l1 z2 l3 s4 z5 z6 l7 s8 z9 z10 b11 b12 b13 b14 l15 z16 z17 z18 z19 l20 l21 z22 s23 l24 z25 z26 r1 h
  unfold F58 at h
  refine Trip.of tab_ok tab_one fol Tryd.func58 rfl (by kernel_rfl) rfl rfl rfl (fun M hM hI => ?_)
  try cbv
  refine splitI (fun e => ?_) (fun e => ?_)
  · replace h := ite_t e h
    clear e
    try cbv
    refine splitI (fun e => ?_) (fun e => ?_)
    · replace h := ite_t e h
      clear e
      try cbv
      obtain rfl := Option.some.inj h
      refine fin_go ?_
      try cbv
      exact ⟨[], rfl, rfl, trivial, trivial, trivial⟩
    · replace h := ite_f e h
      clear e
      try cbv
      obtain rfl := Option.some.inj h
      refine fin_go ?_
      try cbv
      exact ⟨[], rfl, rfl, trivial, trivial, trivial⟩
  · replace h := ite_f e h
    clear e
    try cbv
    refine splitI (fun e => ?_) (fun e => ?_)
    · replace h := ite_t e h
      clear e
      try cbv
      refine splitLe (fun e => ?_) (fun e => ?_)
      · replace h := ite_t e h
        clear e
        try cbv
        refine splitL (fun e => ?_) (fun e => ?_)
        · replace h := ite_t e h
          clear e
          try cbv
          obtain rfl := Option.some.inj h
          refine fin_go ?_
          try cbv
          exact ⟨[], rfl, rfl, trivial, trivial, trivial⟩
        · replace h := ite_f (Int.not_lt.2 e) h
          clear e
          try cbv
          obtain rfl := Option.some.inj h
          refine fin_go ?_
          try cbv
          exact ⟨[], rfl, rfl, trivial, trivial, trivial⟩
      · replace h := ite_f (Int.not_le.2 e) h
        clear e
        try cbv
        obtain rfl := Option.some.inj h
        refine fin_go ?_
        try cbv
        exact ⟨[], rfl, rfl, trivial, trivial, trivial⟩
    · replace h := ite_f e h
      clear e
      try cbv
      refine splitI (fun e => ?_) (fun e => ?_)
      · replace h := ite_t e h
        clear e
        try cbv
        refine splitLe (fun e => ?_) (fun e => ?_)
        · replace h := ite_t e h
          clear e
          try cbv
          replace h := lenF_inv M h
          obtain ⟨z27, hz, h⟩ := h
          refine ⟨z27, hz, ?_⟩
          clear hz
          try cbv
          refine splitLe (fun e => ?_) (fun e => ?_)
          · replace h := ite_t e h
            clear e
            try cbv
            obtain rfl := Option.some.inj h
            refine fin_go ?_
            try cbv
            exact ⟨[], rfl, rfl, trivial, trivial, trivial⟩
          · replace h := ite_f (Int.not_le.2 e) h
            clear e
            try cbv
            obtain rfl := Option.some.inj h
            refine fin_go ?_
            try cbv
            exact ⟨[], rfl, rfl, trivial, trivial, trivial⟩
        · replace h := ite_f (Int.not_le.2 e) h
          clear e
          try cbv
          obtain rfl := Option.some.inj h
          refine fin_go ?_
          try cbv
          exact ⟨[], rfl, rfl, trivial, trivial, trivial⟩
      · replace h := ite_f e h
        clear e
        try cbv
        refine splitI (fun e => ?_) (fun e => ?_)
        · replace h := ite_t e h
          clear e
          try cbv
          refine splitLe (fun e => ?_) (fun e => ?_)
          · replace h := ite_t e h
            clear e
            try cbv
            replace h := lenF_inv M h
            obtain ⟨z28, hz, h⟩ := h
            refine ⟨z28, hz, ?_⟩
            clear hz
            try cbv
            refine splitL (fun e => ?_) (fun e => ?_)
            · replace h := ite_t e h
              clear e
              try cbv
              obtain rfl := Option.some.inj h
              refine fin_go ?_
              try cbv
              exact ⟨[], rfl, rfl, trivial, trivial, trivial⟩
            · replace h := ite_f (Int.not_lt.2 e) h
              clear e
              try cbv
              obtain rfl := Option.some.inj h
              refine fin_go ?_
              try cbv
              exact ⟨[], rfl, rfl, trivial, trivial, trivial⟩
          · replace h := ite_f (Int.not_le.2 e) h
            clear e
            try cbv
            obtain rfl := Option.some.inj h
            refine fin_go ?_
            try cbv
            exact ⟨[], rfl, rfl, trivial, trivial, trivial⟩
        · replace h := ite_f e h
          clear e
          try cbv
          refine splitI (fun e => ?_) (fun e => ?_)
          · replace h := ite_t e h
            clear e
            try cbv
            replace h := bO1_inv h
            obtain ⟨b29, hr, h⟩ := h
            refine call_go rfl rfl ?_
            try cbv
            refine call_pure hM hI (T74 _ hr) rfl ?_
            clear hr
            try cbv
            obtain rfl := Option.some.inj h
            refine fin_go ?_
            try cbv
            exact ⟨[], rfl, rfl, trivial, trivial, trivial⟩
          · replace h := ite_f e h
            clear e
            try cbv
            refine splitI (fun e => ?_) (fun e => ?_)
            · replace h := ite_t e h
              clear e
              try cbv
              refine splitLe (fun e => ?_) (fun e => ?_)
              · replace h := ite_t e h
                clear e
                try cbv
                replace h := lenF_inv M h
                obtain ⟨z30, hz, h⟩ := h
                refine ⟨z30, hz, ?_⟩
                clear hz
                try cbv
                refine splitL (fun e => ?_) (fun e => ?_)
                · replace h := ite_t e h
                  clear e
                  try cbv
                  replace h := getF_inv h
                  obtain ⟨x31, ⟨hx0, hx⟩, h⟩ := h
                  refine ⟨x31, hx0, hx, ?_⟩
                  clear hx0 hx
                  replace h := ds_t56_inv h
                  obtain ⟨s32, z33, z34, l35, rfl, h⟩ := h
                  try cbv
                  refine splitI (fun e => ?_) (fun e => ?_)
                  · replace h := ite_t e h
                    clear e
                    try cbv
                    obtain rfl := Option.some.inj h
                    refine fin_go ?_
                    try cbv
                    exact ⟨[], rfl, rfl, trivial, trivial, trivial⟩
                  · replace h := ite_f e h
                    clear e
                    try cbv
                    obtain rfl := Option.some.inj h
                    refine fin_go ?_
                    try cbv
                    exact ⟨[], rfl, rfl, trivial, trivial, trivial⟩
                · replace h := ite_f (Int.not_lt.2 e) h
                  clear e
                  try cbv
                  obtain rfl := Option.some.inj h
                  refine fin_go ?_
                  try cbv
                  exact ⟨[], rfl, rfl, trivial, trivial, trivial⟩
              · replace h := ite_f (Int.not_le.2 e) h
                clear e
                try cbv
                obtain rfl := Option.some.inj h
                refine fin_go ?_
                try cbv
                exact ⟨[], rfl, rfl, trivial, trivial, trivial⟩
            · replace h := ite_f e h
              clear e
              try cbv
              refine splitI (fun e => ?_) (fun e => ?_)
              · replace h := ite_t e h
                clear e
                try cbv
                refine splitI (fun e => ?_) (fun e => ?_)
                · replace h := ite_t e h
                  clear e
                  try cbv
                  obtain rfl := Option.some.inj h
                  refine fin_go ?_
                  try cbv
                  exact ⟨[], rfl, rfl, trivial, trivial, trivial⟩
                · replace h := ite_f e h
                  clear e
                  try cbv
                  refine splitI (fun e => ?_) (fun e => ?_)
                  · replace h := ite_t e h
                    clear e
                    try cbv
                    obtain rfl := Option.some.inj h
                    refine fin_go ?_
                    try cbv
                    exact ⟨[], rfl, rfl, trivial, trivial, trivial⟩
                  · replace h := ite_f e h
                    clear e
                    try cbv
                    obtain rfl := Option.some.inj h
                    refine fin_go ?_
                    try cbv
                    exact ⟨[], rfl, rfl, trivial, trivial, trivial⟩
              · replace h := ite_f e h
                clear e
                try cbv
                refine splitLe (fun e => ?_) (fun e => ?_)
                · replace h := ite_t e h
                  clear e
                  try cbv
                  refine splitL (fun e => ?_) (fun e => ?_)
                  · replace h := ite_t e h
                    clear e
                    try cbv
                    obtain rfl := Option.some.inj h
                    refine fin_go ?_
                    try cbv
                    exact ⟨[], rfl, rfl, trivial, trivial, trivial⟩
                  · replace h := ite_f (Int.not_lt.2 e) h
                    clear e
                    try cbv
                    refine splitI (fun e => ?_) (fun e => ?_)
                    · replace h := ite_t e h
                      clear e
                      try cbv
                      refine splitI (fun e => ?_) (fun e => ?_)
                      · replace h := ite_t e h
                        clear e
                        try cbv
                        obtain rfl := Option.some.inj h
                        refine fin_go ?_
                        try cbv
                        exact ⟨[], rfl, rfl, trivial, trivial, trivial⟩
                      · replace h := ite_f e h
                        clear e
                        try cbv
                        obtain rfl := Option.some.inj h
                        refine fin_go ?_
                        try cbv
                        exact ⟨[], rfl, rfl, trivial, trivial, trivial⟩
                    · replace h := ite_f e h
                      clear e
                      try cbv
                      obtain rfl := Option.some.inj h
                      refine fin_go ?_
                      try cbv
                      exact ⟨[], rfl, rfl, trivial, trivial, trivial⟩
                · replace h := ite_f (Int.not_le.2 e) h
                  clear e
                  try cbv
                  obtain rfl := Option.some.inj h
                  refine fin_go ?_
                  try cbv
                  exact ⟨[], rfl, rfl, trivial, trivial, trivial⟩
end Go.Proofs.YtjobleemmjjocaaDoor
end

/- Printed by lift.py: functional texts of functions, and their contracts. No condition. -/
set_option linter.unusedVariables false
noncomputable section
namespace Go.Proofs.YtjobleemmjjocaaDoor
open Go Go.AM
def F33 (n : Nat) (l1 : List D) (z2 : Int) (l3 : List D) (z4 : Int) (z5 : Int) (z6 : Int) (z7 : Int) (z8 : Int) (l9 : List D) (l10 : List D) (z11 : Int) (s12 : ByteArray) (l13 : List D) : Option (Int) :=
  bO9 (F51 n z5) fun s14 z15 z16 b17 b18 b19 b20 l21 b22 => (if b22 = true then (if z4 < (0 : Int) then some (170 : Int) else lenF l1 fun z23 => (if z23 ≤ z4 then some (170 : Int) else getF l1 z4 fun x24 => ds_t56 x24 fun s25 z26 z27 l28 => (if z8 = (0 : Int) then lenF l13 fun z29 => (if (0 : Int) < z29 then some (170 : Int) else bO1 (F55 n s14 z15 z16 b17 b18 b19 b20 l21 z5 z6 z7 z8 l9 l10 z11 s12 l13) fun b30 => (if b30 = true then (if s12 = ByteArray.empty then (if b20 = true then some (170 : Int) else lenF l10 fun z31 => (if (0 : Int) < z31 then (if b17 = true then lenF l10 fun z32 => (if (40 : Int) < z32 then some (170 : Int) else bO1 (F56 n l10) fun b33 => (if b33 = true then some (170 : Int) else lenF l9 fun z34 => (if (0 : Int) < z34 then (if b18 = true then lenF l9 fun z35 => (if (6 : Int) < z35 then some (170 : Int) else bO5 (F57 n l9 s25 z26 z27 l28) fun b36 s37 z38 z39 l40 => (if b36 = true then some (170 : Int) else bO1 (F58 n l1 z2 l3 s37 z38 z39 l40 s14 z15 z16 b17 b18 b19 b20 l21 z5 z6 z7 z8 l9 l10 z11 s12 l13 z15 z6) fun b41 => (if b41 = true then bO1 (F58 n l1 z2 l3 s37 z38 z39 l40 s14 z15 z16 b17 b18 b19 b20 l21 z5 z6 z7 z8 l9 l10 z11 s12 l13 z16 z7) fun b42 => (if b42 = true then some (0 : Int) else some (170 : Int)) else some (170 : Int)))) else some (170 : Int)) else lenF l9 fun z43 => (if (6 : Int) < z43 then some (170 : Int) else bO5 (F57 n l9 s25 z26 z27 l28) fun b44 s45 z46 z47 l48 => (if b44 = true then some (170 : Int) else bO1 (F58 n l1 z2 l3 s45 z46 z47 l48 s14 z15 z16 b17 b18 b19 b20 l21 z5 z6 z7 z8 l9 l10 z11 s12 l13 z15 z6) fun b49 => (if b49 = true then bO1 (F58 n l1 z2 l3 s45 z46 z47 l48 s14 z15 z16 b17 b18 b19 b20 l21 z5 z6 z7 z8 l9 l10 z11 s12 l13 z16 z7) fun b50 => (if b50 = true then some (0 : Int) else some (170 : Int)) else some (170 : Int))))))) else some (170 : Int)) else lenF l10 fun z51 => (if (40 : Int) < z51 then some (170 : Int) else bO1 (F56 n l10) fun b52 => (if b52 = true then some (170 : Int) else lenF l9 fun z53 => (if (0 : Int) < z53 then (if b18 = true then lenF l9 fun z54 => (if (6 : Int) < z54 then some (170 : Int) else bO5 (F57 n l9 s25 z26 z27 l28) fun b55 s56 z57 z58 l59 => (if b55 = true then some (170 : Int) else bO1 (F58 n l1 z2 l3 s56 z57 z58 l59 s14 z15 z16 b17 b18 b19 b20 l21 z5 z6 z7 z8 l9 l10 z11 s12 l13 z15 z6) fun b60 => (if b60 = true then bO1 (F58 n l1 z2 l3 s56 z57 z58 l59 s14 z15 z16 b17 b18 b19 b20 l21 z5 z6 z7 z8 l9 l10 z11 s12 l13 z16 z7) fun b61 => (if b61 = true then some (0 : Int) else some (170 : Int)) else some (170 : Int)))) else some (170 : Int)) else lenF l9 fun z62 => (if (6 : Int) < z62 then some (170 : Int) else bO5 (F57 n l9 s25 z26 z27 l28) fun b63 s64 z65 z66 l67 => (if b63 = true then some (170 : Int) else bO1 (F58 n l1 z2 l3 s64 z65 z66 l67 s14 z15 z16 b17 b18 b19 b20 l21 z5 z6 z7 z8 l9 l10 z11 s12 l13 z15 z6) fun b68 => (if b68 = true then bO1 (F58 n l1 z2 l3 s64 z65 z66 l67 s14 z15 z16 b17 b18 b19 b20 l21 z5 z6 z7 z8 l9 l10 z11 s12 l13 z16 z7) fun b69 => (if b69 = true then some (0 : Int) else some (170 : Int)) else some (170 : Int))))))))) else (if b20 = true then bO1 (F53 n s12) fun b70 => (if b70 = true then lenF l10 fun z71 => (if (0 : Int) < z71 then (if b17 = true then lenF l10 fun z72 => (if (40 : Int) < z72 then some (170 : Int) else bO1 (F56 n l10) fun b73 => (if b73 = true then some (170 : Int) else lenF l9 fun z74 => (if (0 : Int) < z74 then (if b18 = true then lenF l9 fun z75 => (if (6 : Int) < z75 then some (170 : Int) else bO5 (F57 n l9 s25 z26 z27 l28) fun b76 s77 z78 z79 l80 => (if b76 = true then some (170 : Int) else bO1 (F58 n l1 z2 l3 s77 z78 z79 l80 s14 z15 z16 b17 b18 b19 b20 l21 z5 z6 z7 z8 l9 l10 z11 s12 l13 z15 z6) fun b81 => (if b81 = true then bO1 (F58 n l1 z2 l3 s77 z78 z79 l80 s14 z15 z16 b17 b18 b19 b20 l21 z5 z6 z7 z8 l9 l10 z11 s12 l13 z16 z7) fun b82 => (if b82 = true then some (0 : Int) else some (170 : Int)) else some (170 : Int)))) else some (170 : Int)) else lenF l9 fun z83 => (if (6 : Int) < z83 then some (170 : Int) else bO5 (F57 n l9 s25 z26 z27 l28) fun b84 s85 z86 z87 l88 => (if b84 = true then some (170 : Int) else bO1 (F58 n l1 z2 l3 s85 z86 z87 l88 s14 z15 z16 b17 b18 b19 b20 l21 z5 z6 z7 z8 l9 l10 z11 s12 l13 z15 z6) fun b89 => (if b89 = true then bO1 (F58 n l1 z2 l3 s85 z86 z87 l88 s14 z15 z16 b17 b18 b19 b20 l21 z5 z6 z7 z8 l9 l10 z11 s12 l13 z16 z7) fun b90 => (if b90 = true then some (0 : Int) else some (170 : Int)) else some (170 : Int))))))) else some (170 : Int)) else lenF l10 fun z91 => (if (40 : Int) < z91 then some (170 : Int) else bO1 (F56 n l10) fun b92 => (if b92 = true then some (170 : Int) else lenF l9 fun z93 => (if (0 : Int) < z93 then (if b18 = true then lenF l9 fun z94 => (if (6 : Int) < z94 then some (170 : Int) else bO5 (F57 n l9 s25 z26 z27 l28) fun b95 s96 z97 z98 l99 => (if b95 = true then some (170 : Int) else bO1 (F58 n l1 z2 l3 s96 z97 z98 l99 s14 z15 z16 b17 b18 b19 b20 l21 z5 z6 z7 z8 l9 l10 z11 s12 l13 z15 z6) fun b100 => (if b100 = true then bO1 (F58 n l1 z2 l3 s96 z97 z98 l99 s14 z15 z16 b17 b18 b19 b20 l21 z5 z6 z7 z8 l9 l10 z11 s12 l13 z16 z7) fun b101 => (if b101 = true then some (0 : Int) else some (170 : Int)) else some (170 : Int)))) else some (170 : Int)) else lenF l9 fun z102 => (if (6 : Int) < z102 then some (170 : Int) else bO5 (F57 n l9 s25 z26 z27 l28) fun b103 s104 z105 z106 l107 => (if b103 = true then some (170 : Int) else bO1 (F58 n l1 z2 l3 s104 z105 z106 l107 s14 z15 z16 b17 b18 b19 b20 l21 z5 z6 z7 z8 l9 l10 z11 s12 l13 z15 z6) fun b108 => (if b108 = true then bO1 (F58 n l1 z2 l3 s104 z105 z106 l107 s14 z15 z16 b17 b18 b19 b20 l21 z5 z6 z7 z8 l9 l10 z11 s12 l13 z16 z7) fun b109 => (if b109 = true then some (0 : Int) else some (170 : Int)) else some (170 : Int)))))))) else some (170 : Int)) else some (170 : Int))) else some (170 : Int))) else some (170 : Int)))) else some (170 : Int))
set_option maxRecDepth 100000 in
set_option maxHeartbeats 40000000 in
theorem T33 (n : Nat) : ∀ ⦃l1 : List D⦄ ⦃z2 : Int⦄ ⦃l3 : List D⦄ ⦃z4 : Int⦄ ⦃z5 : Int⦄ ⦃z6 : Int⦄ ⦃z7 : Int⦄ ⦃z8 : Int⦄ ⦃l9 : List D⦄ ⦃l10 : List D⦄ ⦃z11 : Int⦄ ⦃s12 : ByteArray⦄ ⦃l13 : List D⦄ ⦃r1 : Int⦄, F33 n l1 z2 l3 z4 z5 z6 z7 z8 l9 l10 z11 s12 l13 = some r1 →
    Trip Tryd.prog inv 33 [.d (.agg [.list true 4 l1, .int .i64 z2, .list true 16 l3]), .d (.int .i64 z4), .d (.agg [.int .u8 z5, .int .i64 z6, .int .i64 z7, .int .i64 z8, .list false 1 l9, .list false 1 l10, .int .i64 z11, .str s12, .list false 1 l13])] [] (.v (.d (.int .i64 r1))) [] [] := by
  intro l1 z2 l3 z4 z5 z6 z7 z8 l9 l10 z11 s12 l13 r1 h
  unfold F33 at h
  refine Trip.of tab_ok tab_one fol Tryd.func33 rfl (by kernel_rfl) rfl rfl rfl (fun M hM hI => ?_)
  try cbv
  replace h := bO9_inv h
  obtain ⟨s14, z15, z16, b17, b18, b19, b20, l21, b22, hr, h⟩ := h
  refine call_go rfl rfl ?_
  try cbv
  refine call_pure hM hI (T51 _ hr) rfl ?_
  clear hr
  try cbv
  cases b22
  · replace h := ite_f Bool.false_ne_true h
    try cbv
    obtain rfl := Option.some.inj h
    refine fin_go ?_
    try cbv
    exact ⟨[], rfl, rfl, trivial, trivial, trivial⟩
  · replace h := ite_t rfl h
    try cbv
    refine splitL (fun e => ?_) (fun e => ?_)
    · replace h := ite_t e h
      clear e
      try cbv
      obtain rfl := Option.some.inj h
      refine fin_go ?_
      try cbv
      exact ⟨[], rfl, rfl, trivial, trivial, trivial⟩
    · replace h := ite_f (Int.not_lt.2 e) h
      clear e
      try cbv
      replace h := lenF_inv M h
      obtain ⟨z23, hz, h⟩ := h
      refine ⟨z23, hz, ?_⟩
      clear hz
      try cbv
      refine splitLe (fun e => ?_) (fun e => ?_)
      · replace h := ite_t e h
        clear e
        try cbv
        obtain rfl := Option.some.inj h
        refine fin_go ?_
        try cbv
        exact ⟨[], rfl, rfl, trivial, trivial, trivial⟩
      · replace h := ite_f (Int.not_le.2 e) h
        clear e
        try cbv
        replace h := getF_inv h
        obtain ⟨x24, ⟨hx0, hx⟩, h⟩ := h
        refine ⟨x24, hx0, hx, ?_⟩
        clear hx0 hx
        replace h := ds_t56_inv h
        obtain ⟨s25, z26, z27, l28, rfl, h⟩ := h
        try cbv
        refine splitI (fun e => ?_) (fun e => ?_)
        · replace h := ite_t e h
          clear e
          try cbv
          replace h := lenF_inv M h
          obtain ⟨z29, hz, h⟩ := h
          refine ⟨z29, hz, ?_⟩
          clear hz
          try cbv
          refine splitL (fun e => ?_) (fun e => ?_)
          · replace h := ite_t e h
            clear e
            try cbv
            obtain rfl := Option.some.inj h
            refine fin_go ?_
            try cbv
            exact ⟨[], rfl, rfl, trivial, trivial, trivial⟩
          · replace h := ite_f (Int.not_lt.2 e) h
            clear e
            try cbv
            replace h := bO1_inv h
            obtain ⟨b30, hr, h⟩ := h
            refine call_go rfl rfl ?_
            try cbv
            refine call_pure hM hI (T55 _ hr) rfl ?_
            clear hr
            try cbv
            cases b30
            · replace h := ite_f Bool.false_ne_true h
              try cbv
              obtain rfl := Option.some.inj h
              refine fin_go ?_
              try cbv
              exact ⟨[], rfl, rfl, trivial, trivial, trivial⟩
            · replace h := ite_t rfl h
              try cbv
              refine splitS (fun e => ?_) (fun e => ?_)
              · replace h := ite_t (bytes_eq.1 e) h
                clear e
                try cbv
                cases b20
                · replace h := ite_f Bool.false_ne_true h
                  try cbv
                  replace h := lenF_inv M h
                  obtain ⟨z31, hz, h⟩ := h
                  refine ⟨z31, hz, ?_⟩
                  clear hz
                  try cbv
                  refine splitL (fun e => ?_) (fun e => ?_)
                  · replace h := ite_t e h
                    clear e
                    try cbv
                    cases b17
                    · replace h := ite_f Bool.false_ne_true h
                      try cbv
                      obtain rfl := Option.some.inj h
                      refine fin_go ?_
                      try cbv
                      exact ⟨[], rfl, rfl, trivial, trivial, trivial⟩
                    · replace h := ite_t rfl h
                      try cbv
                      replace h := lenF_inv M h
                      obtain ⟨z32, hz, h⟩ := h
                      refine ⟨z32, hz, ?_⟩
                      clear hz
                      try cbv
                      refine splitL (fun e => ?_) (fun e => ?_)
                      · replace h := ite_t e h
                        clear e
                        try cbv
                        obtain rfl := Option.some.inj h
                        refine fin_go ?_
                        try cbv
                        exact ⟨[], rfl, rfl, trivial, trivial, trivial⟩
                      · replace h := ite_f (Int.not_lt.2 e) h
                        clear e
                        try cbv
                        replace h := bO1_inv h
                        obtain ⟨b33, hr, h⟩ := h
                        refine call_go rfl rfl ?_
                        try cbv
                        refine call_pure hM hI (T56 _ hr) rfl ?_
                        clear hr
                        try cbv
                        cases b33
                        · replace h := ite_f Bool.false_ne_true h
                          try cbv
                          replace h := lenF_inv M h
                          obtain ⟨z34, hz, h⟩ := h
                          refine ⟨z34, hz, ?_⟩
                          clear hz
                          try cbv
                          refine splitL (fun e => ?_) (fun e => ?_)
                          · replace h := ite_t e h
                            clear e
                            try cbv
                            cases b18
                            · replace h := ite_f Bool.false_ne_true h
                              try cbv
                              obtain rfl := Option.some.inj h
                              refine fin_go ?_
                              try cbv
                              exact ⟨[], rfl, rfl, trivial, trivial, trivial⟩
                            · replace h := ite_t rfl h
                              try cbv
                              replace h := lenF_inv M h
                              obtain ⟨z35, hz, h⟩ := h
                              refine ⟨z35, hz, ?_⟩
                              clear hz
                              try cbv
                              refine splitL (fun e => ?_) (fun e => ?_)
                              · replace h := ite_t e h
                                clear e
                                try cbv
                                obtain rfl := Option.some.inj h
                                refine fin_go ?_
                                try cbv
                                exact ⟨[], rfl, rfl, trivial, trivial, trivial⟩
                              · replace h := ite_f (Int.not_lt.2 e) h
                                clear e
                                try cbv
                                replace h := bO5_inv h
                                obtain ⟨b36, s37, z38, z39, l40, hr, h⟩ := h
                                refine call_go rfl rfl ?_
                                try cbv
                                refine call_with hM hI [.loc 960] (T57 _ hr) rfl (by simp) ⟨rfl, trivial⟩ ⟨trivial, trivial⟩ (by simp) ?_
                                clear hr
                                try cbv
                                cases b36
                                · replace h := ite_f Bool.false_ne_true h
                                  try cbv
                                  replace h := bO1_inv h
                                  obtain ⟨b41, hr, h⟩ := h
                                  refine call_go rfl rfl ?_
                                  try cbv
                                  refine call_pure hM hI (T58 _ hr) rfl ?_
                                  clear hr
                                  try cbv
                                  cases b41
                                  · replace h := ite_f Bool.false_ne_true h
                                    try cbv
                                    obtain rfl := Option.some.inj h
                                    refine fin_go ?_
                                    try cbv
                                    exact ⟨[], rfl, rfl, trivial, trivial, trivial⟩
                                  · replace h := ite_t rfl h
                                    try cbv
                                    replace h := bO1_inv h
                                    obtain ⟨b42, hr, h⟩ := h
                                    refine call_go rfl rfl ?_
                                    try cbv
                                    refine call_pure hM hI (T58 _ hr) rfl ?_
                                    clear hr
                                    try cbv
                                    cases b42
                                    · replace h := ite_f Bool.false_ne_true h
                                      try cbv
                                      obtain rfl := Option.some.inj h
                                      refine fin_go ?_
                                      try cbv
                                      exact ⟨[], rfl, rfl, trivial, trivial, trivial⟩
                                    · replace h := ite_t rfl h
                                      try cbv
                                      obtain rfl := Option.some.inj h
                                      refine fin_go ?_
                                      try cbv
                                      exact ⟨[], rfl, rfl, trivial, trivial, trivial⟩
                                · replace h := ite_t rfl h
                                  try cbv
                                  obtain rfl := Option.some.inj h
                                  refine fin_go ?_
                                  try cbv
                                  exact ⟨[], rfl, rfl, trivial, trivial, trivial⟩
                          · replace h := ite_f (Int.not_lt.2 e) h
                            clear e
                            try cbv
                            replace h := lenF_inv M h
                            obtain ⟨z43, hz, h⟩ := h
                            refine ⟨z43, hz, ?_⟩
                            clear hz
                            try cbv
                            refine splitL (fun e => ?_) (fun e => ?_)
                            · replace h := ite_t e h
                              clear e
                              try cbv
                              obtain rfl := Option.some.inj h
                              refine fin_go ?_
                              try cbv
                              exact ⟨[], rfl, rfl, trivial, trivial, trivial⟩
                            · replace h := ite_f (Int.not_lt.2 e) h
                              clear e
                              try cbv
                              replace h := bO5_inv h
                              obtain ⟨b44, s45, z46, z47, l48, hr, h⟩ := h
                              refine call_go rfl rfl ?_
                              try cbv
                              refine call_with hM hI [.loc 960] (T57 _ hr) rfl (by simp) ⟨rfl, trivial⟩ ⟨trivial, trivial⟩ (by simp) ?_
                              clear hr
                              try cbv
                              cases b44
                              · replace h := ite_f Bool.false_ne_true h
                                try cbv
                                replace h := bO1_inv h
                                obtain ⟨b49, hr, h⟩ := h
                                refine call_go rfl rfl ?_
                                try cbv
                                refine call_pure hM hI (T58 _ hr) rfl ?_
                                clear hr
                                try cbv
                                cases b49
                                · replace h := ite_f Bool.false_ne_true h
                                  try cbv
                                  obtain rfl := Option.some.inj h
                                  refine fin_go ?_
                                  try cbv
                                  exact ⟨[], rfl, rfl, trivial, trivial, trivial⟩
                                · replace h := ite_t rfl h
                                  try cbv
                                  replace h := bO1_inv h
                                  obtain ⟨b50, hr, h⟩ := h
                                  refine call_go rfl rfl ?_
                                  try cbv
                                  refine call_pure hM hI (T58 _ hr) rfl ?_
                                  clear hr
                                  try cbv
                                  cases b50
                                  · replace h := ite_f Bool.false_ne_true h
                                    try cbv
                                    obtain rfl := Option.some.inj h
                                    refine fin_go ?_
                                    try cbv
                                    exact ⟨[], rfl, rfl, trivial, trivial, trivial⟩
                                  · replace h := ite_t rfl h
                                    try cbv
                                    obtain rfl := Option.some.inj h
                                    refine fin_go ?_
                                    try cbv
                                    exact ⟨[], rfl, rfl, trivial, trivial, trivial⟩
                              · replace h := ite_t rfl h
                                try cbv
                                obtain rfl := Option.some.inj h
                                refine fin_go ?_
                                try cbv
                                exact ⟨[], rfl, rfl, trivial, trivial, trivial⟩
                        · replace h := ite_t rfl h
                          try cbv
                          obtain rfl := Option.some.inj h
                          refine fin_go ?_
                          try cbv
                          exact ⟨[], rfl, rfl, trivial, trivial, trivial⟩
                  · replace h := ite_f (Int.not_lt.2 e) h
                    clear e
                    try cbv
                    replace h := lenF_inv M h
                    obtain ⟨z51, hz, h⟩ := h
                    refine ⟨z51, hz, ?_⟩
                    clear hz
                    try cbv
                    refine splitL (fun e => ?_) (fun e => ?_)
                    · replace h := ite_t e h
                      clear e
                      try cbv
                      obtain rfl := Option.some.inj h
                      refine fin_go ?_
                      try cbv
                      exact ⟨[], rfl, rfl, trivial, trivial, trivial⟩
                    · replace h := ite_f (Int.not_lt.2 e) h
                      clear e
                      try cbv
                      replace h := bO1_inv h
                      obtain ⟨b52, hr, h⟩ := h
                      refine call_go rfl rfl ?_
                      try cbv
                      refine call_pure hM hI (T56 _ hr) rfl ?_
                      clear hr
                      try cbv
                      cases b52
                      · replace h := ite_f Bool.false_ne_true h
                        try cbv
                        replace h := lenF_inv M h
                        obtain ⟨z53, hz, h⟩ := h
                        refine ⟨z53, hz, ?_⟩
                        clear hz
                        try cbv
                        refine splitL (fun e => ?_) (fun e => ?_)
                        · replace h := ite_t e h
                          clear e
                          try cbv
                          cases b18
                          · replace h := ite_f Bool.false_ne_true h
                            try cbv
                            obtain rfl := Option.some.inj h
                            refine fin_go ?_
                            try cbv
                            exact ⟨[], rfl, rfl, trivial, trivial, trivial⟩
                          · replace h := ite_t rfl h
                            try cbv
                            replace h := lenF_inv M h
                            obtain ⟨z54, hz, h⟩ := h
                            refine ⟨z54, hz, ?_⟩
                            clear hz
                            try cbv
                            refine splitL (fun e => ?_) (fun e => ?_)
                            · replace h := ite_t e h
                              clear e
                              try cbv
                              obtain rfl := Option.some.inj h
                              refine fin_go ?_
                              try cbv
                              exact ⟨[], rfl, rfl, trivial, trivial, trivial⟩
                            · replace h := ite_f (Int.not_lt.2 e) h
                              clear e
                              try cbv
                              replace h := bO5_inv h
                              obtain ⟨b55, s56, z57, z58, l59, hr, h⟩ := h
                              refine call_go rfl rfl ?_
                              try cbv
                              refine call_with hM hI [.loc 960] (T57 _ hr) rfl (by simp) ⟨rfl, trivial⟩ ⟨trivial, trivial⟩ (by simp) ?_
                              clear hr
                              try cbv
                              cases b55
                              · replace h := ite_f Bool.false_ne_true h
                                try cbv
                                replace h := bO1_inv h
                                obtain ⟨b60, hr, h⟩ := h
                                refine call_go rfl rfl ?_
                                try cbv
                                refine call_pure hM hI (T58 _ hr) rfl ?_
                                clear hr
                                try cbv
                                cases b60
                                · replace h := ite_f Bool.false_ne_true h
                                  try cbv
                                  obtain rfl := Option.some.inj h
                                  refine fin_go ?_
                                  try cbv
                                  exact ⟨[], rfl, rfl, trivial, trivial, trivial⟩
                                · replace h := ite_t rfl h
                                  try cbv
                                  replace h := bO1_inv h
                                  obtain ⟨b61, hr, h⟩ := h
                                  refine call_go rfl rfl ?_
                                  try cbv
                                  refine call_pure hM hI (T58 _ hr) rfl ?_
                                  clear hr
                                  try cbv
                                  cases b61
                                  · replace h := ite_f Bool.false_ne_true h
                                    try cbv
                                    obtain rfl := Option.some.inj h
                                    refine fin_go ?_
                                    try cbv
                                    exact ⟨[], rfl, rfl, trivial, trivial, trivial⟩
                                  · replace h := ite_t rfl h
                                    try cbv
                                    obtain rfl := Option.some.inj h
                                    refine fin_go ?_
                                    try cbv
                                    exact ⟨[], rfl, rfl, trivial, trivial, trivial⟩
                              · replace h := ite_t rfl h
                                try cbv
                                obtain rfl := Option.some.inj h
                                refine fin_go ?_
                                try cbv
                                exact ⟨[], rfl, rfl, trivial, trivial, trivial⟩
                        · replace h := ite_f (Int.not_lt.2 e) h
                          clear e
                          try cbv
                          replace h := lenF_inv M h
                          obtain ⟨z62, hz, h⟩ := h
                          refine ⟨z62, hz, ?_⟩
                          clear hz
                          try cbv
                          refine splitL (fun e => ?_) (fun e => ?_)
                          · replace h := ite_t e h
                            clear e
                            try cbv
                            obtain rfl := Option.some.inj h
                            refine fin_go ?_
                            try cbv
                            exact ⟨[], rfl, rfl, trivial, trivial, trivial⟩
                          · replace h := ite_f (Int.not_lt.2 e) h
                            clear e
                            try cbv
                            replace h := bO5_inv h
                            obtain ⟨b63, s64, z65, z66, l67, hr, h⟩ := h
                            refine call_go rfl rfl ?_
                            try cbv
                            refine call_with hM hI [.loc 960] (T57 _ hr) rfl (by simp) ⟨rfl, trivial⟩ ⟨trivial, trivial⟩ (by simp) ?_
                            clear hr
                            try cbv
                            cases b63
                            · replace h := ite_f Bool.false_ne_true h
                              try cbv
                              replace h := bO1_inv h
                              obtain ⟨b68, hr, h⟩ := h
                              refine call_go rfl rfl ?_
                              try cbv
                              refine call_pure hM hI (T58 _ hr) rfl ?_
                              clear hr
                              try cbv
                              cases b68
                              · replace h := ite_f Bool.false_ne_true h
                                try cbv
                                obtain rfl := Option.some.inj h
                                refine fin_go ?_
                                try cbv
                                exact ⟨[], rfl, rfl, trivial, trivial, trivial⟩
                              · replace h := ite_t rfl h
                                try cbv
                                replace h := bO1_inv h
                                obtain ⟨b69, hr, h⟩ := h
                                refine call_go rfl rfl ?_
                                try cbv
                                refine call_pure hM hI (T58 _ hr) rfl ?_
                                clear hr
                                try cbv
                                cases b69
                                · replace h := ite_f Bool.false_ne_true h
                                  try cbv
                                  obtain rfl := Option.some.inj h
                                  refine fin_go ?_
                                  try cbv
                                  exact ⟨[], rfl, rfl, trivial, trivial, trivial⟩
                                · replace h := ite_t rfl h
                                  try cbv
                                  obtain rfl := Option.some.inj h
                                  refine fin_go ?_
                                  try cbv
                                  exact ⟨[], rfl, rfl, trivial, trivial, trivial⟩
                            · replace h := ite_t rfl h
                              try cbv
                              obtain rfl := Option.some.inj h
                              refine fin_go ?_
                              try cbv
                              exact ⟨[], rfl, rfl, trivial, trivial, trivial⟩
                      · replace h := ite_t rfl h
                        try cbv
                        obtain rfl := Option.some.inj h
                        refine fin_go ?_
                        try cbv
                        exact ⟨[], rfl, rfl, trivial, trivial, trivial⟩
                · replace h := ite_t rfl h
                  try cbv
                  obtain rfl := Option.some.inj h
                  refine fin_go ?_
                  try cbv
                  exact ⟨[], rfl, rfl, trivial, trivial, trivial⟩
              · replace h := ite_f (bytes_ne.1 e) h
                clear e
                try cbv
                cases b20
                · replace h := ite_f Bool.false_ne_true h
                  try cbv
                  obtain rfl := Option.some.inj h
                  refine fin_go ?_
                  try cbv
                  exact ⟨[], rfl, rfl, trivial, trivial, trivial⟩
                · replace h := ite_t rfl h
                  try cbv
                  replace h := bO1_inv h
                  obtain ⟨b70, hr, h⟩ := h
                  refine call_go rfl rfl ?_
                  try cbv
                  refine call_pure hM hI (T53 _ hr) rfl ?_
                  clear hr
                  try cbv
                  cases b70
                  · replace h := ite_f Bool.false_ne_true h
                    try cbv
                    obtain rfl := Option.some.inj h
                    refine fin_go ?_
                    try cbv
                    exact ⟨[], rfl, rfl, trivial, trivial, trivial⟩
                  · replace h := ite_t rfl h
                    try cbv
                    replace h := lenF_inv M h
                    obtain ⟨z71, hz, h⟩ := h
                    refine ⟨z71, hz, ?_⟩
                    clear hz
                    try cbv
                    refine splitL (fun e => ?_) (fun e => ?_)
                    · replace h := ite_t e h
                      clear e
                      try cbv
                      cases b17
                      · replace h := ite_f Bool.false_ne_true h
                        try cbv
                        obtain rfl := Option.some.inj h
                        refine fin_go ?_
                        try cbv
                        exact ⟨[], rfl, rfl, trivial, trivial, trivial⟩
                      · replace h := ite_t rfl h
                        try cbv
                        replace h := lenF_inv M h
                        obtain ⟨z72, hz, h⟩ := h
                        refine ⟨z72, hz, ?_⟩
                        clear hz
                        try cbv
                        refine splitL (fun e => ?_) (fun e => ?_)
                        · replace h := ite_t e h
                          clear e
                          try cbv
                          obtain rfl := Option.some.inj h
                          refine fin_go ?_
                          try cbv
                          exact ⟨[], rfl, rfl, trivial, trivial, trivial⟩
                        · replace h := ite_f (Int.not_lt.2 e) h
                          clear e
                          try cbv
                          replace h := bO1_inv h
                          obtain ⟨b73, hr, h⟩ := h
                          refine call_go rfl rfl ?_
                          try cbv
                          refine call_pure hM hI (T56 _ hr) rfl ?_
                          clear hr
                          try cbv
                          cases b73
                          · replace h := ite_f Bool.false_ne_true h
                            try cbv
                            replace h := lenF_inv M h
                            obtain ⟨z74, hz, h⟩ := h
                            refine ⟨z74, hz, ?_⟩
                            clear hz
                            try cbv
                            refine splitL (fun e => ?_) (fun e => ?_)
                            · replace h := ite_t e h
                              clear e
                              try cbv
                              cases b18
                              · replace h := ite_f Bool.false_ne_true h
                                try cbv
                                obtain rfl := Option.some.inj h
                                refine fin_go ?_
                                try cbv
                                exact ⟨[], rfl, rfl, trivial, trivial, trivial⟩
                              · replace h := ite_t rfl h
                                try cbv
                                replace h := lenF_inv M h
                                obtain ⟨z75, hz, h⟩ := h
                                refine ⟨z75, hz, ?_⟩
                                clear hz
                                try cbv
                                refine splitL (fun e => ?_) (fun e => ?_)
                                · replace h := ite_t e h
                                  clear e
                                  try cbv
                                  obtain rfl := Option.some.inj h
                                  refine fin_go ?_
                                  try cbv
                                  exact ⟨[], rfl, rfl, trivial, trivial, trivial⟩
                                · replace h := ite_f (Int.not_lt.2 e) h
                                  clear e
                                  try cbv
                                  replace h := bO5_inv h
                                  obtain ⟨b76, s77, z78, z79, l80, hr, h⟩ := h
                                  refine call_go rfl rfl ?_
                                  try cbv
                                  refine call_with hM hI [.loc 960] (T57 _ hr) rfl (by simp) ⟨rfl, trivial⟩ ⟨trivial, trivial⟩ (by simp) ?_
                                  clear hr
                                  try cbv
                                  cases b76
                                  · replace h := ite_f Bool.false_ne_true h
                                    try cbv
                                    replace h := bO1_inv h
                                    obtain ⟨b81, hr, h⟩ := h
                                    refine call_go rfl rfl ?_
                                    try cbv
                                    refine call_pure hM hI (T58 _ hr) rfl ?_
                                    clear hr
                                    try cbv
                                    cases b81
                                    · replace h := ite_f Bool.false_ne_true h
                                      try cbv
                                      obtain rfl := Option.some.inj h
                                      refine fin_go ?_
                                      try cbv
                                      exact ⟨[], rfl, rfl, trivial, trivial, trivial⟩
                                    · replace h := ite_t rfl h
                                      try cbv
                                      replace h := bO1_inv h
                                      obtain ⟨b82, hr, h⟩ := h
                                      refine call_go rfl rfl ?_
                                      try cbv
                                      refine call_pure hM hI (T58 _ hr) rfl ?_
                                      clear hr
                                      try cbv
                                      cases b82
                                      · replace h := ite_f Bool.false_ne_true h
                                        try cbv
                                        obtain rfl := Option.some.inj h
                                        refine fin_go ?_
                                        try cbv
                                        exact ⟨[], rfl, rfl, trivial, trivial, trivial⟩
                                      · replace h := ite_t rfl h
                                        try cbv
                                        obtain rfl := Option.some.inj h
                                        refine fin_go ?_
                                        try cbv
                                        exact ⟨[], rfl, rfl, trivial, trivial, trivial⟩
                                  · replace h := ite_t rfl h
                                    try cbv
                                    obtain rfl := Option.some.inj h
                                    refine fin_go ?_
                                    try cbv
                                    exact ⟨[], rfl, rfl, trivial, trivial, trivial⟩
                            · replace h := ite_f (Int.not_lt.2 e) h
                              clear e
                              try cbv
                              replace h := lenF_inv M h
                              obtain ⟨z83, hz, h⟩ := h
                              refine ⟨z83, hz, ?_⟩
                              clear hz
                              try cbv
                              refine splitL (fun e => ?_) (fun e => ?_)
                              · replace h := ite_t e h
                                clear e
                                try cbv
                                obtain rfl := Option.some.inj h
                                refine fin_go ?_
                                try cbv
                                exact ⟨[], rfl, rfl, trivial, trivial, trivial⟩
                              · replace h := ite_f (Int.not_lt.2 e) h
                                clear e
                                try cbv
                                replace h := bO5_inv h
                                obtain ⟨b84, s85, z86, z87, l88, hr, h⟩ := h
                                refine call_go rfl rfl ?_
                                try cbv
                                refine call_with hM hI [.loc 960] (T57 _ hr) rfl (by simp) ⟨rfl, trivial⟩ ⟨trivial, trivial⟩ (by simp) ?_
                                clear hr
                                try cbv
                                cases b84
                                · replace h := ite_f Bool.false_ne_true h
                                  try cbv
                                  replace h := bO1_inv h
                                  obtain ⟨b89, hr, h⟩ := h
                                  refine call_go rfl rfl ?_
                                  try cbv
                                  refine call_pure hM hI (T58 _ hr) rfl ?_
                                  clear hr
                                  try cbv
                                  cases b89
                                  · replace h := ite_f Bool.false_ne_true h
                                    try cbv
                                    obtain rfl := Option.some.inj h
                                    refine fin_go ?_
                                    try cbv
                                    exact ⟨[], rfl, rfl, trivial, trivial, trivial⟩
                                  · replace h := ite_t rfl h
                                    try cbv
                                    replace h := bO1_inv h
                                    obtain ⟨b90, hr, h⟩ := h
                                    refine call_go rfl rfl ?_
                                    try cbv
                                    refine call_pure hM hI (T58 _ hr) rfl ?_
                                    clear hr
                                    try cbv
                                    cases b90
                                    · replace h := ite_f Bool.false_ne_true h
                                      try cbv
                                      obtain rfl := Option.some.inj h
                                      refine fin_go ?_
                                      try cbv
                                      exact ⟨[], rfl, rfl, trivial, trivial, trivial⟩
                                    · replace h := ite_t rfl h
                                      try cbv
                                      obtain rfl := Option.some.inj h
                                      refine fin_go ?_
                                      try cbv
                                      exact ⟨[], rfl, rfl, trivial, trivial, trivial⟩
                                · replace h := ite_t rfl h
                                  try cbv
                                  obtain rfl := Option.some.inj h
                                  refine fin_go ?_
                                  try cbv
                                  exact ⟨[], rfl, rfl, trivial, trivial, trivial⟩
                          · replace h := ite_t rfl h
                            try cbv
                            obtain rfl := Option.some.inj h
                            refine fin_go ?_
                            try cbv
                            exact ⟨[], rfl, rfl, trivial, trivial, trivial⟩
                    · replace h := ite_f (Int.not_lt.2 e) h
                      clear e
                      try cbv
                      replace h := lenF_inv M h
                      obtain ⟨z91, hz, h⟩ := h
                      refine ⟨z91, hz, ?_⟩
                      clear hz
                      try cbv
                      refine splitL (fun e => ?_) (fun e => ?_)
                      · replace h := ite_t e h
                        clear e
                        try cbv
                        obtain rfl := Option.some.inj h
                        refine fin_go ?_
                        try cbv
                        exact ⟨[], rfl, rfl, trivial, trivial, trivial⟩
                      · replace h := ite_f (Int.not_lt.2 e) h
                        clear e
                        try cbv
                        replace h := bO1_inv h
                        obtain ⟨b92, hr, h⟩ := h
                        refine call_go rfl rfl ?_
                        try cbv
                        refine call_pure hM hI (T56 _ hr) rfl ?_
                        clear hr
                        try cbv
                        cases b92
                        · replace h := ite_f Bool.false_ne_true h
                          try cbv
                          replace h := lenF_inv M h
                          obtain ⟨z93, hz, h⟩ := h
                          refine ⟨z93, hz, ?_⟩
                          clear hz
                          try cbv
                          refine splitL (fun e => ?_) (fun e => ?_)
                          · replace h := ite_t e h
                            clear e
                            try cbv
                            cases b18
                            · replace h := ite_f Bool.false_ne_true h
                              try cbv
                              obtain rfl := Option.some.inj h
                              refine fin_go ?_
                              try cbv
                              exact ⟨[], rfl, rfl, trivial, trivial, trivial⟩
                            · replace h := ite_t rfl h
                              try cbv
                              replace h := lenF_inv M h
                              obtain ⟨z94, hz, h⟩ := h
                              refine ⟨z94, hz, ?_⟩
                              clear hz
                              try cbv
                              refine splitL (fun e => ?_) (fun e => ?_)
                              · replace h := ite_t e h
                                clear e
                                try cbv
                                obtain rfl := Option.some.inj h
                                refine fin_go ?_
                                try cbv
                                exact ⟨[], rfl, rfl, trivial, trivial, trivial⟩
                              · replace h := ite_f (Int.not_lt.2 e) h
                                clear e
                                try cbv
                                replace h := bO5_inv h
                                obtain ⟨b95, s96, z97, z98, l99, hr, h⟩ := h
                                refine call_go rfl rfl ?_
                                try cbv
                                refine call_with hM hI [.loc 960] (T57 _ hr) rfl (by simp) ⟨rfl, trivial⟩ ⟨trivial, trivial⟩ (by simp) ?_
                                clear hr
                                try cbv
                                cases b95
                                · replace h := ite_f Bool.false_ne_true h
                                  try cbv
                                  replace h := bO1_inv h
                                  obtain ⟨b100, hr, h⟩ := h
                                  refine call_go rfl rfl ?_
                                  try cbv
                                  refine call_pure hM hI (T58 _ hr) rfl ?_
                                  clear hr
                                  try cbv
                                  cases b100
                                  · replace h := ite_f Bool.false_ne_true h
                                    try cbv
                                    obtain rfl := Option.some.inj h
                                    refine fin_go ?_
                                    try cbv
                                    exact ⟨[], rfl, rfl, trivial, trivial, trivial⟩
                                  · replace h := ite_t rfl h
                                    try cbv
                                    replace h := bO1_inv h
                                    obtain ⟨b101, hr, h⟩ := h
                                    refine call_go rfl rfl ?_
                                    try cbv
                                    refine call_pure hM hI (T58 _ hr) rfl ?_
                                    clear hr
                                    try cbv
                                    cases b101
                                    · replace h := ite_f Bool.false_ne_true h
                                      try cbv
                                      obtain rfl := Option.some.inj h
                                      refine fin_go ?_
                                      try cbv
                                      exact ⟨[], rfl, rfl, trivial, trivial, trivial⟩
                                    · replace h := ite_t rfl h
                                      try cbv
                                      obtain rfl := Option.some.inj h
                                      refine fin_go ?_
                                      try cbv
                                      exact ⟨[], rfl, rfl, trivial, trivial, trivial⟩
                                · replace h := ite_t rfl h
                                  try cbv
                                  obtain rfl := Option.some.inj h
                                  refine fin_go ?_
                                  try cbv
                                  exact ⟨[], rfl, rfl, trivial, trivial, trivial⟩
                          · replace h := ite_f (Int.not_lt.2 e) h
                            clear e
                            try cbv
                            replace h := lenF_inv M h
                            obtain ⟨z102, hz, h⟩ := h
                            refine ⟨z102, hz, ?_⟩
                            clear hz
                            try cbv
                            refine splitL (fun e => ?_) (fun e => ?_)
                            · replace h := ite_t e h
                              clear e
                              try cbv
                              obtain rfl := Option.some.inj h
                              refine fin_go ?_
                              try cbv
                              exact ⟨[], rfl, rfl, trivial, trivial, trivial⟩
                            · replace h := ite_f (Int.not_lt.2 e) h
                              clear e
                              try cbv
                              replace h := bO5_inv h
                              obtain ⟨b103, s104, z105, z106, l107, hr, h⟩ := h
                              refine call_go rfl rfl ?_
                              try cbv
                              refine call_with hM hI [.loc 960] (T57 _ hr) rfl (by simp) ⟨rfl, trivial⟩ ⟨trivial, trivial⟩ (by simp) ?_
                              clear hr
                              try cbv
                              cases b103
                              · replace h := ite_f Bool.false_ne_true h
                                try cbv
                                replace h := bO1_inv h
                                obtain ⟨b108, hr, h⟩ := h
                                refine call_go rfl rfl ?_
                                try cbv
                                refine call_pure hM hI (T58 _ hr) rfl ?_
                                clear hr
                                try cbv
                                cases b108
                                · replace h := ite_f Bool.false_ne_true h
                                  try cbv
                                  obtain rfl := Option.some.inj h
                                  refine fin_go ?_
                                  try cbv
                                  exact ⟨[], rfl, rfl, trivial, trivial, trivial⟩
                                · replace h := ite_t rfl h
                                  try cbv
                                  replace h := bO1_inv h
                                  obtain ⟨b109, hr, h⟩ := h
                                  refine call_go rfl rfl ?_
                                  try cbv
                                  refine call_pure hM hI (T58 _ hr) rfl ?_
                                  clear hr
                                  try cbv
                                  cases b109
                                  · replace h := ite_f Bool.false_ne_true h
                                    try cbv
                                    obtain rfl := Option.some.inj h
                                    refine fin_go ?_
                                    try cbv
                                    exact ⟨[], rfl, rfl, trivial, trivial, trivial⟩
                                  · replace h := ite_t rfl h
                                    try cbv
                                    obtain rfl := Option.some.inj h
                                    refine fin_go ?_
                                    try cbv
                                    exact ⟨[], rfl, rfl, trivial, trivial, trivial⟩
                              · replace h := ite_t rfl h
                                try cbv
                                obtain rfl := Option.some.inj h
                                refine fin_go ?_
                                try cbv
                                exact ⟨[], rfl, rfl, trivial, trivial, trivial⟩
                        · replace h := ite_t rfl h
                          try cbv
                          obtain rfl := Option.some.inj h
                          refine fin_go ?_
                          try cbv
                          exact ⟨[], rfl, rfl, trivial, trivial, trivial⟩
        · replace h := ite_f e h
          clear e
          try cbv
          obtain rfl := Option.some.inj h
          refine fin_go ?_
          try cbv
          exact ⟨[], rfl, rfl, trivial, trivial, trivial⟩
end Go.Proofs.YtjobleemmjjocaaDoor
end

/- Chapter 17, the plain law, part A: the loops of the two texts say what their rows say. No condition. -/
set_option linter.unusedVariables false
noncomputable section
namespace Go.Proofs.YtjobleemmjjocaaDoor
open Go Go.AM

theorem ilt {i N : Nat} (h : i < N) : (i : Int) < (N : Int) := Int.ofNat_lt.2 h
theorem all_drop {L : List D} {i : Nat} {x : D} (h : L[i]? = some x) (p : D → Bool) : (L.drop i).all p = (p x && (L.drop (i + 1)).all p) := by
  obtain ⟨hi, rfl⟩ := List.getElem?_eq_some_iff.1 h
  rw [List.drop_eq_getElem_cons hi, List.all_cons]
theorem any_drop {L : List D} {i : Nat} {x : D} (h : L[i]? = some x) (p : D → Bool) : (L.drop i).any p = (p x || (L.drop (i + 1)).any p) := by
  obtain ⟨hi, rfl⟩ := List.getElem?_eq_some_iff.1 h
  rw [List.drop_eq_getElem_cons hi, List.any_cons]

def okName (s : ByteArray) : Bool := decide ((1 : Int) ≤ s.size) && decide ((s.size : Int) ≤ 16)
def stepOk : D → Bool
  | .str s => decide (s = k__) || okName s
  | _ => false
def inB (e : Int) : D → Bool
  | .int .i64 z => decide (0 ≤ z) && decide (z ≤ e)
  | _ => false
def isI (z : Int) : D → Bool
  | .int .i64 y => decide (z = y)
  | _ => false

theorem e53 (n : Nat) (s : ByteArray) : F53 n s = some (okName s) := by
  unfold F53 okName
  simp only [szF]
  by_cases h : (1 : Int) ≤ s.size <;> by_cases h2 : (s.size : Int) ≤ 16 <;> simp [h, h2]
theorem e60 (n : Nat) (s : ByteArray) : F60 n s = some (okName s) := e53 n s
theorem e52 (n : Nat) (s : ByteArray) : F52 n s = some (!stepOk (.str s)) := by
  unfold F52
  rw [e53]
  by_cases h : s = k__ <;> cases h2 : okName s <;> simp [h, h2, stepOk, bO1]
theorem e83 (n : Nat) (s : ByteArray) : F83 n s = some s := rfl
theorem e54 (n : Nat) (z : Int) (s : ByteArray) (a b : Int) (l : List D) : F54 n z s a b l = some (!inB l.length (.int .i64 z), s, a, b, l) := by
  unfold F54 lenF inB
  by_cases h : z < 0 <;> by_cases h2 : (l.length : Int) < z <;> simp [h, h2] <;> omega

theorem ev72 {L : List D} (hL : ListS tab 9 L) : ∃ r, Ev (fun n => F72 n L) r ∧ decide (0 ≤ r) = !L.all stepOk := by
  have loop : ∀ i, i ≤ L.length → ∃ r, Ev (fun n => L72_1 n L (L.length : Int) (i : Int)) r ∧ decide (0 ≤ r) = !(L.drop i).all stepOk := by
    refine down L.length ⟨-1, Ev.succ (by simp [L72_1, Ev.ret]), by simp⟩ (fun i hi ih => ?_)
    obtain ⟨x, hx, hm, hr⟩ := hL.get hi
    obtain ⟨s, rfl, _⟩ := rs9 hr
    obtain ⟨r, h1, h2⟩ := ih
    rw [all_drop hx]
    cases h : stepOk (.str s)
    · refine ⟨i, Ev.succ ?_, by simp⟩
      simp only [L72_1, if_pos (ilt hi), getF_nat hx, ds_str, e52, bO1, h]; exact Ev.ret
    · refine ⟨r, Ev.succ ?_, by simpa using h2⟩
      simpa only [L72_1, letF, if_pos (ilt hi), getF_nat hx, ds_str, e52, bO1, h, wrap_succ hi hL.1, Bool.not_true, if_neg Bool.false_ne_true] using h1
  obtain ⟨r, h1, h2⟩ := loop 0 (Nat.zero_le _)
  exact ⟨r, by simp only [F72, lenF]; exact h1, by simpa using h2⟩
theorem ev56 {L : List D} (hL : ListS tab 9 L) : Ev (fun n => F56 n L) (!L.all stepOk) := by
  obtain ⟨r, h1, h2⟩ := ev72 hL
  unfold F56
  refine Ev.bO1 h1 ?_
  rw [← h2]
  by_cases h : 0 ≤ r <;> simp only [h, if_true, if_false, decide_true, decide_false] <;> exact Ev.ret

theorem ev73 {L : List D} (hL : ListS tab 3 L) (s : ByteArray) (a b : Int) (l : List D) : ∃ r, Ev (fun n => F73 n L s a b l) (r, s, a, b, l) ∧ decide (0 ≤ r) = !L.all (inB l.length) := by
  have loop : ∀ i, i ≤ L.length → ∃ r, Ev (fun n => L73_1 n L (L.length : Int) (i : Int) s a b l) (r, s, a, b, l) ∧ decide (0 ≤ r) = !(L.drop i).all (inB l.length) := by
    refine down L.length ⟨-1, Ev.succ (by simp [L73_1, Ev.ret]), by simp⟩ (fun i hi ih => ?_)
    obtain ⟨x, hx, hm, hr⟩ := hL.get hi
    obtain ⟨z, rfl, _⟩ := rs3 hr
    obtain ⟨r, h1, h2⟩ := ih
    rw [all_drop hx]
    cases h : inB l.length (.int .i64 z)
    · refine ⟨i, Ev.succ ?_, by simp⟩
      simp only [L73_1, if_pos (ilt hi), getF_nat hx, ds_i64, e54, bO5, h]; exact Ev.ret
    · refine ⟨r, Ev.succ ?_, by simpa using h2⟩
      simpa only [L73_1, letF, if_pos (ilt hi), getF_nat hx, ds_i64, e54, bO5, h, wrap_succ hi hL.1, Bool.not_true, if_neg Bool.false_ne_true] using h1
  obtain ⟨r, h1, h2⟩ := loop 0 (Nat.zero_le _)
  exact ⟨r, by simp only [F73, lenF]; exact h1, by simpa using h2⟩
theorem ev57 {L : List D} (hL : ListS tab 3 L) (s : ByteArray) (a b : Int) (l : List D) : Ev (fun n => F57 n L s a b l) (!L.all (inB l.length), s, a, b, l) := by
  obtain ⟨r, ⟨N, h1⟩, h2⟩ := ev73 hL s a b l
  refine ⟨N, fun n hn => ?_⟩
  have h1 : F73 n L s a b l = _ := h1 n hn
  show F57 n L s a b l = _
  unfold F57
  rw [h1, ← h2]
  by_cases h : 0 ≤ r <;> simp [bO5, h]

theorem ev84 {L : List D} (hL : ListS tab 3 L) (z : Int) : ∃ r, Ev (fun n => F84 n L z) r ∧ decide (0 ≤ r) = L.any (isI z) := by
  have loop : ∀ i, i ≤ L.length → ∃ r, Ev (fun n => L84_1 n L z (L.length : Int) (i : Int)) r ∧ decide (0 ≤ r) = (L.drop i).any (isI z) := by
    refine down L.length ⟨-1, Ev.succ (by simp [L84_1, Ev.ret]), by simp⟩ (fun i hi ih => ?_)
    obtain ⟨x, hx, hm, hr⟩ := hL.get hi
    obtain ⟨y, rfl, _⟩ := rs3 hr
    obtain ⟨r, h1, h2⟩ := ih
    rw [any_drop hx]
    by_cases h : z = y
    · refine ⟨i, Ev.succ ?_, by simp [isI, h]⟩
      simp only [L84_1, if_pos (ilt hi), getF_nat hx, ds_i64, if_pos h]; exact Ev.ret
    · refine ⟨r, Ev.succ ?_, by simpa [isI, h] using h2⟩
      simpa only [L84_1, letF, if_pos (ilt hi), getF_nat hx, ds_i64, if_neg h, wrap_succ hi hL.1] using h1
  obtain ⟨r, h1, h2⟩ := loop 0 (Nat.zero_le _)
  exact ⟨r, by simp only [F84, lenF]; exact h1, by simpa using h2⟩
theorem ev74 {L : List D} (hL : ListS tab 3 L) (z : Int) : Ev (fun n => F74 n L z) (L.any (isI z)) := by
  obtain ⟨r, h1, h2⟩ := ev84 hL z
  unfold F74
  refine Ev.bO1 h1 ?_
  rw [← h2]
  by_cases h : 0 ≤ r <;> simp only [h, if_true, if_false, decide_true, decide_false] <;> exact Ev.ret

theorem ev59 {L : List D} (hL : ListS tab 9 L) : Ev (fun n => F59 n L) (decide (L.length ≤ 40) && L.all stepOk) := by
  have loop : ∀ i, i ≤ L.length → Ev (fun n => L59_1 n L (i : Int)) ((L.drop i).all stepOk) := by
    refine down L.length (Ev.succ (by simp [L59_1, lenF, Ev.ret])) (fun i hi ih => ?_)
    obtain ⟨x, hx, hm, hr⟩ := hL.get hi
    obtain ⟨s, rfl, _⟩ := rs9 hr
    rw [all_drop hx]
    refine Ev.succ ?_
    by_cases h : s = k__
    · have e : stepOk (.str s) = true := by simp [stepOk, h]
      rw [e, Bool.true_and]
      simpa only [L59_1, lenF, letF, if_pos (ilt hi), getF_nat hx, ds_str, if_pos h, wrap_succ hi hL.1] using ih
    · have e : stepOk (.str s) = okName s := by simp [stepOk, h]
      rw [e]
      cases h2 : okName s
      · simp only [L59_1, lenF, letF, if_pos (ilt hi), getF_nat hx, ds_str, if_neg h, e60, bO1, h2, if_neg Bool.false_ne_true]; exact Ev.ret
      · simpa only [L59_1, lenF, letF, if_pos (ilt hi), getF_nat hx, ds_str, if_neg h, e60, bO1, h2, if_true, wrap_succ hi hL.1, Bool.true_and] using ih
  have h0 := loop 0 (Nat.zero_le _)
  unfold F59 lenF
  by_cases h : (40 : Int) < L.length
  · have : ¬ L.length ≤ 40 := by omega
    simp only [if_pos h, this, decide_false, Bool.false_and]; exact Ev.ret
  · have : L.length ≤ 40 := by omega
    simp only [if_neg h, this, decide_true, Bool.true_and]; simpa using h0
end Go.Proofs.YtjobleemmjjocaaDoor
end

/- Chapter 17, the plain law, part B: an instruction's row, and the program's answer by it. Printed in part by cdb.py. No condition. -/
set_option linter.unusedVariables false
noncomputable section
namespace Go.Proofs.YtjobleemmjjocaaDoor
open Go Go.AM

theorem sh1 (n : Nat) : F51 n 1 = some (k_live, 1, 0, false, false, false, false, [], true) := rfl
theorem sh2 (n : Nat) : F51 n 2 = some (k_dead, 1, 0, false, false, false, false, [], true) := rfl
theorem sh3 (n : Nat) : F51 n 3 = some (k_const, 4, 0, false, false, true, false, [.int .i64 1, .int .i64 2, .int .i64 3], true) := rfl
theorem sh4 (n : Nat) : F51 n 4 = some (k_use, 1, 0, true, false, false, false, [], true) := rfl
theorem sh5 (n : Nat) : F51 n 5 = some (k_ref, 1, 0, true, false, false, false, [], true) := rfl
theorem sh6 (n : Nat) : F51 n 6 = some (k_mut, 1, 0, true, false, false, false, [], true) := rfl
theorem sh7 (n : Nat) : F51 n 7 = some (k_put, 1, 0, true, false, false, false, [], true) := rfl
theorem sh8 (n : Nat) : F51 n 8 = some (k_drop, 1, 0, true, false, false, false, [], true) := rfl
theorem sh9 (n : Nat) : F51 n 9 = some (k_unary, 4, 0, false, false, false, false, [.int .i64 7, .int .i64 8], true) := rfl
theorem sh10 (n : Nat) : F51 n 10 = some (k_binary, 4, 0, false, false, false, false, [.int .i64 9, .int .i64 10, .int .i64 11, .int .i64 12, .int .i64 13, .int .i64 14, .int .i64 15, .int .i64 16, .int .i64 17], true) := rfl
theorem sh11 (n : Nat) : F51 n 11 = some (k_struct, 0, 7, false, false, false, true, [], true) := rfl
theorem sh12 (n : Nat) : F51 n 12 = some (k_enum, 7, 6, false, false, false, true, [], true) := rfl
theorem sh13 (n : Nat) : F51 n 13 = some (k_split, 0, 7, false, false, false, true, [], true) := rfl
theorem sh14 (n : Nat) : F51 n 14 = some (k_jump, 2, 0, false, false, false, false, [], true) := rfl
theorem sh15 (n : Nat) : F51 n 15 = some (k_branch, 2, 0, false, false, false, false, [], true) := rfl
theorem sh16 (n : Nat) : F51 n 16 = some (k_switch, 0, 0, false, true, false, true, [], true) := rfl
theorem sh17 (n : Nat) : F51 n 17 = some (k_call, 3, 5, false, false, false, false, [], true) := rfl
theorem sh18 (n : Nat) : F51 n 18 = some (k_return, 0, 0, false, false, false, false, [], true) := rfl
theorem sh19 (n : Nat) : F51 n 19 = some (k_wrap, 4, 0, false, false, false, false, [.int .i64 6, .int .i64 7, .int .i64 8, .int .i64 9, .int .i64 10, .int .i64 11], true) := rfl
theorem sh20 (n : Nat) : F51 n 20 = some (k_unwrap, 4, 0, false, false, false, false, [.int .i64 6, .int .i64 10], true) := rfl
theorem sh21 (n : Nat) : F51 n 21 = some (k_clone, 1, 0, true, false, false, false, [], true) := rfl
theorem sh22 (n : Nat) : F51 n 22 = some (k_cellget, 1, 0, true, false, false, false, [], true) := rfl
theorem sh23 (n : Nat) : F51 n 23 = some (k_cellset, 1, 0, true, false, false, false, [], true) := rfl
theorem sh24 (n : Nat) : F51 n 24 = some (k_load, 1, 0, true, false, false, false, [], true) := rfl
theorem sh25 (n : Nat) : F51 n 25 = some (k_store, 1, 0, true, false, false, false, [], true) := rfl
theorem sh26 (n : Nat) : F51 n 26 = some (k_fetch, 1, 0, true, false, false, false, [], true) := rfl
theorem sh27 (n : Nat) : F51 n 27 = some (k_chan, 0, 0, false, false, true, false, [], true) := rfl
theorem sh28 (n : Nat) : F51 n 28 = some (k_send, 1, 0, true, false, false, false, [], true) := rfl
theorem sh29 (n : Nat) : F51 n 29 = some (k_recv, 1, 0, true, false, false, false, [], true) := rfl
theorem sh30 (n : Nat) : F51 n 30 = some (k_lock, 1, 1, true, false, false, false, [], true) := rfl
theorem sh31 (n : Nat) : F51 n 31 = some (k_unlock, 0, 0, false, false, false, false, [], true) := rfl
theorem sh32 (n : Nat) : F51 n 32 = some (k_scope, 0, 0, false, false, false, false, [], true) := rfl
theorem sh33 (n : Nat) : F51 n 33 = some (k_spawn, 3, 5, false, false, false, false, [], true) := rfl
theorem sh34 (n : Nat) : F51 n 34 = some (k_join, 0, 0, false, false, false, false, [], true) := rfl
theorem sh0 (n : Nat) : F51 n 0 = some (ByteArray.empty, 0, 0, false, false, false, false, [], false) := rfl
theorem shB (n : Nat) {z : Int} (h : 35 ≤ z) (h2 : z < 256) : F51 n z = some (ByteArray.empty, 0, 0, false, false, false, false, [], false) := by
  have e : F71 n = some ([.int .i64 1, .int .i64 2, .int .i64 3], k_use, k_ref, k_mut, k_put, k_drop, [.int .i64 7, .int .i64 8], [.int .i64 9, .int .i64 10, .int .i64 11, .int .i64 12, .int .i64 13, .int .i64 14, .int .i64 15, .int .i64 16, .int .i64 17], [.int .i64 6, .int .i64 7, .int .i64 8, .int .i64 9, .int .i64 10, .int .i64 11], [.int .i64 6, .int .i64 10], k_clone, k_cellget, k_cellset, k_load, k_store, k_fetch, k_send, k_recv) := rfl
  unfold F51
  rw [e]
  simp only [bO18, letF]
  rw [if_neg (by omega : ¬ z = 0), wrap_i64' (by omega), if_pos h]

def parIs (l1 : List D) (a n : Int) : Bool := match l1[a.toNat]? with
  | some (.agg [_, .int _ p, _, _]) => decide (n = p)
  | _ => false
/-- What an op asks for in a field. -/
def fitsB (l1 : List D) (sl en : Int) (kd : List D) (op a ask n : Int) : Bool :=
  if ask = 0 then decide (n = 0) else if ask = 1 then decide (0 ≤ n) && decide (n < sl) else if ask = 2 then decide (0 ≤ n) && decide (n ≤ en) else if ask = 3 then decide (0 ≤ n) && decide (n < l1.length)
  else if ask = 4 then kd.any (isI n) else if ask = 5 then decide (0 ≤ a) && decide (a < l1.length) && parIs l1 a n else if ask = 6 then decide (n = 0) || decide (n = 1) else decide (0 ≤ n) && (decide (n < 6) || decide (n = 6) && !decide (op = 12))
def wholeB (w : Bool) (op a i : Int) : Bool :=
  if w = true then (if op = 27 then decide (1 ≤ i) && decide (i ≤ 8) else if a = 2 then decide (i = 0) || decide (i = 1) else decide (a = 1) || decide (i = 0)) else decide (i = 0)
def nilB (l : List D) : Bool := decide ((l.length : Int) ≤ 0)
/-- An instruction's row. -/
def insB (l1 : List D) (sl en : Int) (s : ByteArray × Int × Int × Bool × Bool × Bool × Bool × List D × Bool) (op a b c : Int) (l9 l10 : List D) (i : Int) (s12 : ByteArray) (l13 : List D) : Bool :=
  s.2.2.2.2.2.2.2.2 && decide (c = 0) && nilB l13 && wholeB s.2.2.2.2.2.1 op a i && (s.2.2.2.2.2.2.1 == !decide (s12 = ByteArray.empty)) && (!s.2.2.2.2.2.2.1 || okName s12) &&
  (nilB l10 || s.2.2.2.1) && decide ((l10.length : Int) ≤ 40) && l10.all stepOk && (nilB l9 || s.2.2.2.2.1) && decide ((l9.length : Int) ≤ 6) && l9.all (inB en) &&
  fitsB l1 sl en s.2.2.2.2.2.2.2.1 op a s.2.1 a && fitsB l1 sl en s.2.2.2.2.2.2.2.1 op a s.2.2.1 b
/-- Its answer. -/
def rc (b : Bool) : Int := if b = true then 0 else 170

theorem e55 (n : Nat) (s1 : ByteArray) (z2 z3 : Int) (b4 b5 b6 b7 : Bool) (l8 : List D) (z9 z10 z11 z12 : Int) (l13 l14 : List D) (z15 : Int) (s16 : ByteArray) (l17 : List D) :
    F55 n s1 z2 z3 b4 b5 b6 b7 l8 z9 z10 z11 z12 l13 l14 z15 s16 l17 = some (wholeB b6 z9 z10 z15) := by
  unfold F55 wholeB
  cases b6
  · by_cases h : z15 = 0 <;> simp [h]
  · by_cases h : z9 = 27
    · by_cases h1 : 1 ≤ z15 <;> by_cases h2 : z15 ≤ 8 <;> simp [h, h1, h2]
    · by_cases h1 : z10 = 2
      · by_cases h2 : z15 = 0
        · simp [h, h1, h2]
        · by_cases h3 : z15 = 1 <;> simp [h, h1, h2, h3]
      · by_cases h2 : z10 = 1 <;> by_cases h3 : z15 = 0 <;> simp [h, h1, h2, h3]

theorem ev58 {l1 : List D} (hF : ListS tab 56 l1) {l15 : List D} (hk : ListS tab 3 l15) (z2 : Int) (l3 : List D) (s4 : ByteArray) (z5 z6 : Int) (l7 : List D) (s8 : ByteArray) (z9 z10 : Int) (b11 b12 b13 b14 : Bool) (z16 z17 z18 z19 : Int) (l20 l21 : List D) (z22 : Int) (s23 : ByteArray) (l24 : List D) (z25 z26 : Int) :
    Ev (fun n => F58 n l1 z2 l3 s4 z5 z6 l7 s8 z9 z10 b11 b12 b13 b14 l15 z16 z17 z18 z19 l20 l21 z22 s23 l24 z25 z26) (fitsB l1 z6 l7.length l15 z16 z17 z25 z26) := by
  unfold F58 fitsB
  by_cases h0 : z25 = 0
  · simp only [if_pos h0]; by_cases h : z26 = 0 <;> simp only [h, if_true, if_false, decide_true, decide_false] <;> exact Ev.ret
  by_cases h1 : z25 = 1
  · simp only [if_neg h0, if_pos h1]; by_cases h : 0 ≤ z26 <;> by_cases h' : z26 < z6 <;> simp only [h, h', if_true, if_false, decide_true, decide_false, Bool.and_self, Bool.and_false, Bool.false_and] <;> exact Ev.ret
  by_cases h2 : z25 = 2
  · simp only [if_neg h0, if_neg h1, if_pos h2, lenF]; by_cases h : 0 ≤ z26 <;> by_cases h' : z26 ≤ (l7.length : Int) <;> simp only [h, h', if_true, if_false, decide_true, decide_false, Bool.and_self, Bool.and_false, Bool.false_and] <;> exact Ev.ret
  by_cases h3 : z25 = 3
  · simp only [if_neg h0, if_neg h1, if_neg h2, if_pos h3, lenF]; by_cases h : 0 ≤ z26 <;> by_cases h' : z26 < (l1.length : Int) <;> simp only [h, h', if_true, if_false, decide_true, decide_false, Bool.and_self, Bool.and_false, Bool.false_and] <;> exact Ev.ret
  by_cases h4 : z25 = 4
  · simp only [if_neg h0, if_neg h1, if_neg h2, if_neg h3, if_pos h4]; exact Ev.bO1 (ev74 hk _) Ev.ret
  by_cases h5 : z25 = 5
  · simp only [if_neg h0, if_neg h1, if_neg h2, if_neg h3, if_neg h4, if_pos h5, lenF]
    by_cases h : 0 ≤ z17
    · by_cases h' : z17 < (l1.length : Int)
      · obtain ⟨k, rfl⟩ : ∃ k : Nat, z17 = k := ⟨z17.toNat, by omega⟩
        obtain ⟨x, hx, hm, hr⟩ := hF.get (i := k) (by omega)
        obtain ⟨a, b, c, l, rfl, _⟩ := rs56 hr
        simp only [if_pos h, if_pos h', getF_nat hx, ds_t56, parIs, Int.toNat_natCast, hx, h, h', decide_true, Bool.true_and]
        by_cases e : z26 = b <;> simp only [e, if_true, if_false, decide_true, decide_false] <;> exact Ev.ret
      · simp only [if_pos h, if_neg h', decide_false, Bool.and_false, Bool.false_and, h']; exact Ev.ret
    · simp only [if_neg h, decide_false, Bool.and_false, Bool.false_and, h]; exact Ev.ret
  by_cases h6 : z25 = 6
  · simp only [if_neg h0, if_neg h1, if_neg h2, if_neg h3, if_neg h4, if_neg h5, if_pos h6]
    by_cases h : z26 = 0
    · simp only [if_pos h, decide_true, h, Bool.true_or]; exact Ev.ret
    · by_cases h' : z26 = 1
      · simp only [if_neg h, if_pos h', decide_true, h', Bool.or_true]; exact Ev.ret
      · simp only [if_neg h, if_neg h', decide_false, h, h', Bool.or_self]; exact Ev.ret
  · simp only [if_neg h0, if_neg h1, if_neg h2, if_neg h3, if_neg h4, if_neg h5, if_neg h6]
    by_cases h : 0 ≤ z26 <;> by_cases h' : z26 < 6 <;> by_cases e : z26 = 6 <;> by_cases e' : z16 = 12 <;> simp [h, h', e, e'] <;> first | exact Ev.ret | omega

/-- The program's answer is its row's. -/
theorem ev33 {l1 : List D} (hF : ListS tab 56 l1) {z4 : Int} {x : Nat} (hx0 : z4 = x) {nm : ByteArray} {pa sl : Int} {cd : List D} (hx : l1[x]? = some (.agg [.str nm, .int .i64 pa, .int .i64 sl, .list true 9 cd]))
    {op a b c i : Int} {l9 l10 l13 : List D} {s12 : ByteArray} (h9 : ListS tab 3 l9) (h10 : ListS tab 9 l10) (z2 : Int) (l3 : List D) {s : ByteArray} {A B : Int} {p w t m : Bool} {kd : List D} (hk : ListS tab 3 kd) {y : Bool}
    (h : ∀ n, F51 n op = some (s, A, B, p, t, w, m, kd, y)) :
    Ev (fun n => F33 n l1 z2 l3 z4 op a b c l9 l10 i s12 l13) (rc (insB l1 sl cd.length (s, A, B, p, t, w, m, kd, y) op a b c l9 l10 i s12 l13)) := by
  subst hx0
  have hlt := (List.getElem?_eq_some_iff.1 hx).1
  obtain ⟨N1, e56⟩ := ev56 h10
  obtain ⟨N2, e57⟩ := ev57 h9 nm pa sl cd
  obtain ⟨N3, e58⟩ := ev58 hF hk z2 l3 nm pa sl cd s A B p t w m op a b c l9 l10 i s12 l13 A a
  obtain ⟨N4, e58'⟩ := ev58 hF hk z2 l3 nm pa sl cd s A B p t w m op a b c l9 l10 i s12 l13 B b
  refine ⟨N1 + N2 + N3 + N4, fun n hn => ?_⟩
  replace e56 : F56 n l10 = _ := e56 n (by omega)
  replace e57 : F57 n l9 nm pa sl cd = _ := e57 n (by omega)
  replace e58 : F58 n _ _ _ _ _ _ _ _ _ _ _ _ _ _ _ _ _ _ _ _ _ _ _ _ _ _ = _ := e58 n (by omega)
  replace e58' : F58 n _ _ _ _ _ _ _ _ _ _ _ _ _ _ _ _ _ _ _ _ _ _ _ _ _ _ = _ := e58' n (by omega)
  show F33 n _ _ _ _ _ _ _ _ _ _ _ _ _ = _
  unfold F33
  simp only [h n, bO9, bO1, bO5, lenF, getF_nat hx, ds_t56, e53, e55, e56, e57, e58, e58', if_neg (by omega : ¬ (x : Int) < 0), if_neg (by omega : ¬ (l1.length : Int) ≤ x)]
  unfold insB rc nilB
  generalize wholeB w op a i = w1
  generalize okName s12 = w2
  generalize List.all l10 stepOk = w3
  generalize List.all l9 (inB cd.length) = w4
  generalize fitsB l1 sl cd.length kd op a A a = w5
  generalize fitsB l1 sl cd.length kd op a B b = w6
  have d1 : (0 < (l13.length : Int)) = ¬ ((l13.length : Int) ≤ 0) := propext (by omega)
  have d2 : (0 < (l10.length : Int)) = ¬ ((l10.length : Int) ≤ 0) := propext (by omega)
  have d3 : (0 < (l9.length : Int)) = ¬ ((l9.length : Int) ≤ 0) := propext (by omega)
  have d4 : (40 < (l10.length : Int)) = ¬ ((l10.length : Int) ≤ 40) := propext (by omega)
  have d5 : (6 < (l9.length : Int)) = ¬ ((l9.length : Int) ≤ 6) := propext (by omega)
  simp only [d1, d2, d3, d4, d5]
  cases y
  · simp
  by_cases c1 : c = 0
  rotate_left
  · simp [c1]
  by_cases c2 : (l13.length : Int) ≤ 0
  rotate_left
  · simp only [c2]; simp
  cases w1
  · simp
  simp only [c1, c2, decide_true, Bool.true_and, if_true, not_true_eq_false, if_false]
  have fin : ∀ (q : Prop) [Decidable q] (u v : Bool), True := fun _ _ _ _ => trivial
  by_cases c3 : s12 = ByteArray.empty <;> by_cases c4 : (l10.length : Int) ≤ 0 <;> by_cases c5 : (l10.length : Int) ≤ 40 <;> by_cases c6 : (l9.length : Int) ≤ 0 <;> by_cases c7 : (l9.length : Int) ≤ 6 <;>
    simp only [c3, c4, c5, c6, c7, if_true, if_false, decide_true, decide_false, Bool.not_true, Bool.not_false, Bool.true_and, Bool.and_true, Bool.false_and, Bool.and_false, Bool.true_or, Bool.false_or, not_true_eq_false, not_false_eq_true, if_neg Bool.false_ne_true, Bool.false_eq_true] <;>
    cases m <;> cases w2 <;> cases p <;> cases w3 <;> cases t <;> cases w4 <;> cases w5 <;> cases w6 <;> rfl
end Go.Proofs.YtjobleemmjjocaaDoor
end

/- Printed by lift.py: functional texts of functions, and their contracts. No condition. -/
set_option linter.unusedVariables false
noncomputable section
namespace Go.Proofs.YtjobleemmjjocaaDoor
open Go Go.AM
def F63 (n : Nat) (l1 : List D) : Option (List D) :=
  (nilF l1 (some ([] : List D)) (appF 8 [] l1 fun l2 => some l2))
set_option maxRecDepth 100000 in
set_option maxHeartbeats 40000000 in
theorem T63 (n : Nat) : ∀ ⦃l1 : List D⦄ ⦃r1 : List D⦄, F63 n l1 = some r1 →
    Trip Tryd.prog inv 63 [.d (.list false 1 l1)] [] (.v (.d (.list false 1 r1))) [] [] := by
  intro l1 r1 h
  unfold F63 at h
  refine Trip.of tab_ok tab_one fol Tryd.func63 rfl (by kernel_rfl) rfl rfl rfl (fun M hM hI => ?_)
  try cbv
  replace h := nilF_inv h
  obtain ⟨h, hA⟩ := h
  refine nil_both ?_ (fun e => ?_)
  · clear hA
    try cbv
    refine ⟨false, ?_⟩
    try cbv
    refine ⟨true, ?_⟩
    try cbv
    replace h := appF_inv h
    obtain ⟨l2, hb, hz, h⟩ := h
    refine ⟨false, ?_⟩
    try cbv
    refine ⟨(M.lock_iff _).2 hb, l2, hz, false, ?_⟩
    clear hb hz
    try cbv
    obtain rfl := Option.some.inj h
    refine fin_go ?_
    try cbv
    exact ⟨[], rfl, rfl, trivial, trivial, trivial⟩
  · replace h := hA e
    clear hA
    try cbv
    obtain rfl := Option.some.inj h
    refine fin_go ?_
    try cbv
    exact ⟨[], rfl, rfl, trivial, trivial, trivial⟩
end Go.Proofs.YtjobleemmjjocaaDoor
end

/- Printed by lift.py: functional texts of functions, and their contracts. No condition. -/
set_option linter.unusedVariables false
noncomputable section
namespace Go.Proofs.YtjobleemmjjocaaDoor
open Go Go.AM
def F36 (n : Nat) (z1 : Int) (z2 : Int) (z3 : Int) (z4 : Int) (l5 : List D) (l6 : List D) (z7 : Int) (s8 : ByteArray) (l9 : List D) : Option (List D) :=
  (if z1 = (14 : Int) then some [.int .i64 z2] else (if z1 = (15 : Int) then some [.int .i64 z2] else (if z1 = (16 : Int) then bO1 (F63 n l5) fun l10 => some l10 else some ([] : List D))))
set_option maxRecDepth 100000 in
set_option maxHeartbeats 40000000 in
theorem T36 (n : Nat) : ∀ ⦃z1 : Int⦄ ⦃z2 : Int⦄ ⦃z3 : Int⦄ ⦃z4 : Int⦄ ⦃l5 : List D⦄ ⦃l6 : List D⦄ ⦃z7 : Int⦄ ⦃s8 : ByteArray⦄ ⦃l9 : List D⦄ ⦃r1 : List D⦄, F36 n z1 z2 z3 z4 l5 l6 z7 s8 l9 = some r1 →
    Trip Tryd.prog inv 36 [.d (.agg [.int .u8 z1, .int .i64 z2, .int .i64 z3, .int .i64 z4, .list false 1 l5, .list false 1 l6, .int .i64 z7, .str s8, .list false 1 l9])] [] (.v (.d (.list false 1 r1))) [] [] := by
  intro z1 z2 z3 z4 l5 l6 z7 s8 l9 r1 h
  unfold F36 at h
  refine Trip.of tab_ok tab_one fol Tryd.func36 rfl (by kernel_rfl) rfl rfl rfl (fun M hM hI => ?_)
  try cbv
  refine splitI (fun e => ?_) (fun e => ?_)
  · replace h := ite_t e h
    clear e
    try cbv
    refine ⟨false, ?_⟩
    try cbv
    refine ⟨true, ?_⟩
    try cbv
    obtain rfl := Option.some.inj h
    refine fin_go ?_
    try cbv
    exact ⟨[], rfl, rfl, trivial, trivial, trivial⟩
  · replace h := ite_f e h
    clear e
    try cbv
    refine splitI (fun e => ?_) (fun e => ?_)
    · replace h := ite_t e h
      clear e
      try cbv
      refine ⟨false, ?_⟩
      try cbv
      refine ⟨true, ?_⟩
      try cbv
      obtain rfl := Option.some.inj h
      refine fin_go ?_
      try cbv
      exact ⟨[], rfl, rfl, trivial, trivial, trivial⟩
    · replace h := ite_f e h
      clear e
      try cbv
      refine splitI (fun e => ?_) (fun e => ?_)
      · replace h := ite_t e h
        clear e
        try cbv
        replace h := bO1_inv h
        obtain ⟨l10, hr, h⟩ := h
        refine call_go rfl rfl ?_
        try cbv
        refine call_pure hM hI (T63 _ hr) rfl ?_
        clear hr
        try cbv
        obtain rfl := Option.some.inj h
        refine fin_go ?_
        try cbv
        exact ⟨[], rfl, rfl, trivial, trivial, trivial⟩
      · replace h := ite_f e h
        clear e
        try cbv
        obtain rfl := Option.some.inj h
        refine fin_go ?_
        try cbv
        exact ⟨[], rfl, rfl, trivial, trivial, trivial⟩
end Go.Proofs.YtjobleemmjjocaaDoor
end

/- Printed by lift.py: functional texts of functions, and their contracts. No condition. -/
set_option linter.unusedVariables false
noncomputable section
namespace Go.Proofs.YtjobleemmjjocaaDoor
open Go Go.AM
def F75 (n : Nat) (b1 : Bool) (s2 : ByteArray) (s3 : ByteArray) : Option (ByteArray) :=
  (if b1 = true then (if s2 = ByteArray.empty then some s3 else catF k___1 s2 fun s4 => catF s3 s4 fun s5 => some s5) else some s3)
set_option maxRecDepth 100000 in
set_option maxHeartbeats 40000000 in
theorem T75 (n : Nat) : ∀ ⦃b1 : Bool⦄ ⦃s2 : ByteArray⦄ ⦃s3 : ByteArray⦄ ⦃r1 : ByteArray⦄, F75 n b1 s2 s3 = some r1 →
    Trip Tryd.prog inv 75 [.d (.bool b1), .d (.str s2), .c (.ptr (.ext 0) 0)] [.cells [.d (.str s3)]] (.t []) [.cells [.d (.str r1)]] [] := by
  intro b1 s2 s3 r1 h
  unfold F75 at h
  refine Trip.of tab_ok tab_one fol Tryd.func75 rfl (by kernel_rfl) rfl rfl rfl (fun M hM hI => ?_)
  try cbv
  cases b1
  · replace h := ite_f Bool.false_ne_true h
    try cbv
    obtain rfl := Option.some.inj h
    refine fin_go ?_
    try cbv
    exact ⟨[], rfl, rfl, ⟨rfl, trivial⟩, trivial, trivial⟩
  · replace h := ite_t rfl h
    try cbv
    refine splitS (fun e => ?_) (fun e => ?_)
    · replace h := ite_t (bytes_eq.1 e) h
      clear e
      try cbv
      obtain rfl := Option.some.inj h
      refine fin_go ?_
      try cbv
      exact ⟨[], rfl, rfl, ⟨rfl, trivial⟩, trivial, trivial⟩
    · replace h := ite_f (bytes_ne.1 e) h
      clear e
      try cbv
      replace h := catF_inv h
      obtain ⟨s4, hz, hb, h⟩ := h
      refine ⟨s4, hz, hb, ?_⟩
      clear hb hz
      try cbv
      replace h := catF_inv h
      obtain ⟨s5, hz, hb, h⟩ := h
      refine ⟨s5, hz, hb, ?_⟩
      clear hb hz
      try cbv
      obtain rfl := Option.some.inj h
      refine fin_go ?_
      try cbv
      exact ⟨[], rfl, rfl, ⟨rfl, trivial⟩, trivial, trivial⟩
end Go.Proofs.YtjobleemmjjocaaDoor
end

/- Printed by lift.py: functional texts of functions, and their contracts. No condition. -/
set_option linter.unusedVariables false
noncomputable section
namespace Go.Proofs.YtjobleemmjjocaaDoor
open Go Go.AM
def L62_2 : Nat → (List D) → Int → ByteArray → Bool → Bool → Bool → ByteArray → Int → (List D) → Int → Option (ByteArray)
  | 0, _, _, _, _, _, _, _, _, _, _ => none
  | n + 1, l5, z7, s8, b14, b15, b16, s31, z32, l33, z34 =>
    (if z34 < z32 then getF l5 z34 fun x35 => ds_i64 x35 fun z36 => bO1 (F44 n z36) fun s37 => appF 16 l33 ([.str s37]) fun l38 => letF (IntKind.wrap .i64 (z34 + 1)) fun z39 => L62_2 n l5 z7 s8 b14 b15 b16 s31 z32 l38 z39 else bO1 (F76 n l33 k___3) fun s40 => bO1 (F75 n b14 s40 s31) fun s41 => bO1 (F77 n z7 (10 : Int)) fun s42 => bO1 (F75 n b15 s42 s41) fun s43 => bO1 (F75 n b16 s8 s43) fun s44 => some s44)
def L62_3 : Nat → (List D) → Int → ByteArray → Bool → Bool → Bool → ByteArray → Int → (List D) → Int → Option (ByteArray)
  | 0, _, _, _, _, _, _, _, _, _, _ => none
  | n + 1, l5, z7, s8, b14, b15, b16, s46, z47, l48, z49 =>
    (if z49 < z47 then getF l5 z49 fun x50 => ds_i64 x50 fun z51 => bO1 (F44 n z51) fun s52 => appF 16 l48 ([.str s52]) fun l53 => letF (IntKind.wrap .i64 (z49 + 1)) fun z54 => L62_3 n l5 z7 s8 b14 b15 b16 s46 z47 l53 z54 else bO1 (F76 n l48 k___3) fun s55 => bO1 (F75 n b14 s55 s46) fun s56 => bO1 (F77 n z7 (10 : Int)) fun s57 => bO1 (F75 n b15 s57 s56) fun s58 => bO1 (F75 n b16 s8 s58) fun s59 => some s59)
def L62_1 : Nat → Int → (List D) → (List D) → Int → ByteArray → Int → Bool → Bool → Bool → Bool → ByteArray → Int → ByteArray → Int → Option (ByteArray)
  | 0, _, _, _, _, _, _, _, _, _, _, _, _, _, _ => none
  | n + 1, z3, l5, l6, z7, s8, z12, b13, b14, b15, b16, s20, z21, s22, z23 =>
    (if z23 < z21 then getF l6 z23 fun x24 => ds_str x24 fun s25 => catF k___2 s25 fun s26 => catF s22 s26 fun s27 => letF (IntKind.wrap .i64 (z23 + 1)) fun z28 => L62_1 n z3 l5 l6 z7 s8 z12 b13 b14 b15 b16 s20 z21 s27 z28 else bO1 (F75 n b13 s22 s20) fun s29 => (if z12 = (0 : Int) then bO1 (F44 n z3) fun s30 => bO1 (F75 n false s30 s29) fun s31 => lenF l5 fun z32 => L62_2 n l5 z7 s8 b14 b15 b16 s31 z32 ([] : List D) (0 : Int) else bO1 (F44 n z3) fun s45 => bO1 (F75 n true s45 s29) fun s46 => lenF l5 fun z47 => L62_3 n l5 z7 s8 b14 b15 b16 s46 z47 ([] : List D) (0 : Int)))
def L62_5 : Nat → (List D) → Int → ByteArray → Bool → Bool → Bool → ByteArray → Int → (List D) → Int → Option (ByteArray)
  | 0, _, _, _, _, _, _, _, _, _, _ => none
  | n + 1, l5, z7, s8, b14, b15, b16, s72, z73, l74, z75 =>
    (if z75 < z73 then getF l5 z75 fun x76 => ds_i64 x76 fun z77 => bO1 (F44 n z77) fun s78 => appF 16 l74 ([.str s78]) fun l79 => letF (IntKind.wrap .i64 (z75 + 1)) fun z80 => L62_5 n l5 z7 s8 b14 b15 b16 s72 z73 l79 z80 else bO1 (F76 n l74 k___3) fun s81 => bO1 (F75 n b14 s81 s72) fun s82 => bO1 (F77 n z7 (10 : Int)) fun s83 => bO1 (F75 n b15 s83 s82) fun s84 => bO1 (F75 n b16 s8 s84) fun s85 => some s85)
def L62_6 : Nat → (List D) → Int → ByteArray → Bool → Bool → Bool → ByteArray → Int → (List D) → Int → Option (ByteArray)
  | 0, _, _, _, _, _, _, _, _, _, _ => none
  | n + 1, l5, z7, s8, b14, b15, b16, s87, z88, l89, z90 =>
    (if z90 < z88 then getF l5 z90 fun x91 => ds_i64 x91 fun z92 => bO1 (F44 n z92) fun s93 => appF 16 l89 ([.str s93]) fun l94 => letF (IntKind.wrap .i64 (z90 + 1)) fun z95 => L62_6 n l5 z7 s8 b14 b15 b16 s87 z88 l94 z95 else bO1 (F76 n l89 k___3) fun s96 => bO1 (F75 n b14 s96 s87) fun s97 => bO1 (F77 n z7 (10 : Int)) fun s98 => bO1 (F75 n b15 s98 s97) fun s99 => bO1 (F75 n b16 s8 s99) fun s100 => some s100)
def L62_4 : Nat → Int → (List D) → (List D) → Int → ByteArray → Int → Bool → Bool → Bool → Bool → ByteArray → Int → ByteArray → Int → Option (ByteArray)
  | 0, _, _, _, _, _, _, _, _, _, _, _, _, _, _ => none
  | n + 1, z3, l5, l6, z7, s8, z12, b13, b14, b15, b16, s61, z62, s63, z64 =>
    (if z64 < z62 then getF l6 z64 fun x65 => ds_str x65 fun s66 => catF k___2 s66 fun s67 => catF s63 s67 fun s68 => letF (IntKind.wrap .i64 (z64 + 1)) fun z69 => L62_4 n z3 l5 l6 z7 s8 z12 b13 b14 b15 b16 s61 z62 s68 z69 else bO1 (F75 n b13 s63 s61) fun s70 => (if z12 = (0 : Int) then bO1 (F44 n z3) fun s71 => bO1 (F75 n false s71 s70) fun s72 => lenF l5 fun z73 => L62_5 n l5 z7 s8 b14 b15 b16 s72 z73 ([] : List D) (0 : Int) else bO1 (F44 n z3) fun s86 => bO1 (F75 n true s86 s70) fun s87 => lenF l5 fun z88 => L62_6 n l5 z7 s8 b14 b15 b16 s87 z88 ([] : List D) (0 : Int)))
def F62 (n : Nat) (z1 : Int) (z2 : Int) (z3 : Int) (z4 : Int) (l5 : List D) (l6 : List D) (z7 : Int) (s8 : ByteArray) (l9 : List D) : Option (ByteArray) :=
  bO9 (F51 n z1) fun s10 z11 z12 b13 b14 b15 b16 l17 b18 => (if b18 = true then (if z11 = (0 : Int) then bO1 (F44 n z2) fun s19 => bO1 (F75 n false s19 s10) fun s20 => lenF l6 fun z21 => L62_1 n z3 l5 l6 z7 s8 z12 b13 b14 b15 b16 s20 z21 ByteArray.empty (0 : Int) else bO1 (F44 n z2) fun s60 => bO1 (F75 n true s60 s10) fun s61 => lenF l6 fun z62 => L62_4 n z3 l5 l6 z7 s8 z12 b13 b14 b15 b16 s61 z62 ByteArray.empty (0 : Int)) else some k___4)
set_option maxRecDepth 100000 in
set_option maxHeartbeats 40000000 in
theorem T62 (n : Nat) : ∀ ⦃z1 : Int⦄ ⦃z2 : Int⦄ ⦃z3 : Int⦄ ⦃z4 : Int⦄ ⦃l5 : List D⦄ ⦃l6 : List D⦄ ⦃z7 : Int⦄ ⦃s8 : ByteArray⦄ ⦃l9 : List D⦄ ⦃r1 : ByteArray⦄, F62 n z1 z2 z3 z4 l5 l6 z7 s8 l9 = some r1 →
    Trip Tryd.prog inv 62 [.d (.agg [.int .u8 z1, .int .i64 z2, .int .i64 z3, .int .i64 z4, .list false 1 l5, .list false 1 l6, .int .i64 z7, .str s8, .list false 1 l9])] [] (.v (.d (.str r1))) [] [] := by
  intro z1 z2 z3 z4 l5 l6 z7 s8 l9 r1 h
  unfold F62 at h
  refine Trip.of tab_ok tab_one fol Tryd.func62 rfl (by kernel_rfl) rfl rfl rfl (fun M hM hI => ?_)
  try cbv
  replace h := bO9_inv h
  obtain ⟨s10, z11, z12, b13, b14, b15, b16, l17, b18, hr, h⟩ := h
  refine call_go rfl rfl ?_
  try cbv
  refine call_pure hM hI (T51 _ hr) rfl ?_
  clear hr
  try cbv
  cases b18
  · replace h := ite_f Bool.false_ne_true h
    try cbv
    obtain rfl := Option.some.inj h
    refine fin_go ?_
    try cbv
    exact ⟨[], rfl, rfl, trivial, trivial, trivial⟩
  · replace h := ite_t rfl h
    try cbv
    refine splitI (fun e => ?_) (fun e => ?_)
    · replace h := ite_t e h
      clear e
      try cbv
      replace h := bO1_inv h
      obtain ⟨s19, hr, h⟩ := h
      refine ⟨[], ?_⟩
      try cbv
      refine call_pure hM hI (T44 _ hr) rfl ?_
      clear hr
      try cbv
      replace h := bO1_inv h
      obtain ⟨s20, hr, h⟩ := h
      refine ⟨[], ?_⟩
      try cbv
      refine call_with hM hI [.loc 480] (T75 _ hr) rfl (by simp) ⟨rfl, trivial⟩ ⟨trivial, trivial⟩ (by simp) ?_
      clear hr
      try cbv
      refine drawn ?_ ?_
      · show _ = true
        kernel_rfl
      try cbv
      replace h := lenF_inv M h
      obtain ⟨z21, hz, h⟩ := h
      refine ⟨z21, hz, ?_⟩
      clear hz
      try cbv
      refine loop_inv (T := Nat × ByteArray × Int) [1, 2, 3, 5, 6, 7, 33, 34, 35] [.loc 0, .loc 256, .loc 480] 1024 (fun t => ⟨[(1, .v (.c (.ptr (.loc 0) 0))), (2, .v (.d (.str ByteArray.empty))), (3, .v (.c (.ptr (.loc 256) 0))), (5, .v (.c (.ptr (.loc 480) 0))), (6, .v (.c (.fn 75 [.loc 480]))), (7, .v (.d (.str t.2.1))), (33, .v (.d (.list false 1 l6))), (34, .v (.d (.int .i64 z21))), (35, .v (.d (.int .i64 t.2.2)))], [(.loc 0, .cells [.d (.int .u8 z1), .d (.int .i64 z2), .d (.int .i64 z3), .d (.int .i64 z4), .d (.list false 1 l5), .d (.list false 1 l6), .d (.int .i64 z7), .d (.str s8), .d (.list false 1 l9)]), (.loc 256, .cells [.d (.str s10), .d (.int .i64 z11), .d (.int .i64 z12), .d (.bool b13), .d (.bool b14), .d (.bool b15), .d (.bool b16), .d (.list false 1 l17)]), (.loc 480, .cells [.d (.str s20)])], 1024⟩)
        (fun t => t.1 ≤ n ∧ L62_1 t.1 z3 l5 l6 z7 s8 z12 b13 b14 b15 b16 s20 z21 t.2.1 t.2.2 = some r1) (fun t => t.1) (n, (ByteArray.empty, (0 : Int))) ⟨Nat.le_refl _, h⟩ (by cbv) ?_
      clear h
      rintro ⟨m1, s22, z23⟩ ⟨hm1, h⟩
      replace hm1 : m1 ≤ n := hm1
      cases m1 with
      | zero => cases (show (none : Option _) = some _ from h)
      | succ m1 =>
        replace h : L62_1 (m1 + 1) z3 l5 l6 z7 s8 z12 b13 b14 b15 b16 s20 z21 s22 z23 = some r1 := h
        rw [L62_1] at h
        try cbv
        refine splitL (fun e => ?_) (fun e => ?_)
        · replace h := ite_t e h
          clear e
          try cbv
          replace h := getF_inv h
          obtain ⟨x24, ⟨hx0, hx⟩, h⟩ := h
          refine ⟨x24, hx0, hx, ?_⟩
          clear hx0 hx
          replace h := ds_str_inv h
          obtain ⟨s25, rfl, h⟩ := h
          try cbv
          replace h := catF_inv h
          obtain ⟨s26, hz, hb, h⟩ := h
          refine ⟨s26, hz, hb, ?_⟩
          clear hb hz
          try cbv
          replace h := catF_inv h
          obtain ⟨s27, hz, hb, h⟩ := h
          refine ⟨s27, hz, hb, ?_⟩
          clear hb hz
          try cbv
          replace h := letF_inv h
          obtain ⟨z28, hz, h⟩ := h
          refine ⟨z28, hz, ?_⟩
          clear hz
          try cbv
          exact loop_next (m1, (s27, z28)) [1, 2, 3, 5, 6, 7, 33, 34, 35] [.loc 0, .loc 256, .loc 480] 1024 ⟨by omega, h⟩ (Nat.lt_succ_of_le (by omega)) (by cbv)
        · replace h := ite_f (Int.not_lt.2 e) h
          clear e
          try cbv
          replace h := bO1_inv h
          obtain ⟨s29, hr, h⟩ := h
          refine call_go rfl rfl ?_
          try cbv
          refine call_with hM hI [.loc 480] (T75 _ hr) rfl (by simp) ⟨rfl, trivial⟩ ⟨trivial, trivial⟩ (by simp) ?_
          clear hr
          try cbv
          refine splitI (fun e => ?_) (fun e => ?_)
          · replace h := ite_t e h
            clear e
            try cbv
            replace h := bO1_inv h
            obtain ⟨s30, hr, h⟩ := h
            refine ⟨[], ?_⟩
            try cbv
            refine call_pure hM hI (T44 _ hr) rfl ?_
            clear hr
            try cbv
            replace h := bO1_inv h
            obtain ⟨s31, hr, h⟩ := h
            refine ⟨[], ?_⟩
            try cbv
            refine call_with hM hI [.loc 480] (T75 _ hr) rfl (by simp) ⟨rfl, trivial⟩ ⟨trivial, trivial⟩ (by simp) ?_
            clear hr
            try cbv
            refine drawn ?_ ?_
            · show _ = true
              kernel_rfl
            try cbv
            replace h := lenF_inv M h
            obtain ⟨z32, hz, h⟩ := h
            refine ⟨z32, hz, ?_⟩
            clear hz
            try cbv
            refine loop_invT (T := Nat × List D × Int) [.slot 10 false 1 9] [1, 2, 3, 5, 6, 7, 10, 33, 34, 35, 58, 59, 60] [.loc 0, .loc 256, .loc 480, .loc 1632] 1664 (fun t => ⟨[(1, .v (.c (.ptr (.loc 0) 0))), (2, .v (.d (.str ByteArray.empty))), (3, .v (.c (.ptr (.loc 256) 0))), (5, .v (.c (.ptr (.loc 480) 0))), (6, .v (.c (.fn 75 [.loc 480]))), (7, .v (.d (.str s22))), (10, .v (.c (.lst (.loc 1632) false 1 t.2.1))), (33, .v (.d (.list false 1 l6))), (34, .v (.d (.int .i64 z21))), (35, .v (.d (.int .i64 z23))), (58, .v (.d (.list false 1 l5))), (59, .v (.d (.int .i64 z32))), (60, .v (.d (.int .i64 t.2.2)))], [(.loc 0, .cells [.d (.int .u8 z1), .d (.int .i64 z2), .d (.int .i64 z3), .d (.int .i64 z4), .d (.list false 1 l5), .d (.list false 1 l6), .d (.int .i64 z7), .d (.str s8), .d (.list false 1 l9)]), (.loc 256, .cells [.d (.str s10), .d (.int .i64 z11), .d (.int .i64 z12), .d (.bool b13), .d (.bool b14), .d (.bool b15), .d (.bool b16), .d (.list false 1 l17)]), (.loc 480, .cells [.d (.str s31)]), (.loc 1632, .tok t.2.1.length 1 9)], 1664⟩)
              (fun t => t.1 ≤ m1 ∧ L62_2 t.1 l5 z7 s8 b14 b15 b16 s31 z32 t.2.1 t.2.2 = some r1) (fun t => t.1) (m1, (([] : List D), (0 : Int))) ⟨Nat.le_refl _, h⟩ (by cbv) ?_
            clear h
            rintro ⟨m2, l33, z34⟩ ⟨hm2, h⟩
            replace hm2 : m2 ≤ m1 := hm2
            cases m2 with
            | zero => cases (show (none : Option _) = some _ from h)
            | succ m2 =>
              replace h : L62_2 (m2 + 1) l5 z7 s8 b14 b15 b16 s31 z32 l33 z34 = some r1 := h
              rw [L62_2] at h
              try cbv
              refine splitL (fun e => ?_) (fun e => ?_)
              · replace h := ite_t e h
                clear e
                try cbv
                replace h := getF_inv h
                obtain ⟨x35, ⟨hx0, hx⟩, h⟩ := h
                refine ⟨x35, hx0, hx, ?_⟩
                clear hx0 hx
                replace h := ds_i64_inv h
                obtain ⟨z36, rfl, h⟩ := h
                try cbv
                replace h := bO1_inv h
                obtain ⟨s37, hr, h⟩ := h
                refine call_go rfl rfl ?_
                try cbv
                refine call_pure hM hI (T44 _ hr) rfl ?_
                clear hr
                try cbv
                refine ⟨false, ?_⟩
                try cbv
                refine ⟨true, ?_⟩
                try cbv
                replace h := appF_inv h
                obtain ⟨l38, hb, hz, h⟩ := h
                refine ⟨false, ?_⟩
                try cbv
                first | refine ⟨rfl, (M.lock_iff _).2 hb, l38, hz, ?_⟩ | refine ⟨(M.lock_iff _).2 hb, l38, hz, ?_⟩
                clear hb hz
                try cbv
                replace h := letF_inv h
                obtain ⟨z39, hz, h⟩ := h
                refine ⟨z39, hz, ?_⟩
                clear hz
                try cbv
                exact loop_next (m2, (l38, z39)) [1, 2, 3, 5, 6, 7, 10, 33, 34, 35, 58, 59, 60] [.loc 0, .loc 256, .loc 480, .loc 1632] 1664 ⟨by omega, h⟩ (Nat.lt_succ_of_le (by omega)) (by cbv)
              · replace h := ite_f (Int.not_lt.2 e) h
                clear e
                try cbv
                replace h := bO1_inv h
                obtain ⟨s40, hr, h⟩ := h
                refine ⟨[], ?_⟩
                try cbv
                refine call_pure hM hI (T76 _ hr) rfl ?_
                clear hr
                try cbv
                replace h := bO1_inv h
                obtain ⟨s41, hr, h⟩ := h
                refine ⟨[], ?_⟩
                try cbv
                refine call_with hM hI [.loc 480] (T75 _ hr) rfl (by simp) ⟨rfl, trivial⟩ ⟨trivial, trivial⟩ (by simp) ?_
                clear hr
                try cbv
                refine drawn ?_ ?_
                · show _ = true
                  kernel_rfl
                try cbv
                replace h := bO1_inv h
                obtain ⟨s42, hr, h⟩ := h
                refine ⟨[], ?_⟩
                try cbv
                refine call_pure hM hI (T77 _ hr) rfl ?_
                clear hr
                try cbv
                replace h := bO1_inv h
                obtain ⟨s43, hr, h⟩ := h
                refine ⟨[], ?_⟩
                try cbv
                refine call_with hM hI [.loc 480] (T75 _ hr) rfl (by simp) ⟨rfl, trivial⟩ ⟨trivial, trivial⟩ (by simp) ?_
                clear hr
                try cbv
                refine drawn ?_ ?_
                · show _ = true
                  kernel_rfl
                try cbv
                replace h := bO1_inv h
                obtain ⟨s44, hr, h⟩ := h
                refine call_go rfl rfl ?_
                try cbv
                refine call_with hM hI [.loc 480] (T75 _ hr) rfl (by simp) ⟨rfl, trivial⟩ ⟨trivial, trivial⟩ (by simp) ?_
                clear hr
                try cbv
                obtain rfl := Option.some.inj h
                refine fin_go ?_
                try cbv
                exact ⟨[], rfl, rfl, trivial, trivial, trivial⟩
          · replace h := ite_f e h
            clear e
            try cbv
            replace h := bO1_inv h
            obtain ⟨s45, hr, h⟩ := h
            refine ⟨[], ?_⟩
            try cbv
            refine call_pure hM hI (T44 _ hr) rfl ?_
            clear hr
            try cbv
            replace h := bO1_inv h
            obtain ⟨s46, hr, h⟩ := h
            refine ⟨[], ?_⟩
            try cbv
            refine call_with hM hI [.loc 480] (T75 _ hr) rfl (by simp) ⟨rfl, trivial⟩ ⟨trivial, trivial⟩ (by simp) ?_
            clear hr
            try cbv
            refine drawn ?_ ?_
            · show _ = true
              kernel_rfl
            try cbv
            replace h := lenF_inv M h
            obtain ⟨z47, hz, h⟩ := h
            refine ⟨z47, hz, ?_⟩
            clear hz
            try cbv
            refine loop_invT (T := Nat × List D × Int) [.slot 10 false 1 9] [1, 2, 3, 5, 6, 7, 10, 33, 34, 35, 58, 59, 60] [.loc 0, .loc 256, .loc 480, .loc 1632] 1664 (fun t => ⟨[(1, .v (.c (.ptr (.loc 0) 0))), (2, .v (.d (.str ByteArray.empty))), (3, .v (.c (.ptr (.loc 256) 0))), (5, .v (.c (.ptr (.loc 480) 0))), (6, .v (.c (.fn 75 [.loc 480]))), (7, .v (.d (.str s22))), (10, .v (.c (.lst (.loc 1632) false 1 t.2.1))), (33, .v (.d (.list false 1 l6))), (34, .v (.d (.int .i64 z21))), (35, .v (.d (.int .i64 z23))), (58, .v (.d (.list false 1 l5))), (59, .v (.d (.int .i64 z47))), (60, .v (.d (.int .i64 t.2.2)))], [(.loc 0, .cells [.d (.int .u8 z1), .d (.int .i64 z2), .d (.int .i64 z3), .d (.int .i64 z4), .d (.list false 1 l5), .d (.list false 1 l6), .d (.int .i64 z7), .d (.str s8), .d (.list false 1 l9)]), (.loc 256, .cells [.d (.str s10), .d (.int .i64 z11), .d (.int .i64 z12), .d (.bool b13), .d (.bool b14), .d (.bool b15), .d (.bool b16), .d (.list false 1 l17)]), (.loc 480, .cells [.d (.str s46)]), (.loc 1632, .tok t.2.1.length 1 9)], 1664⟩)
              (fun t => t.1 ≤ m1 ∧ L62_3 t.1 l5 z7 s8 b14 b15 b16 s46 z47 t.2.1 t.2.2 = some r1) (fun t => t.1) (m1, (([] : List D), (0 : Int))) ⟨Nat.le_refl _, h⟩ (by cbv) ?_
            clear h
            rintro ⟨m3, l48, z49⟩ ⟨hm3, h⟩
            replace hm3 : m3 ≤ m1 := hm3
            cases m3 with
            | zero => cases (show (none : Option _) = some _ from h)
            | succ m3 =>
              replace h : L62_3 (m3 + 1) l5 z7 s8 b14 b15 b16 s46 z47 l48 z49 = some r1 := h
              rw [L62_3] at h
              try cbv
              refine splitL (fun e => ?_) (fun e => ?_)
              · replace h := ite_t e h
                clear e
                try cbv
                replace h := getF_inv h
                obtain ⟨x50, ⟨hx0, hx⟩, h⟩ := h
                refine ⟨x50, hx0, hx, ?_⟩
                clear hx0 hx
                replace h := ds_i64_inv h
                obtain ⟨z51, rfl, h⟩ := h
                try cbv
                replace h := bO1_inv h
                obtain ⟨s52, hr, h⟩ := h
                refine call_go rfl rfl ?_
                try cbv
                refine call_pure hM hI (T44 _ hr) rfl ?_
                clear hr
                try cbv
                refine ⟨false, ?_⟩
                try cbv
                refine ⟨true, ?_⟩
                try cbv
                replace h := appF_inv h
                obtain ⟨l53, hb, hz, h⟩ := h
                refine ⟨false, ?_⟩
                try cbv
                first | refine ⟨rfl, (M.lock_iff _).2 hb, l53, hz, ?_⟩ | refine ⟨(M.lock_iff _).2 hb, l53, hz, ?_⟩
                clear hb hz
                try cbv
                replace h := letF_inv h
                obtain ⟨z54, hz, h⟩ := h
                refine ⟨z54, hz, ?_⟩
                clear hz
                try cbv
                exact loop_next (m3, (l53, z54)) [1, 2, 3, 5, 6, 7, 10, 33, 34, 35, 58, 59, 60] [.loc 0, .loc 256, .loc 480, .loc 1632] 1664 ⟨by omega, h⟩ (Nat.lt_succ_of_le (by omega)) (by cbv)
              · replace h := ite_f (Int.not_lt.2 e) h
                clear e
                try cbv
                replace h := bO1_inv h
                obtain ⟨s55, hr, h⟩ := h
                refine ⟨[], ?_⟩
                try cbv
                refine call_pure hM hI (T76 _ hr) rfl ?_
                clear hr
                try cbv
                replace h := bO1_inv h
                obtain ⟨s56, hr, h⟩ := h
                refine ⟨[], ?_⟩
                try cbv
                refine call_with hM hI [.loc 480] (T75 _ hr) rfl (by simp) ⟨rfl, trivial⟩ ⟨trivial, trivial⟩ (by simp) ?_
                clear hr
                try cbv
                refine drawn ?_ ?_
                · show _ = true
                  kernel_rfl
                try cbv
                replace h := bO1_inv h
                obtain ⟨s57, hr, h⟩ := h
                refine ⟨[], ?_⟩
                try cbv
                refine call_pure hM hI (T77 _ hr) rfl ?_
                clear hr
                try cbv
                replace h := bO1_inv h
                obtain ⟨s58, hr, h⟩ := h
                refine ⟨[], ?_⟩
                try cbv
                refine call_with hM hI [.loc 480] (T75 _ hr) rfl (by simp) ⟨rfl, trivial⟩ ⟨trivial, trivial⟩ (by simp) ?_
                clear hr
                try cbv
                refine drawn ?_ ?_
                · show _ = true
                  kernel_rfl
                try cbv
                replace h := bO1_inv h
                obtain ⟨s59, hr, h⟩ := h
                refine call_go rfl rfl ?_
                try cbv
                refine call_with hM hI [.loc 480] (T75 _ hr) rfl (by simp) ⟨rfl, trivial⟩ ⟨trivial, trivial⟩ (by simp) ?_
                clear hr
                try cbv
                obtain rfl := Option.some.inj h
                refine fin_go ?_
                try cbv
                exact ⟨[], rfl, rfl, trivial, trivial, trivial⟩
    · replace h := ite_f e h
      clear e
      try cbv
      replace h := bO1_inv h
      obtain ⟨s60, hr, h⟩ := h
      refine ⟨[], ?_⟩
      try cbv
      refine call_pure hM hI (T44 _ hr) rfl ?_
      clear hr
      try cbv
      replace h := bO1_inv h
      obtain ⟨s61, hr, h⟩ := h
      refine ⟨[], ?_⟩
      try cbv
      refine call_with hM hI [.loc 480] (T75 _ hr) rfl (by simp) ⟨rfl, trivial⟩ ⟨trivial, trivial⟩ (by simp) ?_
      clear hr
      try cbv
      refine drawn ?_ ?_
      · show _ = true
        kernel_rfl
      try cbv
      replace h := lenF_inv M h
      obtain ⟨z62, hz, h⟩ := h
      refine ⟨z62, hz, ?_⟩
      clear hz
      try cbv
      refine loop_inv (T := Nat × ByteArray × Int) [1, 2, 3, 5, 6, 7, 33, 34, 35] [.loc 0, .loc 256, .loc 480] 1024 (fun t => ⟨[(1, .v (.c (.ptr (.loc 0) 0))), (2, .v (.d (.str ByteArray.empty))), (3, .v (.c (.ptr (.loc 256) 0))), (5, .v (.c (.ptr (.loc 480) 0))), (6, .v (.c (.fn 75 [.loc 480]))), (7, .v (.d (.str t.2.1))), (33, .v (.d (.list false 1 l6))), (34, .v (.d (.int .i64 z62))), (35, .v (.d (.int .i64 t.2.2)))], [(.loc 0, .cells [.d (.int .u8 z1), .d (.int .i64 z2), .d (.int .i64 z3), .d (.int .i64 z4), .d (.list false 1 l5), .d (.list false 1 l6), .d (.int .i64 z7), .d (.str s8), .d (.list false 1 l9)]), (.loc 256, .cells [.d (.str s10), .d (.int .i64 z11), .d (.int .i64 z12), .d (.bool b13), .d (.bool b14), .d (.bool b15), .d (.bool b16), .d (.list false 1 l17)]), (.loc 480, .cells [.d (.str s61)])], 1024⟩)
        (fun t => t.1 ≤ n ∧ L62_4 t.1 z3 l5 l6 z7 s8 z12 b13 b14 b15 b16 s61 z62 t.2.1 t.2.2 = some r1) (fun t => t.1) (n, (ByteArray.empty, (0 : Int))) ⟨Nat.le_refl _, h⟩ (by cbv) ?_
      clear h
      rintro ⟨m4, s63, z64⟩ ⟨hm4, h⟩
      replace hm4 : m4 ≤ n := hm4
      cases m4 with
      | zero => cases (show (none : Option _) = some _ from h)
      | succ m4 =>
        replace h : L62_4 (m4 + 1) z3 l5 l6 z7 s8 z12 b13 b14 b15 b16 s61 z62 s63 z64 = some r1 := h
        rw [L62_4] at h
        try cbv
        refine splitL (fun e => ?_) (fun e => ?_)
        · replace h := ite_t e h
          clear e
          try cbv
          replace h := getF_inv h
          obtain ⟨x65, ⟨hx0, hx⟩, h⟩ := h
          refine ⟨x65, hx0, hx, ?_⟩
          clear hx0 hx
          replace h := ds_str_inv h
          obtain ⟨s66, rfl, h⟩ := h
          try cbv
          replace h := catF_inv h
          obtain ⟨s67, hz, hb, h⟩ := h
          refine ⟨s67, hz, hb, ?_⟩
          clear hb hz
          try cbv
          replace h := catF_inv h
          obtain ⟨s68, hz, hb, h⟩ := h
          refine ⟨s68, hz, hb, ?_⟩
          clear hb hz
          try cbv
          replace h := letF_inv h
          obtain ⟨z69, hz, h⟩ := h
          refine ⟨z69, hz, ?_⟩
          clear hz
          try cbv
          exact loop_next (m4, (s68, z69)) [1, 2, 3, 5, 6, 7, 33, 34, 35] [.loc 0, .loc 256, .loc 480] 1024 ⟨by omega, h⟩ (Nat.lt_succ_of_le (by omega)) (by cbv)
        · replace h := ite_f (Int.not_lt.2 e) h
          clear e
          try cbv
          replace h := bO1_inv h
          obtain ⟨s70, hr, h⟩ := h
          refine call_go rfl rfl ?_
          try cbv
          refine call_with hM hI [.loc 480] (T75 _ hr) rfl (by simp) ⟨rfl, trivial⟩ ⟨trivial, trivial⟩ (by simp) ?_
          clear hr
          try cbv
          refine splitI (fun e => ?_) (fun e => ?_)
          · replace h := ite_t e h
            clear e
            try cbv
            replace h := bO1_inv h
            obtain ⟨s71, hr, h⟩ := h
            refine ⟨[], ?_⟩
            try cbv
            refine call_pure hM hI (T44 _ hr) rfl ?_
            clear hr
            try cbv
            replace h := bO1_inv h
            obtain ⟨s72, hr, h⟩ := h
            refine ⟨[], ?_⟩
            try cbv
            refine call_with hM hI [.loc 480] (T75 _ hr) rfl (by simp) ⟨rfl, trivial⟩ ⟨trivial, trivial⟩ (by simp) ?_
            clear hr
            try cbv
            refine drawn ?_ ?_
            · show _ = true
              kernel_rfl
            try cbv
            replace h := lenF_inv M h
            obtain ⟨z73, hz, h⟩ := h
            refine ⟨z73, hz, ?_⟩
            clear hz
            try cbv
            refine loop_invT (T := Nat × List D × Int) [.slot 10 false 1 9] [1, 2, 3, 5, 6, 7, 10, 33, 34, 35, 58, 59, 60] [.loc 0, .loc 256, .loc 480, .loc 1632] 1664 (fun t => ⟨[(1, .v (.c (.ptr (.loc 0) 0))), (2, .v (.d (.str ByteArray.empty))), (3, .v (.c (.ptr (.loc 256) 0))), (5, .v (.c (.ptr (.loc 480) 0))), (6, .v (.c (.fn 75 [.loc 480]))), (7, .v (.d (.str s63))), (10, .v (.c (.lst (.loc 1632) false 1 t.2.1))), (33, .v (.d (.list false 1 l6))), (34, .v (.d (.int .i64 z62))), (35, .v (.d (.int .i64 z64))), (58, .v (.d (.list false 1 l5))), (59, .v (.d (.int .i64 z73))), (60, .v (.d (.int .i64 t.2.2)))], [(.loc 0, .cells [.d (.int .u8 z1), .d (.int .i64 z2), .d (.int .i64 z3), .d (.int .i64 z4), .d (.list false 1 l5), .d (.list false 1 l6), .d (.int .i64 z7), .d (.str s8), .d (.list false 1 l9)]), (.loc 256, .cells [.d (.str s10), .d (.int .i64 z11), .d (.int .i64 z12), .d (.bool b13), .d (.bool b14), .d (.bool b15), .d (.bool b16), .d (.list false 1 l17)]), (.loc 480, .cells [.d (.str s72)]), (.loc 1632, .tok t.2.1.length 1 9)], 1664⟩)
              (fun t => t.1 ≤ m4 ∧ L62_5 t.1 l5 z7 s8 b14 b15 b16 s72 z73 t.2.1 t.2.2 = some r1) (fun t => t.1) (m4, (([] : List D), (0 : Int))) ⟨Nat.le_refl _, h⟩ (by cbv) ?_
            clear h
            rintro ⟨m5, l74, z75⟩ ⟨hm5, h⟩
            replace hm5 : m5 ≤ m4 := hm5
            cases m5 with
            | zero => cases (show (none : Option _) = some _ from h)
            | succ m5 =>
              replace h : L62_5 (m5 + 1) l5 z7 s8 b14 b15 b16 s72 z73 l74 z75 = some r1 := h
              rw [L62_5] at h
              try cbv
              refine splitL (fun e => ?_) (fun e => ?_)
              · replace h := ite_t e h
                clear e
                try cbv
                replace h := getF_inv h
                obtain ⟨x76, ⟨hx0, hx⟩, h⟩ := h
                refine ⟨x76, hx0, hx, ?_⟩
                clear hx0 hx
                replace h := ds_i64_inv h
                obtain ⟨z77, rfl, h⟩ := h
                try cbv
                replace h := bO1_inv h
                obtain ⟨s78, hr, h⟩ := h
                refine call_go rfl rfl ?_
                try cbv
                refine call_pure hM hI (T44 _ hr) rfl ?_
                clear hr
                try cbv
                refine ⟨false, ?_⟩
                try cbv
                refine ⟨true, ?_⟩
                try cbv
                replace h := appF_inv h
                obtain ⟨l79, hb, hz, h⟩ := h
                refine ⟨false, ?_⟩
                try cbv
                first | refine ⟨rfl, (M.lock_iff _).2 hb, l79, hz, ?_⟩ | refine ⟨(M.lock_iff _).2 hb, l79, hz, ?_⟩
                clear hb hz
                try cbv
                replace h := letF_inv h
                obtain ⟨z80, hz, h⟩ := h
                refine ⟨z80, hz, ?_⟩
                clear hz
                try cbv
                exact loop_next (m5, (l79, z80)) [1, 2, 3, 5, 6, 7, 10, 33, 34, 35, 58, 59, 60] [.loc 0, .loc 256, .loc 480, .loc 1632] 1664 ⟨by omega, h⟩ (Nat.lt_succ_of_le (by omega)) (by cbv)
              · replace h := ite_f (Int.not_lt.2 e) h
                clear e
                try cbv
                replace h := bO1_inv h
                obtain ⟨s81, hr, h⟩ := h
                refine ⟨[], ?_⟩
                try cbv
                refine call_pure hM hI (T76 _ hr) rfl ?_
                clear hr
                try cbv
                replace h := bO1_inv h
                obtain ⟨s82, hr, h⟩ := h
                refine ⟨[], ?_⟩
                try cbv
                refine call_with hM hI [.loc 480] (T75 _ hr) rfl (by simp) ⟨rfl, trivial⟩ ⟨trivial, trivial⟩ (by simp) ?_
                clear hr
                try cbv
                refine drawn ?_ ?_
                · show _ = true
                  kernel_rfl
                try cbv
                replace h := bO1_inv h
                obtain ⟨s83, hr, h⟩ := h
                refine ⟨[], ?_⟩
                try cbv
                refine call_pure hM hI (T77 _ hr) rfl ?_
                clear hr
                try cbv
                replace h := bO1_inv h
                obtain ⟨s84, hr, h⟩ := h
                refine ⟨[], ?_⟩
                try cbv
                refine call_with hM hI [.loc 480] (T75 _ hr) rfl (by simp) ⟨rfl, trivial⟩ ⟨trivial, trivial⟩ (by simp) ?_
                clear hr
                try cbv
                refine drawn ?_ ?_
                · show _ = true
                  kernel_rfl
                try cbv
                replace h := bO1_inv h
                obtain ⟨s85, hr, h⟩ := h
                refine call_go rfl rfl ?_
                try cbv
                refine call_with hM hI [.loc 480] (T75 _ hr) rfl (by simp) ⟨rfl, trivial⟩ ⟨trivial, trivial⟩ (by simp) ?_
                clear hr
                try cbv
                obtain rfl := Option.some.inj h
                refine fin_go ?_
                try cbv
                exact ⟨[], rfl, rfl, trivial, trivial, trivial⟩
          · replace h := ite_f e h
            clear e
            try cbv
            replace h := bO1_inv h
            obtain ⟨s86, hr, h⟩ := h
            refine ⟨[], ?_⟩
            try cbv
            refine call_pure hM hI (T44 _ hr) rfl ?_
            clear hr
            try cbv
            replace h := bO1_inv h
            obtain ⟨s87, hr, h⟩ := h
            refine ⟨[], ?_⟩
            try cbv
            refine call_with hM hI [.loc 480] (T75 _ hr) rfl (by simp) ⟨rfl, trivial⟩ ⟨trivial, trivial⟩ (by simp) ?_
            clear hr
            try cbv
            refine drawn ?_ ?_
            · show _ = true
              kernel_rfl
            try cbv
            replace h := lenF_inv M h
            obtain ⟨z88, hz, h⟩ := h
            refine ⟨z88, hz, ?_⟩
            clear hz
            try cbv
            refine loop_invT (T := Nat × List D × Int) [.slot 10 false 1 9] [1, 2, 3, 5, 6, 7, 10, 33, 34, 35, 58, 59, 60] [.loc 0, .loc 256, .loc 480, .loc 1632] 1664 (fun t => ⟨[(1, .v (.c (.ptr (.loc 0) 0))), (2, .v (.d (.str ByteArray.empty))), (3, .v (.c (.ptr (.loc 256) 0))), (5, .v (.c (.ptr (.loc 480) 0))), (6, .v (.c (.fn 75 [.loc 480]))), (7, .v (.d (.str s63))), (10, .v (.c (.lst (.loc 1632) false 1 t.2.1))), (33, .v (.d (.list false 1 l6))), (34, .v (.d (.int .i64 z62))), (35, .v (.d (.int .i64 z64))), (58, .v (.d (.list false 1 l5))), (59, .v (.d (.int .i64 z88))), (60, .v (.d (.int .i64 t.2.2)))], [(.loc 0, .cells [.d (.int .u8 z1), .d (.int .i64 z2), .d (.int .i64 z3), .d (.int .i64 z4), .d (.list false 1 l5), .d (.list false 1 l6), .d (.int .i64 z7), .d (.str s8), .d (.list false 1 l9)]), (.loc 256, .cells [.d (.str s10), .d (.int .i64 z11), .d (.int .i64 z12), .d (.bool b13), .d (.bool b14), .d (.bool b15), .d (.bool b16), .d (.list false 1 l17)]), (.loc 480, .cells [.d (.str s87)]), (.loc 1632, .tok t.2.1.length 1 9)], 1664⟩)
              (fun t => t.1 ≤ m4 ∧ L62_6 t.1 l5 z7 s8 b14 b15 b16 s87 z88 t.2.1 t.2.2 = some r1) (fun t => t.1) (m4, (([] : List D), (0 : Int))) ⟨Nat.le_refl _, h⟩ (by cbv) ?_
            clear h
            rintro ⟨m6, l89, z90⟩ ⟨hm6, h⟩
            replace hm6 : m6 ≤ m4 := hm6
            cases m6 with
            | zero => cases (show (none : Option _) = some _ from h)
            | succ m6 =>
              replace h : L62_6 (m6 + 1) l5 z7 s8 b14 b15 b16 s87 z88 l89 z90 = some r1 := h
              rw [L62_6] at h
              try cbv
              refine splitL (fun e => ?_) (fun e => ?_)
              · replace h := ite_t e h
                clear e
                try cbv
                replace h := getF_inv h
                obtain ⟨x91, ⟨hx0, hx⟩, h⟩ := h
                refine ⟨x91, hx0, hx, ?_⟩
                clear hx0 hx
                replace h := ds_i64_inv h
                obtain ⟨z92, rfl, h⟩ := h
                try cbv
                replace h := bO1_inv h
                obtain ⟨s93, hr, h⟩ := h
                refine call_go rfl rfl ?_
                try cbv
                refine call_pure hM hI (T44 _ hr) rfl ?_
                clear hr
                try cbv
                refine ⟨false, ?_⟩
                try cbv
                refine ⟨true, ?_⟩
                try cbv
                replace h := appF_inv h
                obtain ⟨l94, hb, hz, h⟩ := h
                refine ⟨false, ?_⟩
                try cbv
                first | refine ⟨rfl, (M.lock_iff _).2 hb, l94, hz, ?_⟩ | refine ⟨(M.lock_iff _).2 hb, l94, hz, ?_⟩
                clear hb hz
                try cbv
                replace h := letF_inv h
                obtain ⟨z95, hz, h⟩ := h
                refine ⟨z95, hz, ?_⟩
                clear hz
                try cbv
                exact loop_next (m6, (l94, z95)) [1, 2, 3, 5, 6, 7, 10, 33, 34, 35, 58, 59, 60] [.loc 0, .loc 256, .loc 480, .loc 1632] 1664 ⟨by omega, h⟩ (Nat.lt_succ_of_le (by omega)) (by cbv)
              · replace h := ite_f (Int.not_lt.2 e) h
                clear e
                try cbv
                replace h := bO1_inv h
                obtain ⟨s96, hr, h⟩ := h
                refine ⟨[], ?_⟩
                try cbv
                refine call_pure hM hI (T76 _ hr) rfl ?_
                clear hr
                try cbv
                replace h := bO1_inv h
                obtain ⟨s97, hr, h⟩ := h
                refine ⟨[], ?_⟩
                try cbv
                refine call_with hM hI [.loc 480] (T75 _ hr) rfl (by simp) ⟨rfl, trivial⟩ ⟨trivial, trivial⟩ (by simp) ?_
                clear hr
                try cbv
                refine drawn ?_ ?_
                · show _ = true
                  kernel_rfl
                try cbv
                replace h := bO1_inv h
                obtain ⟨s98, hr, h⟩ := h
                refine ⟨[], ?_⟩
                try cbv
                refine call_pure hM hI (T77 _ hr) rfl ?_
                clear hr
                try cbv
                replace h := bO1_inv h
                obtain ⟨s99, hr, h⟩ := h
                refine ⟨[], ?_⟩
                try cbv
                refine call_with hM hI [.loc 480] (T75 _ hr) rfl (by simp) ⟨rfl, trivial⟩ ⟨trivial, trivial⟩ (by simp) ?_
                clear hr
                try cbv
                refine drawn ?_ ?_
                · show _ = true
                  kernel_rfl
                try cbv
                replace h := bO1_inv h
                obtain ⟨s100, hr, h⟩ := h
                refine call_go rfl rfl ?_
                try cbv
                refine call_with hM hI [.loc 480] (T75 _ hr) rfl (by simp) ⟨rfl, trivial⟩ ⟨trivial, trivial⟩ (by simp) ?_
                clear hr
                try cbv
                obtain rfl := Option.some.inj h
                refine fin_go ?_
                try cbv
                exact ⟨[], rfl, rfl, trivial, trivial, trivial⟩
end Go.Proofs.YtjobleemmjjocaaDoor
end

/- Printed by lift.py: functional texts of functions, and their contracts. No condition. -/
set_option linter.unusedVariables false
noncomputable section
namespace Go.Proofs.YtjobleemmjjocaaDoor
open Go Go.AM
def F35 (n : Nat) : Option (Bool) :=
  makeF 128 (.agg [.int .u8 0, .int .i64 0, .int .i64 0, .int .i64 0, .list false 1 [], .list false 1 [], .int .i64 0, .str ByteArray.empty, .list false 1 []]) (4 : Int) (4 : Int) fun l1 => bO1 (F33 n ([.agg [.str k_main, .int .i64 0, .int .i64 3, .list true 9 l1]]) (0 : Int) ([] : List D) (0 : Int) (1 : Int) (3 : Int) (0 : Int) (0 : Int) ([] : List D) ([] : List D) (0 : Int) ByteArray.empty ([] : List D)) fun z2 => bO1 (F33 n ([.agg [.str k_main, .int .i64 0, .int .i64 3, .list true 9 l1]]) (0 : Int) ([] : List D) (0 : Int) (1 : Int) (2 : Int) (0 : Int) (0 : Int) ([] : List D) ([] : List D) (0 : Int) ByteArray.empty ([] : List D)) fun z3 => bO1 (F33 n ([.agg [.str k_main, .int .i64 0, .int .i64 3, .list true 9 l1]]) (0 : Int) ([] : List D) (0 : Int) (3 : Int) (2 : Int) (0 : Int) (0 : Int) ([] : List D) ([] : List D) (2 : Int) ByteArray.empty ([] : List D)) fun z4 => bO1 (F33 n ([.agg [.str k_main, .int .i64 0, .int .i64 3, .list true 9 l1]]) (0 : Int) ([] : List D) (0 : Int) (14 : Int) (5 : Int) (0 : Int) (0 : Int) ([] : List D) ([] : List D) (0 : Int) ByteArray.empty ([] : List D)) fun z5 => bO1 (F62 n (16 : Int) (0 : Int) (0 : Int) (0 : Int) ([.int .i64 4, .int .i64 7]) ([] : List D) (0 : Int) k_E ([] : List D)) fun s6 => bO1 (F62 n (4 : Int) (2 : Int) (0 : Int) (0 : Int) ([] : List D) ([.str k_a, .str k__]) (0 : Int) ByteArray.empty ([] : List D)) fun s7 => bO1 (F36 n (16 : Int) (0 : Int) (0 : Int) (0 : Int) ([.int .i64 4, .int .i64 7]) ([] : List D) (0 : Int) k_E ([] : List D)) fun l8 => (if z2 = (170 : Int) then (if z3 = (0 : Int) then (if z4 = (170 : Int) then (if z5 = (170 : Int) then (if s6 = k_switch_4_7_E then (if s7 = k_use_2__a__ then lenF l8 fun z9 => (if z9 = (2 : Int) then getF l8 1 fun x10 => ds_i64 x10 fun z11 => (if z11 = (7 : Int) then bO1 (F62 n (3 : Int) (1 : Int) (0 : Int) (0 : Int) ([] : List D) ([] : List D) (5 : Int) ByteArray.empty ([] : List D)) fun s12 => (if s12 = k_const_1_5 then some true else some false) else some false) else some false) else some false) else some false) else some false) else some false) else some false) else some false)
set_option maxRecDepth 100000 in
set_option maxHeartbeats 40000000 in
theorem T35 (n : Nat) : ∀ ⦃r1 : Bool⦄, F35 n = some r1 →
    Trip Tryd.prog inv 35 [] [] (.v (.d (.bool r1))) [] [] := by
  intro r1 h
  unfold F35 at h
  refine Trip.of tab_ok tab_one fol Tryd.func35 rfl (by kernel_rfl) rfl rfl rfl (fun M hM hI => ?_)
  try cbv
  replace h := makeF_inv h
  obtain ⟨l1, hb, hz, h⟩ := h
  refine ⟨(M.lock_iff _).2 hb, l1, hz, false, ?_⟩
  clear hb hz
  try cbv
  refine ⟨false, ?_⟩
  try cbv
  refine ⟨true, ?_⟩
  try cbv
  replace h := bO1_inv h
  obtain ⟨z2, hr, h⟩ := h
  refine ⟨[], ?_⟩
  try cbv
  refine call_pure hM hI (T33 _ hr) rfl ?_
  clear hr
  try cbv
  replace h := bO1_inv h
  obtain ⟨z3, hr, h⟩ := h
  refine ⟨[], ?_⟩
  try cbv
  refine call_pure hM hI (T33 _ hr) rfl ?_
  clear hr
  try cbv
  refine drawn ?_ ?_
  · show _ = true
    kernel_rfl
  try cbv
  replace h := bO1_inv h
  obtain ⟨z4, hr, h⟩ := h
  refine ⟨[], ?_⟩
  try cbv
  refine call_pure hM hI (T33 _ hr) rfl ?_
  clear hr
  try cbv
  replace h := bO1_inv h
  obtain ⟨z5, hr, h⟩ := h
  refine ⟨[], ?_⟩
  try cbv
  refine call_pure hM hI (T33 _ hr) rfl ?_
  clear hr
  try cbv
  refine drawn ?_ ?_
  · show _ = true
    kernel_rfl
  try cbv
  refine ⟨false, ?_⟩
  try cbv
  refine ⟨true, ?_⟩
  try cbv
  replace h := bO1_inv h
  obtain ⟨s6, hr, h⟩ := h
  refine call_go rfl rfl ?_
  try cbv
  refine call_pure hM hI (T62 _ hr) rfl ?_
  clear hr
  try cbv
  refine ⟨false, ?_⟩
  try cbv
  refine ⟨true, ?_⟩
  try cbv
  replace h := bO1_inv h
  obtain ⟨s7, hr, h⟩ := h
  refine call_go rfl rfl ?_
  try cbv
  refine call_pure hM hI (T62 _ hr) rfl ?_
  clear hr
  try cbv
  refine ⟨false, ?_⟩
  try cbv
  refine ⟨true, ?_⟩
  try cbv
  replace h := bO1_inv h
  obtain ⟨l8, hr, h⟩ := h
  refine call_go rfl rfl ?_
  try cbv
  refine call_pure hM hI (T36 _ hr) rfl ?_
  clear hr
  try cbv
  refine splitI (fun e => ?_) (fun e => ?_)
  · replace h := ite_t e h
    clear e
    try cbv
    refine splitI (fun e => ?_) (fun e => ?_)
    · replace h := ite_t e h
      clear e
      try cbv
      refine splitI (fun e => ?_) (fun e => ?_)
      · replace h := ite_t e h
        clear e
        try cbv
        refine splitI (fun e => ?_) (fun e => ?_)
        · replace h := ite_t e h
          clear e
          try cbv
          refine splitS (fun e => ?_) (fun e => ?_)
          · replace h := ite_t (bytes_eq.1 e) h
            clear e
            try cbv
            refine splitS (fun e => ?_) (fun e => ?_)
            · replace h := ite_t (bytes_eq.1 e) h
              clear e
              try cbv
              replace h := lenF_inv M h
              obtain ⟨z9, hz, h⟩ := h
              refine ⟨z9, hz, ?_⟩
              clear hz
              try cbv
              refine splitI (fun e => ?_) (fun e => ?_)
              · replace h := ite_t e h
                clear e
                try cbv
                replace h := getF_inv h
                obtain ⟨x10, ⟨hx0, hx⟩, h⟩ := h
                refine ⟨x10, hx0, hx, ?_⟩
                clear hx0 hx
                replace h := ds_i64_inv h
                obtain ⟨z11, rfl, h⟩ := h
                try cbv
                refine splitI (fun e => ?_) (fun e => ?_)
                · replace h := ite_t e h
                  clear e
                  try cbv
                  replace h := bO1_inv h
                  obtain ⟨s12, hr, h⟩ := h
                  refine call_go rfl rfl ?_
                  try cbv
                  refine call_pure hM hI (T62 _ hr) rfl ?_
                  clear hr
                  try cbv
                  refine splitS (fun e => ?_) (fun e => ?_)
                  · replace h := ite_t (bytes_eq.1 e) h
                    clear e
                    try cbv
                    obtain rfl := Option.some.inj h
                    refine fin_go ?_
                    try cbv
                    exact ⟨[], rfl, rfl, trivial, trivial, trivial⟩
                  · replace h := ite_f (bytes_ne.1 e) h
                    clear e
                    try cbv
                    obtain rfl := Option.some.inj h
                    refine fin_go ?_
                    try cbv
                    exact ⟨[], rfl, rfl, trivial, trivial, trivial⟩
                · replace h := ite_f e h
                  clear e
                  try cbv
                  obtain rfl := Option.some.inj h
                  refine fin_go ?_
                  try cbv
                  exact ⟨[], rfl, rfl, trivial, trivial, trivial⟩
              · replace h := ite_f e h
                clear e
                try cbv
                obtain rfl := Option.some.inj h
                refine fin_go ?_
                try cbv
                exact ⟨[], rfl, rfl, trivial, trivial, trivial⟩
            · replace h := ite_f (bytes_ne.1 e) h
              clear e
              try cbv
              obtain rfl := Option.some.inj h
              refine fin_go ?_
              try cbv
              exact ⟨[], rfl, rfl, trivial, trivial, trivial⟩
          · replace h := ite_f (bytes_ne.1 e) h
            clear e
            try cbv
            obtain rfl := Option.some.inj h
            refine fin_go ?_
            try cbv
            exact ⟨[], rfl, rfl, trivial, trivial, trivial⟩
        · replace h := ite_f e h
          clear e
          try cbv
          obtain rfl := Option.some.inj h
          refine fin_go ?_
          try cbv
          exact ⟨[], rfl, rfl, trivial, trivial, trivial⟩
      · replace h := ite_f e h
        clear e
        try cbv
        obtain rfl := Option.some.inj h
        refine fin_go ?_
        try cbv
        exact ⟨[], rfl, rfl, trivial, trivial, trivial⟩
    · replace h := ite_f e h
      clear e
      try cbv
      obtain rfl := Option.some.inj h
      refine fin_go ?_
      try cbv
      exact ⟨[], rfl, rfl, trivial, trivial, trivial⟩
  · replace h := ite_f e h
    clear e
    try cbv
    obtain rfl := Option.some.inj h
    refine fin_go ?_
    try cbv
    exact ⟨[], rfl, rfl, trivial, trivial, trivial⟩
end Go.Proofs.YtjobleemmjjocaaDoor
end

/- Chapter 17, the plain law, part D: the rows of the chapter that are asked outright. No condition. -/
set_option linter.unusedVariables false
noncomputable section
namespace Go.Proofs.YtjobleemmjjocaaDoor
open Go Go.AM

theorem a1 (m : Nat) (l : List D) (hl : l.length = 4) : F33 (m + 20) ([.agg [.str k_main, .int .i64 0, .int .i64 3, .list true 9 l]]) (0 : Int) ([] : List D) (0 : Int) (1 : Int) (3 : Int) (0 : Int) (0 : Int) ([] : List D) ([] : List D) (0 : Int) ByteArray.empty ([] : List D) = some 170 := by
  match l, hl with
  | [_, _, _, _], _ => rfl
theorem a2 (m : Nat) (l : List D) (hl : l.length = 4) : F33 (m + 20) ([.agg [.str k_main, .int .i64 0, .int .i64 3, .list true 9 l]]) (0 : Int) ([] : List D) (0 : Int) (1 : Int) (2 : Int) (0 : Int) (0 : Int) ([] : List D) ([] : List D) (0 : Int) ByteArray.empty ([] : List D) = some 0 := by
  match l, hl with
  | [_, _, _, _], _ => rfl
theorem a3 (m : Nat) (l : List D) (hl : l.length = 4) : F33 (m + 20) ([.agg [.str k_main, .int .i64 0, .int .i64 3, .list true 9 l]]) (0 : Int) ([] : List D) (0 : Int) (3 : Int) (2 : Int) (0 : Int) (0 : Int) ([] : List D) ([] : List D) (2 : Int) ByteArray.empty ([] : List D) = some 170 := by
  match l, hl with
  | [_, _, _, _], _ => rfl
theorem a4 (m : Nat) (l : List D) (hl : l.length = 4) : F33 (m + 20) ([.agg [.str k_main, .int .i64 0, .int .i64 3, .list true 9 l]]) (0 : Int) ([] : List D) (0 : Int) (14 : Int) (5 : Int) (0 : Int) (0 : Int) ([] : List D) ([] : List D) (0 : Int) ByteArray.empty ([] : List D) = some 170 := by
  match l, hl with
  | [_, _, _, _], _ => rfl
theorem a5 (m : Nat) : F62 (m + 20) (16 : Int) (0 : Int) (0 : Int) (0 : Int) ([.int .i64 4, .int .i64 7]) ([] : List D) (0 : Int) k_E ([] : List D) = some k_switch_4_7_E := by kernel_rfl
theorem a6 (m : Nat) : F62 (m + 20) (4 : Int) (2 : Int) (0 : Int) (0 : Int) ([] : List D) ([.str k_a, .str k__]) (0 : Int) ByteArray.empty ([] : List D) = some k_use_2__a__ := by kernel_rfl
theorem a7 (m : Nat) : F62 (m + 20) (3 : Int) (1 : Int) (0 : Int) (0 : Int) ([] : List D) ([] : List D) (5 : Int) ByteArray.empty ([] : List D) = some k_const_1_5 := by kernel_rfl
theorem e63 (n : Nat) (l : List D) (h : l.length ≤ maxLen ∧ l.length * 8 ≤ 140737488355328) : F63 n l = some l := by
  have e : (appF 8 [] l fun l2 => some l2) = some l := by
    unfold appF
    rw [if_pos (by simpa using h)]; rfl
  unfold F63
  rw [nilF_eq (fun h => by subst h; simp [appF]), e]
theorem a8 (n : Nat) : F36 n (16 : Int) (0 : Int) (0 : Int) (0 : Int) ([.int .i64 4, .int .i64 7]) ([] : List D) (0 : Int) k_E ([] : List D) = some [.int .i64 4, .int .i64 7] := by
  have e := e63 n [.int .i64 4, .int .i64 7] (by decide)
  simp only [F36, ↓reduceIte, Int.reduceEq, e, bO1]
end Go.Proofs.YtjobleemmjjocaaDoor
end

/- Chapter 17, the plain law, part E: the rows of the chapter that are asked outright hold. No condition. -/
set_option linter.unusedVariables false
noncomputable section
namespace Go.Proofs.YtjobleemmjjocaaDoor
open Go Go.AM

theorem bO1_some {α γ : Type} (a : α) (k : α → Option γ) : bO1 (some a) k = k a := rfl
theorem lenF_eq {γ : Type} (l : List D) (k : Int → Option γ) : lenF l k = k l.length := rfl
theorem ds_i64_eq {γ : Type} (z : Int) (k : Int → Option γ) : ds_i64 (.int .i64 z) k = k z := rfl
theorem ev35 : Ev (fun n => F35 n) true := by
  refine ⟨20, fun n hn => ?_⟩
  obtain ⟨m, rfl⟩ : ∃ m, n = m + 20 := ⟨n - 20, by omega⟩
  show F35 (m + 20) = some true
  unfold F35 makeF
  rw [if_pos (by omega)]
  generalize hL : List.replicate (Int.toNat 4) (D.agg [.int .u8 0, .int .i64 0, .int .i64 0, .int .i64 0, .list false 1 [], .list false 1 [], .int .i64 0, .str ByteArray.empty, .list false 1 []]) = L
  have hl : L.length = 4 := by rw [← hL]; simp
  clear hL
  dsimp only
  generalize hM : m + 20 = M
  have h1 := a1 m L hl
  have h2 := a2 m L hl
  have h3 := a3 m L hl
  have h4 := a4 m L hl
  have h5 := a5 m
  have h6 := a6 m
  have h7 := a7 m
  have h8 := a8 M
  rw [hM] at h1 h2 h3 h4 h5 h6 h7
  clear hM hn
  rw [h1, bO1_some, h2, bO1_some, h3, bO1_some, h4, bO1_some, h5, bO1_some, h6, bO1_some, h8, bO1_some]
  rw [if_pos rfl, if_pos rfl, if_pos rfl, if_pos rfl, if_pos rfl, if_pos rfl, lenF_eq]
  rw [if_pos (show (([D.int IntKind.i64 4, D.int IntKind.i64 7].length : Nat) : Int) = 2 from rfl), getF_some (by omega) (show [D.int .i64 4, D.int .i64 7][Int.toNat 1]? = some (.int .i64 7) from rfl)]
  rw [ds_i64_eq, if_pos rfl, h7, bO1_some, if_pos rfl]
end Go.Proofs.YtjobleemmjjocaaDoor
end

/- Printed by lift.py: functional texts of functions, and their contracts. No condition. -/
set_option linter.unusedVariables false
noncomputable section
namespace Go.Proofs.YtjobleemmjjocaaDoor
open Go Go.AM
def L32_1 : Nat → (List D) → Int → Option (Bool)
  | 0, _, _ => none
  | n + 1, l6, z14 =>
    lenF l6 fun z15 => (if z14 < z15 then getF l6 z14 fun x16 => ds_str x16 fun s17 => szF s17 fun z18 => (if (1000 : Int) < z18 then some true else letF (IntKind.wrap .i64 (z14 + 1)) fun z19 => L32_1 n l6 z19) else some false)
def F32 (n : Nat) (z1 : Int) (z2 : Int) (z3 : Int) (z4 : Int) (l5 : List D) (l6 : List D) (z7 : Int) (s8 : ByteArray) (l9 : List D) : Option (Bool) :=
  lenF l6 fun z10 => (if (60 : Int) < z10 then some true else lenF l5 fun z11 => (if (60 : Int) < z11 then some true else lenF l9 fun z12 => (if (60 : Int) < z12 then some true else szF s8 fun z13 => (if (1000 : Int) < z13 then some true else L32_1 n l6 (0 : Int)))))
set_option maxRecDepth 100000 in
set_option maxHeartbeats 40000000 in
theorem T32 (n : Nat) : ∀ ⦃z1 : Int⦄ ⦃z2 : Int⦄ ⦃z3 : Int⦄ ⦃z4 : Int⦄ ⦃l5 : List D⦄ ⦃l6 : List D⦄ ⦃z7 : Int⦄ ⦃s8 : ByteArray⦄ ⦃l9 : List D⦄ ⦃r1 : Bool⦄, F32 n z1 z2 z3 z4 l5 l6 z7 s8 l9 = some r1 →
    Trip Tryd.prog inv 32 [.d (.agg [.int .u8 z1, .int .i64 z2, .int .i64 z3, .int .i64 z4, .list false 1 l5, .list false 1 l6, .int .i64 z7, .str s8, .list false 1 l9])] [] (.v (.d (.bool r1))) [] [] := by
  intro z1 z2 z3 z4 l5 l6 z7 s8 l9 r1 h
  unfold F32 at h
  refine Trip.of tab_ok tab_one fol Tryd.func32 rfl (by kernel_rfl) rfl rfl rfl (fun M hM hI => ?_)
  try cbv
  replace h := lenF_inv M h
  obtain ⟨z10, hz, h⟩ := h
  refine ⟨z10, hz, ?_⟩
  clear hz
  try cbv
  refine splitL (fun e => ?_) (fun e => ?_)
  · replace h := ite_t e h
    clear e
    try cbv
    obtain rfl := Option.some.inj h
    refine fin_go ?_
    try cbv
    exact ⟨[], rfl, rfl, trivial, trivial, trivial⟩
  · replace h := ite_f (Int.not_lt.2 e) h
    clear e
    try cbv
    replace h := lenF_inv M h
    obtain ⟨z11, hz, h⟩ := h
    refine ⟨z11, hz, ?_⟩
    clear hz
    try cbv
    refine splitL (fun e => ?_) (fun e => ?_)
    · replace h := ite_t e h
      clear e
      try cbv
      obtain rfl := Option.some.inj h
      refine fin_go ?_
      try cbv
      exact ⟨[], rfl, rfl, trivial, trivial, trivial⟩
    · replace h := ite_f (Int.not_lt.2 e) h
      clear e
      try cbv
      replace h := lenF_inv M h
      obtain ⟨z12, hz, h⟩ := h
      refine ⟨z12, hz, ?_⟩
      clear hz
      try cbv
      refine splitL (fun e => ?_) (fun e => ?_)
      · replace h := ite_t e h
        clear e
        try cbv
        obtain rfl := Option.some.inj h
        refine fin_go ?_
        try cbv
        exact ⟨[], rfl, rfl, trivial, trivial, trivial⟩
      · replace h := ite_f (Int.not_lt.2 e) h
        clear e
        try cbv
        replace h := szF_inv M h
        obtain ⟨z13, hz, h⟩ := h
        refine ⟨z13, hz, ?_⟩
        clear hz
        try cbv
        refine splitL (fun e => ?_) (fun e => ?_)
        · replace h := ite_t e h
          clear e
          try cbv
          obtain rfl := Option.some.inj h
          refine fin_go ?_
          try cbv
          exact ⟨[], rfl, rfl, trivial, trivial, trivial⟩
        · replace h := ite_f (Int.not_lt.2 e) h
          clear e
          try cbv
          refine loop_inv (T := Nat × Int) [1, 2, 3] [.loc 0] 800 (fun t => ⟨[(1, .v (.c (.ptr (.loc 0) 0))), (2, .v (.d (.bool false))), (3, .v (.d (.int .i64 t.2)))], [(.loc 0, .cells [.d (.int .u8 z1), .d (.int .i64 z2), .d (.int .i64 z3), .d (.int .i64 z4), .d (.list false 1 l5), .d (.list false 1 l6), .d (.int .i64 z7), .d (.str s8), .d (.list false 1 l9)])], 800⟩)
            (fun t => t.1 ≤ n ∧ L32_1 t.1 l6 t.2 = some r1) (fun t => t.1) (n, (0 : Int)) ⟨Nat.le_refl _, h⟩ (by cbv) ?_
          clear h
          rintro ⟨m1, z14⟩ ⟨hm1, h⟩
          replace hm1 : m1 ≤ n := hm1
          cases m1 with
          | zero => cases (show (none : Option _) = some _ from h)
          | succ m1 =>
            replace h : L32_1 (m1 + 1) l6 z14 = some r1 := h
            rw [L32_1] at h
            try cbv
            replace h := lenF_inv M h
            obtain ⟨z15, hz, h⟩ := h
            refine ⟨z15, hz, ?_⟩
            clear hz
            try cbv
            refine splitL (fun e => ?_) (fun e => ?_)
            · replace h := ite_t e h
              clear e
              try cbv
              replace h := getF_inv h
              obtain ⟨x16, ⟨hx0, hx⟩, h⟩ := h
              refine ⟨x16, hx0, hx, ?_⟩
              clear hx0 hx
              replace h := ds_str_inv h
              obtain ⟨s17, rfl, h⟩ := h
              try cbv
              replace h := szF_inv M h
              obtain ⟨z18, hz, h⟩ := h
              refine ⟨z18, hz, ?_⟩
              clear hz
              try cbv
              refine splitL (fun e => ?_) (fun e => ?_)
              · replace h := ite_t e h
                clear e
                try cbv
                obtain rfl := Option.some.inj h
                refine fin_go ?_
                try cbv
                exact ⟨[], rfl, rfl, trivial, trivial, trivial⟩
              · replace h := ite_f (Int.not_lt.2 e) h
                clear e
                try cbv
                replace h := letF_inv h
                obtain ⟨z19, hz, h⟩ := h
                refine ⟨z19, hz, ?_⟩
                clear hz
                try cbv
                exact loop_next (m1, z19) [1, 2, 3] [.loc 0] 800 ⟨by omega, h⟩ (Nat.lt_succ_of_le (by omega)) (by cbv)
            · replace h := ite_f (Int.not_lt.2 e) h
              clear e
              try cbv
              obtain rfl := Option.some.inj h
              refine fin_go ?_
              try cbv
              exact ⟨[], rfl, rfl, trivial, trivial, trivial⟩
end Go.Proofs.YtjobleemmjjocaaDoor
end

/- Printed by lift.py: functional texts of functions, and their contracts. No condition. -/
set_option linter.unusedVariables false
noncomputable section
namespace Go.Proofs.YtjobleemmjjocaaDoor
open Go Go.AM
def L31_3 : Nat → (List D) → Int → Option (Bool)
  | 0, _, _ => none
  | n + 1, l3, z45 =>
    lenF l3 fun z46 => (if z45 < z46 then getF l3 z45 fun x47 => ds_t82 x47 fun z48 s49 l50 z51 s52 l53 l54 z55 z56 s57 s58 s59 l60 l61 z62 z63 => lenF l50 fun z64 => (if (20 : Int) < z64 then some true else getF l3 z45 fun x65 => ds_t82 x65 fun z66 s67 l68 z69 s70 l71 l72 z73 z74 s75 s76 s77 l78 l79 z80 z81 => szF s67 fun z82 => (if (1000 : Int) < z82 then some true else letF (IntKind.wrap .i64 (z45 + 1)) fun z83 => L31_3 n l3 z83)) else some false)
mutual
def L31_1 : Nat → (List D) → (List D) → Int → Option (Bool)
  | 0, _, _, _ => none
  | n + 1, l1, l3, z6 =>
    lenF l1 fun z7 => (if z6 < z7 then getF l1 z6 fun x8 => ds_t56 x8 fun s9 z10 z11 l12 => lenF l12 fun z13 => (if (300 : Int) < z13 then some true else getF l1 z6 fun x14 => ds_t56 x14 fun s15 z16 z17 l18 => szF s15 fun z19 => (if (1000 : Int) < z19 then some true else L31_2 n l1 l3 z6 (0 : Int))) else L31_3 n l3 (0 : Int))
def L31_2 : Nat → (List D) → (List D) → Int → Int → Option (Bool)
  | 0, _, _, _, _ => none
  | n + 1, l1, l3, z6, z20 =>
    getF l1 z6 fun x21 => ds_t56 x21 fun s22 z23 z24 l25 => lenF l25 fun z26 => (if z20 < z26 then getF l1 z6 fun x27 => ds_t56 x27 fun s28 z29 z30 l31 => getF l31 z20 fun x32 => ds_t48 x32 fun z33 z34 z35 z36 l37 l38 z39 s40 l41 => bO1 (F32 n z33 z34 z35 z36 l37 l38 z39 s40 l41) fun b42 => (if b42 = true then some true else letF (IntKind.wrap .i64 (z20 + 1)) fun z43 => L31_2 n l1 l3 z6 z43) else letF (IntKind.wrap .i64 (z6 + 1)) fun z44 => L31_1 n l1 l3 z44)
end
def F31 (n : Nat) (l1 : List D) (z2 : Int) (l3 : List D) : Option (Bool) :=
  lenF l1 fun z4 => (if (30 : Int) < z4 then some true else lenF l3 fun z5 => (if (40 : Int) < z5 then some true else L31_1 n l1 l3 (0 : Int)))
set_option maxRecDepth 100000 in
set_option maxHeartbeats 40000000 in
theorem T31 (n : Nat) : ∀ ⦃l1 : List D⦄ ⦃z2 : Int⦄ ⦃l3 : List D⦄ ⦃r1 : Bool⦄, F31 n l1 z2 l3 = some r1 →
    Trip Tryd.prog inv 31 [.d (.agg [.list true 4 l1, .int .i64 z2, .list true 16 l3])] [] (.v (.d (.bool r1))) [] [] := by
  intro l1 z2 l3 r1 h
  unfold F31 at h
  refine Trip.of tab_ok tab_one fol Tryd.func31 rfl (by kernel_rfl) rfl rfl rfl (fun M hM hI => ?_)
  try cbv
  replace h := lenF_inv M h
  obtain ⟨z4, hz, h⟩ := h
  refine ⟨z4, hz, ?_⟩
  clear hz
  try cbv
  refine splitL (fun e => ?_) (fun e => ?_)
  · replace h := ite_t e h
    clear e
    try cbv
    obtain rfl := Option.some.inj h
    refine fin_go ?_
    try cbv
    exact ⟨[], rfl, rfl, trivial, trivial, trivial⟩
  · replace h := ite_f (Int.not_lt.2 e) h
    clear e
    try cbv
    replace h := lenF_inv M h
    obtain ⟨z5, hz, h⟩ := h
    refine ⟨z5, hz, ?_⟩
    clear hz
    try cbv
    refine splitL (fun e => ?_) (fun e => ?_)
    · replace h := ite_t e h
      clear e
      try cbv
      obtain rfl := Option.some.inj h
      refine fin_go ?_
      try cbv
      exact ⟨[], rfl, rfl, trivial, trivial, trivial⟩
    · replace h := ite_f (Int.not_lt.2 e) h
      clear e
      try cbv
      refine loop_inv (T := Nat × Int) [1, 2, 3] [.loc 0] 416 (fun t => ⟨[(1, .v (.c (.ptr (.loc 0) 0))), (2, .v (.d (.bool false))), (3, .v (.d (.int .i64 t.2)))], [(.loc 0, .cells [.d (.list true 4 l1), .d (.int .i64 z2), .d (.list true 16 l3)])], 416⟩)
        (fun t => t.1 ≤ n ∧ L31_1 t.1 l1 l3 t.2 = some r1) (fun t => t.1) (n, (0 : Int)) ⟨Nat.le_refl _, h⟩ (by cbv) ?_
      clear h
      rintro ⟨m1, z6⟩ ⟨hm1, h⟩
      replace hm1 : m1 ≤ n := hm1
      cases m1 with
      | zero => cases (show (none : Option _) = some _ from h)
      | succ m1 =>
        replace h : L31_1 (m1 + 1) l1 l3 z6 = some r1 := h
        rw [L31_1] at h
        try cbv
        replace h := lenF_inv M h
        obtain ⟨z7, hz, h⟩ := h
        refine ⟨z7, hz, ?_⟩
        clear hz
        try cbv
        refine splitL (fun e => ?_) (fun e => ?_)
        · replace h := ite_t e h
          clear e
          try cbv
          replace h := getF_inv h
          obtain ⟨x8, ⟨hx0, hx⟩, h⟩ := h
          refine ⟨x8, hx0, hx, ?_⟩
          clear hx0 hx
          replace h := ds_t56_inv h
          obtain ⟨s9, z10, z11, l12, rfl, h⟩ := h
          try cbv
          replace h := lenF_inv M h
          obtain ⟨z13, hz, h⟩ := h
          refine ⟨z13, hz, ?_⟩
          clear hz
          try cbv
          refine splitL (fun e => ?_) (fun e => ?_)
          · replace h := ite_t e h
            clear e
            try cbv
            obtain rfl := Option.some.inj h
            refine fin_go ?_
            try cbv
            exact ⟨[], rfl, rfl, trivial, trivial, trivial⟩
          · replace h := ite_f (Int.not_lt.2 e) h
            clear e
            try cbv
            replace h := getF_inv h
            obtain ⟨x14, ⟨hx0, hx⟩, h⟩ := h
            refine ⟨x14, hx0, hx, ?_⟩
            clear hx0 hx
            replace h := ds_t56_inv h
            obtain ⟨s15, z16, z17, l18, rfl, h⟩ := h
            try cbv
            replace h := szF_inv M h
            obtain ⟨z19, hz, h⟩ := h
            refine ⟨z19, hz, ?_⟩
            clear hz
            try cbv
            refine splitL (fun e => ?_) (fun e => ?_)
            · replace h := ite_t e h
              clear e
              try cbv
              obtain rfl := Option.some.inj h
              refine fin_go ?_
              try cbv
              exact ⟨[], rfl, rfl, trivial, trivial, trivial⟩
            · replace h := ite_f (Int.not_lt.2 e) h
              clear e
              try cbv
              refine loop_inv (T := Nat × Int) [1, 2, 3, 4] [.loc 0] 1184 (fun t => ⟨[(1, .v (.c (.ptr (.loc 0) 0))), (2, .v (.d (.bool false))), (3, .v (.d (.int .i64 z6))), (4, .v (.d (.int .i64 t.2)))], [(.loc 0, .cells [.d (.list true 4 l1), .d (.int .i64 z2), .d (.list true 16 l3)])], 1184⟩)
                (fun t => t.1 ≤ m1 ∧ L31_2 t.1 l1 l3 z6 t.2 = some r1) (fun t => t.1) (m1, (0 : Int)) ⟨Nat.le_refl _, h⟩ (by cbv) ?_
              clear h
              rintro ⟨m2, z20⟩ ⟨hm2, h⟩
              replace hm2 : m2 ≤ m1 := hm2
              cases m2 with
              | zero => cases (show (none : Option _) = some _ from h)
              | succ m2 =>
                replace h : L31_2 (m2 + 1) l1 l3 z6 z20 = some r1 := h
                rw [L31_2] at h
                try cbv
                replace h := getF_inv h
                obtain ⟨x21, ⟨hx0, hx⟩, h⟩ := h
                refine ⟨x21, hx0, hx, ?_⟩
                clear hx0 hx
                replace h := ds_t56_inv h
                obtain ⟨s22, z23, z24, l25, rfl, h⟩ := h
                try cbv
                replace h := lenF_inv M h
                obtain ⟨z26, hz, h⟩ := h
                refine ⟨z26, hz, ?_⟩
                clear hz
                try cbv
                refine splitL (fun e => ?_) (fun e => ?_)
                · replace h := ite_t e h
                  clear e
                  try cbv
                  replace h := getF_inv h
                  obtain ⟨x27, ⟨hx0, hx⟩, h⟩ := h
                  refine ⟨x27, hx0, hx, ?_⟩
                  clear hx0 hx
                  replace h := ds_t56_inv h
                  obtain ⟨s28, z29, z30, l31, rfl, h⟩ := h
                  try cbv
                  replace h := getF_inv h
                  obtain ⟨x32, ⟨hx0, hx⟩, h⟩ := h
                  refine ⟨x32, hx0, hx, ?_⟩
                  clear hx0 hx
                  replace h := ds_t48_inv h
                  obtain ⟨z33, z34, z35, z36, l37, l38, z39, s40, l41, rfl, h⟩ := h
                  try cbv
                  replace h := bO1_inv h
                  obtain ⟨b42, hr, h⟩ := h
                  refine call_go rfl rfl ?_
                  try cbv
                  refine call_pure hM hI (T32 _ hr) rfl ?_
                  clear hr
                  try cbv
                  cases b42
                  · replace h := ite_f Bool.false_ne_true h
                    try cbv
                    replace h := letF_inv h
                    obtain ⟨z43, hz, h⟩ := h
                    refine ⟨z43, hz, ?_⟩
                    clear hz
                    try cbv
                    exact loop_next (m2, z43) [1, 2, 3, 4] [.loc 0] 1184 ⟨by omega, h⟩ (Nat.lt_succ_of_le (by omega)) (by cbv)
                  · replace h := ite_t rfl h
                    try cbv
                    obtain rfl := Option.some.inj h
                    refine fin_go ?_
                    try cbv
                    exact ⟨[], rfl, rfl, trivial, trivial, trivial⟩
                · replace h := ite_f (Int.not_lt.2 e) h
                  clear e
                  try cbv
                  replace h := letF_inv h
                  obtain ⟨z44, hz, h⟩ := h
                  refine ⟨z44, hz, ?_⟩
                  clear hz
                  try cbv
                  exact loop_next (m2, z44) [1, 2, 3] [.loc 0] 416 ⟨by omega, h⟩ (Nat.lt_succ_of_le (by omega)) (by cbv)
        · replace h := ite_f (Int.not_lt.2 e) h
          clear e
          try cbv
          refine loop_inv (T := Nat × Int) [1, 2, 3, 5] [.loc 0] 608 (fun t => ⟨[(1, .v (.c (.ptr (.loc 0) 0))), (2, .v (.d (.bool false))), (3, .v (.d (.int .i64 z6))), (5, .v (.d (.int .i64 t.2)))], [(.loc 0, .cells [.d (.list true 4 l1), .d (.int .i64 z2), .d (.list true 16 l3)])], 608⟩)
            (fun t => t.1 ≤ m1 ∧ L31_3 t.1 l3 t.2 = some r1) (fun t => t.1) (m1, (0 : Int)) ⟨Nat.le_refl _, h⟩ (by cbv) ?_
          clear h
          rintro ⟨m3, z45⟩ ⟨hm3, h⟩
          replace hm3 : m3 ≤ m1 := hm3
          cases m3 with
          | zero => cases (show (none : Option _) = some _ from h)
          | succ m3 =>
            replace h : L31_3 (m3 + 1) l3 z45 = some r1 := h
            rw [L31_3] at h
            try cbv
            replace h := lenF_inv M h
            obtain ⟨z46, hz, h⟩ := h
            refine ⟨z46, hz, ?_⟩
            clear hz
            try cbv
            refine splitL (fun e => ?_) (fun e => ?_)
            · replace h := ite_t e h
              clear e
              try cbv
              replace h := getF_inv h
              obtain ⟨x47, ⟨hx0, hx⟩, h⟩ := h
              refine ⟨x47, hx0, hx, ?_⟩
              clear hx0 hx
              replace h := ds_t82_inv h
              obtain ⟨z48, s49, l50, z51, s52, l53, l54, z55, z56, s57, s58, s59, l60, l61, z62, z63, rfl, h⟩ := h
              try cbv
              replace h := lenF_inv M h
              obtain ⟨z64, hz, h⟩ := h
              refine ⟨z64, hz, ?_⟩
              clear hz
              try cbv
              refine splitL (fun e => ?_) (fun e => ?_)
              · replace h := ite_t e h
                clear e
                try cbv
                obtain rfl := Option.some.inj h
                refine fin_go ?_
                try cbv
                exact ⟨[], rfl, rfl, trivial, trivial, trivial⟩
              · replace h := ite_f (Int.not_lt.2 e) h
                clear e
                try cbv
                replace h := getF_inv h
                obtain ⟨x65, ⟨hx0, hx⟩, h⟩ := h
                refine ⟨x65, hx0, hx, ?_⟩
                clear hx0 hx
                replace h := ds_t82_inv h
                obtain ⟨z66, s67, l68, z69, s70, l71, l72, z73, z74, s75, s76, s77, l78, l79, z80, z81, rfl, h⟩ := h
                try cbv
                replace h := szF_inv M h
                obtain ⟨z82, hz, h⟩ := h
                refine ⟨z82, hz, ?_⟩
                clear hz
                try cbv
                refine splitL (fun e => ?_) (fun e => ?_)
                · replace h := ite_t e h
                  clear e
                  try cbv
                  obtain rfl := Option.some.inj h
                  refine fin_go ?_
                  try cbv
                  exact ⟨[], rfl, rfl, trivial, trivial, trivial⟩
                · replace h := ite_f (Int.not_lt.2 e) h
                  clear e
                  try cbv
                  replace h := letF_inv h
                  obtain ⟨z83, hz, h⟩ := h
                  refine ⟨z83, hz, ?_⟩
                  clear hz
                  try cbv
                  exact loop_next (m3, z83) [1, 2, 3, 5] [.loc 0] 608 ⟨by omega, h⟩ (Nat.lt_succ_of_le (by omega)) (by cbv)
            · replace h := ite_f (Int.not_lt.2 e) h
              clear e
              try cbv
              obtain rfl := Option.some.inj h
              refine fin_go ?_
              try cbv
              exact ⟨[], rfl, rfl, trivial, trivial, trivial⟩
end Go.Proofs.YtjobleemmjjocaaDoor
end

/- Chapter 17, the plain law, part F1: the program's answer at any instruction is its row; what is large comes to an end. No condition. -/
set_option linter.unusedVariables false
noncomputable section
namespace Go.Proofs.YtjobleemmjjocaaDoor
open Go Go.AM

theorem row3 {z : Int} (h : (Lit.int .i64 z).wf = true) : RowS tab 3 (.int .i64 z) :=
  ⟨.int (x := tyD tab 3) z (by kernel_rfl) rfl h, fun y hy => by
    have : tab 3 = some (tyD tab 3) := by kernel_rfl
    rw [this] at hy; cases hy; rfl⟩
theorem list3 : ∀ (l : List Int), l.length ≤ maxLen → (∀ z ∈ l, (Lit.int .i64 z).wf = true) → ListS tab 3 (l.map (D.int .i64)) := fun l h0 h => ⟨by simpa using h0, fun x hx => by
  obtain ⟨z, hz, rfl⟩ := List.mem_map.1 hx
  exact row3 (h z hz)⟩
theorem list3_nil : ListS tab 3 [] := list3 [] (Nat.zero_le _) (by simp)
/-- An op's row. -/
def shp (op : Int) : ByteArray × Int × Int × Bool × Bool × Bool × Bool × List D × Bool := (F51 0 op).getD (ByteArray.empty, 0, 0, false, false, false, false, [], false)
theorem shp_ok {op : Int} (h0 : 0 ≤ op) (h1 : op < 256) : (∀ n, F51 n op = some (shp op)) ∧ ListS tab 3 (shp op).2.2.2.2.2.2.2.1 := by
  by_cases hb : 35 ≤ op
  · unfold shp
    rw [shB 0 hb h1]
    exact ⟨fun n => shB n hb h1, list3_nil⟩
  · obtain ⟨k, rfl⟩ : ∃ k : Nat, op = k := ⟨op.toNat, by omega⟩
    have hk : k < 35 := by omega
    clear h0 h1 hb
    revert k

    intro k hk
    match k, hk with
    | 0, _ => exact ⟨sh0, list3_nil⟩
    | 1, _ => exact ⟨sh1, list3_nil⟩
    | 2, _ => exact ⟨sh2, list3_nil⟩
    | 3, _ => exact ⟨sh3, list3 [1, 2, 3] (by decide) (by decide)⟩
    | 4, _ => exact ⟨sh4, list3_nil⟩
    | 5, _ => exact ⟨sh5, list3_nil⟩
    | 6, _ => exact ⟨sh6, list3_nil⟩
    | 7, _ => exact ⟨sh7, list3_nil⟩
    | 8, _ => exact ⟨sh8, list3_nil⟩
    | 9, _ => exact ⟨sh9, list3 [7, 8] (by decide) (by decide)⟩
    | 10, _ => exact ⟨sh10, list3 [9, 10, 11, 12, 13, 14, 15, 16, 17] (by decide) (by decide)⟩
    | 11, _ => exact ⟨sh11, list3_nil⟩
    | 12, _ => exact ⟨sh12, list3_nil⟩
    | 13, _ => exact ⟨sh13, list3_nil⟩
    | 14, _ => exact ⟨sh14, list3_nil⟩
    | 15, _ => exact ⟨sh15, list3_nil⟩
    | 16, _ => exact ⟨sh16, list3_nil⟩
    | 17, _ => exact ⟨sh17, list3_nil⟩
    | 18, _ => exact ⟨sh18, list3_nil⟩
    | 19, _ => exact ⟨sh19, list3 [6, 7, 8, 9, 10, 11] (by decide) (by decide)⟩
    | 20, _ => exact ⟨sh20, list3 [6, 10] (by decide) (by decide)⟩
    | 21, _ => exact ⟨sh21, list3_nil⟩
    | 22, _ => exact ⟨sh22, list3_nil⟩
    | 23, _ => exact ⟨sh23, list3_nil⟩
    | 24, _ => exact ⟨sh24, list3_nil⟩
    | 25, _ => exact ⟨sh25, list3_nil⟩
    | 26, _ => exact ⟨sh26, list3_nil⟩
    | 27, _ => exact ⟨sh27, list3_nil⟩
    | 28, _ => exact ⟨sh28, list3_nil⟩
    | 29, _ => exact ⟨sh29, list3_nil⟩
    | 30, _ => exact ⟨sh30, list3_nil⟩
    | 31, _ => exact ⟨sh31, list3_nil⟩
    | 32, _ => exact ⟨sh32, list3_nil⟩
    | 33, _ => exact ⟨sh33, list3_nil⟩
    | 34, _ => exact ⟨sh34, list3_nil⟩
    | n + 35, h => exact absurd h (by omega)

def okIns (l1 : List D) (z4 op a b c : Int) (l9 l10 : List D) (i : Int) (s12 : ByteArray) (l13 : List D) : Bool :=
  decide (0 ≤ z4) && match l1[z4.toNat]? with
    | some (.agg [_, _, .int _ sl, .list _ _ cd]) => insB l1 sl cd.length (shp op) op a b c l9 l10 i s12 l13
    | _ => false

section
variable {l1 : List D} (hF : ListS tab 56 l1) {op a b c i : Int} (h0 : 0 ≤ op) (h1 : op < 256) {l9 l10 l13 : List D} {s12 : ByteArray} (h9 : ListS tab 3 l9) (h10 : ListS tab 9 l10) (z2 : Int) (l3 : List D) (z4 : Int)
include hF h0 h1 h9 h10
theorem ev33a : Ev (fun n => F33 n l1 z2 l3 z4 op a b c l9 l10 i s12 l13) (rc (okIns l1 z4 op a b c l9 l10 i s12 l13)) := by
  obtain ⟨hs, hk⟩ := shp_ok h0 h1
  by_cases g0 : 0 ≤ z4
  · by_cases g1 : z4 < l1.length
    · obtain ⟨x, rfl⟩ : ∃ x : Nat, z4 = x := ⟨z4.toNat, by omega⟩
      obtain ⟨v, hx, _, hr⟩ := hF.get (i := x) (by omega)
      obtain ⟨nm, pa, sl, cd, rfl, _⟩ := rs56 hr
      simp only [okIns, Int.toNat_natCast, hx, g0, decide_true, Bool.true_and]
      exact ev33 hF rfl hx h9 h10 z2 l3 hk (fun n => hs n)
    · have e : l1[z4.toNat]? = none := List.getElem?_eq_none (by omega)
      refine ⟨0, fun n _ => ?_⟩
      show F33 n _ _ _ _ _ _ _ _ _ _ _ _ _ = _
      simp only [F33, okIns, e, Bool.and_false, hs n, bO9, lenF, if_neg (by omega : ¬ z4 < 0), if_pos (by omega : (l1.length : Int) ≤ z4)]
      cases (shp op).2.2.2.2.2.2.2.2 <;> rfl
  · refine ⟨0, fun n _ => ?_⟩
    show F33 n _ _ _ _ _ _ _ _ _ _ _ _ _ = _
    simp only [F33, okIns, g0, decide_false, Bool.false_and, hs n, bO9, if_pos (by omega : z4 < 0)]
    cases (shp op).2.2.2.2.2.2.2.2 <;> rfl
end

theorem tot32 (z1 z2 z3 z4 : Int) (l5 : List D) {l6 : List D} (h6 : ListS tab 9 l6) (z7 : Int) (s8 : ByteArray) (l9 : List D) : ∃ r, Ev (fun n => F32 n z1 z2 z3 z4 l5 l6 z7 s8 l9) r := by
  have loop : ∀ i, i ≤ l6.length → ∃ r, Ev (fun n => L32_1 n l6 (i : Int)) r := by
    refine down l6.length ⟨false, Ev.succ (by simp [L32_1, lenF, Ev.ret])⟩ (fun i hi ih => ?_)
    obtain ⟨x, hx, hm, hr⟩ := h6.get hi
    obtain ⟨s, rfl, _⟩ := rs9 hr
    obtain ⟨r, h⟩ := ih
    by_cases g : 1000 < (s.size : Int)
    · refine ⟨true, Ev.succ ?_⟩
      simp only [L32_1, lenF, szF, if_pos (ilt hi), getF_nat hx, ds_str, if_pos g]; exact Ev.ret
    · refine ⟨r, Ev.succ ?_⟩
      simpa only [L32_1, lenF, szF, letF, if_pos (ilt hi), getF_nat hx, ds_str, if_neg g, wrap_succ hi h6.1] using h
  obtain ⟨r, h⟩ := loop 0 (Nat.zero_le _)
  simp only [F32, lenF, szF]
  by_cases g1 : 60 < (l6.length : Int)
  · exact ⟨true, by simp only [if_pos g1]; exact Ev.ret⟩
  by_cases g2 : 60 < (l5.length : Int)
  · exact ⟨true, by simp only [if_neg g1, if_pos g2]; exact Ev.ret⟩
  by_cases g3 : 60 < (l9.length : Int)
  · exact ⟨true, by simp only [if_neg g1, if_neg g2, if_pos g3]; exact Ev.ret⟩
  by_cases g4 : 1000 < (s8.size : Int)
  · exact ⟨true, by simp only [if_neg g1, if_neg g2, if_neg g3, if_pos g4]; exact Ev.ret⟩
  exact ⟨r, by simp only [if_neg g1, if_neg g2, if_neg g3, if_neg g4]; exact h⟩

theorem tot31 {l1 : List D} (hF : ListS tab 56 l1) (z2 : Int) {l3 : List D} (hT : ListS tab 82 l3) : ∃ r, Ev (fun n => F31 n l1 z2 l3) r := by
  have loop3 : ∀ i, i ≤ l3.length → ∃ r, Ev (fun n => L31_3 n l3 (i : Int)) r := by
    refine down l3.length ⟨false, Ev.succ (by simp [L31_3, lenF, Ev.ret])⟩ (fun i hi ih => ?_)
    obtain ⟨x, hx, hm, hr⟩ := hT.get hi
    obtain ⟨a0, a1, a2, a3, a4, a5, a6, a7, a8, a9, a10, a11, a12, a13, a14, a15, rfl, _⟩ := rs82 hr
    obtain ⟨r, h⟩ := ih
    by_cases g1 : 20 < (a2.length : Int)
    · refine ⟨true, Ev.succ ?_⟩
      simp only [L31_3, lenF, if_pos (ilt hi), getF_nat hx, ds_t82, if_pos g1]; exact Ev.ret
    by_cases g2 : 1000 < (a1.size : Int)
    · refine ⟨true, Ev.succ ?_⟩
      simp only [L31_3, lenF, szF, if_pos (ilt hi), getF_nat hx, ds_t82, if_neg g1, if_pos g2]; exact Ev.ret
    · refine ⟨r, Ev.succ ?_⟩
      simpa only [L31_3, lenF, szF, letF, if_pos (ilt hi), getF_nat hx, ds_t82, if_neg g1, if_neg g2, wrap_succ hi hT.1] using h
  have loop1 : ∀ i, i ≤ l1.length → ∃ r, Ev (fun n => L31_1 n l1 l3 (i : Int)) r := by
    obtain ⟨r3, h3⟩ := loop3 0 (Nat.zero_le _)
    refine down l1.length ⟨r3, Ev.succ (by simp only [L31_1, lenF, Int.lt_irrefl, if_false]; exact h3)⟩ (fun i hi ih => ?_)
    obtain ⟨x, hx, hm, hr⟩ := hF.get hi
    obtain ⟨s, p, q, cd, rfl, _, _, _, hc⟩ := rs56 hr
    by_cases g1 : 300 < (cd.length : Int)
    · refine ⟨true, Ev.succ ?_⟩
      simp only [L31_1, lenF, if_pos (ilt hi), getF_nat hx, ds_t56, if_pos g1]; exact Ev.ret
    by_cases g2 : 1000 < (s.size : Int)
    · refine ⟨true, Ev.succ ?_⟩
      simp only [L31_1, lenF, szF, if_pos (ilt hi), getF_nat hx, ds_t56, if_neg g1, if_pos g2]; exact Ev.ret
    have loop2 : ∀ j, j ≤ cd.length → ∃ r, Ev (fun n => L31_2 n l1 l3 (i : Int) (j : Int)) r := by
      obtain ⟨r1, h1⟩ := ih
      refine down cd.length ⟨r1, Ev.succ (by simpa only [L31_2, lenF, letF, getF_nat hx, ds_t56, Int.lt_irrefl, if_false, wrap_succ hi hF.1] using h1)⟩ (fun j hj ihj => ?_)
      obtain ⟨y, hy, _, hry⟩ := hc.get hj
      obtain ⟨b0, b1, b2, b3, b4, b5, b6, b7, b8, rfl, _, _, _, _, _, w5, _⟩ := rs48 hry
      obtain ⟨rl, hl⟩ := tot32 b0 b1 b2 b3 b4 w5 b6 b7 b8
      obtain ⟨r, h⟩ := ihj
      cases rl
      · refine ⟨r, Ev.succ ?_⟩
        simp only [L31_2, lenF, letF, getF_nat hx, getF_nat hy, ds_t56, ds_t48, if_pos (ilt hj), wrap_succ hj hc.1]
        exact Ev.bO1 hl (by simpa only [if_neg Bool.false_ne_true] using h)
      · refine ⟨true, Ev.succ ?_⟩
        simp only [L31_2, lenF, letF, getF_nat hx, getF_nat hy, ds_t56, ds_t48, if_pos (ilt hj), wrap_succ hj hc.1]
        exact Ev.bO1 hl (by simp only [if_true]; exact Ev.ret)
    obtain ⟨r, h⟩ := loop2 0 (Nat.zero_le _)
    refine ⟨r, Ev.succ ?_⟩
    simp only [L31_1, lenF, szF, if_pos (ilt hi), getF_nat hx, ds_t56, if_neg g1, if_neg g2]; exact h
  obtain ⟨r, h⟩ := loop1 0 (Nat.zero_le _)
  simp only [F31, lenF]
  by_cases g1 : 30 < (l1.length : Int)
  · exact ⟨true, by simp only [if_pos g1]; exact Ev.ret⟩
  by_cases g2 : 40 < (l3.length : Int)
  · exact ⟨true, by simp only [if_neg g1, if_pos g2]; exact Ev.ret⟩
  exact ⟨r, by simp only [if_neg g1, if_neg g2]; exact h⟩

end Go.Proofs.YtjobleemmjjocaaDoor
end

/- Printed by lift.py: functional texts of functions, and their contracts. No condition. -/
set_option linter.unusedVariables false
noncomputable section
namespace Go.Proofs.YtjobleemmjjocaaDoor
open Go Go.AM
def F78 (n : Nat) (z1 : Int) (s2 : ByteArray) (l3 : List D) (z4 : Int) (s5 : ByteArray) (l6 : List D) (l7 : List D) (z8 : Int) (z9 : Int) (s10 : ByteArray) (s11 : ByteArray) (s12 : ByteArray) (l13 : List D) (l14 : List D) (z15 : Int) (z16 : Int) (z17 : Int) (s18 : ByteArray) (l19 : List D) (z20 : Int) (s21 : ByteArray) (l22 : List D) (l23 : List D) (z24 : Int) (z25 : Int) (s26 : ByteArray) (s27 : ByteArray) (s28 : ByteArray) (l29 : List D) (l30 : List D) (z31 : Int) (z32 : Int) : Option (Bool × Int × ByteArray × List D × Int × ByteArray × List D × List D × Int × Int × ByteArray × ByteArray × ByteArray × List D × List D × Int × Int) :=
  (if s2 = s18 then some (true, z17, s18, l19, z20, s21, l22, l23, z24, z25, s26, s27, s28, l29, l30, z31, z32) else some (false, z17, s18, l19, z20, s21, l22, l23, z24, z25, s26, s27, s28, l29, l30, z31, z32))
set_option maxRecDepth 100000 in
set_option maxHeartbeats 40000000 in
theorem T78 (n : Nat) : ∀ ⦃z1 : Int⦄ ⦃s2 : ByteArray⦄ ⦃l3 : List D⦄ ⦃z4 : Int⦄ ⦃s5 : ByteArray⦄ ⦃l6 : List D⦄ ⦃l7 : List D⦄ ⦃z8 : Int⦄ ⦃z9 : Int⦄ ⦃s10 : ByteArray⦄ ⦃s11 : ByteArray⦄ ⦃s12 : ByteArray⦄ ⦃l13 : List D⦄ ⦃l14 : List D⦄ ⦃z15 : Int⦄ ⦃z16 : Int⦄ ⦃z17 : Int⦄ ⦃s18 : ByteArray⦄ ⦃l19 : List D⦄ ⦃z20 : Int⦄ ⦃s21 : ByteArray⦄ ⦃l22 : List D⦄ ⦃l23 : List D⦄ ⦃z24 : Int⦄ ⦃z25 : Int⦄ ⦃s26 : ByteArray⦄ ⦃s27 : ByteArray⦄ ⦃s28 : ByteArray⦄ ⦃l29 : List D⦄ ⦃l30 : List D⦄ ⦃z31 : Int⦄ ⦃z32 : Int⦄ ⦃r1 : Bool⦄ ⦃r2 : Int⦄ ⦃r3 : ByteArray⦄ ⦃r4 : List D⦄ ⦃r5 : Int⦄ ⦃r6 : ByteArray⦄ ⦃r7 : List D⦄ ⦃r8 : List D⦄ ⦃r9 : Int⦄ ⦃r10 : Int⦄ ⦃r11 : ByteArray⦄ ⦃r12 : ByteArray⦄ ⦃r13 : ByteArray⦄ ⦃r14 : List D⦄ ⦃r15 : List D⦄ ⦃r16 : Int⦄ ⦃r17 : Int⦄, F78 n z1 s2 l3 z4 s5 l6 l7 z8 z9 s10 s11 s12 l13 l14 z15 z16 z17 s18 l19 z20 s21 l22 l23 z24 z25 s26 s27 s28 l29 l30 z31 z32 = some (r1, r2, r3, r4, r5, r6, r7, r8, r9, r10, r11, r12, r13, r14, r15, r16, r17) →
    Trip Tryd.prog inv 78 [.d (.agg [.int .u8 z1, .str s2, .list true 4 l3, .int .u8 z4, .str s5, .list true 3 l6, .list true 15 l7, .int .u8 z8, .int .i64 z9, .str s10, .str s11, .str s12, .list false 1 l13, .list true 8 l14, .int .i64 z15, .int .i64 z16]), .c (.ptr (.ext 0) 0)] [.cells [.d (.int .u8 z17), .d (.str s18), .d (.list true 4 l19), .d (.int .u8 z20), .d (.str s21), .d (.list true 3 l22), .d (.list true 15 l23), .d (.int .u8 z24), .d (.int .i64 z25), .d (.str s26), .d (.str s27), .d (.str s28), .d (.list false 1 l29), .d (.list true 8 l30), .d (.int .i64 z31), .d (.int .i64 z32)]] (.v (.d (.bool r1))) [.cells [.d (.int .u8 r2), .d (.str r3), .d (.list true 4 r4), .d (.int .u8 r5), .d (.str r6), .d (.list true 3 r7), .d (.list true 15 r8), .d (.int .u8 r9), .d (.int .i64 r10), .d (.str r11), .d (.str r12), .d (.str r13), .d (.list false 1 r14), .d (.list true 8 r15), .d (.int .i64 r16), .d (.int .i64 r17)]] [] := by
  intro z1 s2 l3 z4 s5 l6 l7 z8 z9 s10 s11 s12 l13 l14 z15 z16 z17 s18 l19 z20 s21 l22 l23 z24 z25 s26 s27 s28 l29 l30 z31 z32 r1 r2 r3 r4 r5 r6 r7 r8 r9 r10 r11 r12 r13 r14 r15 r16 r17 h
  unfold F78 at h
  refine Trip.of tab_ok tab_one fol Tryd.func78 rfl (by kernel_rfl) rfl rfl rfl (fun M hM hI => ?_)
  try cbv
  refine splitS (fun e => ?_) (fun e => ?_)
  · replace h := ite_t (bytes_eq.1 e) h
    clear e
    try cbv
    obtain ⟨rfl, rfl, rfl, rfl, rfl, rfl, rfl, rfl, rfl, rfl, rfl, rfl, rfl, rfl, rfl, rfl, rfl⟩ := inj17 h
    refine fin_go ?_
    try cbv
    exact ⟨[], rfl, rfl, ⟨rfl, trivial⟩, trivial, trivial⟩
  · replace h := ite_f (bytes_ne.1 e) h
    clear e
    try cbv
    obtain ⟨rfl, rfl, rfl, rfl, rfl, rfl, rfl, rfl, rfl, rfl, rfl, rfl, rfl, rfl, rfl, rfl, rfl⟩ := inj17 h
    refine fin_go ?_
    try cbv
    exact ⟨[], rfl, rfl, ⟨rfl, trivial⟩, trivial, trivial⟩
end Go.Proofs.YtjobleemmjjocaaDoor
end
