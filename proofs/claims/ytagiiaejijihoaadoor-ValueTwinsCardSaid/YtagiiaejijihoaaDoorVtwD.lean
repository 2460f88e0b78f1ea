/- Part of a proof. No condition. (Part 4: YtagiiaejijihoaaDoorFo, YtagiiaejijihoaaDoorShelf, YtagiiaejijihoaaDoorSh, YtagiiaejijihoaaDoorWDs, YtagiiaejijihoaaDoorW24, YtagiiaejijihoaaDoorW8, YtagiiaejijihoaaDoorW26, YtagiiaejijihoaaDoorW10, YtagiiaejijihoaaDoorW27x1, YtagiiaejijihoaaDoorW28x1, YtagiiaejijihoaaDoorMk, YtagiiaejijihoaaDoorW31.) -/
import Derived.KernelRfl
import Derived.Lib.LaidTab
import Derived.Lib.ItoaNum
import Derived.Shelf.Strings.Builder1
import Derived.Shelf.Strings.Builder2
import Derived.Shelf.Strings.OnBuilder
import Derived.Shelf.Strings.BuilderF
import Derived.Shelf.Strings.BuilderK
import Derived.Shelf.Strings.Builder2Cap
import Derived.Shelf.Strconv.Itoa0
import Derived.Shelf.Strconv.Itoa1
import Derived.Shelf.LaysM
import Derived.Shelf.Strconv.Itoa2
import Derived.Shelf.Strconv.Itoa3
import Derived.Shelf.Strconv.Itoa4
import Derived.Shelf.Strings.BuilderCap
import Derived.Shelf.Slices.Equal
import Derived.Ground.Names2Prog
import Derived.Shelf.Slices.Clone
import Derived.Shelf.Slices.Empties2
import Derived.Ground.SlgnProg
import Derived.Shelf.SlicesE.Clone
import Derived.Test.YtagiiaejijihoaaDoorProg
import Derived.Lib.AppendIntMem
import Derived.Lib.ItoaLen
import Derived.Carry
import Derived.ChangeSame
import Derived.ChangeOld
import Derived.ChangeCalls
import Derived.WideShapes
import Derived.Test.YtagiiaejijihoaaDoorVtwC
set_option linter.unusedVariables false
set_option linter.unusedSimpArgs false
namespace Go.Proofs.YtagiiaejijihoaaDoor
open Go Go.AM
theorem fol : Tryd.prog.follows .mixedOrders = true := by kernel_rfl
theorem var_same {P : Program} {name : String} {g : Nat} (hg : P.globalNamed name = some g) {w w' : World} (h : w'.heap[g]? = w.heap[g]?) : w'.var? P name = w.var? P name := by
  unfold World.var?
  rw [hg]
  simp only [Option.bind_some, h]
theorem pow10_no : ∃ g, Tryd.prog.globalNamed "internal/strconv.uint64pow10" = some g := ⟨0, by kernel_rfl⟩
def inv : Inv := ⟨fun b => Tryd.prog.globalNamed "internal/strconv.uint64pow10" = some b, fun w => Lib.TabIs Tryd.prog w "internal/strconv.uint64pow10" .u64 Lib.pow10Tab, fun h hr => by
  obtain ⟨g, hg⟩ := pow10_no
  unfold Lib.TabIs at hr ⊢
  rw [var_same hg (h g hg)]
  exact hr⟩
end Go.Proofs.YtagiiaejijihoaaDoor

namespace Go.Proofs
open Go.Shelf
def Tryd.lays156_ren : Go.Shelf.Ren := ⟨fun | 156 => 40 | 165 => 42 | 166 => 43 | 169 => 44 | 240 => 49 | 241 => 50 | 276 => 56 | 277 => 57 | n => n, fun | 31 => 55 | 9 => 9 | 3 => 3 | 4 => 4 | 0 => 0 | 20 => 20 | 72 => 60 | 76 => 64 | 70 => 58 | 37 => 57 | 75 => 63 | 127 => 73 | 164 => 82 | 5 => 5 | 80 => 66 | n => n, fun | n => n⟩
theorem Tryd.lays156 : Go.Proofs.Lays.n156 Tryd.prog Tryd.lays156_ren := {
  mixed := by kernel_rfl
  f156 := Tryd.func40.trans (congrArg some (by kernel_rfl))
  f165 := Tryd.func42.trans (congrArg some (by kernel_rfl))
  f166 := Tryd.func43.trans (congrArg some (by kernel_rfl))
  f169 := Tryd.func44.trans (congrArg some (by kernel_rfl))
  f240 := Tryd.func49.trans (congrArg some (by kernel_rfl))
  f241 := Tryd.func50.trans (congrArg some (by kernel_rfl))
  f276 := Tryd.func56.trans (congrArg some (by kernel_rfl))
  f277 := Tryd.func57.trans (congrArg some (by kernel_rfl))
  t0 := Tryd.underlying0
  a0 := Tryd.isAgg0
  z0 := Tryd.sizeOf0
  v0 := Tryd.zeroValue0
  t3 := Tryd.underlying3
  a3 := Tryd.isAgg3
  z3 := Tryd.sizeOf3
  v3 := Tryd.zeroValue3
  t4 := Tryd.underlying4
  a4 := Tryd.isAgg4
  z4 := Tryd.sizeOf4
  v4 := Tryd.zeroValue4
  t9 := Tryd.underlying9
  a9 := Tryd.isAgg9
  z9 := Tryd.sizeOf9
  v9 := Tryd.zeroValue9
  t20 := Tryd.underlying20
  a20 := Tryd.isAgg20
  z20 := Tryd.sizeOf20
  v20 := Tryd.zeroValue20
  t31 := Tryd.underlying55
  a31 := Tryd.isAgg55
  z31 := Tryd.sizeOf55
  v31 := Tryd.zeroValue55
  t37 := Tryd.underlying57
  a37 := Tryd.isAgg57
  z37 := Tryd.sizeOf57
  v37 := Tryd.zeroValue57
  t70 := Tryd.underlying58
  a70 := Tryd.isAgg58
  z70 := Tryd.sizeOf58
  v70 := Tryd.zeroValue58
  t72 := Tryd.underlying60
  a72 := Tryd.isAgg60
  z72 := Tryd.sizeOf60
  v72 := Tryd.zeroValue60
  t75 := Tryd.underlying63
  a75 := Tryd.isAgg63
  z75 := Tryd.sizeOf63
  v75 := Tryd.zeroValue63
  t76 := Tryd.underlying64
  a76 := Tryd.isAgg64
  z76 := Tryd.sizeOf64
  v76 := Tryd.zeroValue64
  t127 := Tryd.underlying73
  a127 := Tryd.isAgg73
  z127 := Tryd.sizeOf73
  v127 := Tryd.zeroValue73
  t164 := Tryd.underlying82
  a164 := Tryd.isAgg82
  z164 := Tryd.sizeOf82
  v164 := Tryd.zeroValue82 }
theorem Tryd.Builder_Extra_156 : Builder.Extra Tryd.prog Tryd.lays156_ren := {
  sizeBuilder := by kernel_rfl
  liesBuilder := by kernel_rfl
  t5 := Tryd.underlying5
  a5 := Tryd.isAgg5
  z5 := Tryd.sizeOf5
  v5 := Tryd.zeroValue5
  infoByte := by kernel_rfl
  cellsByte := by kernel_rfl
  sizeByte := by kernel_rfl
  neB5 := by decide }
open Go.RowKit in
theorem Tryd.strings_Join_none (a : Option Addr) (c : Nat) (sep : ByteArray) (w : World) :
    Calls Tryd.prog 40 #[.slice a 0 c, .string sep] w fun e w' => e = .returned (.string ⟨#[]⟩) ∧ w' = w := Any.strings_Join_none Tryd.lays156 Tryd.Builder_Extra_156 a c sep w
open Go.RowKit in
theorem Tryd.strings_Join (bk o c : Nat) (xs : List ByteArray) (sep : ByteArray) (w : World) (hcells : ∀ (j : Nat) x, xs[j]? = some x → w.cell? ⟨bk, o + j, none⟩ = some (.string x)) (hbk : bk < w.heap.size) (hN : xs.length ≤ 140737488355328) (hcap : xs.length ≤ c) (hlen : (Lib.join (xs.map (·.data.toList)) sep.data.toList).length ≤ 140737488355328) :
    Calls Tryd.prog 40 #[.slice (some ⟨bk, o, none⟩) xs.length c, .string sep] w fun e w' => e = .returned (.string ⟨(Lib.join (xs.map (·.data.toList)) sep.data.toList).toArray⟩) ∧ Below w.heap.size w w' := Any.strings_Join Tryd.lays156 Tryd.Builder_Extra_156 bk o c xs sep w hcells hbk hN hcap hlen
def Tryd.laysM171_ren : Go.Shelf.Ren := ⟨fun | 171 => 32 | 243 => 39 | 246 => 41 | 283 => 45 | 284 => 46 | 285 => 47 | 286 => 48 | 129 => 52 | 317 => 51 | 318 => 53 | 319 => 54 | 320 => 55 | 337 => 58 | 338 => 59 | n => n, fun | 3 => 3 | 9 => 9 | 2 => 2 | 4 => 4 | 171 => 67 | 0 => 0 | 53 => 68 | 37 => 57 | 5 => 5 | 173 => 71 | 212 => 76 | 51 => 77 | 20 => 20 | 213 => 78 | 46 => 80 | 232 => 86 | 233 => 87 | n => n, fun | 17 => 0 | 18 => 2 | 19 => 3 | n => n⟩
theorem Tryd.laysM171 : Go.Proofs.LaysM.n171 Tryd.prog Tryd.laysM171_ren := {
  mixed := by kernel_rfl
  f129 := Tryd.func52.trans (congrArg some (by kernel_rfl))
  f171 := Tryd.func32.trans (congrArg some (by kernel_rfl))
  f243 := Tryd.func39.trans (congrArg some (by kernel_rfl))
  f246 := Tryd.func41.trans (congrArg some (by kernel_rfl))
  f283 := Tryd.func45.trans (congrArg some (by kernel_rfl))
  f284 := Tryd.func46.trans (congrArg some (by kernel_rfl))
  f285 := Tryd.func47.trans (congrArg some (by kernel_rfl))
  f286 := Tryd.func48.trans (congrArg some (by kernel_rfl))
  f317 := Tryd.func51.trans (congrArg some (by kernel_rfl))
  f318 := Tryd.func53.trans (congrArg some (by kernel_rfl))
  f319 := Tryd.func54.trans (congrArg some (by kernel_rfl))
  f320 := Tryd.func55.trans (congrArg some (by kernel_rfl))
  f337 := Tryd.func58.trans (congrArg some (by kernel_rfl))
  f338 := Tryd.func59.trans (congrArg some (by kernel_rfl))
  t0 := Tryd.underlying0
  a0 := Tryd.isAgg0
  z0 := Tryd.sizeOf0
  v0 := Tryd.zeroValue0
  t2 := Tryd.underlying2
  a2 := Tryd.isAgg2
  z2 := Tryd.sizeOf2
  v2 := Tryd.zeroValue2
  t3 := Tryd.underlying3
  a3 := Tryd.isAgg3
  z3 := Tryd.sizeOf3
  v3 := Tryd.zeroValue3
  t4 := Tryd.underlying4
  a4 := Tryd.isAgg4
  z4 := Tryd.sizeOf4
  v4 := Tryd.zeroValue4
  t5 := Tryd.underlying5
  a5 := Tryd.isAgg5
  z5 := Tryd.sizeOf5
  v5 := Tryd.zeroValue5
  t9 := Tryd.underlying9
  a9 := Tryd.isAgg9
  z9 := Tryd.sizeOf9
  v9 := Tryd.zeroValue9
  t20 := Tryd.underlying20
  a20 := Tryd.isAgg20
  z20 := Tryd.sizeOf20
  v20 := Tryd.zeroValue20
  t37 := Tryd.underlying57
  a37 := Tryd.isAgg57
  z37 := Tryd.sizeOf57
  v37 := Tryd.zeroValue57
  t46 := Tryd.underlying80
  a46 := Tryd.isAgg80
  z46 := Tryd.sizeOf80
  v46 := Tryd.zeroValue80
  t51 := Tryd.underlying77
  a51 := Tryd.isAgg77
  z51 := Tryd.sizeOf77
  v51 := Tryd.zeroValue77
  t53 := Tryd.underlying68
  a53 := Tryd.isAgg68
  z53 := Tryd.sizeOf68
  v53 := Tryd.zeroValue68
  t171 := Tryd.underlying67
  a171 := Tryd.isAgg67
  z171 := Tryd.sizeOf67
  v171 := Tryd.zeroValue67
  t173 := Tryd.underlying71
  a173 := Tryd.isAgg71
  z173 := Tryd.sizeOf71
  v173 := Tryd.zeroValue71
  t212 := Tryd.underlying76
  a212 := Tryd.isAgg76
  z212 := Tryd.sizeOf76
  v212 := Tryd.zeroValue76
  t213 := Tryd.underlying78
  a213 := Tryd.isAgg78
  z213 := Tryd.sizeOf78
  t232 := Tryd.underlying86
  a232 := Tryd.isAgg86
  z232 := Tryd.sizeOf86
  v232 := Tryd.zeroValue86
  t233 := Tryd.underlying87
  a233 := Tryd.isAgg87
  z233 := Tryd.sizeOf87
  v233 := Tryd.zeroValue87
  g17 := by kernel_rfl
  g18 := by kernel_rfl
  g19 := by kernel_rfl
  i0 := by kernel_rfl
  i2 := by kernel_rfl
  i3 := by kernel_rfl
  i4 := by kernel_rfl
  i5 := by kernel_rfl
  i9 := by kernel_rfl
  i20 := by kernel_rfl
  i37 := by kernel_rfl
  i46 := by kernel_rfl
  i51 := by kernel_rfl
  i53 := by kernel_rfl
  i171 := by kernel_rfl
  i173 := by kernel_rfl
  i212 := by kernel_rfl
  i232 := by kernel_rfl
  i233 := by kernel_rfl
  m17 := by kernel_rfl
  m18 := by kernel_rfl
  m19 := by kernel_rfl }
open Go.RowKit Go.Sort Go.Lib in
theorem Tryd.strconv_Itoa (n : Int) (h0 : -9223372036854775808 ≤ n) (h1 : n ≤ 9223372036854775807) (w : World) (htab : Lib.TabIs Tryd.prog w "internal/strconv.uint64pow10" .u64 Lib.pow10Tab) :
    Calls Tryd.prog 32 #[.int .i64 n] w fun e w' => e = .returned (.string ⟨(Lib.itoa n).toArray⟩) ∧ ∃ k os, w' = grow (w.drewN k) os := Any.strconv_Itoa Tryd.laysM171 n h0 h1 w htab
def Tryd.laysM173_ren : Go.Shelf.Ren := ⟨fun | 173 => 34 | 246 => 41 | 283 => 45 | 284 => 46 | 285 => 47 | 286 => 48 | 129 => 52 | 317 => 51 | 318 => 53 | 319 => 54 | 320 => 55 | 337 => 58 | 338 => 59 | n => n, fun | 2 => 2 | 3 => 3 | 9 => 9 | 4 => 4 | 171 => 67 | 0 => 0 | 53 => 68 | 37 => 57 | 5 => 5 | 173 => 71 | 212 => 76 | 51 => 77 | 20 => 20 | 213 => 78 | 46 => 80 | 232 => 86 | 233 => 87 | n => n, fun | 17 => 0 | 18 => 2 | 19 => 3 | n => n⟩
theorem Tryd.laysM173 : Go.Proofs.LaysM.n173 Tryd.prog Tryd.laysM173_ren := {
  mixed := by kernel_rfl
  f129 := Tryd.func52.trans (congrArg some (by kernel_rfl))
  f173 := Tryd.func34.trans (congrArg some (by kernel_rfl))
  f246 := Tryd.func41.trans (congrArg some (by kernel_rfl))
  f283 := Tryd.func45.trans (congrArg some (by kernel_rfl))
  f284 := Tryd.func46.trans (congrArg some (by kernel_rfl))
  f285 := Tryd.func47.trans (congrArg some (by kernel_rfl))
  f286 := Tryd.func48.trans (congrArg some (by kernel_rfl))
  f317 := Tryd.func51.trans (congrArg some (by kernel_rfl))
  f318 := Tryd.func53.trans (congrArg some (by kernel_rfl))
  f319 := Tryd.func54.trans (congrArg some (by kernel_rfl))
  f320 := Tryd.func55.trans (congrArg some (by kernel_rfl))
  f337 := Tryd.func58.trans (congrArg some (by kernel_rfl))
  f338 := Tryd.func59.trans (congrArg some (by kernel_rfl))
  t0 := Tryd.underlying0
  a0 := Tryd.isAgg0
  z0 := Tryd.sizeOf0
  v0 := Tryd.zeroValue0
  t2 := Tryd.underlying2
  a2 := Tryd.isAgg2
  z2 := Tryd.sizeOf2
  v2 := Tryd.zeroValue2
  t3 := Tryd.underlying3
  a3 := Tryd.isAgg3
  z3 := Tryd.sizeOf3
  v3 := Tryd.zeroValue3
  t4 := Tryd.underlying4
  a4 := Tryd.isAgg4
  z4 := Tryd.sizeOf4
  v4 := Tryd.zeroValue4
  t5 := Tryd.underlying5
  a5 := Tryd.isAgg5
  z5 := Tryd.sizeOf5
  v5 := Tryd.zeroValue5
  t9 := Tryd.underlying9
  a9 := Tryd.isAgg9
  z9 := Tryd.sizeOf9
  v9 := Tryd.zeroValue9
  t20 := Tryd.underlying20
  a20 := Tryd.isAgg20
  z20 := Tryd.sizeOf20
  v20 := Tryd.zeroValue20
  t37 := Tryd.underlying57
  a37 := Tryd.isAgg57
  z37 := Tryd.sizeOf57
  v37 := Tryd.zeroValue57
  t46 := Tryd.underlying80
  a46 := Tryd.isAgg80
  z46 := Tryd.sizeOf80
  v46 := Tryd.zeroValue80
  t51 := Tryd.underlying77
  a51 := Tryd.isAgg77
  z51 := Tryd.sizeOf77
  v51 := Tryd.zeroValue77
  t53 := Tryd.underlying68
  a53 := Tryd.isAgg68
  z53 := Tryd.sizeOf68
  v53 := Tryd.zeroValue68
  t171 := Tryd.underlying67
  a171 := Tryd.isAgg67
  z171 := Tryd.sizeOf67
  v171 := Tryd.zeroValue67
  t173 := Tryd.underlying71
  a173 := Tryd.isAgg71
  z173 := Tryd.sizeOf71
  v173 := Tryd.zeroValue71
  t212 := Tryd.underlying76
  a212 := Tryd.isAgg76
  z212 := Tryd.sizeOf76
  v212 := Tryd.zeroValue76
  t213 := Tryd.underlying78
  a213 := Tryd.isAgg78
  z213 := Tryd.sizeOf78
  t232 := Tryd.underlying86
  a232 := Tryd.isAgg86
  z232 := Tryd.sizeOf86
  v232 := Tryd.zeroValue86
  t233 := Tryd.underlying87
  a233 := Tryd.isAgg87
  z233 := Tryd.sizeOf87
  v233 := Tryd.zeroValue87
  g17 := by kernel_rfl
  g18 := by kernel_rfl
  g19 := by kernel_rfl
  i0 := by kernel_rfl
  i2 := by kernel_rfl
  i3 := by kernel_rfl
  i4 := by kernel_rfl
  i5 := by kernel_rfl
  i9 := by kernel_rfl
  i20 := by kernel_rfl
  i37 := by kernel_rfl
  i46 := by kernel_rfl
  i51 := by kernel_rfl
  i53 := by kernel_rfl
  i171 := by kernel_rfl
  i173 := by kernel_rfl
  i212 := by kernel_rfl
  i232 := by kernel_rfl
  i233 := by kernel_rfl
  m17 := by kernel_rfl
  m18 := by kernel_rfl
  m19 := by kernel_rfl }
open Go.RowKit Go.Sort Go.Lib in
theorem Tryd.strconv_FormatInt_10 (n : Int) (h0 : -9223372036854775808 ≤ n) (h1 : n ≤ 9223372036854775807) (w : World) (htab : Lib.TabIs Tryd.prog w "internal/strconv.uint64pow10" .u64 Lib.pow10Tab) :
    Calls Tryd.prog 34 #[.int .i64 n, .int .i64 10] w fun e w' => e = .returned (.string ⟨(Lib.itoa n).toArray⟩) ∧ ∃ k os, w' = grow (w.drewN k) os := Any.strconv_FormatInt_10 Tryd.laysM173 n h0 h1 w htab
end Go.Proofs

set_option linter.unusedVariables false
namespace Go.Proofs.YtagiiaejijihoaaDoor
open Go Go.AM

theorem two {vals : Array Value} (h : vals.size = 2) : ∃ v u, vals = #[v, u] :=
  ⟨vals[0], vals[1], by
    apply Array.ext
    · simpa using h
    · intro i h1 h2
      match i, h2 with
      | 0, _ => rfl
      | 1, _ => rfl⟩
theorem relStr {w : World} {Z : Zone} {s : ByteArray} {v : Value} (h : RelD w Z (.str s) v) : v = .string s := by cases h; rfl
def itoaB (z : Int) : ByteArray := ⟨(Lib.itoa z).toArray⟩
def joinB (xs : List ByteArray) (sep : ByteArray) : ByteArray := ⟨(Lib.join (xs.map (·.data.toList)) sep.data.toList).toArray⟩
def F32 (n : Nat) (z : Int) : Option ByteArray := if -9223372036854775808 ≤ z ∧ z ≤ 9223372036854775807 then some (itoaB z) else none
def F34 (n : Nat) (z b : Int) : Option ByteArray := if b = 10 ∧ -9223372036854775808 ≤ z ∧ z ≤ 9223372036854775807 then some (itoaB z) else none
def F40 (n : Nat) (l : List D) (sep : ByteArray) : Option ByteArray :=
  match strsD l with
  | some xs => if xs.length ≤ 140737488355328 ∧ (Lib.join (xs.map (·.data.toList)) sep.data.toList).length ≤ 140737488355328 then some (joinB xs sep) else none
  | none => none

theorem T32 (n : Nat) : ∀ ⦃z : Int⦄ ⦃r1 : ByteArray⦄, F32 n z = some r1 → Trip Tryd.prog inv 32 [.d (.int .i64 z)] [] (.v (.d (.str r1))) [] [] := by
  intro z r1 h
  unfold F32 at h
  split at h
  · rename_i hz
    cases h
    refine Trip.ofCalls (xs := [.int .i64 z]) ⟨_, _, Tryd.func32, rfl, by kernel_rfl⟩ fun w Z vals hr hsz hv => ?_
    obtain ⟨v, rfl⟩ : ∃ v, vals = #[v] := Array.size_eq_one_iff.1 hsz
    cases hv 0 _ _ rfl rfl
    refine (Tryd.strconv_Itoa z hz.1 hz.2 w hr).mono ?_
    rintro e w' ⟨rfl, k, os, rfl⟩
    exact ⟨_, rfl, below_apart (Lib.below_grow _ w (Nat.le_refl _) k os), fun _ _ _ => .str _⟩
  · cases h
theorem T34 (n : Nat) : ∀ ⦃z b : Int⦄ ⦃r1 : ByteArray⦄, F34 n z b = some r1 → Trip Tryd.prog inv 34 [.d (.int .i64 z), .d (.int .i64 b)] [] (.v (.d (.str r1))) [] [] := by
  intro z b r1 h
  unfold F34 at h
  split at h
  · rename_i hz
    cases h
    obtain ⟨rfl, hz⟩ := hz
    refine Trip.ofCalls (xs := [.int .i64 z, .int .i64 10]) ⟨_, _, Tryd.func34, rfl, by kernel_rfl⟩ fun w Z vals hr hsz hv => ?_
    obtain ⟨v, u, rfl⟩ : ∃ v u, vals = #[v, u] := two hsz
    cases hv 0 _ _ rfl rfl
    cases hv 1 _ _ rfl rfl
    refine (Tryd.strconv_FormatInt_10 z hz.1 hz.2 w hr).mono ?_
    rintro e w' ⟨rfl, k, os, rfl⟩
    exact ⟨_, rfl, below_apart (Lib.below_grow _ w (Nat.le_refl _) k os), fun _ _ _ => .str _⟩
  · cases h
theorem T40 (n : Nat) : ∀ ⦃l : List D⦄ ⦃sep r1 : ByteArray⦄, F40 n l sep = some r1 → Trip Tryd.prog inv 40 [.d (.list false 1 l), .d (.str sep)] [] (.v (.d (.str r1))) [] [] := by
  intro l sep r1 h
  unfold F40 at h
  split at h
  rotate_left
  · cases h
  rename_i xs hxs
  obtain rfl := strsD_map hxs
  split at h
  rotate_left
  · cases h
  rename_i hb
  cases h
  refine Trip.ofCalls (xs := [.list false 1 (xs.map D.str), .str sep]) ⟨_, _, Tryd.func40, rfl, by kernel_rfl⟩ fun w Z vals hr hsz hv => ?_
  obtain ⟨v, u, rfl⟩ : ∃ v u, vals = #[v, u] := two hsz
  cases hv 1 _ _ rfl rfl
  cases hv 0 _ _ rfl rfl with
  | list _ _ _ A cap b o U hcap hmax hfit ha hc hrr =>
    by_cases he : xs = []
    · subst he
      refine (Tryd.strings_Join_none A cap sep w).mono ?_
      rintro e w' ⟨rfl, rfl⟩
      exact ⟨_, rfl, ⟨rfl, rfl, rfl, Nat.le_refl _, fun _ _ _ => rfl⟩, fun _ _ _ => .str _⟩
    · have hA := ha (by simpa using he)
      subst hA
      have cells : ∀ (j : Nat) x, xs[j]? = some x → w.cell? ⟨b, o + j, none⟩ = some (.string x) := by
        intro j x hx
        have h1 : (xs.map D.str)[j]? = some (.str x) := by simp [hx]
        have h2 := (hc j _ 0 _ h1 rfl).1
        have h3 := hrr j _ 0 _ h1 rfl
        simp only [Nat.mul_one, Nat.add_zero] at h2
        rw [h2, relStr h3]
      have hbk : b < w.heap.size := by
        obtain ⟨x, xs', rfl⟩ := List.exists_cons_of_ne_nil he
        have := World.block_lt_of_cell? w ⟨b, o + 0, none⟩ (cells 0 x rfl)
        exact this
      have := Tryd.strings_Join b o cap xs sep w cells hbk hb.1 (by simpa using hcap) hb.2
      rw [List.length_map]
      refine this.mono ?_
      rintro e w' ⟨rfl, hbl⟩
      exact ⟨_, rfl, below_apart hbl, fun _ _ _ => .str _⟩
end Go.Proofs.YtagiiaejijihoaaDoor

set_option linter.unusedVariables false
noncomputable section
namespace Go.Proofs.YtagiiaejijihoaaDoor
open Go Go.AM
def ds_t25 {γ : Type} (x : D) (k : Int → Int → ByteArray → List D → Int → List D → Option γ) : Option γ := match x with | .agg [.int .u8 a0, .int .i64 a1, .str a2, .list true 6 a3, .int .i64 a4, .list false 1 a5] => k a0 a1 a2 a3 a4 a5 | _ => none
theorem ds_t25_inv {γ : Type} {x : D} {k : Int → Int → ByteArray → List D → Int → List D → Option γ} {r : γ} (h : ds_t25 x k = some r) : ∃ a0 a1 a2 a3 a4 a5, x = .agg [.int .u8 a0, .int .i64 a1, .str a2, .list true 6 a3, .int .i64 a4, .list false 1 a5] ∧ k a0 a1 a2 a3 a4 a5 = some r := by
  unfold ds_t25 at h
  split at h
  · exact ⟨_, _, _, _, _, _, rfl, h⟩
  · cases h
def ds_i64 {γ : Type} (x : D) (k : Int → Option γ) : Option γ := match x with | .int .i64 a0 => k a0 | _ => none
theorem ds_i64_inv {γ : Type} {x : D} {k : Int → Option γ} {r : γ} (h : ds_i64 x k = some r) : ∃ a0, x = .int .i64 a0 ∧ k a0 = some r := by
  unfold ds_i64 at h
  split at h
  · exact ⟨_, rfl, h⟩
  · cases h
def k__ : ByteArray := ⟨#[63]⟩
def k___1 : ByteArray := ⟨#[45]⟩
def k_i : ByteArray := ⟨#[105]⟩
def k_b : ByteArray := ⟨#[98]⟩
def k_u : ByteArray := ⟨#[117]⟩
def k_s : ByteArray := ⟨#[115]⟩
def k_e : ByteArray := ⟨#[101]⟩
def k_B : ByteArray := ⟨#[66]⟩
def k_C : ByteArray := ⟨#[67]⟩
def k_R : ByteArray := ⟨#[82]⟩
def k_A : ByteArray := ⟨#[65]⟩
def k_M : ByteArray := ⟨#[77]⟩
def k_T : ByteArray := ⟨#[84]⟩
def k_S : ByteArray := ⟨#[83]⟩
def k_V : ByteArray := ⟨#[86]⟩
def k_r : ByteArray := ⟨#[114]⟩
def k_m : ByteArray := ⟨#[109]⟩
def ds_str {γ : Type} (x : D) (k : ByteArray → Option γ) : Option γ := match x with | .str a0 => k a0 | _ => none
theorem ds_str_inv {γ : Type} {x : D} {k : ByteArray → Option γ} {r : γ} (h : ds_str x k = some r) : ∃ a0, x = .str a0 ∧ k a0 = some r := by
  unfold ds_str at h
  split at h
  · exact ⟨_, rfl, h⟩
  · cases h
def k___2 : ByteArray := ⟨#[44]⟩
def k___3 : ByteArray := ⟨#[58]⟩
def k___4 : ByteArray := ⟨#[40]⟩
def k___ : ByteArray := ⟨#[41, 91]⟩
def k___5 : ByteArray := ⟨#[93]⟩
def k__ibuseBCRAMTSVrm : ByteArray := ⟨#[45, 105, 98, 117, 115, 101, 66, 67, 82, 65, 77, 84, 83, 86, 114, 109]⟩
end Go.Proofs.YtagiiaejijihoaaDoor
end

set_option linter.unusedVariables false
noncomputable section
namespace Go.Proofs.YtagiiaejijihoaaDoor
open Go Go.AM
mutual
def L24_1 : Nat → (List D) → Int → Int → Option (Int)
  | 0, _, _, _ => none
  | n + 1, l1, z3, z4 =>
    lenF l1 fun z5 => (if z4 < z5 then (if (0 : Int) ≤ z3 then L24_2 n l1 z3 z4 true else L24_2 n l1 z3 z4 false) else L24_2 n l1 z3 z4 false)
def L24_2 : Nat → (List D) → Int → Int → Bool → Option (Int)
  | 0, _, _, _, _ => none
  | n + 1, l1, z3, z4, b6 =>
    (if b6 = true then getF l1 z4 fun x7 => ds_t25 x7 fun z8 z9 s10 l11 z12 l13 => letF (IntKind.wrap .i64 (z3 - 10)) fun z14 => (if z14 < (0 : Int) then L24_3 n l1 z4 s10 l11 l13 z14 true else szF s10 fun z15 => (if z14 < z15 then L24_3 n l1 z4 s10 l11 l13 z14 true else lenF l13 fun z16 => szF s10 fun z17 => letF (IntKind.wrap .i64 (z14 - z17)) fun z18 => (if z18 < z16 then L24_3 n l1 z4 s10 l11 l13 z14 true else L24_3 n l1 z4 s10 l11 l13 z14 false))) else some z3)
def L24_3 : Nat → (List D) → Int → ByteArray → (List D) → (List D) → Int → Bool → Option (Int)
  | 0, _, _, _, _, _, _, _ => none
  | n + 1, l1, z4, s10, l11, l13, z14, b19 =>
    (if b19 = true then some (-1 : Int) else szF s10 fun z20 => letF (IntKind.wrap .i64 (z14 - z20)) fun z21 => lenF l13 fun z22 => letF (IntKind.wrap .i64 (z21 - z22)) fun z23 => bO1 (F24 n l11 z23) fun z24 => letF (IntKind.wrap .i64 (z4 + 1)) fun z25 => L24_1 n l1 z24 z25)
def F24 : Nat → (List D) → Int → Option (Int)
  | 0, _, _ => none
  | n + 1, l1, z2 =>
    L24_1 n l1 z2 (0 : Int)
end
set_option maxRecDepth 100000 in
set_option maxHeartbeats 40000000 in
theorem T24 (n : Nat) : ∀ ⦃l1 : List D⦄ ⦃z2 : Int⦄ ⦃r1 : Int⦄, F24 n l1 z2 = some r1 →
    Trip Tryd.prog inv 24 [.d (.list true 6 l1), .d (.int .i64 z2)] [] (.v (.d (.int .i64 r1))) [] [] := by
  induction n using Nat.strongRecOn with
  | _ n ih =>
    cases n with
    | zero =>
      intro l1 z2 r1 h
      cases (show (none : Option _) = some _ from h)
    | succ n =>
      intro l1 z2 r1 h
      rw [F24] at h
      refine Trip.of tab_ok tab_one fol Tryd.func24 rfl (by kernel_rfl) rfl rfl rfl (fun M hM hI => ?_)
      try cbv
      refine seq_go ?_
      try cbv
      refine seq_go ?_
      try cbv
      refine seq_go ?_
      try cbv
      refine loop_inv (T := Nat × Int × Int) [0, 1, 4, 5] [] 64 (fun t => ⟨[(0, .v (.d (.list true 6 l1))), (1, .v (.d (.int .i64 t.2.1))), (4, .v (.d (.int .i64 0))), (5, .v (.d (.int .i64 t.2.2)))], [], 64⟩)
        (fun t => t.1 ≤ n ∧ L24_1 t.1 l1 t.2.1 t.2.2 = some r1) (fun t => t.1) (n, (z2, (0 : Int))) ⟨Nat.le_refl _, h⟩ (by cbv) ?_
      clear h
      rintro ⟨m1, z3, z4⟩ ⟨hm1, h⟩
      replace hm1 : m1 ≤ n := hm1
      cases m1 with
      | zero =>
        replace h : L24_1 0 l1 z3 z4 = some r1 := h
        rw [L24_1] at h
        cases h
      | succ m1 =>
        replace h : L24_1 (m1 + 1) l1 z3 z4 = some r1 := h
        rw [L24_1] at h
        try cbv
        refine seq_go ?_
        try cbv
        refine seq_join (T := Nat × Bool) (fun t => ⟨[(0, .v (.d (.list true 6 l1))), (1, .v (.d (.int .i64 z3))), (4, .v (.d (.int .i64 0))), (5, .v (.d (.int .i64 z4))), (14, .v (.d (.bool t.2)))], [], 320⟩) (fun t => t.1 ≤ m1 ∧ L24_2 t.1 l1 z3 z4 t.2 = some r1) ?_ ?_
        · try cbv
          replace h := lenF_inv M h
          obtain ⟨z5, hz, h⟩ := h
          refine ⟨z5, hz, ?_⟩
          clear hz
          try cbv
          refine splitL (fun e => ?_) (fun e => ?_)
          · replace h := ite_t e h
            clear e
            try cbv
            refine splitLe (fun e => ?_) (fun e => ?_)
            · replace h := ite_t e h
              clear e
              try cbv
              exact join_next (m1, true) [0, 1, 4, 5, 14] [] 320 ⟨by omega, h⟩ (by cbv)
            · replace h := ite_f (Int.not_le.2 e) h
              clear e
              try cbv
              exact join_next (m1, false) [0, 1, 4, 5, 14] [] 320 ⟨by omega, h⟩ (by cbv)
          · replace h := ite_f (Int.not_lt.2 e) h
            clear e
            try cbv
            exact join_next (m1, false) [0, 1, 4, 5, 14] [] 320 ⟨by omega, h⟩ (by cbv)
        · clear h
          rintro ⟨m2, b6⟩ ⟨hm2, h⟩
          replace hm2 : m2 ≤ m1 := hm2
          cases m2 with
          | zero =>
            replace h : L24_2 0 l1 z3 z4 b6 = some r1 := h
            rw [L24_2] at h
            cases h
          | succ m2 =>
            replace h : L24_2 (m2 + 1) l1 z3 z4 b6 = some r1 := h
            rw [L24_2] at h
            try cbv
            cases b6
            · replace h := ite_f Bool.false_ne_true h
              try cbv
              refine seq_go ?_
              try cbv
              obtain rfl := Option.some.inj h
              refine fin_go ?_
              try cbv
              exact ⟨[], rfl, rfl, trivial, trivial, trivial⟩
            · replace h := ite_t rfl h
              try cbv
              refine seq_go ?_
              try cbv
              refine seq_go ?_
              try cbv
              replace h := getF_inv h
              obtain ⟨x7, hx7, h⟩ := h
              replace h := ds_t25_inv h
              obtain ⟨z8, z9, s10, l11, z12, l13, rfl, h⟩ := h
              refine ⟨_, hx7.1, hx7.2, ?_⟩
              try cbv
              refine seq_go ?_
              try cbv
              replace h := letF_inv h
              obtain ⟨z14, hz, h⟩ := h
              refine ⟨z14, hz, ?_⟩
              clear hz
              try cbv
              refine seq_go ?_
              try cbv
              refine seq_join (T := Nat × Bool) (fun t => ⟨[(0, .v (.d (.list true 6 l1))), (1, .v (.d (.int .i64 z14))), (4, .v (.d (.int .i64 0))), (5, .v (.d (.int .i64 z4))), (6, .v (.c (.ptr (.loc 448) 0))), (42, .v (.d (.bool t.2)))], [(.loc 448, .cells [.d (.int .u8 z8), .d (.int .i64 z9), .d (.str s10), .d (.list true 6 l11), .d (.int .i64 z12), .d (.list false 1 l13)])], 1248⟩) (fun t => t.1 ≤ m2 ∧ L24_3 t.1 l1 z4 s10 l11 l13 z14 t.2 = some r1) ?_ ?_
              · try cbv
                refine splitL (fun e => ?_) (fun e => ?_)
                · replace h := ite_t e h
                  clear e
                  try cbv
                  exact join_next (m2, true) [0, 1, 4, 5, 6, 42] [.loc 448] 1248 ⟨by omega, h⟩ (by cbv)
                · replace h := ite_f (Int.not_lt.2 e) h
                  clear e
                  try cbv
                  replace h := szF_inv M h
                  obtain ⟨z15, hz, h⟩ := h
                  refine ⟨z15, hz, ?_⟩
                  clear hz
                  try cbv
                  refine splitL (fun e => ?_) (fun e => ?_)
                  · replace h := ite_t e h
                    clear e
                    try cbv
                    exact join_next (m2, true) [0, 1, 4, 5, 6, 42] [.loc 448] 1248 ⟨by omega, h⟩ (by cbv)
                  · replace h := ite_f (Int.not_lt.2 e) h
                    clear e
                    try cbv
                    replace h := lenF_inv M h
                    obtain ⟨z16, hz, h⟩ := h
                    refine ⟨z16, hz, ?_⟩
                    clear hz
                    try cbv
                    replace h := szF_inv M h
                    obtain ⟨z17, hz, h⟩ := h
                    refine ⟨z17, hz, ?_⟩
                    clear hz
                    try cbv
                    replace h := letF_inv h
                    obtain ⟨z18, hz, h⟩ := h
                    refine ⟨z18, hz, ?_⟩
                    clear hz
                    try cbv
                    refine splitL (fun e => ?_) (fun e => ?_)
                    · replace h := ite_t e h
                      clear e
                      try cbv
                      exact join_next (m2, true) [0, 1, 4, 5, 6, 42] [.loc 448] 1248 ⟨by omega, h⟩ (by cbv)
                    · replace h := ite_f (Int.not_lt.2 e) h
                      clear e
                      try cbv
                      exact join_next (m2, false) [0, 1, 4, 5, 6, 42] [.loc 448] 1248 ⟨by omega, h⟩ (by cbv)
              · clear h
                rintro ⟨m3, b19⟩ ⟨hm3, h⟩
                replace hm3 : m3 ≤ m2 := hm3
                cases m3 with
                | zero =>
                  replace h : L24_3 0 l1 z4 s10 l11 l13 z14 b19 = some r1 := h
                  rw [L24_3] at h
                  cases h
                | succ m3 =>
                  replace h : L24_3 (m3 + 1) l1 z4 s10 l11 l13 z14 b19 = some r1 := h
                  rw [L24_3] at h
                  try cbv
                  cases b19
                  · replace h := ite_f Bool.false_ne_true h
                    try cbv
                    replace h := szF_inv M h
                    obtain ⟨z20, hz, h⟩ := h
                    refine ⟨z20, hz, ?_⟩
                    clear hz
                    try cbv
                    replace h := letF_inv h
                    obtain ⟨z21, hz, h⟩ := h
                    refine ⟨z21, hz, ?_⟩
                    clear hz
                    try cbv
                    replace h := lenF_inv M h
                    obtain ⟨z22, hz, h⟩ := h
                    refine ⟨z22, hz, ?_⟩
                    clear hz
                    try cbv
                    replace h := letF_inv h
                    obtain ⟨z23, hz, h⟩ := h
                    refine ⟨z23, hz, ?_⟩
                    clear hz
                    try cbv
                    replace h := bO1_inv h
                    obtain ⟨z24, hr, h⟩ := h
                    refine call_go rfl rfl ?_
                    try cbv
                    refine call_pure hM hI ((ih _ (by omega)) hr) rfl ?_
                    clear hr
                    try cbv
                    replace h := letF_inv h
                    obtain ⟨z25, hz, h⟩ := h
                    refine ⟨z25, hz, ?_⟩
                    clear hz
                    try cbv
                    exact loop_next (m3, (z24, z25)) [0, 1, 4, 5] [] 64 ⟨by omega, h⟩ (Nat.lt_succ_of_le (by omega)) (by cbv)
                  · replace h := ite_t rfl h
                    try cbv
                    refine seq_go ?_
                    try cbv
                    obtain rfl := Option.some.inj h
                    refine fin_go ?_
                    try cbv
                    exact ⟨[], rfl, rfl, trivial, trivial, trivial⟩
end Go.Proofs.YtagiiaejijihoaaDoor
end

set_option linter.unusedVariables false
noncomputable section
namespace Go.Proofs.YtagiiaejijihoaaDoor
open Go Go.AM
def F8 (n : Nat) (z1 : Int) (z2 : Int) (s3 : ByteArray) (l4 : List D) (z5 : Int) (l6 : List D) (z7 : Int) (z8 : Int) (s9 : ByteArray) (l10 : List D) (z11 : Int) (l12 : List D) (l13 : List D) : Option (Bool) :=
  lenF l13 fun z14 => (if (100 : Int) < z14 then some true else bO1 (F24 n ([.agg [.int .u8 z1, .int .i64 z2, .str s3, .list true 6 l4, .int .i64 z5, .list false 1 l6]]) (5000 : Int)) fun z15 => bO1 (F24 n ([.agg [.int .u8 z7, .int .i64 z8, .str s9, .list true 6 l10, .int .i64 z11, .list false 1 l12]]) z15) fun z16 => (if z16 < (0 : Int) then some true else some false))
set_option maxRecDepth 100000 in
set_option maxHeartbeats 40000000 in
theorem T8 (n : Nat) : ∀ ⦃z1 : Int⦄ ⦃z2 : Int⦄ ⦃s3 : ByteArray⦄ ⦃l4 : List D⦄ ⦃z5 : Int⦄ ⦃l6 : List D⦄ ⦃z7 : Int⦄ ⦃z8 : Int⦄ ⦃s9 : ByteArray⦄ ⦃l10 : List D⦄ ⦃z11 : Int⦄ ⦃l12 : List D⦄ ⦃l13 : List D⦄ ⦃r1 : Bool⦄, F8 n z1 z2 s3 l4 z5 l6 z7 z8 s9 l10 z11 l12 l13 = some r1 →
    Trip Tryd.prog inv 8 [.d (.agg [.int .u8 z1, .int .i64 z2, .str s3, .list true 6 l4, .int .i64 z5, .list false 1 l6]), .d (.agg [.int .u8 z7, .int .i64 z8, .str s9, .list true 6 l10, .int .i64 z11, .list false 1 l12]), .d (.list false 1 l13)] [] (.v (.d (.bool r1))) [] [] := by
  intro z1 z2 s3 l4 z5 l6 z7 z8 s9 l10 z11 l12 l13 r1 h
  unfold F8 at h
  refine Trip.of tab_ok tab_one fol Tryd.func8 rfl (by kernel_rfl) rfl rfl rfl (fun M hM hI => ?_)
  try cbv
  refine seq_go ?_
  try cbv
  refine seq_go ?_
  try cbv
  replace h := lenF_inv M h
  obtain ⟨z14, hz, h⟩ := h
  refine ⟨z14, hz, ?_⟩
  clear hz
  try cbv
  refine splitL (fun e => ?_) (fun e => ?_)
  · replace h := ite_t e h
    clear e
    try cbv
    refine drawn ?_ ?_
    · show _ = true
      kernel_rfl
    try cbv
    obtain rfl := Option.some.inj h
    refine fin_go ?_
    try cbv
    exact ⟨[], rfl, rfl, trivial, trivial, trivial⟩
  · replace h := ite_f (Int.not_lt.2 e) h
    clear e
    try cbv
    refine ⟨false, ?_⟩
    try cbv
    refine ⟨true, ?_⟩
    try cbv
    refine ⟨false, ?_⟩
    try cbv
    refine ⟨true, ?_⟩
    try cbv
    replace h := bO1_inv h
    obtain ⟨z15, hr, h⟩ := h
    first | refine .inr (.inl ⟨[], ?_⟩) | refine .inl ⟨[], ?_⟩
    try cbv
    refine call_pure hM hI (T24 _ hr) rfl ?_
    clear hr
    try cbv
    replace h := bO1_inv h
    obtain ⟨z16, hr, h⟩ := h
    first | refine .inr (.inl ⟨[], ?_⟩) | refine .inl ⟨[], ?_⟩
    try cbv
    refine call_pure hM hI (T24 _ hr) rfl ?_
    clear hr
    try cbv
    refine splitL (fun e => ?_) (fun e => ?_)
    · replace h := ite_t e h
      clear e
      try cbv
      refine drawn ?_ ?_
      · show _ = true
        kernel_rfl
      try cbv
      obtain rfl := Option.some.inj h
      refine fin_go ?_
      try cbv
      exact ⟨[], rfl, rfl, trivial, trivial, trivial⟩
    · replace h := ite_f (Int.not_lt.2 e) h
      clear e
      try cbv
      refine drawn ?_ ?_
      · show _ = true
        kernel_rfl
      try cbv
      obtain rfl := Option.some.inj h
      refine fin_go ?_
      try cbv
      exact ⟨[], rfl, rfl, trivial, trivial, trivial⟩
end Go.Proofs.YtagiiaejijihoaaDoor
end

set_option linter.unusedVariables false
noncomputable section
namespace Go.Proofs.YtagiiaejijihoaaDoor
open Go Go.AM
def L26_1 : Nat → (List D) → Bool → Option (List D)
  | 0, _, _ => none
  | n + 1, l1, b2 =>
    (if b2 = true then some ([] : List D) else needF (scalB l1 = true) (appF 8 ([] : List D) l1 fun l3 => some l3))
def F26 (n : Nat) (l1 : List D) : Option (List D) :=
  (nilF l1 (L26_1 n l1 true) (L26_1 n l1 false))
set_option maxRecDepth 100000 in
set_option maxHeartbeats 40000000 in
theorem T26 (n : Nat) : ∀ ⦃l1 : List D⦄ ⦃r1 : List D⦄, F26 n l1 = some r1 →
    Trip Tryd.prog inv 26 [.d (.list false 1 l1)] [] (.v (.c (.ow (.loc 0)))) [] [.tree .row false 1 r1 none] := by
  intro l1 r1 h
  unfold F26 at h
  refine Trip.of tab_ok tab_one fol Tryd.func26 rfl (by kernel_rfl) rfl rfl rfl (fun M hM hI => ?_)
  try cbv
  refine seq_go ?_
  try cbv
  refine seq_go ?_
  try cbv
  refine seq_join (T := Nat × Bool) (fun t => ⟨[(0, .v (.d (.list false 1 l1))), (2, .v (.c (.nils false 1))), (4, .v (.d (.bool t.2)))], [], 96⟩) (fun t => t.1 ≤ n ∧ L26_1 t.1 l1 t.2 = some r1) ?_ ?_
  · try cbv
    replace h := nilF_inv h
    obtain ⟨h, hA⟩ := h
    refine nil_both ?_ (fun e => ?_)
    · clear hA
      try cbv
      exact join_next (n, false) [0, 2, 4] [] 96 ⟨by omega, h⟩ (by cbv)
    · replace h := hA e
      clear hA
      try cbv
      exact join_next (n, true) [0, 2, 4] [] 96 ⟨by omega, h⟩ (by cbv)
  · clear h
    rintro ⟨m1, b2⟩ ⟨hm1, h⟩
    replace hm1 : m1 ≤ n := hm1
    cases m1 with
    | zero =>
      replace h : L26_1 0 l1 b2 = some r1 := h
      rw [L26_1] at h
      cases h
    | succ m1 =>
      replace h : L26_1 (m1 + 1) l1 b2 = some r1 := h
      rw [L26_1] at h
      try cbv
      cases b2
      · replace h := ite_f Bool.false_ne_true h
        try cbv
        refine seq_go ?_
        try cbv
        refine ⟨true, ?_⟩
        try cbv
        refine ⟨[], ?_⟩
        try cbv
        refine ⟨[], rfl, ?_⟩
        try cbv
        refine op_pl ?_
        try cbv
        refine ⟨true, ?_⟩
        try cbv
        refine ⟨true, ?_⟩
        try cbv
        refine ⟨[], ?_⟩
        try cbv
        replace h := needF_inv h
        obtain ⟨hs, h⟩ := h
        replace h := appF_inv h
        obtain ⟨l3, hb, hz, h⟩ := h
        refine ⟨scalB_iff.1 hs, (M.lock_iff _).2 hb, l3, hz, ?_⟩
        clear hs hb hz
        try cbv
        obtain rfl := Option.some.inj h
        refine fin_go ?_
        try cbv
        exact ⟨[.loc 160], rfl, rfl, trivial, ⟨rfl, trivial⟩, trivial⟩
      · replace h := ite_t rfl h
        try cbv
        refine seq_go ?_
        try cbv
        obtain rfl := Option.some.inj h
        refine ⟨_, _, _, ⟨rfl, rfl, rfl⟩, [.treeS 2 false 1], ?_⟩
        try cbv
        exact ⟨[.loc 128], rfl, rfl, trivial, ⟨rfl, trivial⟩, trivial⟩
end Go.Proofs.YtagiiaejijihoaaDoor
end

set_option linter.unusedVariables false
noncomputable section
namespace Go.Proofs.YtagiiaejijihoaaDoor
open Go Go.AM
mutual
def L10_1 : Nat → Int → Int → ByteArray → (List D) → Int → (List D) → Int → Int → (List D) → Option (Int × Int × ByteArray × Int × List D × List D)
  | 0, _, _, _, _, _, _, _, _, _ => none
  | n + 1, z1, z2, s3, l4, z5, l6, z7, z8, l9 =>
    (if z8 < z7 then L10_2 n z1 z2 s3 l4 z5 l6 z7 z8 l9 true else L10_2 n z1 z2 s3 l4 z5 l6 z7 z8 l9 false)
def L10_2 : Nat → Int → Int → ByteArray → (List D) → Int → (List D) → Int → Int → (List D) → Bool → Option (Int × Int × ByteArray × Int × List D × List D)
  | 0, _, _, _, _, _, _, _, _, _, _ => none
  | n + 1, z1, z2, s3, l4, z5, l6, z7, z8, l9, b10 =>
    (if b10 = true then getF l4 z8 fun x11 => ds_t25 x11 fun z12 z13 s14 l15 z16 l17 => bO6 (F10 n z12 z13 s14 l15 z16 l17) fun z18 z19 s20 z21 l22 l23 => appF 88 l9 ([.agg [.int .u8 z18, .int .i64 z19, .str s20, .list true 6 l22, .int .i64 z21, .list false 1 l23]]) fun l24 => letF (IntKind.wrap .i64 (z8 + 1)) fun z25 => L10_1 n z1 z2 s3 l4 z5 l6 z7 z25 l24 else bO1 (F26 n l6) fun l26 => some (z1, z2, s3, z5, l9, l26))
def F10 : Nat → Int → Int → ByteArray → (List D) → Int → (List D) → Option (Int × Int × ByteArray × Int × List D × List D)
  | 0, _, _, _, _, _, _ => none
  | n + 1, z1, z2, s3, l4, z5, l6 =>
    lenF l4 fun z7 => L10_1 n z1 z2 s3 l4 z5 l6 z7 (0 : Int) ([] : List D)
end
set_option maxRecDepth 100000 in
set_option maxHeartbeats 40000000 in
theorem T10 (n : Nat) : ∀ ⦃z1 : Int⦄ ⦃z2 : Int⦄ ⦃s3 : ByteArray⦄ ⦃l4 : List D⦄ ⦃z5 : Int⦄ ⦃l6 : List D⦄ ⦃r1 : Int⦄ ⦃r2 : Int⦄ ⦃r3 : ByteArray⦄ ⦃r4 : Int⦄ ⦃r5 : List D⦄ ⦃r6 : List D⦄, F10 n z1 z2 s3 l4 z5 l6 = some (r1, r2, r3, r4, r5, r6) →
    Trip Tryd.prog inv 10 [.d (.agg [.int .u8 z1, .int .i64 z2, .str s3, .list true 6 l4, .int .i64 z5, .list false 1 l6])] [] (.v (.agg [.d (.int .u8 r1), .d (.int .i64 r2), .d (.str r3), .ow (.loc 0), .d (.int .i64 r4), .ow (.loc 1)])) [] [.tree .row true 6 r5 none, .tree .row false 1 r6 none] := by
  induction n using Nat.strongRecOn with
  | _ n ih =>
    cases n with
    | zero =>
      intro z1 z2 s3 l4 z5 l6 r1 r2 r3 r4 r5 r6 h
      cases (show (none : Option _) = some _ from h)
    | succ n =>
      intro z1 z2 s3 l4 z5 l6 r1 r2 r3 r4 r5 r6 h
      rw [F10] at h
      refine Trip.of tab_ok tab_one fol Tryd.func10 rfl (by kernel_rfl) rfl rfl rfl (fun M hM hI => ?_)
      try cbv
      refine seq_go ?_
      try cbv
      refine seq_go ?_
      try cbv
      refine seq_go ?_
      try cbv
      refine seq_go ?_
      try cbv
      replace h := lenF_inv M h
      obtain ⟨z7, hz, h⟩ := h
      refine ⟨z7, hz, ?_⟩
      clear hz
      try cbv
      refine loop_invG (T := Nat × Int × List D) [.treeS 3 true 6] [] [1, 2, 3, 7, 8, 9] [.loc 0, .loc 32, .loc 224] 256 (fun t => ⟨[(1, .v (.c (.ptr (.loc 0) 0))), (2, .v (.c (.ptr (.loc 32) 0))), (3, .v (.c (.ow (.loc 224)))), (7, .v (.d (.list true 6 l4))), (8, .v (.d (.int .i64 z7))), (9, .v (.d (.int .i64 t.2.1)))], [(.loc 0, .cells [.d (.int .u8 z1), .d (.int .i64 z2), .d (.str s3), .d (.list true 6 l4), .d (.int .i64 z5), .d (.list false 1 l6)]), (.loc 32, .cells [.d (.int .u8 0), .d (.int .i64 0), .d (.str ByteArray.empty), .nils true 6, .d (.int .i64 0), .nils false 1]), (.loc 224, .tree .row true 6 t.2.2 none)], 256⟩)
        (fun t => t.1 ≤ n ∧ L10_1 t.1 z1 z2 s3 l4 z5 l6 z7 t.2.1 t.2.2 = some (r1, r2, r3, r4, r5, r6)) (fun t => t.1) (n, ((0 : Int), ([] : List D))) ⟨Nat.le_refl _, h⟩ (by cbv) ?_
      clear h
      rintro ⟨m1, z8, l9⟩ ⟨hm1, h⟩
      replace hm1 : m1 ≤ n := hm1
      cases m1 with
      | zero =>
        replace h : L10_1 0 z1 z2 s3 l4 z5 l6 z7 z8 l9 = some (r1, r2, r3, r4, r5, r6) := h
        rw [L10_1] at h
        cases h
      | succ m1 =>
        replace h : L10_1 (m1 + 1) z1 z2 s3 l4 z5 l6 z7 z8 l9 = some (r1, r2, r3, r4, r5, r6) := h
        rw [L10_1] at h
        try cbv
        refine seq_join (T := Nat × Bool) (fun t => ⟨[(1, .v (.c (.ptr (.loc 0) 0))), (2, .v (.c (.ptr (.loc 32) 0))), (3, .v (.c (.ow (.loc 224)))), (7, .v (.d (.list true 6 l4))), (8, .v (.d (.int .i64 z7))), (9, .v (.d (.int .i64 z8))), (10, .v (.d (.bool t.2)))], [(.loc 0, .cells [.d (.int .u8 z1), .d (.int .i64 z2), .d (.str s3), .d (.list true 6 l4), .d (.int .i64 z5), .d (.list false 1 l6)]), (.loc 32, .cells [.d (.int .u8 0), .d (.int .i64 0), .d (.str ByteArray.empty), .nils true 6, .d (.int .i64 0), .nils false 1]), (.loc 224, .tree .row true 6 l9 none)], 288⟩) (fun t => t.1 ≤ m1 ∧ L10_2 t.1 z1 z2 s3 l4 z5 l6 z7 z8 l9 t.2 = some (r1, r2, r3, r4, r5, r6)) ?_ ?_
        · try cbv
          refine splitL (fun e => ?_) (fun e => ?_)
          · replace h := ite_t e h
            clear e
            try cbv
            exact join_next (m1, true) [1, 2, 3, 7, 8, 9, 10] [.loc 0, .loc 32, .loc 224] 288 ⟨by omega, h⟩ (by cbv)
          · replace h := ite_f (Int.not_lt.2 e) h
            clear e
            try cbv
            exact join_next (m1, false) [1, 2, 3, 7, 8, 9, 10] [.loc 0, .loc 32, .loc 224] 288 ⟨by omega, h⟩ (by cbv)
        · clear h
          rintro ⟨m2, b10⟩ ⟨hm2, h⟩
          replace hm2 : m2 ≤ m1 := hm2
          cases m2 with
          | zero =>
            replace h : L10_2 0 z1 z2 s3 l4 z5 l6 z7 z8 l9 b10 = some (r1, r2, r3, r4, r5, r6) := h
            rw [L10_2] at h
            cases h
          | succ m2 =>
            replace h : L10_2 (m2 + 1) z1 z2 s3 l4 z5 l6 z7 z8 l9 b10 = some (r1, r2, r3, r4, r5, r6) := h
            rw [L10_2] at h
            try cbv
            refine seq_go ?_
            try cbv
            cases b10
            · replace h := ite_f Bool.false_ne_true h
              try cbv
              refine seq_go ?_
              try cbv
              replace h := bO1_inv h
              obtain ⟨l26, hr, h⟩ := h
              refine call_go rfl rfl ?_
              try cbv
              refine call_with hM hI [] (T26 _ hr) rfl (by simp) trivial trivial (by simp) ?_
              clear hr
              try cbv
              refine seq_go ?_
              try cbv
              obtain ⟨rfl, rfl, rfl, rfl, rfl, rfl⟩ := inj6 h
              refine fin_go ?_
              try cbv
              exact ⟨[.loc 224, .loc 384], rfl, rfl, trivial, ⟨rfl, ⟨rfl, trivial⟩⟩, trivial⟩
            · replace h := ite_t rfl h
              try cbv
              refine seq_go ?_
              try cbv
              refine seq_go ?_
              try cbv
              replace h := getF_inv h
              obtain ⟨x11, hx11, h⟩ := h
              replace h := ds_t25_inv h
              obtain ⟨z12, z13, s14, l15, z16, l17, rfl, h⟩ := h
              refine ⟨_, hx11.1, hx11.2, ?_⟩
              try cbv
              replace h := bO6_inv h
              obtain ⟨z18, z19, s20, z21, l22, l23, hr, h⟩ := h
              refine call_go rfl rfl ?_
              try cbv
              refine call_with hM hI [] ((ih _ (by omega)) hr) rfl (by simp) trivial trivial (by simp) ?_
              clear hr
              try cbv
              refine ⟨false, ?_⟩
              try cbv
              refine ⟨false, ?_⟩
              try cbv
              refine op_pl ?_
              try cbv
              refine ⟨true, ?_⟩
              try cbv
              refine ⟨true, ?_⟩
              try cbv
              refine ⟨[], ?_⟩
              try cbv
              replace h := appF_inv h
              obtain ⟨l24, hb, hz, h⟩ := h
              refine ⟨[.agg [.int .u8 z18, .int .i64 z19, .str s20, .list true 6 l22, .int .i64 z21, .list false 1 l23]], rfl, ?_⟩
              try cbv
              refine ⟨(M.lock_iff _).2 hb, l24, hz, ?_⟩
              clear hb hz
              try cbv
              replace h := letF_inv h
              obtain ⟨z25, hz, h⟩ := h
              refine ⟨z25, hz, ?_⟩
              clear hz
              try cbv
              refine loop_nextG (m2, (z25, l24)) [] [(544, 224)] [1, 2, 3, 7, 8, 9] [.loc 0, .loc 32, .loc 544] 256 ⟨by omega, h⟩ (Nat.lt_succ_of_le (by omega)) ?_
              try cbv
end Go.Proofs.YtagiiaejijihoaaDoor
end

set_option linter.unusedVariables false
noncomputable section
namespace Go.Proofs.YtagiiaejijihoaaDoor
open Go Go.AM
mutual
def L27x1_2 : Nat → (List D) → (List D) → Int → Option (Bool)
  | 0, _, _, _ => none
  | n + 1, l1, l2, z6 =>
    lenF l1 fun z7 => (if z6 < z7 then L27x1_3 n l1 l2 z6 true else L27x1_3 n l1 l2 z6 false)
def L27x1_3 : Nat → (List D) → (List D) → Int → Bool → Option (Bool)
  | 0, _, _, _, _ => none
  | n + 1, l1, l2, z6, b8 =>
    (if b8 = true then getF l1 z6 fun x9 => ds_i64 x9 fun z10 => getF l2 z6 fun x11 => ds_i64 x11 fun z12 => (if z10 = z12 then L27x1_4 n l1 l2 z6 false else L27x1_4 n l1 l2 z6 true) else some true)
def L27x1_4 : Nat → (List D) → (List D) → Int → Bool → Option (Bool)
  | 0, _, _, _, _ => none
  | n + 1, l1, l2, z6, b13 =>
    (if b13 = true then some false else letF (IntKind.wrap .i64 (z6 + 1)) fun z14 => L27x1_2 n l1 l2 z14)
end
def L27x1_1 : Nat → (List D) → (List D) → Bool → Option (Bool)
  | 0, _, _, _ => none
  | n + 1, l1, l2, b5 =>
    (if b5 = true then some false else L27x1_2 n l1 l2 (0 : Int))
def F27x1 (n : Nat) (l1 : List D) (l2 : List D) : Option (Bool) :=
  lenF l1 fun z3 => lenF l2 fun z4 => (if z3 = z4 then L27x1_1 n l1 l2 false else L27x1_1 n l1 l2 true)
set_option maxRecDepth 100000 in
set_option maxHeartbeats 40000000 in
theorem T27x1 (n : Nat) : ∀ ⦃l1 : List D⦄ ⦃l2 : List D⦄ ⦃r1 : Bool⦄, F27x1 n l1 l2 = some r1 →
    Trip Tryd.prog inv 27 [.d (.list false 1 l1), .d (.list false 1 l2)] [] (.v (.d (.bool r1))) [] [] := by
  intro l1 l2 r1 h
  unfold F27x1 at h
  refine Trip.of tab_ok tab_one fol Tryd.func27 rfl (by kernel_rfl) rfl rfl rfl (fun M hM hI => ?_)
  try cbv
  refine seq_go ?_
  try cbv
  refine seq_go ?_
  try cbv
  refine seq_join (T := Nat × Bool) (fun t => ⟨[(0, .v (.d (.list false 1 l1))), (1, .v (.d (.list false 1 l2))), (4, .v (.d (.bool false))), (10, .v (.d (.bool t.2)))], [], 192⟩) (fun t => t.1 ≤ n ∧ L27x1_1 t.1 l1 l2 t.2 = some r1) ?_ ?_
  · try cbv
    replace h := lenF_inv M h
    obtain ⟨z3, hz, h⟩ := h
    refine ⟨z3, hz, ?_⟩
    clear hz
    try cbv
    replace h := lenF_inv M h
    obtain ⟨z4, hz, h⟩ := h
    refine ⟨z4, hz, ?_⟩
    clear hz
    try cbv
    refine splitI (fun e => ?_) (fun e => ?_)
    · replace h := ite_t e h
      clear e
      try cbv
      exact join_next (n, false) [0, 1, 4, 10] [] 192 ⟨by omega, h⟩ (by cbv)
    · replace h := ite_f e h
      clear e
      try cbv
      exact join_next (n, true) [0, 1, 4, 10] [] 192 ⟨by omega, h⟩ (by cbv)
  · clear h
    rintro ⟨m1, b5⟩ ⟨hm1, h⟩
    replace hm1 : m1 ≤ n := hm1
    cases m1 with
    | zero =>
      replace h : L27x1_1 0 l1 l2 b5 = some r1 := h
      rw [L27x1_1] at h
      cases h
    | succ m1 =>
      replace h : L27x1_1 (m1 + 1) l1 l2 b5 = some r1 := h
      rw [L27x1_1] at h
      try cbv
      cases b5
      · replace h := ite_f Bool.false_ne_true h
        try cbv
        refine seq_go ?_
        try cbv
        refine seq_go ?_
        try cbv
        refine loop_inv (T := Nat × Int) [0, 1, 4, 5] [] 224 (fun t => ⟨[(0, .v (.d (.list false 1 l1))), (1, .v (.d (.list false 1 l2))), (4, .v (.d (.bool false))), (5, .v (.d (.int .i64 t.2)))], [], 224⟩)
          (fun t => t.1 ≤ m1 ∧ L27x1_2 t.1 l1 l2 t.2 = some r1) (fun t => t.1) (m1, (0 : Int)) ⟨Nat.le_refl _, h⟩ (by cbv) ?_
        clear h
        rintro ⟨m2, z6⟩ ⟨hm2, h⟩
        replace hm2 : m2 ≤ m1 := hm2
        cases m2 with
        | zero =>
          replace h : L27x1_2 0 l1 l2 z6 = some r1 := h
          rw [L27x1_2] at h
          cases h
        | succ m2 =>
          replace h : L27x1_2 (m2 + 1) l1 l2 z6 = some r1 := h
          rw [L27x1_2] at h
          try cbv
          refine seq_go ?_
          try cbv
          refine seq_join (T := Nat × Bool) (fun t => ⟨[(0, .v (.d (.list false 1 l1))), (1, .v (.d (.list false 1 l2))), (4, .v (.d (.bool false))), (5, .v (.d (.int .i64 z6))), (14, .v (.d (.bool t.2)))], [], 352⟩) (fun t => t.1 ≤ m2 ∧ L27x1_3 t.1 l1 l2 z6 t.2 = some r1) ?_ ?_
          · try cbv
            replace h := lenF_inv M h
            obtain ⟨z7, hz, h⟩ := h
            refine ⟨z7, hz, ?_⟩
            clear hz
            try cbv
            refine splitL (fun e => ?_) (fun e => ?_)
            · replace h := ite_t e h
              clear e
              try cbv
              exact join_next (m2, true) [0, 1, 4, 5, 14] [] 352 ⟨by omega, h⟩ (by cbv)
            · replace h := ite_f (Int.not_lt.2 e) h
              clear e
              try cbv
              exact join_next (m2, false) [0, 1, 4, 5, 14] [] 352 ⟨by omega, h⟩ (by cbv)
          · clear h
            rintro ⟨m3, b8⟩ ⟨hm3, h⟩
            replace hm3 : m3 ≤ m2 := hm3
            cases m3 with
            | zero =>
              replace h : L27x1_3 0 l1 l2 z6 b8 = some r1 := h
              rw [L27x1_3] at h
              cases h
            | succ m3 =>
              replace h : L27x1_3 (m3 + 1) l1 l2 z6 b8 = some r1 := h
              rw [L27x1_3] at h
              try cbv
              cases b8
              · replace h := ite_f Bool.false_ne_true h
                try cbv
                refine seq_go ?_
                try cbv
                obtain rfl := Option.some.inj h
                refine fin_go ?_
                try cbv
                exact ⟨[], rfl, rfl, trivial, trivial, trivial⟩
              · replace h := ite_t rfl h
                try cbv
                refine seq_go ?_
                try cbv
                refine seq_join (T := Nat × Bool) (fun t => ⟨[(0, .v (.d (.list false 1 l1))), (1, .v (.d (.list false 1 l2))), (4, .v (.d (.bool false))), (5, .v (.d (.int .i64 z6))), (25, .v (.d (.bool t.2)))], [], 640⟩) (fun t => t.1 ≤ m3 ∧ L27x1_4 t.1 l1 l2 z6 t.2 = some r1) ?_ ?_
                · try cbv
                  replace h := getF_inv h
                  obtain ⟨x9, hx9, h⟩ := h
                  replace h := ds_i64_inv h
                  obtain ⟨z10, rfl, h⟩ := h
                  refine ⟨_, hx9.1, hx9.2, ?_⟩
                  try cbv
                  replace h := getF_inv h
                  obtain ⟨x11, hx11, h⟩ := h
                  replace h := ds_i64_inv h
                  obtain ⟨z12, rfl, h⟩ := h
                  refine ⟨_, hx11.1, hx11.2, ?_⟩
                  try cbv
                  refine splitI (fun e => ?_) (fun e => ?_)
                  · replace h := ite_t e h
                    clear e
                    try cbv
                    refine drawn ?_ ?_
                    · show _ = true
                      kernel_rfl
                    try cbv
                    exact join_next (m3, false) [0, 1, 4, 5, 25] [] 640 ⟨by omega, h⟩ (by cbv)
                  · replace h := ite_f e h
                    clear e
                    try cbv
                    refine drawn ?_ ?_
                    · show _ = true
                      kernel_rfl
                    try cbv
                    exact join_next (m3, true) [0, 1, 4, 5, 25] [] 640 ⟨by omega, h⟩ (by cbv)
                · clear h
                  rintro ⟨m4, b13⟩ ⟨hm4, h⟩
                  replace hm4 : m4 ≤ m3 := hm4
                  cases m4 with
                  | zero =>
                    replace h : L27x1_4 0 l1 l2 z6 b13 = some r1 := h
                    rw [L27x1_4] at h
                    cases h
                  | succ m4 =>
                    replace h : L27x1_4 (m4 + 1) l1 l2 z6 b13 = some r1 := h
                    rw [L27x1_4] at h
                    try cbv
                    cases b13
                    · replace h := ite_f Bool.false_ne_true h
                      try cbv
                      replace h := letF_inv h
                      obtain ⟨z14, hz, h⟩ := h
                      refine ⟨z14, hz, ?_⟩
                      clear hz
                      try cbv
                      exact loop_next (m4, z14) [0, 1, 4, 5] [] 224 ⟨by omega, h⟩ (Nat.lt_succ_of_le (by omega)) (by cbv)
                    · replace h := ite_t rfl h
                      try cbv
                      refine seq_go ?_
                      try cbv
                      obtain rfl := Option.some.inj h
                      refine fin_go ?_
                      try cbv
                      exact ⟨[], rfl, rfl, trivial, trivial, trivial⟩
      · replace h := ite_t rfl h
        try cbv
        refine seq_go ?_
        try cbv
        obtain rfl := Option.some.inj h
        refine fin_go ?_
        try cbv
        exact ⟨[], rfl, rfl, trivial, trivial, trivial⟩
end Go.Proofs.YtagiiaejijihoaaDoor
end

set_option linter.unusedVariables false
noncomputable section
namespace Go.Proofs.YtagiiaejijihoaaDoor
open Go Go.AM
mutual
def L28x1_1 : Nat → (List D) → (List D) → Bool → Option (Bool)
  | 0, _, _, _ => none
  | n + 1, l1, l2, b5 =>
    (if b5 = true then some false else L28x1_2 n l1 l2 (0 : Int))
def L28x1_2 : Nat → (List D) → (List D) → Int → Option (Bool)
  | 0, _, _, _ => none
  | n + 1, l1, l2, z6 =>
    lenF l1 fun z7 => (if z6 < z7 then L28x1_3 n l1 l2 z6 true else L28x1_3 n l1 l2 z6 false)
def L28x1_3 : Nat → (List D) → (List D) → Int → Bool → Option (Bool)
  | 0, _, _, _, _ => none
  | n + 1, l1, l2, z6, b8 =>
    (if b8 = true then getF l1 z6 fun x9 => ds_t25 x9 fun z10 z11 s12 l13 z14 l15 => getF l2 z6 fun x16 => ds_t25 x16 fun z17 z18 s19 l20 z21 l22 => bO1 (F11x1 n z10 z11 s12 l13 z14 l15 z17 z18 s19 l20 z21 l22) fun b23 => letB (!b23) fun b24 => (if b24 = true then some false else letF (IntKind.wrap .i64 (z6 + 1)) fun z25 => L28x1_2 n l1 l2 z25) else some true)
def F28x1 : Nat → (List D) → (List D) → Option (Bool)
  | 0, _, _ => none
  | n + 1, l1, l2 =>
    lenF l1 fun z3 => lenF l2 fun z4 => (if z3 = z4 then L28x1_1 n l1 l2 false else L28x1_1 n l1 l2 true)
def F11x1 : Nat → Int → Int → ByteArray → (List D) → Int → (List D) → Int → Int → ByteArray → (List D) → Int → (List D) → Option (Bool)
  | 0, _, _, _, _, _, _, _, _, _, _, _, _ => none
  | n + 1, z1, z2, s3, l4, z5, l6, z7, z8, s9, l10, z11, l12 =>
    (if z1 = z7 then (if z2 = z8 then (if s3 = s9 then (if z5 = z11 then bO1 (F27x1 n l6 l12) fun b13 => (if b13 = true then bO1 (F28x1 n l4 l10) fun b14 => some b14 else some false) else some false) else some false) else some false) else some false)
end
set_option maxRecDepth 100000 in
set_option maxHeartbeats 40000000 in
theorem G28x1 (n : Nat) : (∀ ⦃l1 : List D⦄ ⦃l2 : List D⦄ ⦃r1 : Bool⦄, F28x1 n l1 l2 = some r1 →
    Trip Tryd.prog inv 28 [.d (.list true 6 l1), .d (.list true 6 l2)] [] (.v (.d (.bool r1))) [] []) ∧
    (∀ ⦃z1 : Int⦄ ⦃z2 : Int⦄ ⦃s3 : ByteArray⦄ ⦃l4 : List D⦄ ⦃z5 : Int⦄ ⦃l6 : List D⦄ ⦃z7 : Int⦄ ⦃z8 : Int⦄ ⦃s9 : ByteArray⦄ ⦃l10 : List D⦄ ⦃z11 : Int⦄ ⦃l12 : List D⦄ ⦃r1 : Bool⦄, F11x1 n z1 z2 s3 l4 z5 l6 z7 z8 s9 l10 z11 l12 = some r1 →
    Trip Tryd.prog inv 11 [.d (.agg [.int .u8 z1, .int .i64 z2, .str s3, .list true 6 l4, .int .i64 z5, .list false 1 l6]), .d (.agg [.int .u8 z7, .int .i64 z8, .str s9, .list true 6 l10, .int .i64 z11, .list false 1 l12])] [] (.v (.d (.bool r1))) [] []) := by
  induction n using Nat.strongRecOn with
  | _ n ih =>
    cases n with
    | zero =>
      refine ⟨?_, ?_⟩
      · intro l1 l2 r1 h
        cases (show (none : Option _) = some _ from h)
      · intro z1 z2 s3 l4 z5 l6 z7 z8 s9 l10 z11 l12 r1 h
        cases (show (none : Option _) = some _ from h)
    | succ n =>
      refine ⟨?_, ?_⟩
      · intro l1 l2 r1 h
        rw [F28x1] at h
        refine Trip.of tab_ok tab_one fol Tryd.func28 rfl (by kernel_rfl) rfl rfl rfl (fun M hM hI => ?_)
        try cbv
        refine seq_go ?_
        try cbv
        refine seq_go ?_
        try cbv
        refine seq_join (T := Nat × Bool) (fun t => ⟨[(0, .v (.d (.list true 6 l1))), (1, .v (.d (.list true 6 l2))), (4, .v (.d (.bool false))), (10, .v (.d (.bool t.2)))], [], 192⟩) (fun t => t.1 ≤ n ∧ L28x1_1 t.1 l1 l2 t.2 = some r1) ?_ ?_
        · try cbv
          replace h := lenF_inv M h
          obtain ⟨z3, hz, h⟩ := h
          refine ⟨z3, hz, ?_⟩
          clear hz
          try cbv
          replace h := lenF_inv M h
          obtain ⟨z4, hz, h⟩ := h
          refine ⟨z4, hz, ?_⟩
          clear hz
          try cbv
          refine splitI (fun e => ?_) (fun e => ?_)
          · replace h := ite_t e h
            clear e
            try cbv
            exact join_next (n, false) [0, 1, 4, 10] [] 192 ⟨by omega, h⟩ (by cbv)
          · replace h := ite_f e h
            clear e
            try cbv
            exact join_next (n, true) [0, 1, 4, 10] [] 192 ⟨by omega, h⟩ (by cbv)
        · clear h
          rintro ⟨m1, b5⟩ ⟨hm1, h⟩
          replace hm1 : m1 ≤ n := hm1
          cases m1 with
          | zero =>
            replace h : L28x1_1 0 l1 l2 b5 = some r1 := h
            rw [L28x1_1] at h
            cases h
          | succ m1 =>
            replace h : L28x1_1 (m1 + 1) l1 l2 b5 = some r1 := h
            rw [L28x1_1] at h
            try cbv
            cases b5
            · replace h := ite_f Bool.false_ne_true h
              try cbv
              refine seq_go ?_
              try cbv
              refine seq_go ?_
              try cbv
              refine loop_inv (T := Nat × Int) [0, 1, 4, 5] [] 224 (fun t => ⟨[(0, .v (.d (.list true 6 l1))), (1, .v (.d (.list true 6 l2))), (4, .v (.d (.bool false))), (5, .v (.d (.int .i64 t.2)))], [], 224⟩)
                (fun t => t.1 ≤ m1 ∧ L28x1_2 t.1 l1 l2 t.2 = some r1) (fun t => t.1) (m1, (0 : Int)) ⟨Nat.le_refl _, h⟩ (by cbv) ?_
              clear h
              rintro ⟨m2, z6⟩ ⟨hm2, h⟩
              replace hm2 : m2 ≤ m1 := hm2
              cases m2 with
              | zero =>
                replace h : L28x1_2 0 l1 l2 z6 = some r1 := h
                rw [L28x1_2] at h
                cases h
              | succ m2 =>
                replace h : L28x1_2 (m2 + 1) l1 l2 z6 = some r1 := h
                rw [L28x1_2] at h
                try cbv
                refine seq_go ?_
                try cbv
                refine seq_join (T := Nat × Bool) (fun t => ⟨[(0, .v (.d (.list true 6 l1))), (1, .v (.d (.list true 6 l2))), (4, .v (.d (.bool false))), (5, .v (.d (.int .i64 z6))), (14, .v (.d (.bool t.2)))], [], 352⟩) (fun t => t.1 ≤ m2 ∧ L28x1_3 t.1 l1 l2 z6 t.2 = some r1) ?_ ?_
                · try cbv
                  replace h := lenF_inv M h
                  obtain ⟨z7, hz, h⟩ := h
                  refine ⟨z7, hz, ?_⟩
                  clear hz
                  try cbv
                  refine splitL (fun e => ?_) (fun e => ?_)
                  · replace h := ite_t e h
                    clear e
                    try cbv
                    exact join_next (m2, true) [0, 1, 4, 5, 14] [] 352 ⟨by omega, h⟩ (by cbv)
                  · replace h := ite_f (Int.not_lt.2 e) h
                    clear e
                    try cbv
                    exact join_next (m2, false) [0, 1, 4, 5, 14] [] 352 ⟨by omega, h⟩ (by cbv)
                · clear h
                  rintro ⟨m3, b8⟩ ⟨hm3, h⟩
                  replace hm3 : m3 ≤ m2 := hm3
                  cases m3 with
                  | zero =>
                    replace h : L28x1_3 0 l1 l2 z6 b8 = some r1 := h
                    rw [L28x1_3] at h
                    cases h
                  | succ m3 =>
                    replace h : L28x1_3 (m3 + 1) l1 l2 z6 b8 = some r1 := h
                    rw [L28x1_3] at h
                    try cbv
                    cases b8
                    · replace h := ite_f Bool.false_ne_true h
                      try cbv
                      refine seq_go ?_
                      try cbv
                      obtain rfl := Option.some.inj h
                      refine fin_go ?_
                      try cbv
                      exact ⟨[], rfl, rfl, trivial, trivial, trivial⟩
                    · replace h := ite_t rfl h
                      try cbv
                      refine seq_go ?_
                      try cbv
                      refine seq_go ?_
                      try cbv
                      replace h := getF_inv h
                      obtain ⟨x9, hx9, h⟩ := h
                      replace h := ds_t25_inv h
                      obtain ⟨z10, z11, s12, l13, z14, l15, rfl, h⟩ := h
                      refine ⟨_, hx9.1, hx9.2, ?_⟩
                      try cbv
                      replace h := getF_inv h
                      obtain ⟨x16, hx16, h⟩ := h
                      replace h := ds_t25_inv h
                      obtain ⟨z17, z18, s19, l20, z21, l22, rfl, h⟩ := h
                      refine ⟨_, hx16.1, hx16.2, ?_⟩
                      try cbv
                      replace h := bO1_inv h
                      obtain ⟨b23, hr, h⟩ := h
                      first | refine .inr (.inl ⟨[], ?_⟩) | refine .inl ⟨[], ?_⟩
                      try cbv
                      refine call_pure hM hI ((ih _ (by omega)).2 hr) rfl ?_
                      clear hr
                      try cbv
                      replace h := letB_inv h
                      obtain ⟨b24, hz, h⟩ := h
                      refine ⟨b24, not_eq' hz, ?_⟩
                      clear hz
                      try cbv
                      refine drawn ?_ ?_
                      · show _ = true
                        kernel_rfl
                      try cbv
                      cases b24
                      · replace h := ite_f Bool.false_ne_true h
                        try cbv
                        replace h := letF_inv h
                        obtain ⟨z25, hz, h⟩ := h
                        refine ⟨z25, hz, ?_⟩
                        clear hz
                        try cbv
                        exact loop_next (m3, z25) [0, 1, 4, 5] [] 224 ⟨by omega, h⟩ (Nat.lt_succ_of_le (by omega)) (by cbv)
                      · replace h := ite_t rfl h
                        try cbv
                        refine seq_go ?_
                        try cbv
                        obtain rfl := Option.some.inj h
                        refine fin_go ?_
                        try cbv
                        exact ⟨[], rfl, rfl, trivial, trivial, trivial⟩
            · replace h := ite_t rfl h
              try cbv
              refine seq_go ?_
              try cbv
              obtain rfl := Option.some.inj h
              refine fin_go ?_
              try cbv
              exact ⟨[], rfl, rfl, trivial, trivial, trivial⟩
      · intro z1 z2 s3 l4 z5 l6 z7 z8 s9 l10 z11 l12 r1 h
        rw [F11x1] at h
        refine Trip.of tab_ok tab_one fol Tryd.func11 rfl (by kernel_rfl) rfl rfl rfl (fun M hM hI => ?_)
        try cbv
        refine seq_go ?_
        try cbv
        refine seq_go ?_
        try cbv
        refine splitI (fun e => ?_) (fun e => ?_)
        · replace h := ite_t e h
          clear e
          try cbv
          refine splitI (fun e => ?_) (fun e => ?_)
          · replace h := ite_t e h
            clear e
            try cbv
            refine splitS (fun e => ?_) (fun e => ?_)
            · replace h := ite_t (bytes_eq.1 e) h
              clear e
              try cbv
              refine splitI (fun e => ?_) (fun e => ?_)
              · replace h := ite_t e h
                clear e
                try cbv
                replace h := bO1_inv h
                obtain ⟨b13, hr, h⟩ := h
                refine call_go rfl rfl ?_
                try cbv
                refine call_pure hM hI (T27x1 _ hr) rfl ?_
                clear hr
                try cbv
                cases b13
                · replace h := ite_f Bool.false_ne_true h
                  try cbv
                  obtain rfl := Option.some.inj h
                  refine fin_go ?_
                  try cbv
                  exact ⟨[], rfl, rfl, trivial, trivial, trivial⟩
                · replace h := ite_t rfl h
                  try cbv
                  replace h := bO1_inv h
                  obtain ⟨b14, hr, h⟩ := h
                  refine call_go rfl rfl ?_
                  try cbv
                  refine call_pure hM hI ((ih _ (by omega)).1 hr) rfl ?_
                  clear hr
                  try cbv
                  obtain rfl := Option.some.inj h
                  refine fin_go ?_
                  try cbv
                  exact ⟨[], rfl, rfl, trivial, trivial, trivial⟩
              · replace h := ite_f e h
                clear e
                try cbv
                obtain rfl := Option.some.inj h
                refine fin_go ?_
                try cbv
                exact ⟨[], rfl, rfl, trivial, trivial, trivial⟩
            · replace h := ite_f (bytes_ne.1 e) h
              clear e
              try cbv
              obtain rfl := Option.some.inj h
              refine fin_go ?_
              try cbv
              exact ⟨[], rfl, rfl, trivial, trivial, trivial⟩
          · replace h := ite_f e h
            clear e
            try cbv
            obtain rfl := Option.some.inj h
            refine fin_go ?_
            try cbv
            exact ⟨[], rfl, rfl, trivial, trivial, trivial⟩
        · replace h := ite_f e h
          clear e
          try cbv
          obtain rfl := Option.some.inj h
          refine fin_go ?_
          try cbv
          exact ⟨[], rfl, rfl, trivial, trivial, trivial⟩
theorem T11x1 (n : Nat) : ∀ ⦃z1 : Int⦄ ⦃z2 : Int⦄ ⦃s3 : ByteArray⦄ ⦃l4 : List D⦄ ⦃z5 : Int⦄ ⦃l6 : List D⦄ ⦃z7 : Int⦄ ⦃z8 : Int⦄ ⦃s9 : ByteArray⦄ ⦃l10 : List D⦄ ⦃z11 : Int⦄ ⦃l12 : List D⦄ ⦃r1 : Bool⦄, F11x1 n z1 z2 s3 l4 z5 l6 z7 z8 s9 l10 z11 l12 = some r1 →
    Trip Tryd.prog inv 11 [.d (.agg [.int .u8 z1, .int .i64 z2, .str s3, .list true 6 l4, .int .i64 z5, .list false 1 l6]), .d (.agg [.int .u8 z7, .int .i64 z8, .str s9, .list true 6 l10, .int .i64 z11, .list false 1 l12])] [] (.v (.d (.bool r1))) [] [] := (G28x1 n).2
end Go.Proofs.YtagiiaejijihoaaDoor
end

set_option linter.unusedVariables false
noncomputable section
namespace Go.Proofs.YtagiiaejijihoaaDoor
open Go Go.AM
theorem sm9 {a0 : ByteArray} (w0 : a0.size ≤ maxLen) : Shape tab 9 [.str a0] := .str (x := tyD tab 9) a0 (by kernel_rfl) (by kernel_rfl) w0
theorem sm3 {a0 : Int} (w0 : (Lit.int .i64 a0).wf = true) : Shape tab 3 [.int .i64 a0] := .int (x := tyD tab 3) a0 (by kernel_rfl) (by kernel_rfl) w0
theorem sm5 {a0 : Int} (w0 : (Lit.int .u8 a0).wf = true) : Shape tab 5 [.int .u8 a0] := .int (x := tyD tab 5) a0 (by kernel_rfl) (by kernel_rfl) w0
theorem sm2 {a0 : Int} (w0 : (Lit.int .i64 a0).wf = true) : Shape tab 2 [.int .i64 a0] := .int (x := tyD tab 2) a0 (by kernel_rfl) (by kernel_rfl) w0
theorem sm22 {a0 : List D} (w0 : ListS tab 25 a0) : Shape tab 22 [.list true 6 a0] := by
  have e : D.list (rowD (tyD tab 25).desc) (tyD tab 25).size a0 = .list true 6 a0 := by kernel_rfl
  rw [← e]
  exact w0.shape tab_one (x := tyD tab 22) (y := tyD tab 25) (by kernel_rfl) (by kernel_rfl) (by kernel_rfl)
theorem sm23 {a0 : List D} (w0 : ListS tab 3 a0) : Shape tab 23 [.list false 1 a0] := by
  have e : D.list (rowD (tyD tab 3).desc) (tyD tab 3).size a0 = .list false 1 a0 := by kernel_rfl
  rw [← e]
  exact w0.shape tab_one (x := tyD tab 23) (y := tyD tab 3) (by kernel_rfl) (by kernel_rfl) (by kernel_rfl)
theorem sm25 {a0 : Int} {a1 : Int} {a2 : ByteArray} {a3 : List D} {a4 : Int} {a5 : List D} (w0 : (Lit.int .u8 a0).wf = true) (w1 : (Lit.int .i64 a1).wf = true) (w2 : a2.size ≤ maxLen) (w3 : ListS tab 25 a3) (w4 : (Lit.int .i64 a4).wf = true) (w5 : ListS tab 3 a5) : Shape tab 25 [.int .u8 a0, .int .i64 a1, .str a2, .list true 6 a3, .int .i64 a4, .list false 1 a5] := by
  have tt : tab 25 = some (tyD tab 25) := by kernel_rfl
  obtain ⟨fs, hfs, hall⟩ : ∃ fs, (tyD tab 25).desc = .struct fs ∧ (fs.toList.all fun f => [(5, 0), (2, 1), (9, 2), (22, 3), (3, 4), (23, 5)].contains (f.type, f.offset)) = true := ⟨(match (tyD tab 25).desc with | .struct fs => fs | _ => #[]), by kernel_rfl, by kernel_rfl⟩
  refine .struct (x := tyD tab 25) (fs := fs) _ tt hfs (by kernel_rfl) (by simp [D.isAgg]) (fun f hf y hy => ?_)
  have hq := List.all_eq_true.1 hall f hf
  simp only [List.contains_cons, List.contains_nil, Bool.or_false, Bool.or_eq_true, beq_iff_eq, Prod.mk.injEq] at hq
  rcases hq with ⟨e1, e2⟩ | ⟨e1, e2⟩ | ⟨e1, e2⟩ | ⟨e1, e2⟩ | ⟨e1, e2⟩ | ⟨e1, e2⟩
  · rw [e1, show tab 5 = some (tyD tab 5) by kernel_rfl] at hy; cases hy; rw [e1, e2, show (tyD tab 5).size = 1 by kernel_rfl]; exact sm5 w0
  · rw [e1, show tab 2 = some (tyD tab 2) by kernel_rfl] at hy; cases hy; rw [e1, e2, show (tyD tab 2).size = 1 by kernel_rfl]; exact sm2 w1
  · rw [e1, show tab 9 = some (tyD tab 9) by kernel_rfl] at hy; cases hy; rw [e1, e2, show (tyD tab 9).size = 1 by kernel_rfl]; exact sm9 w2
  · rw [e1, show tab 22 = some (tyD tab 22) by kernel_rfl] at hy; cases hy; rw [e1, e2, show (tyD tab 22).size = 1 by kernel_rfl]; exact sm22 w3
  · rw [e1, show tab 3 = some (tyD tab 3) by kernel_rfl] at hy; cases hy; rw [e1, e2, show (tyD tab 3).size = 1 by kernel_rfl]; exact sm3 w4
  · rw [e1, show tab 23 = some (tyD tab 23) by kernel_rfl] at hy; cases hy; rw [e1, e2, show (tyD tab 23).size = 1 by kernel_rfl]; exact sm23 w5
theorem mk25 {a0 : Int} {a1 : Int} {a2 : ByteArray} {a3 : List D} {a4 : Int} {a5 : List D} (w0 : (Lit.int .u8 a0).wf = true) (w1 : (Lit.int .i64 a1).wf = true) (w2 : a2.size ≤ maxLen) (w3 : ListS tab 25 a3) (w4 : (Lit.int .i64 a4).wf = true) (w5 : ListS tab 3 a5) : RowS tab 25 (.agg [.int .u8 a0, .int .i64 a1, .str a2, .list true 6 a3, .int .i64 a4, .list false 1 a5]) := ⟨sm25 w0 w1 w2 w3 w4 w5, fun y hy => by rw [show tab 25 = some (tyD tab 25) by kernel_rfl] at hy; cases hy; kernel_rfl⟩
end Go.Proofs.YtagiiaejijihoaaDoor
end

set_option linter.unusedVariables false
noncomputable section
namespace Go.Proofs.YtagiiaejijihoaaDoor
open Go Go.AM
def F31 (n : Nat) : Option (Unit) :=
  some ()
set_option maxRecDepth 100000 in
set_option maxHeartbeats 40000000 in
theorem T31 (n : Nat) : F31 n = some () →
    Trip Tryd.prog inv 31 [] [] (.v (.d (.agg [.str k___1, .str k_i, .str k_b, .str k_u, .str k_s, .str k_e, .str k_B, .str k_C, .str k_R, .str k_A, .str k_M, .str k_T, .str k_S, .str k_V, .str k_r, .str k_m]))) [] [] := by
  intro h
  unfold F31 at h
  refine Trip.of tab_ok tab_one fol Tryd.func31 rfl (by kernel_rfl) rfl rfl rfl (fun M hM hI => ?_)
  try cbv
  refine seq_go ?_
  try cbv
  refine seq_go ?_
  try cbv
  skip
  refine fin_go ?_
  try cbv
  exact ⟨[], rfl, rfl, trivial, trivial, trivial⟩
end Go.Proofs.YtagiiaejijihoaaDoor
end

set_option linter.unusedVariables false
noncomputable section
namespace Go.Proofs.YtagiiaejijihoaaDoor
open Go Go.AM
def F33 (n : Nat) (l1 : List D) : Option (ByteArray) :=
  bO1 (F40 n l1 ByteArray.empty) fun s2 => some s2
set_option maxRecDepth 100000 in
set_option maxHeartbeats 40000000 in
theorem T33 (n : Nat) : ∀ ⦃l1 : List D⦄ ⦃r1 : ByteArray⦄, F33 n l1 = some r1 →
    Trip Tryd.prog inv 33 [.d (.list false 1 l1)] [] (.v (.d (.str r1))) [] [] := by
  intro l1 r1 h
  unfold F33 at h
  refine Trip.of tab_ok tab_one fol Tryd.func33 rfl (by kernel_rfl) rfl rfl rfl (fun M hM hI => ?_)
  try cbv
  refine seq_go ?_
  try cbv
  refine seq_go ?_
  try cbv
  replace h := bO1_inv h
  obtain ⟨s2, hr, h⟩ := h
  refine call_go rfl rfl ?_
  try cbv
  refine call_pure hM hI (T40 _ hr) rfl ?_
  clear hr
  try cbv
  obtain rfl := Option.some.inj h
  refine fin_go ?_
  try cbv
  exact ⟨[], rfl, rfl, trivial, trivial, trivial⟩
end Go.Proofs.YtagiiaejijihoaaDoor
end

set_option linter.unusedVariables false
noncomputable section
namespace Go.Proofs.YtagiiaejijihoaaDoor
open Go Go.AM
set_option maxHeartbeats 40000000 in
mutual
def L15_1 : Nat → Int → Int → ByteArray → (List D) → Int → (List D) → Bool → Option (ByteArray)
  | 0, _, _, _, _, _, _, _ => none
  | n + 1, z1, z2, s3, l4, z5, l6, b8 =>
    (if b8 = true then bO0 (F31 n) (getF [.str k___1, .str k_i, .str k_b, .str k_u, .str k_s, .str k_e, .str k_B, .str k_C, .str k_R, .str k_A, .str k_M, .str k_T, .str k_S, .str k_V, .str k_r, .str k_m] z1 fun x9 => ds_str x9 fun s10 => L15_2 n z2 s3 l4 z5 l6 s10) else L15_2 n z2 s3 l4 z5 l6 k__)
def L15_2 : Nat → Int → ByteArray → (List D) → Int → (List D) → ByteArray → Option (ByteArray)
  | 0, _, _, _, _, _, _ => none
  | n + 1, z2, s3, l4, z5, l6, s11 =>
    lenF l4 fun z12 => L15_3 n z2 s3 l4 z5 l6 s11 z12 ByteArray.empty (0 : Int)
def L15_3 : Nat → Int → ByteArray → (List D) → Int → (List D) → ByteArray → Int → ByteArray → Int → Option (ByteArray)
  | 0, _, _, _, _, _, _, _, _, _ => none
  | n + 1, z2, s3, l4, z5, l6, s11, z12, s13, z14 =>
    (if z14 < z12 then L15_4 n z2 s3 l4 z5 l6 s11 z12 s13 z14 true else L15_4 n z2 s3 l4 z5 l6 s11 z12 s13 z14 false)
def L15_4 : Nat → Int → ByteArray → (List D) → Int → (List D) → ByteArray → Int → ByteArray → Int → Bool → Option (ByteArray)
  | 0, _, _, _, _, _, _, _, _, _, _ => none
  | n + 1, z2, s3, l4, z5, l6, s11, z12, s13, z14, b15 =>
    (if b15 = true then getF l4 z14 fun x16 => ds_t25 x16 fun z17 z18 s19 l20 z21 l22 => bO1 (F15 n z17 z18 s19 l20 z21 l22) fun s23 => catF s13 s23 fun s24 => letF (IntKind.wrap .i64 (z14 + 1)) fun z25 => L15_3 n z2 s3 l4 z5 l6 s11 z12 s24 z25 else lenF l6 fun z26 => L15_5 n z2 s3 z5 l6 s11 s13 z26 ByteArray.empty (0 : Int))
def L15_5 : Nat → Int → ByteArray → Int → (List D) → ByteArray → ByteArray → Int → ByteArray → Int → Option (ByteArray)
  | 0, _, _, _, _, _, _, _, _, _ => none
  | n + 1, z2, s3, z5, l6, s11, s13, z26, s27, z28 =>
    (if z28 < z26 then L15_6 n z2 s3 z5 l6 s11 s13 z26 s27 z28 true else L15_6 n z2 s3 z5 l6 s11 s13 z26 s27 z28 false)
def L15_6 : Nat → Int → ByteArray → Int → (List D) → ByteArray → ByteArray → Int → ByteArray → Int → Bool → Option (ByteArray)
  | 0, _, _, _, _, _, _, _, _, _, _ => none
  | n + 1, z2, s3, z5, l6, s11, s13, z26, s27, z28, b29 =>
    (if b29 = true then getF l6 z28 fun x30 => ds_i64 x30 fun z31 => bO1 (F32 n z31) fun s32 => catF s32 k___2 fun s33 => catF s27 s33 fun s34 => letF (IntKind.wrap .i64 (z28 + 1)) fun z35 => L15_5 n z2 s3 z5 l6 s11 s13 z26 s34 z35 else bO1 (F34 n z2 (10 : Int)) fun s36 => szF s3 fun z37 => bO1 (F32 n z37) fun s38 => bO1 (F32 n z5) fun s39 => bO1 (F33 n ([.str s11, .str s36, .str k___3, .str s38, .str k___3, .str s3, .str k___3, .str s39, .str k___4, .str s13, .str k___, .str s27, .str k___5])) fun s40 => some s40)
def F15 : Nat → Int → Int → ByteArray → (List D) → Int → (List D) → Option (ByteArray)
  | 0, _, _, _, _, _, _ => none
  | n + 1, z1, z2, s3, l4, z5, l6 =>
    letF (IntKind.wrap .i64 z1) fun z7 => bO0 (F31 n) ((if z7 < (16 : Int) then L15_1 n z1 z2 s3 l4 z5 l6 true else L15_1 n z1 z2 s3 l4 z5 l6 false))
end
set_option maxRecDepth 100000 in
set_option maxHeartbeats 40000000 in
theorem T15 (n : Nat) : ∀ ⦃z1 : Int⦄ ⦃z2 : Int⦄ ⦃s3 : ByteArray⦄ ⦃l4 : List D⦄ ⦃z5 : Int⦄ ⦃l6 : List D⦄ ⦃r1 : ByteArray⦄, F15 n z1 z2 s3 l4 z5 l6 = some r1 →
    Trip Tryd.prog inv 15 [.d (.agg [.int .u8 z1, .int .i64 z2, .str s3, .list true 6 l4, .int .i64 z5, .list false 1 l6])] [] (.v (.d (.str r1))) [] [] := by
  induction n using Nat.strongRecOn with
  | _ n ih =>
    cases n with
    | zero =>
      intro z1 z2 s3 l4 z5 l6 r1 h
      cases (show (none : Option _) = some _ from h)
    | succ n =>
      intro z1 z2 s3 l4 z5 l6 r1 h
      rw [F15] at h
      refine Trip.of tab_ok tab_one fol Tryd.func15 rfl (by kernel_rfl) rfl rfl rfl (fun M hM hI => ?_)
      try cbv
      refine seq_go ?_
      try cbv
      refine seq_go ?_
      try cbv
      refine seq_join (T := Nat × ByteArray) (fun t => ⟨[(1, .v (.c (.ptr (.loc 0) 0))), (2, .v (.d (.str ByteArray.empty))), (3, .v (.d (.str t.2)))], [(.loc 0, .cells [.d (.int .u8 z1), .d (.int .i64 z2), .d (.str s3), .d (.list true 6 l4), .d (.int .i64 z5), .d (.list false 1 l6)])], 448⟩) (fun t => t.1 ≤ n ∧ L15_2 t.1 z2 s3 l4 z5 l6 t.2 = some r1) ?_ ?_
      · try cbv
        refine seq_join (T := Nat × Bool) (fun t => ⟨[(1, .v (.c (.ptr (.loc 0) 0))), (2, .v (.d (.str ByteArray.empty))), (3, .v (.d (.str k__))), (15, .v (.d (.bool t.2)))], [(.loc 0, .cells [.d (.int .u8 z1), .d (.int .i64 z2), .d (.str s3), .d (.list true 6 l4), .d (.int .i64 z5), .d (.list false 1 l6)])], 288⟩) (fun t => t.1 ≤ n ∧ L15_1 t.1 z1 z2 s3 l4 z5 l6 t.2 = some r1) ?_ ?_
        · try cbv
          replace h := letF_inv h
          obtain ⟨z7, hz, h⟩ := h
          refine ⟨z7, hz, ?_⟩
          clear hz
          try cbv
          replace h := bO0_inv h
          obtain ⟨hr, h⟩ := h
          first | refine .inr (.inl ⟨[], ?_⟩) | refine .inl ⟨[], ?_⟩
          try cbv
          refine call_pure hM hI (T31 _ hr) rfl ?_
          clear hr
          try cbv
          refine splitL (fun e => ?_) (fun e => ?_)
          · replace h := ite_t e h
            clear e
            try cbv
            refine drawn ?_ ?_
            · show _ = true
              kernel_rfl
            try cbv
            exact join_next (n, true) [1, 2, 3, 15] [.loc 0] 288 ⟨by omega, h⟩ (by cbv)
          · replace h := ite_f (Int.not_lt.2 e) h
            clear e
            try cbv
            refine drawn ?_ ?_
            · show _ = true
              kernel_rfl
            try cbv
            exact join_next (n, false) [1, 2, 3, 15] [.loc 0] 288 ⟨by omega, h⟩ (by cbv)
        · clear h
          rintro ⟨m1, b8⟩ ⟨hm1, h⟩
          replace hm1 : m1 ≤ n := hm1
          cases m1 with
          | zero =>
            replace h : L15_1 0 z1 z2 s3 l4 z5 l6 b8 = some r1 := h
            rw [L15_1] at h
            cases h
          | succ m1 =>
            replace h : L15_1 (m1 + 1) z1 z2 s3 l4 z5 l6 b8 = some r1 := h
            rw [L15_1] at h
            try cbv
            cases b8
            · replace h := ite_f Bool.false_ne_true h
              try cbv
              exact join_next (m1, k__) [1, 2, 3] [.loc 0] 448 ⟨by omega, h⟩ (by cbv)
            · replace h := ite_t rfl h
              try cbv
              replace h := bO0_inv h
              obtain ⟨hr, h⟩ := h
              first | refine .inr (.inl ⟨[], ?_⟩) | refine .inl ⟨[], ?_⟩
              try cbv
              refine call_pure hM hI (T31 _ hr) rfl ?_
              clear hr
              try cbv
              replace h := getF_inv h
              obtain ⟨x9, ⟨hx0, hx⟩, h⟩ := h
              refine ⟨x9, hx0, hx, ?_⟩
              clear hx0 hx
              replace h := ds_str_inv h
              obtain ⟨s10, rfl, h⟩ := h
              try cbv
              refine drawn ?_ ?_
              · show _ = true
                kernel_rfl
              try cbv
              exact join_next (m1, s10) [1, 2, 3] [.loc 0] 448 ⟨by omega, h⟩ (by cbv)
      · clear h
        rintro ⟨m2, s11⟩ ⟨hm2, h⟩
        replace hm2 : m2 ≤ n := hm2
        cases m2 with
        | zero =>
          replace h : L15_2 0 z2 s3 l4 z5 l6 s11 = some r1 := h
          rw [L15_2] at h
          cases h
        | succ m2 =>
          replace h : L15_2 (m2 + 1) z2 s3 l4 z5 l6 s11 = some r1 := h
          rw [L15_2] at h
          try cbv
          refine seq_go ?_
          try cbv
          refine seq_go ?_
          try cbv
          refine seq_go ?_
          try cbv
          replace h := lenF_inv M h
          obtain ⟨z12, hz, h⟩ := h
          refine ⟨z12, hz, ?_⟩
          clear hz
          try cbv
          refine loop_inv (T := Nat × ByteArray × Int) [1, 2, 3, 4, 5, 21, 22, 23] [.loc 0] 640 (fun t => ⟨[(1, .v (.c (.ptr (.loc 0) 0))), (2, .v (.d (.str ByteArray.empty))), (3, .v (.d (.str s11))), (4, .v (.d (.str t.2.1))), (5, .v (.d (.str ByteArray.empty))), (21, .v (.d (.list true 6 l4))), (22, .v (.d (.int .i64 z12))), (23, .v (.d (.int .i64 t.2.2)))], [(.loc 0, .cells [.d (.int .u8 z1), .d (.int .i64 z2), .d (.str s3), .d (.list true 6 l4), .d (.int .i64 z5), .d (.list false 1 l6)])], 640⟩)
            (fun t => t.1 ≤ m2 ∧ L15_3 t.1 z2 s3 l4 z5 l6 s11 z12 t.2.1 t.2.2 = some r1) (fun t => t.1) (m2, (ByteArray.empty, (0 : Int))) ⟨Nat.le_refl _, h⟩ (by cbv) ?_
          clear h
          rintro ⟨m3, s13, z14⟩ ⟨hm3, h⟩
          replace hm3 : m3 ≤ m2 := hm3
          cases m3 with
          | zero =>
            replace h : L15_3 0 z2 s3 l4 z5 l6 s11 z12 s13 z14 = some r1 := h
            rw [L15_3] at h
            cases h
          | succ m3 =>
            replace h : L15_3 (m3 + 1) z2 s3 l4 z5 l6 s11 z12 s13 z14 = some r1 := h
            rw [L15_3] at h
            try cbv
            refine seq_join (T := Nat × Bool) (fun t => ⟨[(1, .v (.c (.ptr (.loc 0) 0))), (2, .v (.d (.str ByteArray.empty))), (3, .v (.d (.str s11))), (4, .v (.d (.str s13))), (5, .v (.d (.str ByteArray.empty))), (21, .v (.d (.list true 6 l4))), (22, .v (.d (.int .i64 z12))), (23, .v (.d (.int .i64 z14))), (24, .v (.d (.bool t.2)))], [(.loc 0, .cells [.d (.int .u8 z1), .d (.int .i64 z2), .d (.str s3), .d (.list true 6 l4), .d (.int .i64 z5), .d (.list false 1 l6)])], 672⟩) (fun t => t.1 ≤ m3 ∧ L15_4 t.1 z2 s3 l4 z5 l6 s11 z12 s13 z14 t.2 = some r1) ?_ ?_
            · try cbv
              refine splitL (fun e => ?_) (fun e => ?_)
              · replace h := ite_t e h
                clear e
                try cbv
                exact join_next (m3, true) [1, 2, 3, 4, 5, 21, 22, 23, 24] [.loc 0] 672 ⟨by omega, h⟩ (by cbv)
              · replace h := ite_f (Int.not_lt.2 e) h
                clear e
                try cbv
                exact join_next (m3, false) [1, 2, 3, 4, 5, 21, 22, 23, 24] [.loc 0] 672 ⟨by omega, h⟩ (by cbv)
            · clear h
              rintro ⟨m4, b15⟩ ⟨hm4, h⟩
              replace hm4 : m4 ≤ m3 := hm4
              cases m4 with
              | zero =>
                replace h : L15_4 0 z2 s3 l4 z5 l6 s11 z12 s13 z14 b15 = some r1 := h
                rw [L15_4] at h
                cases h
              | succ m4 =>
                replace h : L15_4 (m4 + 1) z2 s3 l4 z5 l6 s11 z12 s13 z14 b15 = some r1 := h
                rw [L15_4] at h
                try cbv
                refine seq_go ?_
                try cbv
                cases b15
                · replace h := ite_f Bool.false_ne_true h
                  try cbv
                  refine seq_go ?_
                  try cbv
                  refine seq_go ?_
                  try cbv
                  replace h := lenF_inv M h
                  obtain ⟨z26, hz, h⟩ := h
                  refine ⟨z26, hz, ?_⟩
                  clear hz
                  try cbv
                  refine loop_inv (T := Nat × ByteArray × Int) [1, 2, 3, 4, 5, 33, 34, 35] [.loc 0] 800 (fun t => ⟨[(1, .v (.c (.ptr (.loc 0) 0))), (2, .v (.d (.str ByteArray.empty))), (3, .v (.d (.str s11))), (4, .v (.d (.str s13))), (5, .v (.d (.str t.2.1))), (33, .v (.d (.list false 1 l6))), (34, .v (.d (.int .i64 z26))), (35, .v (.d (.int .i64 t.2.2)))], [(.loc 0, .cells [.d (.int .u8 z1), .d (.int .i64 z2), .d (.str s3), .d (.list true 6 l4), .d (.int .i64 z5), .d (.list false 1 l6)])], 800⟩)
                    (fun t => t.1 ≤ m4 ∧ L15_5 t.1 z2 s3 z5 l6 s11 s13 z26 t.2.1 t.2.2 = some r1) (fun t => t.1) (m4, (ByteArray.empty, (0 : Int))) ⟨Nat.le_refl _, h⟩ (by cbv) ?_
                  clear h
                  rintro ⟨m5, s27, z28⟩ ⟨hm5, h⟩
                  replace hm5 : m5 ≤ m4 := hm5
                  cases m5 with
                  | zero =>
                    replace h : L15_5 0 z2 s3 z5 l6 s11 s13 z26 s27 z28 = some r1 := h
                    rw [L15_5] at h
                    cases h
                  | succ m5 =>
                    replace h : L15_5 (m5 + 1) z2 s3 z5 l6 s11 s13 z26 s27 z28 = some r1 := h
                    rw [L15_5] at h
                    try cbv
                    refine seq_join (T := Nat × Bool) (fun t => ⟨[(1, .v (.c (.ptr (.loc 0) 0))), (2, .v (.d (.str ByteArray.empty))), (3, .v (.d (.str s11))), (4, .v (.d (.str s13))), (5, .v (.d (.str s27))), (33, .v (.d (.list false 1 l6))), (34, .v (.d (.int .i64 z26))), (35, .v (.d (.int .i64 z28))), (36, .v (.d (.bool t.2)))], [(.loc 0, .cells [.d (.int .u8 z1), .d (.int .i64 z2), .d (.str s3), .d (.list true 6 l4), .d (.int .i64 z5), .d (.list false 1 l6)])], 832⟩) (fun t => t.1 ≤ m5 ∧ L15_6 t.1 z2 s3 z5 l6 s11 s13 z26 s27 z28 t.2 = some r1) ?_ ?_
                    · try cbv
                      refine splitL (fun e => ?_) (fun e => ?_)
                      · replace h := ite_t e h
                        clear e
                        try cbv
                        exact join_next (m5, true) [1, 2, 3, 4, 5, 33, 34, 35, 36] [.loc 0] 832 ⟨by omega, h⟩ (by cbv)
                      · replace h := ite_f (Int.not_lt.2 e) h
                        clear e
                        try cbv
                        exact join_next (m5, false) [1, 2, 3, 4, 5, 33, 34, 35, 36] [.loc 0] 832 ⟨by omega, h⟩ (by cbv)
                    · clear h
                      rintro ⟨m6, b29⟩ ⟨hm6, h⟩
                      replace hm6 : m6 ≤ m5 := hm6
                      cases m6 with
                      | zero =>
                        replace h : L15_6 0 z2 s3 z5 l6 s11 s13 z26 s27 z28 b29 = some r1 := h
                        rw [L15_6] at h
                        cases h
                      | succ m6 =>
                        replace h : L15_6 (m6 + 1) z2 s3 z5 l6 s11 s13 z26 s27 z28 b29 = some r1 := h
                        rw [L15_6] at h
                        try cbv
                        refine seq_go ?_
                        try cbv
                        cases b29
                        · replace h := ite_f Bool.false_ne_true h
                          try cbv
                          refine seq_go ?_
                          try cbv
                          replace h := bO1_inv h
                          obtain ⟨s36, hr, h⟩ := h
                          first | refine .inr (.inl ⟨[], ?_⟩) | refine .inl ⟨[], ?_⟩
                          try cbv
                          refine call_pure hM hI (T34 _ hr) rfl ?_
                          clear hr
                          try cbv
                          replace h := szF_inv M h
                          obtain ⟨z37, hz, h⟩ := h
                          refine ⟨z37, hz, ?_⟩
                          clear hz
                          try cbv
                          replace h := bO1_inv h
                          obtain ⟨s38, hr, h⟩ := h
                          first | refine .inr (.inl ⟨[], ?_⟩) | refine .inl ⟨[], ?_⟩
                          try cbv
                          refine call_pure hM hI (T32 _ hr) rfl ?_
                          clear hr
                          try cbv
                          replace h := bO1_inv h
                          obtain ⟨s39, hr, h⟩ := h
                          first | refine .inr (.inl ⟨[], ?_⟩) | refine .inl ⟨[], ?_⟩
                          try cbv
                          refine call_pure hM hI (T32 _ hr) rfl ?_
                          clear hr
                          try cbv
                          refine ⟨false, ?_⟩
                          try cbv
                          refine ⟨true, ?_⟩
                          try cbv
                          replace h := bO1_inv h
                          obtain ⟨s40, hr, h⟩ := h
                          first | refine .inr (.inl ⟨[], ?_⟩) | refine .inl ⟨[], ?_⟩
                          try cbv
                          refine call_pure hM hI (T33 _ hr) rfl ?_
                          clear hr
                          try cbv
                          refine drawn ?_ ?_
                          · show _ = true
                            kernel_rfl
                          try cbv
                          obtain rfl := Option.some.inj h
                          refine fin_go ?_
                          try cbv
                          exact ⟨[], rfl, rfl, trivial, trivial, trivial⟩
                        · replace h := ite_t rfl h
                          try cbv
                          refine seq_go ?_
                          try cbv
                          refine seq_go ?_
                          try cbv
                          replace h := getF_inv h
                          obtain ⟨x30, hx30, h⟩ := h
                          replace h := ds_i64_inv h
                          obtain ⟨z31, rfl, h⟩ := h
                          refine ⟨_, hx30.1, hx30.2, ?_⟩
                          try cbv
                          replace h := bO1_inv h
                          obtain ⟨s32, hr, h⟩ := h
                          refine call_go rfl rfl ?_
                          try cbv
                          refine call_pure hM hI (T32 _ hr) rfl ?_
                          clear hr
                          try cbv
                          replace h := catF_inv h
                          obtain ⟨s33, hz, hb, h⟩ := h
                          refine ⟨s33, hz, hb, ?_⟩
                          clear hb hz
                          try cbv
                          replace h := catF_inv h
                          obtain ⟨s34, hz, hb, h⟩ := h
                          refine ⟨s34, hz, hb, ?_⟩
                          clear hb hz
                          try cbv
                          replace h := letF_inv h
                          obtain ⟨z35, hz, h⟩ := h
                          refine ⟨z35, hz, ?_⟩
                          clear hz
                          try cbv
                          exact loop_next (m6, (s34, z35)) [1, 2, 3, 4, 5, 33, 34, 35] [.loc 0] 800 ⟨by omega, h⟩ (Nat.lt_succ_of_le (by omega)) (by cbv)
                · replace h := ite_t rfl h
                  try cbv
                  refine seq_go ?_
                  try cbv
                  refine seq_go ?_
                  try cbv
                  replace h := getF_inv h
                  obtain ⟨x16, hx16, h⟩ := h
                  replace h := ds_t25_inv h
                  obtain ⟨z17, z18, s19, l20, z21, l22, rfl, h⟩ := h
                  refine ⟨_, hx16.1, hx16.2, ?_⟩
                  try cbv
                  replace h := bO1_inv h
                  obtain ⟨s23, hr, h⟩ := h
                  refine call_go rfl rfl ?_
                  try cbv
                  refine call_pure hM hI ((ih _ (by omega)) hr) rfl ?_
                  clear hr
                  try cbv
                  replace h := catF_inv h
                  obtain ⟨s24, hz, hb, h⟩ := h
                  refine ⟨s24, hz, hb, ?_⟩
                  clear hb hz
                  try cbv
                  replace h := letF_inv h
                  obtain ⟨z25, hz, h⟩ := h
                  refine ⟨z25, hz, ?_⟩
                  clear hz
                  try cbv
                  exact loop_next (m4, (s24, z25)) [1, 2, 3, 4, 5, 21, 22, 23] [.loc 0] 640 ⟨by omega, h⟩ (Nat.lt_succ_of_le (by omega)) (by cbv)
end Go.Proofs.YtagiiaejijihoaaDoor
end

set_option linter.unusedVariables false
noncomputable section
namespace Go.Proofs.YtagiiaejijihoaaDoor
open Go Go.AM
mutual
def L29_2 : Nat → (List D) → (List D) → Int → Int → Option (Bool)
  | 0, _, _, _, _ => none
  | n + 1, l1, l2, z6, z7 =>
    (if z7 < z6 then L29_3 n l1 l2 z6 z7 true else L29_3 n l1 l2 z6 z7 false)
def L29_3 : Nat → (List D) → (List D) → Int → Int → Bool → Option (Bool)
  | 0, _, _, _, _, _ => none
  | n + 1, l1, l2, z6, z7, b8 =>
    (if b8 = true then getF l1 z7 fun x9 => ds_i64 x9 fun z10 => getF l2 z7 fun x11 => ds_i64 x11 fun z12 => (if z10 = z12 then L29_4 n l1 l2 z6 z7 false else L29_4 n l1 l2 z6 z7 true) else some true)
def L29_4 : Nat → (List D) → (List D) → Int → Int → Bool → Option (Bool)
  | 0, _, _, _, _, _ => none
  | n + 1, l1, l2, z6, z7, b13 =>
    (if b13 = true then some false else letF (IntKind.wrap .i64 (z7 + 1)) fun z14 => L29_2 n l1 l2 z6 z14)
end
def L29_1 : Nat → (List D) → (List D) → Bool → Option (Bool)
  | 0, _, _, _ => none
  | n + 1, l1, l2, b5 =>
    (if b5 = true then some false else lenF l1 fun z6 => L29_2 n l1 l2 z6 (0 : Int))
def F29 (n : Nat) (l1 : List D) (l2 : List D) : Option (Bool) :=
  lenF l1 fun z3 => lenF l2 fun z4 => (if z3 = z4 then L29_1 n l1 l2 false else L29_1 n l1 l2 true)
set_option maxRecDepth 100000 in
set_option maxHeartbeats 40000000 in
theorem T29 (n : Nat) : ∀ ⦃l1 : List D⦄ ⦃l2 : List D⦄ ⦃r1 : Bool⦄, F29 n l1 l2 = some r1 →
    Trip Tryd.prog inv 29 [.d (.list false 1 l1), .d (.list false 1 l2)] [] (.v (.d (.bool r1))) [] [] := by
  intro l1 l2 r1 h
  unfold F29 at h
  refine Trip.of tab_ok tab_one fol Tryd.func29 rfl (by kernel_rfl) rfl rfl rfl (fun M hM hI => ?_)
  try cbv
  refine seq_go ?_
  try cbv
  refine seq_go ?_
  try cbv
  refine seq_join (T := Nat × Bool) (fun t => ⟨[(0, .v (.d (.list false 1 l1))), (1, .v (.d (.list false 1 l2))), (4, .v (.d (.bool false))), (10, .v (.d (.bool t.2)))], [], 192⟩) (fun t => t.1 ≤ n ∧ L29_1 t.1 l1 l2 t.2 = some r1) ?_ ?_
  · try cbv
    replace h := lenF_inv M h
    obtain ⟨z3, hz, h⟩ := h
    refine ⟨z3, hz, ?_⟩
    clear hz
    try cbv
    replace h := lenF_inv M h
    obtain ⟨z4, hz, h⟩ := h
    refine ⟨z4, hz, ?_⟩
    clear hz
    try cbv
    refine splitI (fun e => ?_) (fun e => ?_)
    · replace h := ite_t e h
      clear e
      try cbv
      exact join_next (n, false) [0, 1, 4, 10] [] 192 ⟨by omega, h⟩ (by cbv)
    · replace h := ite_f e h
      clear e
      try cbv
      exact join_next (n, true) [0, 1, 4, 10] [] 192 ⟨by omega, h⟩ (by cbv)
  · clear h
    rintro ⟨m1, b5⟩ ⟨hm1, h⟩
    replace hm1 : m1 ≤ n := hm1
    cases m1 with
    | zero =>
      replace h : L29_1 0 l1 l2 b5 = some r1 := h
      rw [L29_1] at h
      cases h
    | succ m1 =>
      replace h : L29_1 (m1 + 1) l1 l2 b5 = some r1 := h
      rw [L29_1] at h
      try cbv
      cases b5
      · replace h := ite_f Bool.false_ne_true h
        try cbv
        refine seq_go ?_
        try cbv
        refine seq_go ?_
        try cbv
        replace h := lenF_inv M h
        obtain ⟨z6, hz, h⟩ := h
        refine ⟨z6, hz, ?_⟩
        clear hz
        try cbv
        refine loop_inv (T := Nat × Int) [0, 1, 4, 12, 13] [] 288 (fun t => ⟨[(0, .v (.d (.list false 1 l1))), (1, .v (.d (.list false 1 l2))), (4, .v (.d (.bool false))), (12, .v (.d (.int .i64 z6))), (13, .v (.d (.int .i64 t.2)))], [], 288⟩)
          (fun t => t.1 ≤ m1 ∧ L29_2 t.1 l1 l2 z6 t.2 = some r1) (fun t => t.1) (m1, (0 : Int)) ⟨Nat.le_refl _, h⟩ (by cbv) ?_
        clear h
        rintro ⟨m2, z7⟩ ⟨hm2, h⟩
        replace hm2 : m2 ≤ m1 := hm2
        cases m2 with
        | zero =>
          replace h : L29_2 0 l1 l2 z6 z7 = some r1 := h
          rw [L29_2] at h
          cases h
        | succ m2 =>
          replace h : L29_2 (m2 + 1) l1 l2 z6 z7 = some r1 := h
          rw [L29_2] at h
          try cbv
          refine seq_join (T := Nat × Bool) (fun t => ⟨[(0, .v (.d (.list false 1 l1))), (1, .v (.d (.list false 1 l2))), (4, .v (.d (.bool false))), (12, .v (.d (.int .i64 z6))), (13, .v (.d (.int .i64 z7))), (14, .v (.d (.bool t.2)))], [], 320⟩) (fun t => t.1 ≤ m2 ∧ L29_3 t.1 l1 l2 z6 z7 t.2 = some r1) ?_ ?_
          · try cbv
            refine splitL (fun e => ?_) (fun e => ?_)
            · replace h := ite_t e h
              clear e
              try cbv
              exact join_next (m2, true) [0, 1, 4, 12, 13, 14] [] 320 ⟨by omega, h⟩ (by cbv)
            · replace h := ite_f (Int.not_lt.2 e) h
              clear e
              try cbv
              exact join_next (m2, false) [0, 1, 4, 12, 13, 14] [] 320 ⟨by omega, h⟩ (by cbv)
          · clear h
            rintro ⟨m3, b8⟩ ⟨hm3, h⟩
            replace hm3 : m3 ≤ m2 := hm3
            cases m3 with
            | zero =>
              replace h : L29_3 0 l1 l2 z6 z7 b8 = some r1 := h
              rw [L29_3] at h
              cases h
            | succ m3 =>
              replace h : L29_3 (m3 + 1) l1 l2 z6 z7 b8 = some r1 := h
              rw [L29_3] at h
              try cbv
              refine seq_go ?_
              try cbv
              cases b8
              · replace h := ite_f Bool.false_ne_true h
                try cbv
                refine seq_go ?_
                try cbv
                obtain rfl := Option.some.inj h
                refine fin_go ?_
                try cbv
                exact ⟨[], rfl, rfl, trivial, trivial, trivial⟩
              · replace h := ite_t rfl h
                try cbv
                refine seq_go ?_
                try cbv
                refine seq_go ?_
                try cbv
                refine seq_join (T := Nat × Bool) (fun t => ⟨[(0, .v (.d (.list false 1 l1))), (1, .v (.d (.list false 1 l2))), (4, .v (.d (.bool false))), (12, .v (.d (.int .i64 z6))), (13, .v (.d (.int .i64 z7))), (24, .v (.d (.bool t.2)))], [], 672⟩) (fun t => t.1 ≤ m3 ∧ L29_4 t.1 l1 l2 z6 z7 t.2 = some r1) ?_ ?_
                · try cbv
                  replace h := getF_inv h
                  obtain ⟨x9, hx9, h⟩ := h
                  replace h := ds_i64_inv h
                  obtain ⟨z10, rfl, h⟩ := h
                  refine ⟨_, hx9.1, hx9.2, ?_⟩
                  try cbv
                  replace h := getF_inv h
                  obtain ⟨x11, hx11, h⟩ := h
                  replace h := ds_i64_inv h
                  obtain ⟨z12, rfl, h⟩ := h
                  refine ⟨_, hx11.1, hx11.2, ?_⟩
                  try cbv
                  refine splitI (fun e => ?_) (fun e => ?_)
                  · replace h := ite_t e h
                    clear e
                    try cbv
                    refine drawn ?_ ?_
                    · show _ = true
                      kernel_rfl
                    try cbv
                    exact join_next (m3, false) [0, 1, 4, 12, 13, 24] [] 672 ⟨by omega, h⟩ (by cbv)
                  · replace h := ite_f e h
                    clear e
                    try cbv
                    refine drawn ?_ ?_
                    · show _ = true
                      kernel_rfl
                    try cbv
                    exact join_next (m3, true) [0, 1, 4, 12, 13, 24] [] 672 ⟨by omega, h⟩ (by cbv)
                · clear h
                  rintro ⟨m4, b13⟩ ⟨hm4, h⟩
                  replace hm4 : m4 ≤ m3 := hm4
                  cases m4 with
                  | zero =>
                    replace h : L29_4 0 l1 l2 z6 z7 b13 = some r1 := h
                    rw [L29_4] at h
                    cases h
                  | succ m4 =>
                    replace h : L29_4 (m4 + 1) l1 l2 z6 z7 b13 = some r1 := h
                    rw [L29_4] at h
                    try cbv
                    cases b13
                    · replace h := ite_f Bool.false_ne_true h
                      try cbv
                      replace h := letF_inv h
                      obtain ⟨z14, hz, h⟩ := h
                      refine ⟨z14, hz, ?_⟩
                      clear hz
                      try cbv
                      exact loop_next (m4, z14) [0, 1, 4, 12, 13] [] 288 ⟨by omega, h⟩ (Nat.lt_succ_of_le (by omega)) (by cbv)
                    · replace h := ite_t rfl h
                      try cbv
                      refine seq_go ?_
                      try cbv
                      obtain rfl := Option.some.inj h
                      refine fin_go ?_
                      try cbv
                      exact ⟨[], rfl, rfl, trivial, trivial, trivial⟩
      · replace h := ite_t rfl h
        try cbv
        refine seq_go ?_
        try cbv
        obtain rfl := Option.some.inj h
        refine fin_go ?_
        try cbv
        exact ⟨[], rfl, rfl, trivial, trivial, trivial⟩
end Go.Proofs.YtagiiaejijihoaaDoor
end

set_option linter.unusedVariables false
noncomputable section
namespace Go.Proofs.YtagiiaejijihoaaDoor
open Go Go.AM
mutual
def L30_1 : Nat → (List D) → (List D) → Bool → Option (Bool)
  | 0, _, _, _ => none
  | n + 1, l1, l2, b5 =>
    (if b5 = true then some false else lenF l1 fun z6 => L30_2 n l1 l2 z6 (0 : Int))
def L30_2 : Nat → (List D) → (List D) → Int → Int → Option (Bool)
  | 0, _, _, _, _ => none
  | n + 1, l1, l2, z6, z7 =>
    (if z7 < z6 then L30_3 n l1 l2 z6 z7 true else L30_3 n l1 l2 z6 z7 false)
def L30_3 : Nat → (List D) → (List D) → Int → Int → Bool → Option (Bool)
  | 0, _, _, _, _, _ => none
  | n + 1, l1, l2, z6, z7, b8 =>
    (if b8 = true then getF l1 z7 fun x9 => ds_t25 x9 fun z10 z11 s12 l13 z14 l15 => getF l2 z7 fun x16 => ds_t25 x16 fun z17 z18 s19 l20 z21 l22 => bO1 (F14 n z10 z11 s12 l13 z14 l15 z17 z18 s19 l20 z21 l22) fun b23 => letB (!b23) fun b24 => (if b24 = true then some false else letF (IntKind.wrap .i64 (z7 + 1)) fun z25 => L30_2 n l1 l2 z6 z25) else some true)
def F30 : Nat → (List D) → (List D) → Option (Bool)
  | 0, _, _ => none
  | n + 1, l1, l2 =>
    lenF l1 fun z3 => lenF l2 fun z4 => (if z3 = z4 then L30_1 n l1 l2 false else L30_1 n l1 l2 true)
def F14 : Nat → Int → Int → ByteArray → (List D) → Int → (List D) → Int → Int → ByteArray → (List D) → Int → (List D) → Option (Bool)
  | 0, _, _, _, _, _, _, _, _, _, _, _, _ => none
  | n + 1, z1, z2, s3, l4, z5, l6, z7, z8, s9, l10, z11, l12 =>
    (if z1 = z7 then (if z2 = z8 then (if s3 = s9 then (if z5 = z11 then bO1 (F29 n l6 l12) fun b13 => (if b13 = true then bO1 (F30 n l4 l10) fun b14 => some b14 else some false) else some false) else some false) else some false) else some false)
end
set_option maxRecDepth 100000 in
set_option maxHeartbeats 40000000 in
theorem G30 (n : Nat) : (∀ ⦃l1 : List D⦄ ⦃l2 : List D⦄ ⦃r1 : Bool⦄, F30 n l1 l2 = some r1 →
    Trip Tryd.prog inv 30 [.d (.list true 6 l1), .d (.list true 6 l2), .c (.fn 14 [])] [] (.v (.d (.bool r1))) [] []) ∧
    (∀ ⦃z1 : Int⦄ ⦃z2 : Int⦄ ⦃s3 : ByteArray⦄ ⦃l4 : List D⦄ ⦃z5 : Int⦄ ⦃l6 : List D⦄ ⦃z7 : Int⦄ ⦃z8 : Int⦄ ⦃s9 : ByteArray⦄ ⦃l10 : List D⦄ ⦃z11 : Int⦄ ⦃l12 : List D⦄ ⦃r1 : Bool⦄, F14 n z1 z2 s3 l4 z5 l6 z7 z8 s9 l10 z11 l12 = some r1 →
    Trip Tryd.prog inv 14 [.d (.agg [.int .u8 z1, .int .i64 z2, .str s3, .list true 6 l4, .int .i64 z5, .list false 1 l6]), .d (.agg [.int .u8 z7, .int .i64 z8, .str s9, .list true 6 l10, .int .i64 z11, .list false 1 l12])] [] (.v (.d (.bool r1))) [] []) := by
  induction n using Nat.strongRecOn with
  | _ n ih =>
    cases n with
    | zero =>
      refine ⟨?_, ?_⟩
      · intro l1 l2 r1 h
        cases (show (none : Option _) = some _ from h)
      · intro z1 z2 s3 l4 z5 l6 z7 z8 s9 l10 z11 l12 r1 h
        cases (show (none : Option _) = some _ from h)
    | succ n =>
      refine ⟨?_, ?_⟩
      · intro l1 l2 r1 h
        rw [F30] at h
        refine Trip.of tab_ok tab_one fol Tryd.func30 rfl (by kernel_rfl) rfl rfl rfl (fun M hM hI => ?_)
        try cbv
        refine seq_go ?_
        try cbv
        refine seq_go ?_
        try cbv
        refine seq_join (T := Nat × Bool) (fun t => ⟨[(0, .v (.d (.list true 6 l1))), (1, .v (.d (.list true 6 l2))), (2, .v (.c (.fn 14 []))), (6, .v (.d (.bool false))), (14, .v (.d (.bool t.2)))], [], 192⟩) (fun t => t.1 ≤ n ∧ L30_1 t.1 l1 l2 t.2 = some r1) ?_ ?_
        · try cbv
          replace h := lenF_inv M h
          obtain ⟨z3, hz, h⟩ := h
          refine ⟨z3, hz, ?_⟩
          clear hz
          try cbv
          replace h := lenF_inv M h
          obtain ⟨z4, hz, h⟩ := h
          refine ⟨z4, hz, ?_⟩
          clear hz
          try cbv
          refine splitI (fun e => ?_) (fun e => ?_)
          · replace h := ite_t e h
            clear e
            try cbv
            exact join_next (n, false) [0, 1, 2, 6, 14] [] 192 ⟨by omega, h⟩ (by cbv)
          · replace h := ite_f e h
            clear e
            try cbv
            exact join_next (n, true) [0, 1, 2, 6, 14] [] 192 ⟨by omega, h⟩ (by cbv)
        · clear h
          rintro ⟨m1, b5⟩ ⟨hm1, h⟩
          replace hm1 : m1 ≤ n := hm1
          cases m1 with
          | zero =>
            replace h : L30_1 0 l1 l2 b5 = some r1 := h
            rw [L30_1] at h
            cases h
          | succ m1 =>
            replace h : L30_1 (m1 + 1) l1 l2 b5 = some r1 := h
            rw [L30_1] at h
            try cbv
            cases b5
            · replace h := ite_f Bool.false_ne_true h
              try cbv
              refine seq_go ?_
              try cbv
              refine seq_go ?_
              try cbv
              replace h := lenF_inv M h
              obtain ⟨z6, hz, h⟩ := h
              refine ⟨z6, hz, ?_⟩
              clear hz
              try cbv
              refine loop_inv (T := Nat × Int) [1, 2, 6, 15, 16, 17] [] 288 (fun t => ⟨[(1, .v (.d (.list true 6 l2))), (2, .v (.c (.fn 14 []))), (6, .v (.d (.bool false))), (15, .v (.d (.list true 6 l1))), (16, .v (.d (.int .i64 z6))), (17, .v (.d (.int .i64 t.2)))], [], 288⟩)
                (fun t => t.1 ≤ m1 ∧ L30_2 t.1 l1 l2 z6 t.2 = some r1) (fun t => t.1) (m1, (0 : Int)) ⟨Nat.le_refl _, h⟩ (by cbv) ?_
              clear h
              rintro ⟨m2, z7⟩ ⟨hm2, h⟩
              replace hm2 : m2 ≤ m1 := hm2
              cases m2 with
              | zero =>
                replace h : L30_2 0 l1 l2 z6 z7 = some r1 := h
                rw [L30_2] at h
                cases h
              | succ m2 =>
                replace h : L30_2 (m2 + 1) l1 l2 z6 z7 = some r1 := h
                rw [L30_2] at h
                try cbv
                refine seq_join (T := Nat × Bool) (fun t => ⟨[(1, .v (.d (.list true 6 l2))), (2, .v (.c (.fn 14 []))), (6, .v (.d (.bool false))), (15, .v (.d (.list true 6 l1))), (16, .v (.d (.int .i64 z6))), (17, .v (.d (.int .i64 z7))), (18, .v (.d (.bool t.2)))], [], 320⟩) (fun t => t.1 ≤ m2 ∧ L30_3 t.1 l1 l2 z6 z7 t.2 = some r1) ?_ ?_
                · try cbv
                  refine splitL (fun e => ?_) (fun e => ?_)
                  · replace h := ite_t e h
                    clear e
                    try cbv
                    exact join_next (m2, true) [1, 2, 6, 15, 16, 17, 18] [] 320 ⟨by omega, h⟩ (by cbv)
                  · replace h := ite_f (Int.not_lt.2 e) h
                    clear e
                    try cbv
                    exact join_next (m2, false) [1, 2, 6, 15, 16, 17, 18] [] 320 ⟨by omega, h⟩ (by cbv)
                · clear h
                  rintro ⟨m3, b8⟩ ⟨hm3, h⟩
                  replace hm3 : m3 ≤ m2 := hm3
                  cases m3 with
                  | zero =>
                    replace h : L30_3 0 l1 l2 z6 z7 b8 = some r1 := h
                    rw [L30_3] at h
                    cases h
                  | succ m3 =>
                    replace h : L30_3 (m3 + 1) l1 l2 z6 z7 b8 = some r1 := h
                    rw [L30_3] at h
                    try cbv
                    refine seq_go ?_
                    try cbv
                    cases b8
                    · replace h := ite_f Bool.false_ne_true h
                      try cbv
                      refine seq_go ?_
                      try cbv
                      obtain rfl := Option.some.inj h
                      refine fin_go ?_
                      try cbv
                      exact ⟨[], rfl, rfl, trivial, trivial, trivial⟩
                    · replace h := ite_t rfl h
                      try cbv
                      refine seq_go ?_
                      try cbv
                      refine seq_go ?_
                      try cbv
                      replace h := getF_inv h
                      obtain ⟨x9, hx9, h⟩ := h
                      replace h := ds_t25_inv h
                      obtain ⟨z10, z11, s12, l13, z14, l15, rfl, h⟩ := h
                      refine ⟨_, hx9.1, hx9.2, ?_⟩
                      try cbv
                      refine seq_go ?_
                      try cbv
                      replace h := getF_inv h
                      obtain ⟨x16, hx16, h⟩ := h
                      replace h := ds_t25_inv h
                      obtain ⟨z17, z18, s19, l20, z21, l22, rfl, h⟩ := h
                      refine ⟨_, hx16.1, hx16.2, ?_⟩
                      try cbv
                      refine seq_go ?_
                      try cbv
                      replace h := bO1_inv h
                      obtain ⟨b23, hr, h⟩ := h
                      refine call_go rfl rfl ?_
                      try cbv
                      refine call_pure hM hI ((ih _ (by omega)).2 hr) rfl ?_
                      clear hr
                      try cbv
                      replace h := letB_inv h
                      obtain ⟨b24, hz, h⟩ := h
                      refine ⟨b24, not_eq' hz, ?_⟩
                      clear hz
                      try cbv
                      cases b24
                      · replace h := ite_f Bool.false_ne_true h
                        try cbv
                        replace h := letF_inv h
                        obtain ⟨z25, hz, h⟩ := h
                        refine ⟨z25, hz, ?_⟩
                        clear hz
                        try cbv
                        exact loop_next (m3, z25) [1, 2, 6, 15, 16, 17] [] 288 ⟨by omega, h⟩ (Nat.lt_succ_of_le (by omega)) (by cbv)
                      · replace h := ite_t rfl h
                        try cbv
                        refine seq_go ?_
                        try cbv
                        obtain rfl := Option.some.inj h
                        refine fin_go ?_
                        try cbv
                        exact ⟨[], rfl, rfl, trivial, trivial, trivial⟩
            · replace h := ite_t rfl h
              try cbv
              refine seq_go ?_
              try cbv
              obtain rfl := Option.some.inj h
              refine fin_go ?_
              try cbv
              exact ⟨[], rfl, rfl, trivial, trivial, trivial⟩
      · intro z1 z2 s3 l4 z5 l6 z7 z8 s9 l10 z11 l12 r1 h
        rw [F14] at h
        refine Trip.of tab_ok tab_one fol Tryd.func14 rfl (by kernel_rfl) rfl rfl rfl (fun M hM hI => ?_)
        try cbv
        refine seq_go ?_
        try cbv
        refine seq_go ?_
        try cbv
        refine splitI (fun e => ?_) (fun e => ?_)
        · replace h := ite_t e h
          clear e
          try cbv
          refine splitI (fun e => ?_) (fun e => ?_)
          · replace h := ite_t e h
            clear e
            try cbv
            refine splitS (fun e => ?_) (fun e => ?_)
            · replace h := ite_t (bytes_eq.1 e) h
              clear e
              try cbv
              refine splitI (fun e => ?_) (fun e => ?_)
              · replace h := ite_t e h
                clear e
                try cbv
                replace h := bO1_inv h
                obtain ⟨b13, hr, h⟩ := h
                refine call_go rfl rfl ?_
                try cbv
                refine call_pure hM hI (T29 _ hr) rfl ?_
                clear hr
                try cbv
                cases b13
                · replace h := ite_f Bool.false_ne_true h
                  try cbv
                  obtain rfl := Option.some.inj h
                  refine fin_go ?_
                  try cbv
                  exact ⟨[], rfl, rfl, trivial, trivial, trivial⟩
                · replace h := ite_t rfl h
                  try cbv
                  replace h := bO1_inv h
                  obtain ⟨b14, hr, h⟩ := h
                  refine call_go rfl rfl ?_
                  try cbv
                  refine call_pure hM hI ((ih _ (by omega)).1 hr) rfl ?_
                  clear hr
                  try cbv
                  obtain rfl := Option.some.inj h
                  refine fin_go ?_
                  try cbv
                  exact ⟨[], rfl, rfl, trivial, trivial, trivial⟩
              · replace h := ite_f e h
                clear e
                try cbv
                obtain rfl := Option.some.inj h
                refine fin_go ?_
                try cbv
                exact ⟨[], rfl, rfl, trivial, trivial, trivial⟩
            · replace h := ite_f (bytes_ne.1 e) h
              clear e
              try cbv
              obtain rfl := Option.some.inj h
              refine fin_go ?_
              try cbv
              exact ⟨[], rfl, rfl, trivial, trivial, trivial⟩
          · replace h := ite_f e h
            clear e
            try cbv
            obtain rfl := Option.some.inj h
            refine fin_go ?_
            try cbv
            exact ⟨[], rfl, rfl, trivial, trivial, trivial⟩
        · replace h := ite_f e h
          clear e
          try cbv
          obtain rfl := Option.some.inj h
          refine fin_go ?_
          try cbv
          exact ⟨[], rfl, rfl, trivial, trivial, trivial⟩
theorem T14 (n : Nat) : ∀ ⦃z1 : Int⦄ ⦃z2 : Int⦄ ⦃s3 : ByteArray⦄ ⦃l4 : List D⦄ ⦃z5 : Int⦄ ⦃l6 : List D⦄ ⦃z7 : Int⦄ ⦃z8 : Int⦄ ⦃s9 : ByteArray⦄ ⦃l10 : List D⦄ ⦃z11 : Int⦄ ⦃l12 : List D⦄ ⦃r1 : Bool⦄, F14 n z1 z2 s3 l4 z5 l6 z7 z8 s9 l10 z11 l12 = some r1 →
    Trip Tryd.prog inv 14 [.d (.agg [.int .u8 z1, .int .i64 z2, .str s3, .list true 6 l4, .int .i64 z5, .list false 1 l6]), .d (.agg [.int .u8 z7, .int .i64 z8, .str s9, .list true 6 l10, .int .i64 z11, .list false 1 l12])] [] (.v (.d (.bool r1))) [] [] := (G30 n).2
end Go.Proofs.YtagiiaejijihoaaDoor
end

set_option linter.unusedVariables false
noncomputable section
namespace Go.Proofs.YtagiiaejijihoaaDoor
open Go Go.AM

theorem iw {z : Int} (h1 : -9223372036854775808 ≤ z) (h2 : z ≤ 9223372036854775807) : IntKind.i64.wrap z = z := IntWalk.i64_in _ (by omega)
theorem ilt {i n : Nat} (h : i < n) : (i : Int) < (n : Int) := by omega
theorem need_pos {γ : Type} {p : Prop} [Decidable p] (h : p) (x : Option γ) : needF p x = x := if_pos h
theorem appF_ok {γ : Type} {b : Nat} {L M : List D} {k : List D → Option γ} (h : L.length + M.length ≤ maxLen ∧ (L.length + M.length) * b ≤ 140737488355328) : appF b L M k = k (L ++ M) := by
  unfold appF
  exact if_pos h
theorem getN_some {γ : Type} {L : List D} {i : Nat} {x : D} {k : D → Option γ} (h : L[i]? = some x) : getN L i k = k x := by unfold getN; rw [h]

structure VV where
  k : Int
  i : Int
  nm : ByteArray
  fs : List D
  id : Int
  pt : List D
def VV.row (v : VV) : D := .agg [.int .u8 v.k, .int .i64 v.i, .str v.nm, .list true 6 v.fs, .int .i64 v.id, .list false 1 v.pt]
def zeroV : VV := ⟨0, 0, ByteArray.empty, [], 0, []⟩
def un : D → VV
  | .agg [.int _ a0, .int _ a1, .str a2, .list _ _ a3, .int _ a4, .list _ _ a5] => ⟨a0, a1, a2, a3, a4, a5⟩
  | _ => zeroV
theorem un_row (v : VV) : un v.row = v := rfl
theorem row_inj {v w : VV} (h : v.row = w.row) : v = w := by rw [← un_row v, h, un_row]
structure VT (v : VV) : Prop where
  k : (Lit.int .u8 v.k).wf = true
  i : (Lit.int .i64 v.i).wf = true
  nm : v.nm.size ≤ maxLen
  fs : ListS tab 25 v.fs
  id : (Lit.int .i64 v.id).wf = true
  pt : ListS tab 3 v.pt
inductive Sm : List D → Prop
  | mk {l : List D} (h : l.length ≤ 500) (hp : ∀ v : VV, v.row ∈ l → v.pt.length ≤ 5000) (hf : ∀ v : VV, v.row ∈ l → Sm v.fs) : Sm l
theorem Sm.len {l : List D} (h : Sm l) : l.length ≤ 500 := by cases h; assumption
theorem Sm.pt {l : List D} (h : Sm l) {v : VV} (hv : v.row ∈ l) : v.pt.length ≤ 5000 := by
  cases h with
  | mk h hp hf => exact hp v hv
theorem Sm.fs {l : List D} (h : Sm l) {v : VV} (hv : v.row ∈ l) : Sm v.fs := by
  cases h with
  | mk h hp hf => exact hf v hv
structure VS (v : VV) : Prop where
  t : VT v
  p : v.pt.length ≤ 5000
  f : Sm v.fs
theorem rowV {l : List D} (h : ListS tab 25 l) {i : Nat} (hi : i < l.length) : ∃ v : VV, l[i]? = some v.row ∧ v.row ∈ l ∧ VT v := by
  obtain ⟨x, hx, hm, hr⟩ := h.get hi
  obtain ⟨a0, a1, a2, a3, a4, a5, rfl, w0, w1, w2, w3, w4, w5⟩ := rs25 hr
  exact ⟨⟨a0, a1, a2, a3, a4, a5⟩, hx, hm, ⟨w0, w1, w2, w3, w4, w5⟩⟩
theorem ds25 {γ : Type} (v : VV) (k : Int → Int → ByteArray → List D → Int → List D → Option γ) : ds_t25 v.row k = k v.k v.i v.nm v.fs v.id v.pt := rfl
theorem size_fs {l : List D} {v : VV} (h : v.row ∈ l) : SizeOf.sizeOf v.fs < SizeOf.sizeOf l := size_row (ag := true) (sz := 6) h (by simp)
theorem intsS {l : List D} (h : ListS tab 3 l) : ∃ q : List Int, l = q.map (D.int .i64) ∧ ∀ z ∈ q, (Lit.int .i64 z).wf = true := by
  induction l with
  | nil => exact ⟨[], rfl, by simp⟩
  | cons x l ih =>
    obtain ⟨q, rfl, hq⟩ := ih ⟨by have := h.1; simp only [List.length_cons] at this; omega, fun y hy => h.2 y (List.mem_cons_of_mem _ hy)⟩
    obtain ⟨z, rfl, hz⟩ := rs3 (h.2 x (by simp))
    exact ⟨z :: q, rfl, fun y hy => by rcases List.mem_cons.1 hy with rfl | hy; exact hz; exact hq y hy⟩
abbrev pD (q : List Int) : List D := q.map (D.int .i64)

theorem ev24 (l : List D) : ListS tab 25 l → ∀ z : Int, -1 ≤ z → z ≤ 5000 → ∃ r, Ev (fun n => F24 n l z) r ∧ -1 ≤ r ∧ r ≤ z + 0 ∧ (0 ≤ r → Sm l ∧ 10 * (l.length : Int) ≤ z - r) := by
  refine list_ind (P := fun l => ListS tab 25 l → ∀ z : Int, -1 ≤ z → z ≤ 5000 → ∃ r, Ev (fun n => F24 n l z) r ∧ -1 ≤ r ∧ r ≤ z + 0 ∧ (0 ≤ r → Sm l ∧ 10 * (l.length : Int) ≤ z - r)) (fun l ih h => ?_) l
  have loop : ∀ i : Nat, i ≤ l.length → ∀ z : Int, -1 ≤ z → z ≤ 5000 → ∃ r, Ev (fun n => L24_1 n l z (i : Int)) r ∧ -1 ≤ r ∧ r ≤ z ∧
      (0 ≤ r → 10 * ((l.length : Int) - i) ≤ z - r ∧ ∀ j : Nat, i ≤ j → ∀ v : VV, l[j]? = some v.row → v.pt.length ≤ 5000 ∧ Sm v.fs) := by
    refine down l.length ?_ ?_
    · intro z h1 h2
      refine ⟨z, .succ ?_, h1, Int.le_refl _, fun _ => ⟨by omega, fun j hj v hv => absurd ((List.getElem?_eq_some_iff.1 hv).1) (by omega)⟩⟩
      simp only [L24_1, lenF, Int.lt_irrefl, if_false]
      exact .succ (by simp only [L24_2, Bool.false_eq_true, if_false]; exact .ret)
    · intro i hi ihd z h1 h2
      by_cases hz : 0 ≤ z
      · obtain ⟨v, hx, hm, hv⟩ := rowV h hi
        have hw := iw (z := z - 10) (by omega) (by omega)
        have fail : ∀ z14, ∃ r, Ev (fun n => L24_3 n l (i : Int) v.nm v.fs v.pt z14 true) r ∧ r = -1 := fun z14 => ⟨-1, .succ (by simp only [L24_3, if_true]; exact .ret), rfl⟩
        have hsz : v.nm.size = (v.nm.data.toList).length := (Array.length_toList (xs := v.nm.data)).symm
        by_cases c1 : z - 10 < 0
        · refine ⟨-1, .succ ?_, by omega, by omega, by omega⟩
          simp only [L24_1, lenF, if_pos (ilt hi), if_pos hz]
          refine .succ ?_
          simp only [L24_2, if_true, getF_nat hx, ds25, letF, hw, if_pos c1]
          exact .succ (by simp only [L24_3, if_true]; exact .ret)
        by_cases c2 : z - 10 < (v.nm.size : Int)
        · refine ⟨-1, .succ ?_, by omega, by omega, by omega⟩
          simp only [L24_1, lenF, if_pos (ilt hi), if_pos hz]
          refine .succ ?_
          simp only [L24_2, if_true, getF_nat hx, ds25, letF, hw, if_neg c1, szF, if_pos c2]
          exact .succ (by simp only [L24_3, if_true]; exact .ret)
        have hw2 := iw (z := z - 10 - (v.nm.size : Int)) (by omega) (by omega)
        by_cases c3 : z - 10 - (v.nm.size : Int) < (v.pt.length : Int)
        · refine ⟨-1, .succ ?_, by omega, by omega, by omega⟩
          simp only [L24_1, lenF, if_pos (ilt hi), if_pos hz]
          refine .succ ?_
          simp only [L24_2, if_true, getF_nat hx, ds25, letF, hw, if_neg c1, szF, if_neg c2, lenF, hw2, if_pos c3]
          exact .succ (by simp only [L24_3, if_true]; exact .ret)
        have hw3 := iw (z := z - 10 - (v.nm.size : Int) - (v.pt.length : Int)) (by omega) (by omega)
        obtain ⟨y, e1, e2, e3, e4⟩ := ih v.fs (size_fs hm) hv.fs (z - 10 - (v.nm.size : Int) - (v.pt.length : Int)) (by omega) (by omega)
        obtain ⟨r, k1, k2, k3, k4⟩ := ihd y (by omega) (by omega)
        refine ⟨r, .succ ?_, k2, by omega, fun hr => ⟨?_, ?_⟩⟩
        · simp only [L24_1, lenF, if_pos (ilt hi), if_pos hz]
          refine .succ ?_
          simp only [L24_2, if_true, getF_nat hx, ds25, letF, hw, if_neg c1, szF, if_neg c2, lenF, hw2, if_neg c3]
          refine .succ ?_
          simp only [L24_3, Bool.false_eq_true, if_false, szF, letF, hw2, lenF, hw3]
          refine Ev.bO1 e1 ?_
          simp only [letF, wrap_succ hi h.1]
          exact k1
        · have := (k4 hr).1
          have := (e4 (by omega)).2
          omega
        · intro j hj w hw'
          by_cases e : j = i
          · subst e
            rw [hx] at hw'
            obtain rfl := row_inj (Option.some.inj hw')
            exact ⟨by omega, (e4 (by omega)).1⟩
          · exact (k4 hr).2 j (by omega) w hw'
      · refine ⟨z, .succ ?_, h1, Int.le_refl _, by omega⟩
        simp only [L24_1, lenF, if_pos (ilt hi), if_neg hz]
        exact .succ (by simp only [L24_2, Bool.false_eq_true, if_false]; exact .ret)
  intro z h1 h2
  obtain ⟨r, k1, k2, k3, k4⟩ := loop 0 (Nat.zero_le _) z h1 h2
  refine ⟨r, .succ (by simp only [F24]; exact k1), k2, by omega, fun hr => ?_⟩
  obtain ⟨q1, q2⟩ := k4 hr
  refine ⟨.mk (by omega) (fun v hv => ?_) (fun v hv => ?_), by omega⟩
  · obtain ⟨j, hj⟩ := List.getElem?_of_mem hv
    exact (q2 j (Nat.zero_le _) v hj).1
  · obtain ⟨j, hj⟩ := List.getElem?_of_mem hv
    exact (q2 j (Nat.zero_le _) v hj).2
theorem VT.rowS {v : VV} (h : VT v) : RowS tab 25 v.row := mk25 h.k h.i h.nm h.fs h.id h.pt
theorem one_sm {v : VV} (h : Sm [v.row]) : v.pt.length ≤ 5000 ∧ Sm v.fs := ⟨h.pt (by simp), h.fs (by simp)⟩
theorem ev8 {v x : VV} (hv : VT v) (hx : VT x) (l : List D) : ∃ b, Ev (fun n => F8 n v.k v.i v.nm v.fs v.id v.pt x.k x.i x.nm x.fs x.id x.pt l) b ∧ (b = false → VS v ∧ VS x ∧ l.length ≤ 100) := by
  unfold F8
  by_cases c : (100 : Int) < (l.length : Int)
  · exact ⟨true, by simp only [lenF, if_pos c]; exact .ret, fun h => by cases h⟩
  · simp only [lenF, if_neg c]
    obtain ⟨y, e1, e2, e3, e4⟩ := ev24 [v.row] (.one hv.rowS) 5000 (by omega) (by omega)
    obtain ⟨r, k1, k2, k3, k4⟩ := ev24 [x.row] (.one hx.rowS) y (by omega) (by omega)
    by_cases hr : r < 0
    · exact ⟨true, Ev.bO1 e1 (Ev.bO1 k1 (by simp only [if_pos hr]; exact .ret)), fun h => by cases h⟩
    · refine ⟨false, Ev.bO1 e1 (Ev.bO1 k1 (by simp only [if_neg hr]; exact .ret)), fun _ => ?_⟩
      obtain ⟨p1, p2⟩ := one_sm (e4 (by omega)).1
      obtain ⟨q1, q2⟩ := one_sm (k4 (by omega)).1
      exact ⟨⟨hv, p1, p2⟩, ⟨hx, q1, q2⟩, by omega⟩

theorem Ev.nilF {l : List D} {A B : Nat → Option (List D)} {r : List D} (hB : Ev B r) (hA : l = [] → Ev A r) : Ev (fun n => nilF l (A n) (B n)) r := by
  by_cases e : l = []
  · obtain ⟨N, h1⟩ := hA e
    obtain ⟨M, h2⟩ := hB
    refine ⟨N + M, fun n hn => ?_⟩
    show AM.nilF l (A n) (B n) = some r
    rw [nilF_eq (fun _ => by rw [h1 n (by omega), h2 n (by omega)])]
    exact h2 n (by omega)
  · obtain ⟨M, h2⟩ := hB
    refine ⟨M, fun n hn => ?_⟩
    show AM.nilF l (A n) (B n) = some r
    rw [nilF_eq (fun h => absurd h e)]
    exact h2 n hn
theorem scal_ints {l : List D} (h : ListS tab 3 l) : scalB l = true := by
  obtain ⟨q, rfl, _⟩ := intsS h
  unfold scalB
  simp [D.cells, isCon]
theorem ev26 {l : List D} (h : ListS tab 3 l) (hl : l.length ≤ 5000) : Ev (fun n => F26 n l) l := by
  unfold F26
  refine Ev.nilF (.succ ?_) (fun e => ?_)
  · have hM : 5000 < maxLen := by decide
    simp only [L26_1, Bool.false_eq_true, if_false]
    rw [need_pos (scal_ints h)]
    unfold appF
    rw [if_pos (by simp only [List.length_nil]; omega)]
    exact .ret
  · subst e
    exact .succ (by simp only [L26_1, if_true]; exact .ret)
theorem ev10L (l : List D) : ListS tab 25 l → Sm l → ∀ (z1 z2 : Int) (s3 : ByteArray) (z5 : Int) (l6 : List D), ListS tab 3 l6 → l6.length ≤ 5000 → Ev (fun n => F10 n z1 z2 s3 l z5 l6) (z1, z2, s3, z5, l, l6) := by
  refine list_ind (P := fun l => ListS tab 25 l → Sm l → ∀ (z1 z2 : Int) (s3 : ByteArray) (z5 : Int) (l6 : List D), ListS tab 3 l6 → l6.length ≤ 5000 → Ev (fun n => F10 n z1 z2 s3 l z5 l6) (z1, z2, s3, z5, l, l6)) (fun l ih h hs z1 z2 s3 z5 l6 h6 h6' => ?_) l
  have hM : 5000 < maxLen := by decide
  have hl := hs.len
  have loop : ∀ i : Nat, i ≤ l.length → Ev (fun n => L10_1 n z1 z2 s3 l z5 l6 (l.length : Int) (i : Int) (l.take i)) (z1, z2, s3, z5, l, l6) := by
    refine down l.length ?_ ?_
    · refine .succ ?_
      simp only [L10_1, Int.lt_irrefl, if_false]
      refine .succ ?_
      simp only [L10_2, Bool.false_eq_true, if_false, List.take_length]
      exact Ev.bO1 (ev26 h6 h6') .ret
    · intro i hi ihd
      obtain ⟨v, hx, hm, hv⟩ := rowV h hi
      have ht : l.take (i + 1) = l.take i ++ [v.row] := by rw [List.take_add_one, hx]; rfl
      refine .succ ?_
      simp only [L10_1, if_pos (ilt hi)]
      refine .succ ?_
      simp only [L10_2, if_true, getF_nat hx, ds25]
      refine Ev.bO6 (ih v.fs (size_fs hm) hv.fs (hs.fs hm) v.k v.i v.nm v.id v.pt hv.pt (hs.pt hm)) ?_
      have hb : (l.take i).length + [v.row].length ≤ maxLen ∧ ((l.take i).length + [v.row].length) * 88 ≤ 140737488355328 := by simp only [List.length_take, List.length_cons, List.length_nil]; omega
      have ha : ∀ k : List D → Option (Int × Int × ByteArray × Int × List D × List D), appF 88 (l.take i) [.agg [.int .u8 v.k, .int .i64 v.i, .str v.nm, .list true 6 v.fs, .int .i64 v.id, .list false 1 v.pt]] k = k (l.take i ++ [v.row]) := fun k => appF_ok hb
      simp only [ha, letF, wrap_succ hi h.1]
      rw [ht] at ihd
      exact ihd
  refine .succ ?_
  simp only [F10, lenF]
  exact loop 0 (Nat.zero_le _)
theorem ev10 {v : VV} (h : VS v) : Ev (fun n => F10 n v.k v.i v.nm v.fs v.id v.pt) (v.k, v.i, v.nm, v.id, v.fs, v.pt) := ev10L v.fs h.t.fs h.f _ _ _ _ _ h.t.pt h.p

theorem ints_ev {q q' : List Int} (h : q.length ≤ maxLen) : Ev (fun n => F27x1 n (pD q) (pD q')) (decide (q = q')) := by
  unfold F27x1
  simp only [lenF, List.length_map]
  by_cases e : q.length = q'.length
  · simp only [if_pos (show (q.length : Int) = (q'.length : Int) by omega)]
    refine .succ ?_
    simp only [L27x1_1, Bool.false_eq_true, if_false]
    have loop : ∀ i : Nat, i ≤ q.length → Ev (fun n => L27x1_2 n (pD q) (pD q') (i : Int)) (decide (q.drop i = q'.drop i)) := by
      refine down _ ?_ (fun i hi ih => ?_)
      · refine .succ ?_
        simp only [L27x1_2, lenF, List.length_map, Int.lt_irrefl, if_false]
        rw [List.drop_length, e, List.drop_length, decide_eq_true rfl]
        exact .succ (by simp only [L27x1_3, Bool.false_eq_true, if_false]; exact .ret)
      · have hi' : i < q'.length := by omega
        have h1 : (pD q)[i]? = some (.int .i64 q[i]) := by simp [hi]
        have h2 : (pD q')[i]? = some (.int .i64 q'[i]) := by simp [hi']
        have d1 := List.drop_eq_getElem_cons hi
        have d2 := List.drop_eq_getElem_cons hi'
        refine .succ ?_
        simp only [L27x1_2, lenF, List.length_map, if_pos (ilt hi)]
        refine .succ ?_
        simp only [L27x1_3, if_true, getF_nat h1, getF_nat h2, ds_i64]
        by_cases c : q[i] = q'[i]
        · simp only [if_pos c]
          refine .succ ?_
          simp only [L27x1_4, Bool.false_eq_true, if_false, letF, wrap_succ hi h]
          have : decide (q.drop i = q'.drop i) = decide (q.drop (i + 1) = q'.drop (i + 1)) := by
            rw [d1, d2, c]; exact decide_eq_decide.2 ⟨fun h => (List.cons.inj h).2, fun h => by rw [h]⟩
          rw [this]
          exact ih
        · simp only [if_neg c]
          rw [decide_eq_false (by rw [d1, d2]; intro h; exact c (List.cons.inj h).1)]
          exact .succ (by simp only [L27x1_4, if_true]; exact .ret)
    have := loop 0 (Nat.zero_le _)
    simpa using this
  · simp only [if_neg (show ¬ (q.length : Int) = (q'.length : Int) by omega)]
    rw [decide_eq_false (fun h => e (congrArg _ h))]
    exact .succ (by simp only [L27x1_1, if_true]; exact .ret)
theorem pD_inj {q q' : List Int} (h : pD q = pD q') : q = q' := by
  induction q generalizing q' with
  | nil => cases q' <;> simp_all
  | cons a q ih =>
    cases q' with
    | nil => simp at h
    | cons b q' =>
      simp only [List.map_cons, List.cons.injEq, D.int.injEq, true_and] at h
      rw [h.1, ih h.2]
open Classical in
theorem same_of (v w : VV) (hv : VT v) (hw : VT w) (hfs : Ev (fun n => F28x1 n v.fs w.fs) (decide (v.fs = w.fs))) :
    Ev (fun n => F11x1 n v.k v.i v.nm v.fs v.id v.pt w.k w.i w.nm w.fs w.id w.pt) (decide (v = w)) := by
  have no : v ≠ w → Ev (fun _ => some false) (decide (v = w)) := fun h => by rw [decide_eq_false h]; exact .ret
  refine .succ ?_
  simp only [F11x1]
  by_cases c1 : v.k = w.k
  rotate_left
  · simp only [if_neg c1]; exact no (fun h => c1 (by rw [h]))
  by_cases c2 : v.i = w.i
  rotate_left
  · simp only [if_pos c1, if_neg c2]; exact no (fun h => c2 (by rw [h]))
  by_cases c3 : v.nm = w.nm
  rotate_left
  · simp only [if_pos c1, if_pos c2, if_neg c3]; exact no (fun h => c3 (by rw [h]))
  by_cases c4 : v.id = w.id
  rotate_left
  · simp only [if_pos c1, if_pos c2, if_pos c3, if_neg c4]; exact no (fun h => c4 (by rw [h]))
  simp only [if_pos c1, if_pos c2, if_pos c3, if_pos c4]
  obtain ⟨q, e1, _⟩ := intsS hv.pt
  obtain ⟨q', e2, _⟩ := intsS hw.pt
  have hq : q.length ≤ maxLen := by have := hv.pt.1; rw [e1] at this; simpa using this
  rw [e1, e2]
  refine Ev.bO1 (ints_ev hq) ?_
  by_cases c5 : q = q'
  rotate_left
  · simp only [decide_eq_false c5, Bool.false_eq_true, if_false]
    exact no (fun h => c5 (pD_inj (e1.symm.trans ((congrArg VV.pt h).trans e2))))
  simp only [decide_eq_true c5, if_true]
  refine Ev.bO1 hfs ?_
  have : decide (v.fs = w.fs) = decide (v = w) := by
    refine decide_eq_decide.2 ⟨fun h => ?_, fun h => by rw [h]⟩
    have e3 : v.pt = w.pt := by rw [e1, e2, c5]
    obtain ⟨a, b, c, d, e, f⟩ := v
    obtain ⟨a', b', c', d', e', f'⟩ := w
    simp only [VV.mk.injEq]
    exact ⟨c1, c2, c3, h, c4, e3⟩
  rw [this]
  exact .ret
open Classical in
theorem sameL (l : List D) : ∀ m, ListS tab 25 l → ListS tab 25 m → Ev (fun n => F28x1 n l m) (decide (l = m)) := by
  refine list_ind (P := fun l => ∀ m, ListS tab 25 l → ListS tab 25 m → Ev (fun n => F28x1 n l m) (decide (l = m))) (fun l ih m h hm => ?_) l
  refine .succ ?_
  simp only [F28x1, lenF]
  by_cases e : l.length = m.length
  rotate_left
  · simp only [if_neg (show ¬ (l.length : Int) = (m.length : Int) by omega)]
    rw [decide_eq_false (fun h => e (congrArg _ h))]
    exact .succ (by simp only [L28x1_1, if_true]; exact .ret)
  simp only [if_pos (show (l.length : Int) = (m.length : Int) by omega)]
  refine .succ ?_
  simp only [L28x1_1, Bool.false_eq_true, if_false]
  have loop : ∀ i : Nat, i ≤ l.length → Ev (fun n => L28x1_2 n l m (i : Int)) (decide (l.drop i = m.drop i)) := by
    refine down _ ?_ (fun i hi ihd => ?_)
    · refine .succ ?_
      simp only [L28x1_2, lenF, Int.lt_irrefl, if_false]
      rw [List.drop_length, e, List.drop_length, decide_eq_true rfl]
      exact .succ (by simp only [L28x1_3, Bool.false_eq_true, if_false]; exact .ret)
    · have hi' : i < m.length := by omega
      obtain ⟨v, hx, hvm, hv⟩ := rowV h hi
      obtain ⟨w, hy, hwm, hw⟩ := rowV hm hi'
      have d1 : l.drop i = v.row :: l.drop (i + 1) := by
        rw [List.drop_eq_getElem_cons hi]; congr 1
        rw [List.getElem?_eq_getElem hi] at hx; exact Option.some.inj hx
      have d2 : m.drop i = w.row :: m.drop (i + 1) := by
        rw [List.drop_eq_getElem_cons hi']; congr 1
        rw [List.getElem?_eq_getElem hi'] at hy; exact Option.some.inj hy
      refine .succ ?_
      simp only [L28x1_2, lenF, if_pos (ilt hi)]
      refine .succ ?_
      simp only [L28x1_3, if_true, getF_nat hx, getF_nat hy, ds25]
      refine Ev.bO1 (same_of v w hv hw (ih v.fs (size_fs hvm) w.fs hv.fs hw.fs)) ?_
      by_cases c : v = w
      · simp only [decide_eq_true c, letB, Bool.not_true, Bool.false_eq_true, if_false, letF, wrap_succ hi h.1]
        have : decide (l.drop i = m.drop i) = decide (l.drop (i + 1) = m.drop (i + 1)) := by
          rw [d1, d2, c]; exact decide_eq_decide.2 ⟨fun h => (List.cons.inj h).2, fun h => by rw [h]⟩
        rw [this]
        exact ihd
      · simp only [decide_eq_false c, letB, Bool.not_false, if_true]
        rw [decide_eq_false (by rw [d1, d2]; intro h; exact c (row_inj (List.cons.inj h).1))]
        exact .ret
  have := loop 0 (Nat.zero_le _)
  simpa using this
open Classical in
theorem ev11 {v w : VV} (hv : VT v) (hw : VT w) : Ev (fun n => F11x1 n v.k v.i v.nm v.fs v.id v.pt w.k w.i w.nm w.fs w.id w.pt) (decide (v = w)) :=
  same_of v w hv hw (sameL v.fs w.fs hv.fs hw.fs)

theorem bO1s {α γ : Type} (a : α) (k : α → Option γ) : bO1 (some a) k = k a := id rfl
def bl (s : ByteArray) : List UInt8 := s.data.toList
def tx (l : List UInt8) : ByteArray := ⟨l.toArray⟩
theorem bl_tx (l : List UInt8) : bl (tx l) = l := by simp [bl, tx]
theorem bl_inj {s t : ByteArray} (h : bl s = bl t) : s = t := by
  apply ByteArray.ext
  apply Array.ext'
  exact h
theorem tx_bl (s : ByteArray) : tx (bl s) = s := bl_inj (bl_tx _)
theorem bl_len (s : ByteArray) : s.size = (bl s).length := (Array.length_toList (xs := s.data)).symm
theorem tx_size (l : List UInt8) : (tx l).size = l.length := by rw [bl_len, bl_tx]
theorem tx_app (a b : List UInt8) : tx a ++ tx b = tx (a ++ b) := by
  apply bl_inj
  rw [bl_tx]
  show ((tx a) ++ (tx b)).data.toList = _
  rw [ByteArray.data_append, Array.toList_append]
  simp [tx]
theorem cat_tx {γ : Type} {a b : List UInt8} {k : ByteArray → Option γ} (h : a.length + b.length ≤ 10000000) : catF (tx a) (tx b) k = k (tx (a ++ b)) := by
  unfold catF
  rw [if_pos, tx_app]
  have : IntKind.i64.max = 9223372036854775807 := rfl
  rw [tx_size, tx_size]
  omega

theorem dec_small {u : Nat} (h : u < 10) : Lib.decDigits u = [UInt8.ofNat (48 + u)] := by rw [Lib.decDigits, dif_pos h]
theorem dec_big {u : Nat} (h : ¬ u < 10) : Lib.decDigits u = Lib.decDigits (u / 10) ++ [UInt8.ofNat (48 + u % 10)] := by rw [Lib.decDigits, dif_neg h]
theorem itoa_len {z : Int} (h : (Lit.int .i64 z).wf = true) : (Lib.itoa z).length ≤ 21 := Lib.itoa_length_le z (i64_range h).1 (i64_range h).2

def lettersL : List UInt8 := [45, 105, 98, 117, 115, 101, 66, 67, 82, 65, 77, 84, 83, 86, 114, 109]
def lt (k : Int) : UInt8 := if k < 16 then lettersL.getD k.toNat 0 else 63
def intOf : D → Int
  | .int _ z => z
  | _ => 0
def pathT (l : List D) : List UInt8 := l.flatMap fun d => Lib.itoa (intOf d) ++ [44]
def txt1 (T : List UInt8) (v : VV) : List UInt8 :=
  lt v.k :: (Lib.itoa v.i ++ 58 :: (Lib.itoa (v.nm.size : Int) ++ 58 :: (bl v.nm ++ 58 :: (Lib.itoa v.id ++ 40 :: (T ++ 41 :: 91 :: (pathT v.pt ++ [93]))))))
def txtL : Nat → List D → List UInt8
  | 0, _ => []
  | f + 1, l => l.flatMap fun x => txt1 (txtL f (un x).fs) (un x)
def txt (v : VV) : List UInt8 := txt1 (txtL (SizeOf.sizeOf v.fs + 1) v.fs) v
theorem txtL_fuel : ∀ (f g : Nat) (l : List D), (∀ x ∈ l, ∃ v : VV, x = v.row) → (ListS tab 25 l) → SizeOf.sizeOf l < f → SizeOf.sizeOf l < g → txtL f l = txtL g l
  | 0, g, l, _, _, h, _ => by omega
  | f + 1, 0, l, _, _, _, h => by omega
  | f + 1, g + 1, l, hr, hl, h1, h2 => by
    simp only [txtL]
    have main : ∀ m : List D, (∀ x ∈ m, x ∈ l) → m.flatMap (fun x => txt1 (txtL f (un x).fs) (un x)) = m.flatMap (fun x => txt1 (txtL g (un x).fs) (un x)) := by
      intro m hm
      induction m with
      | nil => rfl
      | cons x m ih =>
        obtain ⟨v, rfl⟩ := hr x (hm x (by simp))
        have hv := hm v.row (by simp)
        have hsz := size_fs hv
        have hvT : VT v := by
          obtain ⟨a0, a1, a2, a3, a4, a5, e, w0, w1, w2, w3, w4, w5⟩ := rs25 (hl.2 _ hv)
          have e' : v = ⟨a0, a1, a2, a3, a4, a5⟩ := row_inj e
          rw [e']; exact ⟨w0, w1, w2, w3, w4, w5⟩
        have hrows : ∀ x ∈ v.fs, ∃ w : VV, x = w.row := fun x hx => by
          obtain ⟨a0, a1, a2, a3, a4, a5, rfl, _⟩ := rs25 (hvT.fs.2 x hx)
          exact ⟨⟨a0, a1, a2, a3, a4, a5⟩, rfl⟩
        simp only [List.flatMap_cons, un_row, txtL_fuel f g v.fs hrows hvT.fs (by omega) (by omega), ih (fun x hx => hm x (by simp [hx]))]
    exact main l (fun x hx => hx)
theorem rowsOf {l : List D} (h : ListS tab 25 l) : ∀ x ∈ l, ∃ v : VV, x = v.row ∧ VT v := fun x hx => by
  obtain ⟨a0, a1, a2, a3, a4, a5, rfl, w0, w1, w2, w3, w4, w5⟩ := rs25 (h.2 x hx)
  exact ⟨⟨a0, a1, a2, a3, a4, a5⟩, rfl, ⟨w0, w1, w2, w3, w4, w5⟩⟩
theorem txtL_txt {l : List D} (h : ListS tab 25 l) {f : Nat} (hf : SizeOf.sizeOf l < f) : txtL f l = l.flatMap fun x => txt (un x) := by
  match f, hf with
  | f + 1, hf =>
    simp only [txtL]
    have main : ∀ m : List D, (∀ x ∈ m, x ∈ l) → m.flatMap (fun x => txt1 (txtL f (un x).fs) (un x)) = m.flatMap (fun x => txt (un x)) := by
      intro m hm
      induction m with
      | nil => rfl
      | cons x m ih =>
        obtain ⟨v, rfl, hv⟩ := rowsOf h x (hm x (by simp))
        have hsz := size_fs (hm v.row (by simp))
        simp only [List.flatMap_cons, un_row, ih (fun x hx => hm x (by simp [hx]))]
        unfold txt
        rw [txtL_fuel f (SizeOf.sizeOf v.fs + 1) v.fs (fun x hx => (rowsOf hv.fs x hx).imp fun _ h => h.1) hv.fs (by omega) (by omega)]
    exact main l (fun x hx => hx)
theorem txt_eq {v : VV} (h : VT v) : txt v = txt1 (v.fs.flatMap fun x => txt (un x)) v := by
  rw [← txtL_txt h.fs (Nat.lt_succ_self _)]
  rfl
theorem pathT_len {l : List D} (h : ListS tab 3 l) : (pathT l).length ≤ 22 * l.length := by
  obtain ⟨q, rfl, hq⟩ := intsS h
  unfold pathT
  clear h
  induction q with
  | nil => simp
  | cons z q ih =>
    have h1 := ih (fun y hy => hq y (by simp [hy]))
    have h2 := itoa_len (hq z (by simp))
    simp only [List.map_cons, List.flatMap_cons, List.length_append, List.length_cons, List.length_nil, intOf] at h1 ⊢
    omega

theorem ev24t (l : List D) : ListS tab 25 l → ∀ z : Int, -1 ≤ z → z ≤ 5000 → ∃ r, Ev (fun n => F24 n l z) r ∧ -1 ≤ r ∧ r ≤ z ∧ (0 ≤ r → ((l.flatMap fun x => txt (un x)).length : Int) ≤ 22 * (z - r)) := by
  refine list_ind (P := fun l => ListS tab 25 l → ∀ z : Int, -1 ≤ z → z ≤ 5000 → ∃ r, Ev (fun n => F24 n l z) r ∧ -1 ≤ r ∧ r ≤ z ∧ (0 ≤ r → ((l.flatMap fun x => txt (un x)).length : Int) ≤ 22 * (z - r))) (fun l ih h => ?_) l
  have loop : ∀ i : Nat, i ≤ l.length → ∀ z : Int, -1 ≤ z → z ≤ 5000 → ∃ r, Ev (fun n => L24_1 n l z (i : Int)) r ∧ -1 ≤ r ∧ r ≤ z ∧
      (0 ≤ r → (((l.drop i).flatMap fun x => txt (un x)).length : Int) ≤ 22 * (z - r)) := by
    refine down l.length ?_ ?_
    · intro z h1 h2
      refine ⟨z, .succ ?_, h1, Int.le_refl _, fun _ => by rw [List.drop_length]; simp⟩
      simp only [L24_1, lenF, Int.lt_irrefl, if_false]
      exact .succ (by simp only [L24_2, Bool.false_eq_true, if_false]; exact .ret)
    · intro i hi ihd z h1 h2
      by_cases hz : 0 ≤ z
      · obtain ⟨v, hx, hm, hv⟩ := rowV h hi
        have hw := iw (z := z - 10) (by omega) (by omega)
        by_cases c1 : z - 10 < 0
        · refine ⟨-1, .succ ?_, by omega, by omega, by omega⟩
          simp only [L24_1, lenF, if_pos (ilt hi), if_pos hz]
          refine .succ ?_
          simp only [L24_2, if_true, getF_nat hx, ds25, letF, hw, if_pos c1]
          exact .succ (by simp only [L24_3, if_true]; exact .ret)
        by_cases c2 : z - 10 < (v.nm.size : Int)
        · refine ⟨-1, .succ ?_, by omega, by omega, by omega⟩
          simp only [L24_1, lenF, if_pos (ilt hi), if_pos hz]
          refine .succ ?_
          simp only [L24_2, if_true, getF_nat hx, ds25, letF, hw, if_neg c1, szF, if_pos c2]
          exact .succ (by simp only [L24_3, if_true]; exact .ret)
        have hw2 := iw (z := z - 10 - (v.nm.size : Int)) (by omega) (by omega)
        by_cases c3 : z - 10 - (v.nm.size : Int) < (v.pt.length : Int)
        · refine ⟨-1, .succ ?_, by omega, by omega, by omega⟩
          simp only [L24_1, lenF, if_pos (ilt hi), if_pos hz]
          refine .succ ?_
          simp only [L24_2, if_true, getF_nat hx, ds25, letF, hw, if_neg c1, szF, if_neg c2, lenF, hw2, if_pos c3]
          exact .succ (by simp only [L24_3, if_true]; exact .ret)
        have hw3 := iw (z := z - 10 - (v.nm.size : Int) - (v.pt.length : Int)) (by omega) (by omega)
        obtain ⟨y, e1, e2, e3, e4⟩ := ih v.fs (size_fs hm) hv.fs (z - 10 - (v.nm.size : Int) - (v.pt.length : Int)) (by omega) (by omega)
        obtain ⟨r, k1, k2, k3, k4⟩ := ihd y (by omega) (by omega)
        refine ⟨r, .succ ?_, k2, by omega, fun hr => ?_⟩
        · simp only [L24_1, lenF, if_pos (ilt hi), if_pos hz]
          refine .succ ?_
          simp only [L24_2, if_true, getF_nat hx, ds25, letF, hw, if_neg c1, szF, if_neg c2, lenF, hw2, if_neg c3]
          refine .succ ?_
          simp only [L24_3, Bool.false_eq_true, if_false, szF, letF, hw2, lenF, hw3]
          refine Ev.bO1 e1 ?_
          simp only [letF, wrap_succ hi h.1]
          exact k1
        · have d1 : l.drop i = v.row :: l.drop (i + 1) := by
            rw [List.drop_eq_getElem_cons hi]; congr 1
            rw [List.getElem?_eq_getElem hi] at hx; exact Option.some.inj hx
          have l1 := k4 hr
          have l2 := e4 (by omega)
          have l3 := itoa_len hv.i
          have l4 := itoa_len hv.id
          have l5 := itoa_len (z := (v.nm.size : Int)) (i64_wf (by omega) (by have := hv.nm; simp only [maxLen] at this; omega))
          have l6 := pathT_len hv.pt
          have l7 := bl_len v.nm
          rw [d1, List.flatMap_cons, un_row, txt_eq hv]
          simp only [txt1, List.length_append, List.length_cons, List.length_nil]
          omega
      · refine ⟨z, .succ ?_, h1, Int.le_refl _, by omega⟩
        simp only [L24_1, lenF, if_pos (ilt hi), if_neg hz]
        exact .succ (by simp only [L24_2, Bool.false_eq_true, if_false]; exact .ret)
  intro z h1 h2
  obtain ⟨r, k1, k2, k3, k4⟩ := loop 0 (Nat.zero_le _) z h1 h2
  exact ⟨r, .succ (by simp only [F24]; exact k1), k2, k3, fun hr => by simpa using k4 hr⟩
theorem ev8t {v x : VV} (hv : VT v) (hx : VT x) (l : List D) : ∃ b, Ev (fun n => F8 n v.k v.i v.nm v.fs v.id v.pt x.k x.i x.nm x.fs x.id x.pt l) b ∧ (b = false → VS v ∧ VS x ∧ (txt v).length ≤ 200000 ∧ (txt x).length ≤ 200000) := by
  obtain ⟨b, hb, h1⟩ := ev8 hv hx l
  refine ⟨b, hb, fun e => ?_⟩
  subst e
  obtain ⟨g1, g2, g3⟩ := h1 rfl
  obtain ⟨y, e1, e2, e3, e4⟩ := ev24t [v.row] (.one hv.rowS) 5000 (by omega) (by omega)
  obtain ⟨r, k1, k2, k3, k4⟩ := ev24t [x.row] (.one hx.rowS) y (by omega) (by omega)
  by_cases hr : r < 0
  · exfalso
    have : Ev (fun n => F8 n v.k v.i v.nm v.fs v.id v.pt x.k x.i x.nm x.fs x.id x.pt l) true := by
      unfold F8
      simp only [lenF, if_neg (show ¬ (100 : Int) < (l.length : Int) by omega)]
      exact Ev.bO1 e1 (Ev.bO1 k1 (by simp only [if_pos hr]; exact .ret))
    cases this.uniq hb
  · have a1 := e4 (by omega)
    have a2 := k4 (by omega)
    simp only [List.flatMap_cons, List.flatMap_nil, List.append_nil, un_row] at a1 a2
    exact ⟨g1, g2, by omega, by omega⟩

theorem join_empty (xs : List (List UInt8)) : Lib.join xs [] = xs.flatten := by
  cases xs with
  | nil => rfl
  | cons x r => rw [Lib.join_cons]; simp [Lib.joinTail]
theorem ev32 {z : Int} (h : (Lit.int .i64 z).wf = true) (n : Nat) : F32 n z = some (tx (Lib.itoa z)) := by
  unfold F32; rw [if_pos (i64_range h)]; rfl
theorem ev34 {z : Int} (h : (Lit.int .i64 z).wf = true) (n : Nat) : F34 n z 10 = some (tx (Lib.itoa z)) := by
  unfold F34; rw [if_pos ⟨rfl, i64_range h⟩]; rfl
theorem flat_take {α : Type} (g : D → List UInt8) (l : List D) (i : Nat) : ((l.take i).flatMap g).length ≤ (l.flatMap g).length := by
  have : l.flatMap g = (l.take i).flatMap g ++ (l.drop i).flatMap g := by rw [← List.flatMap_append, List.take_append_drop]
  rw [this, List.length_append]; omega
theorem letter15 {k : Int} (h : (Lit.int .u8 k).wf = true) (h16 : k < 16) {γ : Type} (f : ByteArray → Option γ) :
    getF [.str k___1, .str k_i, .str k_b, .str k_u, .str k_s, .str k_e, .str k_B, .str k_C, .str k_R, .str k_A, .str k_M, .str k_T, .str k_S, .str k_V, .str k_r, .str k_m] k (fun x9 => ds_str x9 f) = f (tx [lt k]) := by
  have h0 := (u8_range h).1
  obtain ⟨i, rfl⟩ : ∃ i : Nat, k = (i : Int) := ⟨k.toNat, by omega⟩
  have hi : i < 16 := by omega
  have : ∀ i : Nat, i < 16 → i = 0 ∨ i = 1 ∨ i = 2 ∨ i = 3 ∨ i = 4 ∨ i = 5 ∨ i = 6 ∨ i = 7 ∨ i = 8 ∨ i = 9 ∨ i = 10 ∨ i = 11 ∨ i = 12 ∨ i = 13 ∨ i = 14 ∨ i = 15 := by omega
  rcases this i hi with rfl | rfl | rfl | rfl | rfl | rfl | rfl | rfl | rfl | rfl | rfl | rfl | rfl | rfl | rfl | rfl <;> rfl
theorem ev15L (l : List D) : ∀ v : VV, v.fs = l → VT v → (txt v).length ≤ 200000 → Ev (fun n => F15 n v.k v.i v.nm v.fs v.id v.pt) (tx (txt v)) := by
  refine list_ind (P := fun l => ∀ v : VV, v.fs = l → VT v → (txt v).length ≤ 200000 → Ev (fun n => F15 n v.k v.i v.nm v.fs v.id v.pt) (tx (txt v))) (fun l ih v hvl hv hlen => ?_) l
  subst hvl
  have hk := u8_range hv.k
  have hw := iw (z := v.k) (by omega) (by omega)
  have hnm : (Lit.int .i64 (v.nm.size : Int)).wf = true := i64_wf (by omega) (by have := hv.nm; simp only [maxLen] at this; omega)
  rw [txt_eq hv] at hlen ⊢
  have hlen' := hlen
  simp only [txt1, List.length_append, List.length_cons, List.length_nil] at hlen'
  -- the end
  have fin : Ev (fun n => L15_6 n v.i v.nm v.id v.pt (tx [lt v.k]) (tx (v.fs.flatMap fun x => txt (un x))) (v.pt.length : Int) (tx (pathT v.pt)) (v.pt.length : Int) false) (tx (txt1 (v.fs.flatMap fun x => txt (un x)) v)) := by
    refine .succ ?_
    simp only [L15_6, Bool.false_eq_true, if_false, ev32 hv.id, ev34 hv.i, szF, ev32 hnm, bO1s]
    refine Ev.bO1 (a := tx (txt1 (v.fs.flatMap fun x => txt (un x)) v)) ?_ .ret
    unfold F33
    refine Ev.bO1 (a := tx (txt1 (v.fs.flatMap fun x => txt (un x)) v)) (.of fun n => ?_) .ret
    have hj : Lib.join ([tx [lt v.k], tx (Lib.itoa v.i), k___3, tx (Lib.itoa (v.nm.size : Int)), k___3, v.nm, k___3, tx (Lib.itoa v.id), k___4, tx (v.fs.flatMap fun x => txt (un x)), k___, tx (pathT v.pt), k___5].map (·.data.toList)) ByteArray.empty.data.toList = txt1 (v.fs.flatMap fun x => txt (un x)) v := by
      rw [show ByteArray.empty.data.toList = ([] : List UInt8) from rfl, join_empty]
      show [bl (tx [lt v.k]), bl (tx (Lib.itoa v.i)), bl k___3, bl (tx (Lib.itoa (v.nm.size : Int))), bl k___3, bl v.nm, bl k___3, bl (tx (Lib.itoa v.id)), bl k___4, bl (tx (v.fs.flatMap fun x => txt (un x))), bl k___, bl (tx (pathT v.pt)), bl k___5].flatten = _
      simp only [bl_tx, show bl k___3 = [58] from rfl, show bl k___4 = [40] from rfl, show bl k___ = [41, 91] from rfl, show bl k___5 = [93] from rfl, List.flatten_cons, List.flatten_nil, txt1, List.cons_append, List.nil_append, List.append_nil]
    show (if 13 ≤ 140737488355328 ∧ (Lib.join _ _).length ≤ 140737488355328 then some (joinB _ _) else none) = _
    rw [if_pos ⟨by decide, by rw [hj]; omega⟩]
    unfold joinB
    rw [hj]
    rfl
  have path : ∀ i : Nat, i ≤ v.pt.length → Ev (fun n => L15_5 n v.i v.nm v.id v.pt (tx [lt v.k]) (tx (v.fs.flatMap fun x => txt (un x))) (v.pt.length : Int) (tx (pathT (v.pt.take i))) (i : Int)) (tx (txt1 (v.fs.flatMap fun x => txt (un x)) v)) := by
    refine down _ ?_ (fun i hi ihd => ?_)
    · refine .succ ?_
      simp only [L15_5, Int.lt_irrefl, if_false, List.take_length]
      exact fin
    · obtain ⟨x, hx, _, hr⟩ := hv.pt.get hi
      obtain ⟨z, rfl, hz⟩ := rs3 hr
      have ht : v.pt.take (i + 1) = v.pt.take i ++ [.int .i64 z] := by rw [List.take_add_one, hx]; rfl
      have hp : pathT (v.pt.take (i + 1)) = pathT (v.pt.take i) ++ (Lib.itoa z ++ [44]) := by rw [ht]; simp [pathT, intOf]
      have hb := flat_take (α := Nat) (fun d => Lib.itoa (intOf d) ++ [44]) v.pt i
      have hz' := itoa_len hz
      have q1 : ∀ k : ByteArray → Option ByteArray, catF (tx (Lib.itoa z)) k___2 k = k (tx (Lib.itoa z ++ [44])) := fun k => cat_tx (b := [44]) (by simp only [List.length_cons, List.length_nil]; omega)
      have q2 : ∀ k : ByteArray → Option ByteArray, catF (tx (pathT (v.pt.take i))) (tx (Lib.itoa z ++ [44])) k = k (tx (pathT (v.pt.take i) ++ (Lib.itoa z ++ [44]))) := fun k => cat_tx (by
        unfold pathT at hlen' ⊢
        simp only [List.length_append, List.length_cons, List.length_nil]; omega)
      refine .succ ?_
      simp only [L15_5, if_pos (ilt hi)]
      refine .succ ?_
      simp only [L15_6, if_true, getF_nat hx, ds_i64, ev32 hz, bO1s, q1, q2, letF, wrap_succ hi hv.pt.1]
      rw [hp] at ihd
      exact ihd
  have fields : ∀ i : Nat, i ≤ v.fs.length → Ev (fun n => L15_3 n v.i v.nm v.fs v.id v.pt (tx [lt v.k]) (v.fs.length : Int) (tx ((v.fs.take i).flatMap fun x => txt (un x))) (i : Int)) (tx (txt1 (v.fs.flatMap fun x => txt (un x)) v)) := by
    refine down _ ?_ (fun i hi ihd => ?_)
    · refine .succ ?_
      simp only [L15_3, Int.lt_irrefl, if_false, List.take_length]
      refine .succ ?_
      simp only [L15_4, Bool.false_eq_true, if_false, lenF]
      have := path 0 (Nat.zero_le _)
      rw [show tx (pathT (v.pt.take 0)) = ByteArray.empty from rfl] at this
      exact this
    · obtain ⟨w, hx, hm, hw'⟩ := rowV hv.fs hi
      have ht : (v.fs.take (i + 1)).flatMap (fun x => txt (un x)) = (v.fs.take i).flatMap (fun x => txt (un x)) ++ txt w := by
        rw [List.take_add_one, hx, List.flatMap_append]
        simp [un_row]
      have hb := flat_take (α := Nat) (fun x => txt (un x)) v.fs (i + 1)
      have hb' := congrArg List.length ht
      rw [List.length_append] at hb'
      refine .succ ?_
      simp only [L15_3, if_pos (ilt hi)]
      refine .succ ?_
      simp only [L15_4, if_true, getF_nat hx, ds25]
      refine Ev.bO1 (ih w.fs (size_fs hm) w rfl hw' (by omega)) ?_
      have q : ∀ k : ByteArray → Option ByteArray, catF (tx ((v.fs.take i).flatMap fun x => txt (un x))) (tx (txt w)) k = k (tx ((v.fs.take i).flatMap (fun x => txt (un x)) ++ txt w)) := fun k => cat_tx (by omega)
      simp only [q, letF, wrap_succ hi hv.fs.1]
      rw [ht] at ihd
      exact ihd
  have l2 : ∀ s, s = tx [lt v.k] → Ev (fun n => L15_2 n v.i v.nm v.fs v.id v.pt s) (tx (txt1 (v.fs.flatMap fun x => txt (un x)) v)) := by
    rintro s rfl
    refine .succ ?_
    simp only [L15_2, lenF]
    have := fields 0 (Nat.zero_le _)
    rw [show tx ((v.fs.take 0).flatMap fun x => txt (un x)) = ByteArray.empty from rfl] at this
    exact this
  refine .succ ?_
  simp only [F15, letF, hw, F31]
  refine Ev.bO0 .ret ?_
  by_cases c : v.k < 16
  · simp only [if_pos c]
    refine .succ ?_
    simp only [L15_1, if_true, F31]
    refine Ev.bO0 .ret ?_
    simp only [letter15 hv.k c]
    exact l2 _ rfl
  · simp only [if_neg c]
    refine .succ ?_
    simp only [L15_1, Bool.false_eq_true, if_false]
    exact l2 _ (by unfold lt; rw [if_neg c]; rfl)
theorem ev15 {v : VV} (hv : VT v) (h : (txt v).length ≤ 200000) : Ev (fun n => F15 n v.k v.i v.nm v.fs v.id v.pt) (tx (txt v)) := ev15L v.fs v rfl hv h

theorem ints29 {q q' : List Int} (h : q.length ≤ maxLen) : Ev (fun n => F29 n (pD q) (pD q')) (decide (q = q')) := by
  unfold F29
  simp only [lenF, List.length_map]
  by_cases e : q.length = q'.length
  · simp only [if_pos (show (q.length : Int) = (q'.length : Int) by omega)]
    refine .succ ?_
    simp only [L29_1, Bool.false_eq_true, if_false, lenF, List.length_map]
    have loop : ∀ i : Nat, i ≤ q.length → Ev (fun n => L29_2 n (pD q) (pD q') (q.length : Int) (i : Int)) (decide (q.drop i = q'.drop i)) := by
      refine down _ ?_ (fun i hi ih => ?_)
      · refine .succ ?_
        simp only [L29_2, Int.lt_irrefl, if_false]
        rw [List.drop_length, e, List.drop_length, decide_eq_true rfl]
        exact .succ (by simp only [L29_3, Bool.false_eq_true, if_false]; exact .ret)
      · have hi' : i < q'.length := by omega
        have h1 : (pD q)[i]? = some (.int .i64 q[i]) := by simp [hi]
        have h2 : (pD q')[i]? = some (.int .i64 q'[i]) := by simp [hi']
        have d1 := List.drop_eq_getElem_cons hi
        have d2 := List.drop_eq_getElem_cons hi'
        refine .succ ?_
        simp only [L29_2, if_pos (ilt hi)]
        refine .succ ?_
        simp only [L29_3, if_true, getF_nat h1, getF_nat h2, ds_i64]
        by_cases c : q[i] = q'[i]
        · simp only [if_pos c]
          refine .succ ?_
          simp only [L29_4, Bool.false_eq_true, if_false, letF, wrap_succ hi h]
          have : decide (q.drop i = q'.drop i) = decide (q.drop (i + 1) = q'.drop (i + 1)) := by
            rw [d1, d2, c]; exact decide_eq_decide.2 ⟨fun h => (List.cons.inj h).2, fun h => by rw [h]⟩
          rw [this]
          exact ih
        · simp only [if_neg c]
          rw [decide_eq_false (by rw [d1, d2]; intro h; exact c (List.cons.inj h).1)]
          exact .succ (by simp only [L29_4, if_true]; exact .ret)
    have := loop 0 (Nat.zero_le _)
    simpa using this
  · simp only [if_neg (show ¬ (q.length : Int) = (q'.length : Int) by omega)]
    rw [decide_eq_false (fun h => e (congrArg _ h))]
    exact .succ (by simp only [L29_1, if_true]; exact .ret)
open Classical in
theorem same14 (v w : VV) (hv : VT v) (hw : VT w) (hfs : Ev (fun n => F30 n v.fs w.fs) (decide (v.fs = w.fs))) :
    Ev (fun n => F14 n v.k v.i v.nm v.fs v.id v.pt w.k w.i w.nm w.fs w.id w.pt) (decide (v = w)) := by
  have no : v ≠ w → Ev (fun _ => some false) (decide (v = w)) := fun h => by rw [decide_eq_false h]; exact .ret
  refine .succ ?_
  simp only [F14]
  by_cases c1 : v.k = w.k
  rotate_left
  · simp only [if_neg c1]; exact no (fun h => c1 (by rw [h]))
  by_cases c2 : v.i = w.i
  rotate_left
  · simp only [if_pos c1, if_neg c2]; exact no (fun h => c2 (by rw [h]))
  by_cases c3 : v.nm = w.nm
  rotate_left
  · simp only [if_pos c1, if_pos c2, if_neg c3]; exact no (fun h => c3 (by rw [h]))
  by_cases c4 : v.id = w.id
  rotate_left
  · simp only [if_pos c1, if_pos c2, if_pos c3, if_neg c4]; exact no (fun h => c4 (by rw [h]))
  simp only [if_pos c1, if_pos c2, if_pos c3, if_pos c4]
  obtain ⟨q, e1, _⟩ := intsS hv.pt
  obtain ⟨q', e2, _⟩ := intsS hw.pt
  have hq : q.length ≤ maxLen := by have := hv.pt.1; rw [e1] at this; simpa using this
  rw [e1, e2]
  refine Ev.bO1 (ints29 hq) ?_
  by_cases c5 : q = q'
  rotate_left
  · simp only [decide_eq_false c5, Bool.false_eq_true, if_false]
    exact no (fun h => c5 (pD_inj (e1.symm.trans ((congrArg VV.pt h).trans e2))))
  simp only [decide_eq_true c5, if_true]
  refine Ev.bO1 hfs ?_
  have : decide (v.fs = w.fs) = decide (v = w) := by
    refine decide_eq_decide.2 ⟨fun h => ?_, fun h => by rw [h]⟩
    have e3 : v.pt = w.pt := by rw [e1, e2, c5]
    obtain ⟨a, b, c, d, e, f⟩ := v
    obtain ⟨a', b', c', d', e', f'⟩ := w
    simp only [VV.mk.injEq]
    exact ⟨c1, c2, c3, h, c4, e3⟩
  rw [this]
  exact .ret
open Classical in
theorem same30 (l : List D) : ∀ m, ListS tab 25 l → ListS tab 25 m → Ev (fun n => F30 n l m) (decide (l = m)) := by
  refine list_ind (P := fun l => ∀ m, ListS tab 25 l → ListS tab 25 m → Ev (fun n => F30 n l m) (decide (l = m))) (fun l ih m h hm => ?_) l
  refine .succ ?_
  simp only [F30, lenF]
  by_cases e : l.length = m.length
  rotate_left
  · simp only [if_neg (show ¬ (l.length : Int) = (m.length : Int) by omega)]
    rw [decide_eq_false (fun h => e (congrArg _ h))]
    exact .succ (by simp only [L30_1, if_true]; exact .ret)
  simp only [if_pos (show (l.length : Int) = (m.length : Int) by omega)]
  refine .succ ?_
  simp only [L30_1, Bool.false_eq_true, if_false, lenF]
  have loop : ∀ i : Nat, i ≤ l.length → Ev (fun n => L30_2 n l m (l.length : Int) (i : Int)) (decide (l.drop i = m.drop i)) := by
    refine down _ ?_ (fun i hi ihd => ?_)
    · refine .succ ?_
      simp only [L30_2, Int.lt_irrefl, if_false]
      rw [List.drop_length, e, List.drop_length, decide_eq_true rfl]
      exact .succ (by simp only [L30_3, Bool.false_eq_true, if_false]; exact .ret)
    · have hi' : i < m.length := by omega
      obtain ⟨v, hx, hvm, hv⟩ := rowV h hi
      obtain ⟨w, hy, hwm, hw⟩ := rowV hm hi'
      have d1 : l.drop i = v.row :: l.drop (i + 1) := by
        rw [List.drop_eq_getElem_cons hi]; congr 1
        rw [List.getElem?_eq_getElem hi] at hx; exact Option.some.inj hx
      have d2 : m.drop i = w.row :: m.drop (i + 1) := by
        rw [List.drop_eq_getElem_cons hi']; congr 1
        rw [List.getElem?_eq_getElem hi'] at hy; exact Option.some.inj hy
      refine .succ ?_
      simp only [L30_2, if_pos (ilt hi)]
      refine .succ ?_
      simp only [L30_3, if_true, getF_nat hx, getF_nat hy, ds25]
      refine Ev.bO1 (same14 v w hv hw (ih v.fs (size_fs hvm) w.fs hv.fs hw.fs)) ?_
      by_cases c : v = w
      · simp only [decide_eq_true c, letB, Bool.not_true, Bool.false_eq_true, if_false, letF, wrap_succ hi h.1]
        have : decide (l.drop i = m.drop i) = decide (l.drop (i + 1) = m.drop (i + 1)) := by
          rw [d1, d2, c]; exact decide_eq_decide.2 ⟨fun h => (List.cons.inj h).2, fun h => by rw [h]⟩
        rw [this]
        exact ihd
      · simp only [decide_eq_false c, letB, Bool.not_false, if_true]
        rw [decide_eq_false (by rw [d1, d2]; intro h; exact c (row_inj (List.cons.inj h).1))]
        exact .ret
  have := loop 0 (Nat.zero_le _)
  simpa using this
open Classical in
theorem ev14 {v w : VV} (hv : VT v) (hw : VT w) : Ev (fun n => F14 n v.k v.i v.nm v.fs v.id v.pt w.k w.i w.nm w.fs w.id w.pt) (decide (v = w)) :=
  same14 v w hv hw (same30 v.fs w.fs hv.fs hw.fs)

end Go.Proofs.YtagiiaejijihoaaDoor

set_option linter.unusedVariables false
noncomputable section
namespace Go.Proofs.YtagiiaejijihoaaDoor
open Go Go.AM
def L12_4 : Nat → Bool → Option (Bool)
  | 0, _ => none
  | n + 1, b10 =>
    (if b10 = true then some true else some false)
def L12_3 : Nat → Int → Bool → Option (Bool)
  | 0, _, _ => none
  | n + 1, z1, b9 =>
    (if b9 = true then L12_4 n true else (if z1 = (14 : Int) then L12_4 n true else L12_4 n false))
def L12_2 : Nat → Int → Bool → Option (Bool)
  | 0, _, _ => none
  | n + 1, z1, b8 =>
    (if b8 = true then L12_4 n true else (if z1 = (3 : Int) then L12_3 n z1 true else L12_3 n z1 false))
def L12_1 : Nat → Int → Bool → Option (Bool)
  | 0, _, _ => none
  | n + 1, z1, b7 =>
    (if b7 = true then L12_4 n true else (if z1 = (2 : Int) then L12_2 n z1 true else L12_2 n z1 false))
def F12 (n : Nat) (z1 : Int) (z2 : Int) (s3 : ByteArray) (l4 : List D) (z5 : Int) (l6 : List D) : Option (Bool) :=
  (if z1 = (1 : Int) then L12_1 n z1 true else L12_1 n z1 false)
set_option maxRecDepth 100000 in
set_option maxHeartbeats 40000000 in
theorem T12 (n : Nat) : ∀ ⦃z1 : Int⦄ ⦃z2 : Int⦄ ⦃s3 : ByteArray⦄ ⦃l4 : List D⦄ ⦃z5 : Int⦄ ⦃l6 : List D⦄ ⦃r1 : Bool⦄, F12 n z1 z2 s3 l4 z5 l6 = some r1 →
    Trip Tryd.prog inv 12 [.d (.agg [.int .u8 z1, .int .i64 z2, .str s3, .list true 6 l4, .int .i64 z5, .list false 1 l6])] [] (.v (.d (.bool r1))) [] [] := by
  intro z1 z2 s3 l4 z5 l6 r1 h
  unfold F12 at h
  refine Trip.of tab_ok tab_one fol Tryd.func12 rfl (by kernel_rfl) rfl rfl rfl (fun M hM hI => ?_)
  try cbv
  refine seq_go ?_
  try cbv
  refine seq_go ?_
  try cbv
  refine seq_go ?_
  try cbv
  refine seq_join (T := Nat × Bool) (fun t => ⟨[(2, .v (.d (.bool false))), (5, .v (.d (.bool t.2)))], [], 384⟩) (fun t => t.1 ≤ n ∧ L12_4 t.1 t.2 = some r1) ?_ ?_
  · try cbv
    refine seq_join (T := Nat × Bool) (fun t => ⟨[(2, .v (.d (.bool false))), (4, .v (.d (.int .u8 z1))), (5, .v (.d (.bool t.2)))], [], 192⟩) (fun t => t.1 ≤ n ∧ L12_1 t.1 z1 t.2 = some r1) ?_ ?_
    · try cbv
      refine splitI (fun e => ?_) (fun e => ?_)
      · replace h := ite_t e h
        clear e
        try cbv
        exact join_next (n, true) [2, 4, 5] [] 192 ⟨by omega, h⟩ (by cbv)
      · replace h := ite_f e h
        clear e
        try cbv
        exact join_next (n, false) [2, 4, 5] [] 192 ⟨by omega, h⟩ (by cbv)
    · clear h
      rintro ⟨m1, b7⟩ ⟨hm1, h⟩
      replace hm1 : m1 ≤ n := hm1
      cases m1 with
      | zero =>
        replace h : L12_1 0 z1 b7 = some r1 := h
        rw [L12_1] at h
        cases h
      | succ m1 =>
        replace h : L12_1 (m1 + 1) z1 b7 = some r1 := h
        rw [L12_1] at h
        try cbv
        cases b7
        · replace h := ite_f Bool.false_ne_true h
          try cbv
          refine seq_join (T := Nat × Bool) (fun t => ⟨[(2, .v (.d (.bool false))), (4, .v (.d (.int .u8 z1))), (5, .v (.d (.bool t.2)))], [], 256⟩) (fun t => t.1 ≤ m1 ∧ L12_2 t.1 z1 t.2 = some r1) ?_ ?_
          · try cbv
            refine splitI (fun e => ?_) (fun e => ?_)
            · replace h := ite_t e h
              clear e
              try cbv
              exact join_next (m1, true) [2, 4, 5] [] 256 ⟨by omega, h⟩ (by cbv)
            · replace h := ite_f e h
              clear e
              try cbv
              exact join_next (m1, false) [2, 4, 5] [] 256 ⟨by omega, h⟩ (by cbv)
          · clear h
            rintro ⟨m2, b8⟩ ⟨hm2, h⟩
            replace hm2 : m2 ≤ m1 := hm2
            cases m2 with
            | zero =>
              replace h : L12_2 0 z1 b8 = some r1 := h
              rw [L12_2] at h
              cases h
            | succ m2 =>
              replace h : L12_2 (m2 + 1) z1 b8 = some r1 := h
              rw [L12_2] at h
              try cbv
              cases b8
              · replace h := ite_f Bool.false_ne_true h
                try cbv
                refine seq_join (T := Nat × Bool) (fun t => ⟨[(2, .v (.d (.bool false))), (4, .v (.d (.int .u8 z1))), (5, .v (.d (.bool t.2)))], [], 320⟩) (fun t => t.1 ≤ m2 ∧ L12_3 t.1 z1 t.2 = some r1) ?_ ?_
                · try cbv
                  refine splitI (fun e => ?_) (fun e => ?_)
                  · replace h := ite_t e h
                    clear e
                    try cbv
                    exact join_next (m2, true) [2, 4, 5] [] 320 ⟨by omega, h⟩ (by cbv)
                  · replace h := ite_f e h
                    clear e
                    try cbv
                    exact join_next (m2, false) [2, 4, 5] [] 320 ⟨by omega, h⟩ (by cbv)
                · clear h
                  rintro ⟨m3, b9⟩ ⟨hm3, h⟩
                  replace hm3 : m3 ≤ m2 := hm3
                  cases m3 with
                  | zero =>
                    replace h : L12_3 0 z1 b9 = some r1 := h
                    rw [L12_3] at h
                    cases h
                  | succ m3 =>
                    replace h : L12_3 (m3 + 1) z1 b9 = some r1 := h
                    rw [L12_3] at h
                    try cbv
                    cases b9
                    · replace h := ite_f Bool.false_ne_true h
                      try cbv
                      refine splitI (fun e => ?_) (fun e => ?_)
                      · replace h := ite_t e h
                        clear e
                        try cbv
                        exact join_next (m3, true) [2, 5] [] 384 ⟨by omega, h⟩ (by cbv)
                      · replace h := ite_f e h
                        clear e
                        try cbv
                        exact join_next (m3, false) [2, 5] [] 384 ⟨by omega, h⟩ (by cbv)
                    · replace h := ite_t rfl h
                      try cbv
                      exact join_next (m3, true) [2, 5] [] 384 ⟨by omega, h⟩ (by cbv)
              · replace h := ite_t rfl h
                try cbv
                exact join_next (m2, true) [2, 5] [] 384 ⟨by omega, h⟩ (by cbv)
        · replace h := ite_t rfl h
          try cbv
          exact join_next (m1, true) [2, 5] [] 384 ⟨by omega, h⟩ (by cbv)
  · clear h
    rintro ⟨m4, b10⟩ ⟨hm4, h⟩
    replace hm4 : m4 ≤ n := hm4
    cases m4 with
    | zero =>
      replace h : L12_4 0 b10 = some r1 := h
      rw [L12_4] at h
      cases h
    | succ m4 =>
      replace h : L12_4 (m4 + 1) b10 = some r1 := h
      rw [L12_4] at h
      try cbv
      cases b10
      · replace h := ite_f Bool.false_ne_true h
        try cbv
        refine seq_go ?_
        try cbv
        obtain rfl := Option.some.inj h
        refine fin_go ?_
        try cbv
        exact ⟨[], rfl, rfl, trivial, trivial, trivial⟩
      · replace h := ite_t rfl h
        try cbv
        refine seq_go ?_
        try cbv
        obtain rfl := Option.some.inj h
        refine fin_go ?_
        try cbv
        exact ⟨[], rfl, rfl, trivial, trivial, trivial⟩
end Go.Proofs.YtagiiaejijihoaaDoor
end

set_option linter.unusedVariables false
noncomputable section
namespace Go.Proofs.YtagiiaejijihoaaDoor
open Go Go.AM
def F13 (n : Nat) (z1 : Int) (z2 : Int) (s3 : ByteArray) (l4 : List D) (z5 : Int) (l6 : List D) : Option (Bool) :=
  (if z1 = (1 : Int) then some true else (if z1 = (2 : Int) then some true else (if z1 = (3 : Int) then some true else (if z1 = (14 : Int) then some true else some false))))
set_option maxRecDepth 100000 in
set_option maxHeartbeats 40000000 in
theorem T13 (n : Nat) : ∀ ⦃z1 : Int⦄ ⦃z2 : Int⦄ ⦃s3 : ByteArray⦄ ⦃l4 : List D⦄ ⦃z5 : Int⦄ ⦃l6 : List D⦄ ⦃r1 : Bool⦄, F13 n z1 z2 s3 l4 z5 l6 = some r1 →
    Trip Tryd.prog inv 13 [.d (.agg [.int .u8 z1, .int .i64 z2, .str s3, .list true 6 l4, .int .i64 z5, .list false 1 l6])] [] (.v (.d (.bool r1))) [] [] := by
  intro z1 z2 s3 l4 z5 l6 r1 h
  unfold F13 at h
  refine Trip.of tab_ok tab_one fol Tryd.func13 rfl (by kernel_rfl) rfl rfl rfl (fun M hM hI => ?_)
  try cbv
  refine seq_go ?_
  try cbv
  refine seq_go ?_
  try cbv
  refine splitI (fun e => ?_) (fun e => ?_)
  · replace h := ite_t e h
    clear e
    try cbv
    obtain rfl := Option.some.inj h
    refine fin_go ?_
    try cbv
    exact ⟨[], rfl, rfl, trivial, trivial, trivial⟩
  · replace h := ite_f e h
    clear e
    try cbv
    refine splitI (fun e => ?_) (fun e => ?_)
    · replace h := ite_t e h
      clear e
      try cbv
      obtain rfl := Option.some.inj h
      refine fin_go ?_
      try cbv
      exact ⟨[], rfl, rfl, trivial, trivial, trivial⟩
    · replace h := ite_f e h
      clear e
      try cbv
      refine splitI (fun e => ?_) (fun e => ?_)
      · replace h := ite_t e h
        clear e
        try cbv
        obtain rfl := Option.some.inj h
        refine fin_go ?_
        try cbv
        exact ⟨[], rfl, rfl, trivial, trivial, trivial⟩
      · replace h := ite_f e h
        clear e
        try cbv
        refine splitI (fun e => ?_) (fun e => ?_)
        · replace h := ite_t e h
          clear e
          try cbv
          obtain rfl := Option.some.inj h
          refine fin_go ?_
          try cbv
          exact ⟨[], rfl, rfl, trivial, trivial, trivial⟩
        · replace h := ite_f e h
          clear e
          try cbv
          obtain rfl := Option.some.inj h
          refine fin_go ?_
          try cbv
          exact ⟨[], rfl, rfl, trivial, trivial, trivial⟩
end Go.Proofs.YtagiiaejijihoaaDoor
end

set_option linter.unusedVariables false
noncomputable section
namespace Go.Proofs.YtagiiaejijihoaaDoor
open Go Go.AM
mutual
def L35_1 : Nat → Int → Bool → Option (ByteArray)
  | 0, _, _ => none
  | n + 1, z1, b2 =>
    (if b2 = true then (if (-10 : Int) < z1 then L35_2 n z1 true else L35_2 n z1 false) else (if z1 < (10 : Int) then L35_3 n z1 true else L35_3 n z1 false))
def L35_2 : Nat → Int → Bool → Option (ByteArray)
  | 0, _, _ => none
  | n + 1, z1, b3 =>
    (if b3 = true then letF (IntKind.wrap .i64 (48 - z1)) fun z4 => letF (IntKind.wrap .u8 z4) fun z5 => strF ([.int .u8 z5]) fun s6 => catF k___1 s6 fun s7 => some s7 else needF ((10 : Int) ≠ 0) (letF (IntKind.wrap .i64 (Int.tdiv z1 10)) fun z8 => bO1 (F35 n z8) fun s9 => needF ((10 : Int) ≠ 0) (letF (Int.tmod z1 10) fun z10 => letF (IntKind.wrap .i64 (48 - z10)) fun z11 => letF (IntKind.wrap .u8 z11) fun z12 => strF ([.int .u8 z12]) fun s13 => catF s9 s13 fun s14 => some s14)))
def L35_3 : Nat → Int → Bool → Option (ByteArray)
  | 0, _, _ => none
  | n + 1, z1, b15 =>
    (if b15 = true then letF (IntKind.wrap .i64 (48 + z1)) fun z16 => letF (IntKind.wrap .u8 z16) fun z17 => strF ([.int .u8 z17]) fun s18 => some s18 else needF ((10 : Int) ≠ 0) (letF (IntKind.wrap .i64 (Int.tdiv z1 10)) fun z19 => bO1 (F35 n z19) fun s20 => needF ((10 : Int) ≠ 0) (letF (Int.tmod z1 10) fun z21 => letF (IntKind.wrap .i64 (48 + z21)) fun z22 => letF (IntKind.wrap .u8 z22) fun z23 => strF ([.int .u8 z23]) fun s24 => catF s20 s24 fun s25 => some s25)))
def F35 : Nat → Int → Option (ByteArray)
  | 0, _ => none
  | n + 1, z1 =>
    (if z1 < (0 : Int) then L35_1 n z1 true else L35_1 n z1 false)
end
set_option maxRecDepth 100000 in
set_option maxHeartbeats 40000000 in
theorem T35 (n : Nat) : ∀ ⦃z1 : Int⦄ ⦃r1 : ByteArray⦄, F35 n z1 = some r1 →
    Trip Tryd.prog inv 35 [.d (.int .i64 z1)] [] (.v (.d (.str r1))) [] [] := by
  induction n using Nat.strongRecOn with
  | _ n ih =>
    cases n with
    | zero =>
      intro z1 r1 h
      cases (show (none : Option _) = some _ from h)
    | succ n =>
      intro z1 r1 h
      rw [F35] at h
      refine Trip.of tab_ok tab_one fol Tryd.func35 rfl (by kernel_rfl) rfl rfl rfl (fun M hM hI => ?_)
      try cbv
      refine seq_go ?_
      try cbv
      refine seq_go ?_
      try cbv
      refine seq_join (T := Nat × Bool) (fun t => ⟨[(0, .v (.d (.int .i64 z1))), (2, .v (.d (.str ByteArray.empty))), (4, .v (.d (.bool t.2)))], [], 96⟩) (fun t => t.1 ≤ n ∧ L35_1 t.1 z1 t.2 = some r1) ?_ ?_
      · try cbv
        refine splitL (fun e => ?_) (fun e => ?_)
        · replace h := ite_t e h
          clear e
          try cbv
          exact join_next (n, true) [0, 2, 4] [] 96 ⟨by omega, h⟩ (by cbv)
        · replace h := ite_f (Int.not_lt.2 e) h
          clear e
          try cbv
          exact join_next (n, false) [0, 2, 4] [] 96 ⟨by omega, h⟩ (by cbv)
      · clear h
        rintro ⟨m1, b2⟩ ⟨hm1, h⟩
        replace hm1 : m1 ≤ n := hm1
        cases m1 with
        | zero =>
          replace h : L35_1 0 z1 b2 = some r1 := h
          rw [L35_1] at h
          cases h
        | succ m1 =>
          replace h : L35_1 (m1 + 1) z1 b2 = some r1 := h
          rw [L35_1] at h
          try cbv
          cases b2
          · replace h := ite_f Bool.false_ne_true h
            try cbv
            refine seq_go ?_
            try cbv
            refine seq_join (T := Nat × Bool) (fun t => ⟨[(0, .v (.d (.int .i64 z1))), (2, .v (.d (.str ByteArray.empty))), (24, .v (.d (.bool t.2)))], [], 160⟩) (fun t => t.1 ≤ m1 ∧ L35_3 t.1 z1 t.2 = some r1) ?_ ?_
            · try cbv
              refine splitL (fun e => ?_) (fun e => ?_)
              · replace h := ite_t e h
                clear e
                try cbv
                exact join_next (m1, true) [0, 2, 24] [] 160 ⟨by omega, h⟩ (by cbv)
              · replace h := ite_f (Int.not_lt.2 e) h
                clear e
                try cbv
                exact join_next (m1, false) [0, 2, 24] [] 160 ⟨by omega, h⟩ (by cbv)
            · clear h
              rintro ⟨m3, b15⟩ ⟨hm3, h⟩
              replace hm3 : m3 ≤ m1 := hm3
              cases m3 with
              | zero =>
                replace h : L35_3 0 z1 b15 = some r1 := h
                rw [L35_3] at h
                cases h
              | succ m3 =>
                replace h : L35_3 (m3 + 1) z1 b15 = some r1 := h
                rw [L35_3] at h
                try cbv
                cases b15
                · replace h := ite_f Bool.false_ne_true h
                  try cbv
                  refine seq_go ?_
                  try cbv
                  replace h := needF_inv h
                  obtain ⟨hn, h⟩ := h
                  replace h := letF_inv h
                  obtain ⟨z19, hz, h⟩ := h
                  refine ⟨z19, hn, hz, ?_⟩
                  clear hn hz
                  try cbv
                  replace h := bO1_inv h
                  obtain ⟨s20, hr, h⟩ := h
                  first | refine .inr (.inl ⟨[], ?_⟩) | refine .inl ⟨[], ?_⟩
                  try cbv
                  refine call_pure hM hI ((ih _ (by omega)) hr) rfl ?_
                  clear hr
                  try cbv
                  replace h := needF_inv h
                  obtain ⟨hn, h⟩ := h
                  replace h := letF_inv h
                  obtain ⟨z21, hz, h⟩ := h
                  refine ⟨z21, hn, hz, ?_⟩
                  clear hn hz
                  try cbv
                  replace h := letF_inv h
                  obtain ⟨z22, hz, h⟩ := h
                  refine ⟨z22, hz, ?_⟩
                  clear hz
                  try cbv
                  replace h := letF_inv h
                  obtain ⟨z23, hz, h⟩ := h
                  refine ⟨z23, hz, ?_⟩
                  clear hz
                  try cbv
                  refine ⟨false, ?_⟩
                  try cbv
                  refine ⟨true, ?_⟩
                  try cbv
                  replace h := strF_inv h
                  obtain ⟨ns, s24, hz, hy, h⟩ := h
                  refine ⟨ns, (M.lock_iff _).2 hz, s24, hy, ?_⟩
                  clear hz hy ns
                  try cbv
                  replace h := catF_inv h
                  obtain ⟨s25, hz, hb, h⟩ := h
                  refine ⟨s25, hz, hb, ?_⟩
                  clear hb hz
                  try cbv
                  refine drawn ?_ ?_
                  · show _ = true
                    kernel_rfl
                  try cbv
                  obtain rfl := Option.some.inj h
                  refine fin_go ?_
                  try cbv
                  exact ⟨[], rfl, rfl, trivial, trivial, trivial⟩
                · replace h := ite_t rfl h
                  try cbv
                  refine seq_go ?_
                  try cbv
                  replace h := letF_inv h
                  obtain ⟨z16, hz, h⟩ := h
                  refine ⟨z16, hz, ?_⟩
                  clear hz
                  try cbv
                  replace h := letF_inv h
                  obtain ⟨z17, hz, h⟩ := h
                  refine ⟨z17, hz, ?_⟩
                  clear hz
                  try cbv
                  refine ⟨false, ?_⟩
                  try cbv
                  refine ⟨true, ?_⟩
                  try cbv
                  replace h := strF_inv h
                  obtain ⟨ns, s18, hz, hy, h⟩ := h
                  refine ⟨ns, (M.lock_iff _).2 hz, s18, hy, ?_⟩
                  clear hz hy ns
                  try cbv
                  obtain rfl := Option.some.inj h
                  refine fin_go ?_
                  try cbv
                  exact ⟨[], rfl, rfl, trivial, trivial, trivial⟩
          · replace h := ite_t rfl h
            try cbv
            refine seq_go ?_
            try cbv
            refine seq_join (T := Nat × Bool) (fun t => ⟨[(0, .v (.d (.int .i64 z1))), (2, .v (.d (.str ByteArray.empty))), (6, .v (.d (.bool t.2)))], [], 160⟩) (fun t => t.1 ≤ m1 ∧ L35_2 t.1 z1 t.2 = some r1) ?_ ?_
            · try cbv
              refine splitL (fun e => ?_) (fun e => ?_)
              · replace h := ite_t e h
                clear e
                try cbv
                exact join_next (m1, true) [0, 2, 6] [] 160 ⟨by omega, h⟩ (by cbv)
              · replace h := ite_f (Int.not_lt.2 e) h
                clear e
                try cbv
                exact join_next (m1, false) [0, 2, 6] [] 160 ⟨by omega, h⟩ (by cbv)
            · clear h
              rintro ⟨m2, b3⟩ ⟨hm2, h⟩
              replace hm2 : m2 ≤ m1 := hm2
              cases m2 with
              | zero =>
                replace h : L35_2 0 z1 b3 = some r1 := h
                rw [L35_2] at h
                cases h
              | succ m2 =>
                replace h : L35_2 (m2 + 1) z1 b3 = some r1 := h
                rw [L35_2] at h
                try cbv
                cases b3
                · replace h := ite_f Bool.false_ne_true h
                  try cbv
                  refine seq_go ?_
                  try cbv
                  replace h := needF_inv h
                  obtain ⟨hn, h⟩ := h
                  replace h := letF_inv h
                  obtain ⟨z8, hz, h⟩ := h
                  refine ⟨z8, hn, hz, ?_⟩
                  clear hn hz
                  try cbv
                  replace h := bO1_inv h
                  obtain ⟨s9, hr, h⟩ := h
                  first | refine .inr (.inl ⟨[], ?_⟩) | refine .inl ⟨[], ?_⟩
                  try cbv
                  refine call_pure hM hI ((ih _ (by omega)) hr) rfl ?_
                  clear hr
                  try cbv
                  replace h := needF_inv h
                  obtain ⟨hn, h⟩ := h
                  replace h := letF_inv h
                  obtain ⟨z10, hz, h⟩ := h
                  refine ⟨z10, hn, hz, ?_⟩
                  clear hn hz
                  try cbv
                  replace h := letF_inv h
                  obtain ⟨z11, hz, h⟩ := h
                  refine ⟨z11, hz, ?_⟩
                  clear hz
                  try cbv
                  replace h := letF_inv h
                  obtain ⟨z12, hz, h⟩ := h
                  refine ⟨z12, hz, ?_⟩
                  clear hz
                  try cbv
                  refine ⟨false, ?_⟩
                  try cbv
                  refine ⟨true, ?_⟩
                  try cbv
                  replace h := strF_inv h
                  obtain ⟨ns, s13, hz, hy, h⟩ := h
                  refine ⟨ns, (M.lock_iff _).2 hz, s13, hy, ?_⟩
                  clear hz hy ns
                  try cbv
                  replace h := catF_inv h
                  obtain ⟨s14, hz, hb, h⟩ := h
                  refine ⟨s14, hz, hb, ?_⟩
                  clear hb hz
                  try cbv
                  refine drawn ?_ ?_
                  · show _ = true
                    kernel_rfl
                  try cbv
                  obtain rfl := Option.some.inj h
                  refine fin_go ?_
                  try cbv
                  exact ⟨[], rfl, rfl, trivial, trivial, trivial⟩
                · replace h := ite_t rfl h
                  try cbv
                  refine seq_go ?_
                  try cbv
                  replace h := letF_inv h
                  obtain ⟨z4, hz, h⟩ := h
                  refine ⟨z4, hz, ?_⟩
                  clear hz
                  try cbv
                  replace h := letF_inv h
                  obtain ⟨z5, hz, h⟩ := h
                  refine ⟨z5, hz, ?_⟩
                  clear hz
                  try cbv
                  refine ⟨false, ?_⟩
                  try cbv
                  refine ⟨true, ?_⟩
                  try cbv
                  replace h := strF_inv h
                  obtain ⟨ns, s6, hz, hy, h⟩ := h
                  refine ⟨ns, (M.lock_iff _).2 hz, s6, hy, ?_⟩
                  clear hz hy ns
                  try cbv
                  replace h := catF_inv h
                  obtain ⟨s7, hz, hb, h⟩ := h
                  refine ⟨s7, hz, hb, ?_⟩
                  clear hb hz
                  try cbv
                  obtain rfl := Option.some.inj h
                  refine fin_go ?_
                  try cbv
                  exact ⟨[], rfl, rfl, trivial, trivial, trivial⟩
end Go.Proofs.YtagiiaejijihoaaDoor
end

set_option linter.unusedVariables false
noncomputable section
namespace Go.Proofs.YtagiiaejijihoaaDoor
open Go Go.AM
mutual
def L16_1 : Nat → Int → Int → ByteArray → (List D) → Int → (List D) → Bool → Option (ByteArray)
  | 0, _, _, _, _, _, _, _ => none
  | n + 1, z1, z2, s3, l4, z5, l6, b9 =>
    (if b9 = true then letF (IntKind.wrap .u8 (z1 + 1)) fun z10 => subF k__ibuseBCRAMTSVrm z1 z10 fun s11 => L16_2 n z2 s3 l4 z5 l6 s11 else L16_2 n z2 s3 l4 z5 l6 k__)
def L16_2 : Nat → Int → ByteArray → (List D) → Int → (List D) → ByteArray → Option (ByteArray)
  | 0, _, _, _, _, _, _ => none
  | n + 1, z2, s3, l4, z5, l6, s12 =>
    bO1 (F35 n z2) fun s13 => catF s12 s13 fun s14 => catF s14 k___3 fun s15 => szF s3 fun z16 => bO1 (F35 n z16) fun s17 => catF s15 s17 fun s18 => catF s18 k___3 fun s19 => catF s19 s3 fun s20 => catF s20 k___3 fun s21 => bO1 (F35 n z5) fun s22 => catF s21 s22 fun s23 => catF s23 k___4 fun s24 => L16_3 n l4 l6 s24 (0 : Int)
def L16_3 : Nat → (List D) → (List D) → ByteArray → Int → Option (ByteArray)
  | 0, _, _, _, _ => none
  | n + 1, l4, l6, s25, z26 =>
    lenF l4 fun z27 => (if z26 < z27 then L16_4 n l4 l6 s25 z26 true else L16_4 n l4 l6 s25 z26 false)
def L16_4 : Nat → (List D) → (List D) → ByteArray → Int → Bool → Option (ByteArray)
  | 0, _, _, _, _, _ => none
  | n + 1, l4, l6, s25, z26, b28 =>
    (if b28 = true then getF l4 z26 fun x29 => ds_t25 x29 fun z30 z31 s32 l33 z34 l35 => bO1 (F16 n z30 z31 s32 l33 z34 l35) fun s36 => catF s25 s36 fun s37 => letF (IntKind.wrap .i64 (z26 + 1)) fun z38 => L16_3 n l4 l6 s37 z38 else catF s25 k___ fun s39 => L16_5 n l6 s39 (0 : Int))
def L16_5 : Nat → (List D) → ByteArray → Int → Option (ByteArray)
  | 0, _, _, _ => none
  | n + 1, l6, s40, z41 =>
    lenF l6 fun z42 => (if z41 < z42 then L16_6 n l6 s40 z41 true else L16_6 n l6 s40 z41 false)
def L16_6 : Nat → (List D) → ByteArray → Int → Bool → Option (ByteArray)
  | 0, _, _, _, _ => none
  | n + 1, l6, s40, z41, b43 =>
    (if b43 = true then getF l6 z41 fun x44 => ds_i64 x44 fun z45 => bO1 (F35 n z45) fun s46 => catF s40 s46 fun s47 => catF s47 k___2 fun s48 => letF (IntKind.wrap .i64 (z41 + 1)) fun z49 => L16_5 n l6 s48 z49 else catF s40 k___5 fun s50 => some s50)
def F16 : Nat → Int → Int → ByteArray → (List D) → Int → (List D) → Option (ByteArray)
  | 0, _, _, _, _, _, _ => none
  | n + 1, z1, z2, s3, l4, z5, l6 =>
    letF (IntKind.wrap .i64 z1) fun z7 => szF k__ibuseBCRAMTSVrm fun z8 => (if z7 < z8 then L16_1 n z1 z2 s3 l4 z5 l6 true else L16_1 n z1 z2 s3 l4 z5 l6 false)
end
set_option maxRecDepth 100000 in
set_option maxHeartbeats 40000000 in
theorem T16 (n : Nat) : ∀ ⦃z1 : Int⦄ ⦃z2 : Int⦄ ⦃s3 : ByteArray⦄ ⦃l4 : List D⦄ ⦃z5 : Int⦄ ⦃l6 : List D⦄ ⦃r1 : ByteArray⦄, F16 n z1 z2 s3 l4 z5 l6 = some r1 →
    Trip Tryd.prog inv 16 [.d (.agg [.int .u8 z1, .int .i64 z2, .str s3, .list true 6 l4, .int .i64 z5, .list false 1 l6])] [] (.v (.d (.str r1))) [] [] := by
  induction n using Nat.strongRecOn with
  | _ n ih =>
    cases n with
    | zero =>
      intro z1 z2 s3 l4 z5 l6 r1 h
      cases (show (none : Option _) = some _ from h)
    | succ n =>
      intro z1 z2 s3 l4 z5 l6 r1 h
      rw [F16] at h
      refine Trip.of tab_ok tab_one fol Tryd.func16 rfl (by kernel_rfl) rfl rfl rfl (fun M hM hI => ?_)
      try cbv
      refine seq_go ?_
      try cbv
      refine seq_go ?_
      try cbv
      refine seq_go ?_
      try cbv
      refine seq_join (T := Nat × ByteArray) (fun t => ⟨[(1, .v (.c (.ptr (.loc 0) 0))), (2, .v (.d (.str ByteArray.empty))), (4, .v (.d (.str t.2)))], [(.loc 0, .cells [.d (.int .u8 z1), .d (.int .i64 z2), .d (.str s3), .d (.list true 6 l4), .d (.int .i64 z5), .d (.list false 1 l6)])], 576⟩) (fun t => t.1 ≤ n ∧ L16_2 t.1 z2 s3 l4 z5 l6 t.2 = some r1) ?_ ?_
      · try cbv
        refine seq_join (T := Nat × Bool) (fun t => ⟨[(1, .v (.c (.ptr (.loc 0) 0))), (2, .v (.d (.str ByteArray.empty))), (3, .v (.d (.str k__ibuseBCRAMTSVrm))), (4, .v (.d (.str k__))), (12, .v (.d (.bool t.2)))], [(.loc 0, .cells [.d (.int .u8 z1), .d (.int .i64 z2), .d (.str s3), .d (.list true 6 l4), .d (.int .i64 z5), .d (.list false 1 l6)])], 320⟩) (fun t => t.1 ≤ n ∧ L16_1 t.1 z1 z2 s3 l4 z5 l6 t.2 = some r1) ?_ ?_
        · try cbv
          replace h := letF_inv h
          obtain ⟨z7, hz, h⟩ := h
          refine ⟨z7, hz, ?_⟩
          clear hz
          try cbv
          replace h := szF_inv M h
          obtain ⟨z8, hz, h⟩ := h
          refine ⟨z8, hz, ?_⟩
          clear hz
          try cbv
          refine splitL (fun e => ?_) (fun e => ?_)
          · replace h := ite_t e h
            clear e
            try cbv
            exact join_next (n, true) [1, 2, 3, 4, 12] [.loc 0] 320 ⟨by omega, h⟩ (by cbv)
          · replace h := ite_f (Int.not_lt.2 e) h
            clear e
            try cbv
            exact join_next (n, false) [1, 2, 3, 4, 12] [.loc 0] 320 ⟨by omega, h⟩ (by cbv)
        · clear h
          rintro ⟨m1, b9⟩ ⟨hm1, h⟩
          replace hm1 : m1 ≤ n := hm1
          cases m1 with
          | zero =>
            replace h : L16_1 0 z1 z2 s3 l4 z5 l6 b9 = some r1 := h
            rw [L16_1] at h
            cases h
          | succ m1 =>
            replace h : L16_1 (m1 + 1) z1 z2 s3 l4 z5 l6 b9 = some r1 := h
            rw [L16_1] at h
            try cbv
            cases b9
            · replace h := ite_f Bool.false_ne_true h
              try cbv
              exact join_next (m1, k__) [1, 2, 4] [.loc 0] 576 ⟨by omega, h⟩ (by cbv)
            · replace h := ite_t rfl h
              try cbv
              replace h := letF_inv h
              obtain ⟨z10, hz, h⟩ := h
              refine ⟨z10, hz, ?_⟩
              clear hz
              try cbv
              replace h := subF_inv M h
              obtain ⟨s11, hb, hz, h⟩ := h
              refine ⟨s11, hb, hz, ?_⟩
              clear hb hz
              try cbv
              exact join_next (m1, s11) [1, 2, 4] [.loc 0] 576 ⟨by omega, h⟩ (by cbv)
      · clear h
        rintro ⟨m2, s12⟩ ⟨hm2, h⟩
        replace hm2 : m2 ≤ n := hm2
        cases m2 with
        | zero =>
          replace h : L16_2 0 z2 s3 l4 z5 l6 s12 = some r1 := h
          rw [L16_2] at h
          cases h
        | succ m2 =>
          replace h : L16_2 (m2 + 1) z2 s3 l4 z5 l6 s12 = some r1 := h
          rw [L16_2] at h
          try cbv
          refine seq_go ?_
          try cbv
          replace h := bO1_inv h
          obtain ⟨s13, hr, h⟩ := h
          first | refine .inr (.inl ⟨[], ?_⟩) | refine .inl ⟨[], ?_⟩
          try cbv
          refine call_pure hM hI (T35 _ hr) rfl ?_
          clear hr
          try cbv
          replace h := catF_inv h
          obtain ⟨s14, hz, hb, h⟩ := h
          refine ⟨s14, hz, hb, ?_⟩
          clear hb hz
          try cbv
          replace h := catF_inv h
          obtain ⟨s15, hz, hb, h⟩ := h
          refine ⟨s15, hz, hb, ?_⟩
          clear hb hz
          try cbv
          replace h := szF_inv M h
          obtain ⟨z16, hz, h⟩ := h
          refine ⟨z16, hz, ?_⟩
          clear hz
          try cbv
          replace h := bO1_inv h
          obtain ⟨s17, hr, h⟩ := h
          first | refine .inr (.inl ⟨[], ?_⟩) | refine .inl ⟨[], ?_⟩
          try cbv
          refine call_pure hM hI (T35 _ hr) rfl ?_
          clear hr
          try cbv
          replace h := catF_inv h
          obtain ⟨s18, hz, hb, h⟩ := h
          refine ⟨s18, hz, hb, ?_⟩
          clear hb hz
          try cbv
          replace h := catF_inv h
          obtain ⟨s19, hz, hb, h⟩ := h
          refine ⟨s19, hz, hb, ?_⟩
          clear hb hz
          try cbv
          replace h := catF_inv h
          obtain ⟨s20, hz, hb, h⟩ := h
          refine ⟨s20, hz, hb, ?_⟩
          clear hb hz
          try cbv
          replace h := catF_inv h
          obtain ⟨s21, hz, hb, h⟩ := h
          refine ⟨s21, hz, hb, ?_⟩
          clear hb hz
          try cbv
          replace h := bO1_inv h
          obtain ⟨s22, hr, h⟩ := h
          first | refine .inr (.inl ⟨[], ?_⟩) | refine .inl ⟨[], ?_⟩
          try cbv
          refine call_pure hM hI (T35 _ hr) rfl ?_
          clear hr
          try cbv
          replace h := catF_inv h
          obtain ⟨s23, hz, hb, h⟩ := h
          refine ⟨s23, hz, hb, ?_⟩
          clear hb hz
          try cbv
          replace h := catF_inv h
          obtain ⟨s24, hz, hb, h⟩ := h
          refine ⟨s24, hz, hb, ?_⟩
          clear hb hz
          try cbv
          refine drawn ?_ ?_
          · show _ = true
            kernel_rfl
          try cbv
          refine seq_go ?_
          try cbv
          refine seq_go ?_
          try cbv
          refine loop_inv (T := Nat × ByteArray × Int) [1, 2, 4, 5] [.loc 0] 1312 (fun t => ⟨[(1, .v (.c (.ptr (.loc 0) 0))), (2, .v (.d (.str ByteArray.empty))), (4, .v (.d (.str t.2.1))), (5, .v (.d (.int .i64 t.2.2)))], [(.loc 0, .cells [.d (.int .u8 z1), .d (.int .i64 z2), .d (.str s3), .d (.list true 6 l4), .d (.int .i64 z5), .d (.list false 1 l6)])], 1312⟩)
            (fun t => t.1 ≤ m2 ∧ L16_3 t.1 l4 l6 t.2.1 t.2.2 = some r1) (fun t => t.1) (m2, (s24, (0 : Int))) ⟨Nat.le_refl _, h⟩ (by cbv) ?_
          clear h
          rintro ⟨m3, s25, z26⟩ ⟨hm3, h⟩
          replace hm3 : m3 ≤ m2 := hm3
          cases m3 with
          | zero =>
            replace h : L16_3 0 l4 l6 s25 z26 = some r1 := h
            rw [L16_3] at h
            cases h
          | succ m3 =>
            replace h : L16_3 (m3 + 1) l4 l6 s25 z26 = some r1 := h
            rw [L16_3] at h
            try cbv
            refine seq_go ?_
            try cbv
            refine seq_join (T := Nat × Bool) (fun t => ⟨[(1, .v (.c (.ptr (.loc 0) 0))), (2, .v (.d (.str ByteArray.empty))), (4, .v (.d (.str s25))), (5, .v (.d (.int .i64 z26))), (45, .v (.d (.bool t.2)))], [(.loc 0, .cells [.d (.int .u8 z1), .d (.int .i64 z2), .d (.str s3), .d (.list true 6 l4), .d (.int .i64 z5), .d (.list false 1 l6)])], 1472⟩) (fun t => t.1 ≤ m3 ∧ L16_4 t.1 l4 l6 s25 z26 t.2 = some r1) ?_ ?_
            · try cbv
              replace h := lenF_inv M h
              obtain ⟨z27, hz, h⟩ := h
              refine ⟨z27, hz, ?_⟩
              clear hz
              try cbv
              refine splitL (fun e => ?_) (fun e => ?_)
              · replace h := ite_t e h
                clear e
                try cbv
                exact join_next (m3, true) [1, 2, 4, 5, 45] [.loc 0] 1472 ⟨by omega, h⟩ (by cbv)
              · replace h := ite_f (Int.not_lt.2 e) h
                clear e
                try cbv
                exact join_next (m3, false) [1, 2, 4, 5, 45] [.loc 0] 1472 ⟨by omega, h⟩ (by cbv)
            · clear h
              rintro ⟨m4, b28⟩ ⟨hm4, h⟩
              replace hm4 : m4 ≤ m3 := hm4
              cases m4 with
              | zero =>
                replace h : L16_4 0 l4 l6 s25 z26 b28 = some r1 := h
                rw [L16_4] at h
                cases h
              | succ m4 =>
                replace h : L16_4 (m4 + 1) l4 l6 s25 z26 b28 = some r1 := h
                rw [L16_4] at h
                try cbv
                cases b28
                · replace h := ite_f Bool.false_ne_true h
                  try cbv
                  refine seq_go ?_
                  try cbv
                  replace h := catF_inv h
                  obtain ⟨s39, hz, hb, h⟩ := h
                  refine ⟨s39, hz, hb, ?_⟩
                  clear hb hz
                  try cbv
                  refine seq_go ?_
                  try cbv
                  refine seq_go ?_
                  try cbv
                  refine loop_inv (T := Nat × ByteArray × Int) [1, 2, 4, 6] [.loc 0] 1600 (fun t => ⟨[(1, .v (.c (.ptr (.loc 0) 0))), (2, .v (.d (.str ByteArray.empty))), (4, .v (.d (.str t.2.1))), (6, .v (.d (.int .i64 t.2.2)))], [(.loc 0, .cells [.d (.int .u8 z1), .d (.int .i64 z2), .d (.str s3), .d (.list true 6 l4), .d (.int .i64 z5), .d (.list false 1 l6)])], 1600⟩)
                    (fun t => t.1 ≤ m4 ∧ L16_5 t.1 l6 t.2.1 t.2.2 = some r1) (fun t => t.1) (m4, (s39, (0 : Int))) ⟨Nat.le_refl _, h⟩ (by cbv) ?_
                  clear h
                  rintro ⟨m5, s40, z41⟩ ⟨hm5, h⟩
                  replace hm5 : m5 ≤ m4 := hm5
                  cases m5 with
                  | zero =>
                    replace h : L16_5 0 l6 s40 z41 = some r1 := h
                    rw [L16_5] at h
                    cases h
                  | succ m5 =>
                    replace h : L16_5 (m5 + 1) l6 s40 z41 = some r1 := h
                    rw [L16_5] at h
                    try cbv
                    refine seq_go ?_
                    try cbv
                    refine seq_join (T := Nat × Bool) (fun t => ⟨[(1, .v (.c (.ptr (.loc 0) 0))), (2, .v (.d (.str ByteArray.empty))), (4, .v (.d (.str s40))), (6, .v (.d (.int .i64 z41))), (62, .v (.d (.bool t.2)))], [(.loc 0, .cells [.d (.int .u8 z1), .d (.int .i64 z2), .d (.str s3), .d (.list true 6 l4), .d (.int .i64 z5), .d (.list false 1 l6)])], 1760⟩) (fun t => t.1 ≤ m5 ∧ L16_6 t.1 l6 s40 z41 t.2 = some r1) ?_ ?_
                    · try cbv
                      replace h := lenF_inv M h
                      obtain ⟨z42, hz, h⟩ := h
                      refine ⟨z42, hz, ?_⟩
                      clear hz
                      try cbv
                      refine splitL (fun e => ?_) (fun e => ?_)
                      · replace h := ite_t e h
                        clear e
                        try cbv
                        exact join_next (m5, true) [1, 2, 4, 6, 62] [.loc 0] 1760 ⟨by omega, h⟩ (by cbv)
                      · replace h := ite_f (Int.not_lt.2 e) h
                        clear e
                        try cbv
                        exact join_next (m5, false) [1, 2, 4, 6, 62] [.loc 0] 1760 ⟨by omega, h⟩ (by cbv)
                    · clear h
                      rintro ⟨m6, b43⟩ ⟨hm6, h⟩
                      replace hm6 : m6 ≤ m5 := hm6
                      cases m6 with
                      | zero =>
                        replace h : L16_6 0 l6 s40 z41 b43 = some r1 := h
                        rw [L16_6] at h
                        cases h
                      | succ m6 =>
                        replace h : L16_6 (m6 + 1) l6 s40 z41 b43 = some r1 := h
                        rw [L16_6] at h
                        try cbv
                        cases b43
                        · replace h := ite_f Bool.false_ne_true h
                          try cbv
                          refine seq_go ?_
                          try cbv
                          replace h := catF_inv h
                          obtain ⟨s50, hz, hb, h⟩ := h
                          refine ⟨s50, hz, hb, ?_⟩
                          clear hb hz
                          try cbv
                          obtain rfl := Option.some.inj h
                          refine fin_go ?_
                          try cbv
                          exact ⟨[], rfl, rfl, trivial, trivial, trivial⟩
                        · replace h := ite_t rfl h
                          try cbv
                          refine seq_go ?_
                          try cbv
                          replace h := getF_inv h
                          obtain ⟨x44, hx44, h⟩ := h
                          replace h := ds_i64_inv h
                          obtain ⟨z45, rfl, h⟩ := h
                          refine ⟨_, hx44.1, hx44.2, ?_⟩
                          try cbv
                          replace h := bO1_inv h
                          obtain ⟨s46, hr, h⟩ := h
                          refine call_go rfl rfl ?_
                          try cbv
                          refine call_pure hM hI (T35 _ hr) rfl ?_
                          clear hr
                          try cbv
                          replace h := catF_inv h
                          obtain ⟨s47, hz, hb, h⟩ := h
                          refine ⟨s47, hz, hb, ?_⟩
                          clear hb hz
                          try cbv
                          replace h := catF_inv h
                          obtain ⟨s48, hz, hb, h⟩ := h
                          refine ⟨s48, hz, hb, ?_⟩
                          clear hb hz
                          try cbv
                          replace h := letF_inv h
                          obtain ⟨z49, hz, h⟩ := h
                          refine ⟨z49, hz, ?_⟩
                          clear hz
                          try cbv
                          exact loop_next (m6, (s48, z49)) [1, 2, 4, 6] [.loc 0] 1600 ⟨by omega, h⟩ (Nat.lt_succ_of_le (by omega)) (by cbv)
                · replace h := ite_t rfl h
                  try cbv
                  refine seq_go ?_
                  try cbv
                  replace h := getF_inv h
                  obtain ⟨x29, hx29, h⟩ := h
                  replace h := ds_t25_inv h
                  obtain ⟨z30, z31, s32, l33, z34, l35, rfl, h⟩ := h
                  refine ⟨_, hx29.1, hx29.2, ?_⟩
                  try cbv
                  replace h := bO1_inv h
                  obtain ⟨s36, hr, h⟩ := h
                  refine call_go rfl rfl ?_
                  try cbv
                  refine call_pure hM hI ((ih _ (by omega)) hr) rfl ?_
                  clear hr
                  try cbv
                  replace h := catF_inv h
                  obtain ⟨s37, hz, hb, h⟩ := h
                  refine ⟨s37, hz, hb, ?_⟩
                  clear hb hz
                  try cbv
                  replace h := letF_inv h
                  obtain ⟨z38, hz, h⟩ := h
                  refine ⟨z38, hz, ?_⟩
                  clear hz
                  try cbv
                  exact loop_next (m4, (s37, z38)) [1, 2, 4, 5] [.loc 0] 1312 ⟨by omega, h⟩ (Nat.lt_succ_of_le (by omega)) (by cbv)
end Go.Proofs.YtagiiaejijihoaaDoor
end

set_option linter.unusedVariables false
noncomputable section
namespace Go.Proofs.YtagiiaejijihoaaDoor
open Go Go.AM
mutual
def L17_1 : Nat → (List D) → Int → (List D) → Option (List D × List D)
  | 0, _, _, _ => none
  | n + 1, l6, z7, l8 =>
    lenF l8 fun z9 => (if z7 < z9 then L17_2 n l6 z7 l8 true else L17_2 n l6 z7 l8 false)
def L17_2 : Nat → (List D) → Int → (List D) → Bool → Option (List D × List D)
  | 0, _, _, _, _ => none
  | n + 1, l6, z7, l8, b10 =>
    (if b10 = true then needF (0 ≤ z7 ∧ z7.toNat < l8.length) (getN l8 (z7.toNat) fun x11 => ds_t25 x11 fun z12 z13 s14 l15 z16 l17 => bO2 (F17 n z12 z13 s14 z16 l15 l17) fun l18 l19 => needF (0 ≤ z7 ∧ z7.toNat < l8.length) (letF (IntKind.wrap .i64 (z7 + 1)) fun z20 => setF l8 (z7.toNat) (.agg [.int .u8 99, .int .i64 z13, .str s14, .list true 6 l18, .int .i64 z16, .list false 1 l19]) fun l21 => L17_1 n l6 z20 l21)) else L17_3 n l8 (0 : Int) l6)
def L17_3 : Nat → (List D) → Int → (List D) → Option (List D × List D)
  | 0, _, _, _ => none
  | n + 1, l8, z22, l23 =>
    lenF l23 fun z24 => (if z22 < z24 then L17_4 n l8 z22 l23 true else L17_4 n l8 z22 l23 false)
def L17_4 : Nat → (List D) → Int → (List D) → Bool → Option (List D × List D)
  | 0, _, _, _, _ => none
  | n + 1, l8, z22, l23, b25 =>
    (if b25 = true then needF (0 ≤ z22 ∧ z22.toNat < l23.length) (getN l23 (z22.toNat) fun x26 => ds_i64 x26 fun z27 => letF (IntKind.wrap .i64 (z22 + 1)) fun z28 => setF l23 (z22.toNat) (.int .i64 (-7)) fun l29 => L17_3 n l8 z28 l29) else some (l8, l23))
def F17 : Nat → Int → Int → ByteArray → Int → (List D) → (List D) → Option (List D × List D)
  | 0, _, _, _, _, _, _ => none
  | n + 1, z1, z2, s3, z4, l5, l6 =>
    L17_1 n l6 (0 : Int) l5
end
set_option maxRecDepth 100000 in
set_option maxHeartbeats 40000000 in
theorem T17 (n : Nat) : ∀ ⦃z1 : Int⦄ ⦃z2 : Int⦄ ⦃s3 : ByteArray⦄ ⦃z4 : Int⦄ ⦃l5 : List D⦄ ⦃l6 : List D⦄ ⦃r1 : List D⦄ ⦃r2 : List D⦄, F17 n z1 z2 s3 z4 l5 l6 = some (r1, r2) →
    Trip Tryd.prog inv 17 [.agg [.d (.int .u8 z1), .d (.int .i64 z2), .d (.str s3), .ow (.ext 0), .d (.int .i64 z4), .ow (.ext 1)]] [.tree .row true 6 l5 none, .tree .row false 1 l6 none] (.t []) [.tree .row true 6 r1 none, .tree .row false 1 r2 none] [] := by
  induction n using Nat.strongRecOn with
  | _ n ih =>
    cases n with
    | zero =>
      intro z1 z2 s3 z4 l5 l6 r1 r2 h
      cases (show (none : Option _) = some _ from h)
    | succ n =>
      intro z1 z2 s3 z4 l5 l6 r1 r2 h
      rw [F17] at h
      refine Trip.of tab_ok tab_one fol Tryd.func17 rfl (by kernel_rfl) rfl rfl rfl (fun M hM hI => ?_)
      try cbv
      refine seq_go ?_
      try cbv
      refine seq_go ?_
      try cbv
      refine seq_go ?_
      try cbv
      refine loop_invG (T := Nat × Int × List D) [] [] [1, 2] [.ext 0, .ext 1, .loc 0] 64 (fun t => ⟨[(1, .v (.c (.ptr (.loc 0) 0))), (2, .v (.d (.int .i64 t.2.1)))], [(.ext 0, .tree .row true 6 t.2.2 none), (.ext 1, .tree .row false 1 l6 none), (.loc 0, .cells [.d (.int .u8 z1), .d (.int .i64 z2), .d (.str s3), .ow (.ext 0), .d (.int .i64 z4), .ow (.ext 1)])], 64⟩)
        (fun t => t.1 ≤ n ∧ L17_1 t.1 l6 t.2.1 t.2.2 = some (r1, r2)) (fun t => t.1) (n, ((0 : Int), l5)) ⟨Nat.le_refl _, h⟩ (by cbv) ?_
      clear h
      rintro ⟨m1, z7, l8⟩ ⟨hm1, h⟩
      replace hm1 : m1 ≤ n := hm1
      cases m1 with
      | zero =>
        replace h : L17_1 0 l6 z7 l8 = some (r1, r2) := h
        rw [L17_1] at h
        cases h
      | succ m1 =>
        replace h : L17_1 (m1 + 1) l6 z7 l8 = some (r1, r2) := h
        rw [L17_1] at h
        try cbv
        refine seq_go ?_
        try cbv
        refine seq_join (T := Nat × Bool) (fun t => ⟨[(1, .v (.c (.ptr (.loc 0) 0))), (2, .v (.d (.int .i64 z7))), (8, .v (.d (.bool t.2)))], [(.ext 0, .tree .row true 6 l8 none), (.ext 1, .tree .row false 1 l6 none), (.loc 0, .cells [.d (.int .u8 z1), .d (.int .i64 z2), .d (.str s3), .ow (.ext 0), .d (.int .i64 z4), .ow (.ext 1)])], 224⟩) (fun t => t.1 ≤ m1 ∧ L17_2 t.1 l6 z7 l8 t.2 = some (r1, r2)) ?_ ?_
        · try cbv
          replace h := lenF_inv M h
          obtain ⟨z9, hz, h⟩ := h
          refine ⟨false, ?_⟩
          try cbv
          refine ⟨z9, hz, ?_⟩
          clear hz
          try cbv
          refine splitL (fun e => ?_) (fun e => ?_)
          · replace h := ite_t e h
            clear e
            try cbv
            exact join_next (m1, true) [1, 2, 8] [.ext 0, .ext 1, .loc 0] 224 ⟨by omega, h⟩ (by cbv)
          · replace h := ite_f (Int.not_lt.2 e) h
            clear e
            try cbv
            exact join_next (m1, false) [1, 2, 8] [.ext 0, .ext 1, .loc 0] 224 ⟨by omega, h⟩ (by cbv)
        · clear h
          rintro ⟨m2, b10⟩ ⟨hm2, h⟩
          replace hm2 : m2 ≤ m1 := hm2
          cases m2 with
          | zero =>
            replace h : L17_2 0 l6 z7 l8 b10 = some (r1, r2) := h
            rw [L17_2] at h
            cases h
          | succ m2 =>
            replace h : L17_2 (m2 + 1) l6 z7 l8 b10 = some (r1, r2) := h
            rw [L17_2] at h
            try cbv
            cases b10
            · replace h := ite_f Bool.false_ne_true h
              try cbv
              refine seq_go ?_
              try cbv
              refine loop_invG (T := Nat × Int × List D) [] [] [1, 3] [.ext 0, .ext 1, .loc 0] 256 (fun t => ⟨[(1, .v (.c (.ptr (.loc 0) 0))), (3, .v (.d (.int .i64 t.2.1)))], [(.ext 0, .tree .row true 6 l8 none), (.ext 1, .tree .row false 1 t.2.2 none), (.loc 0, .cells [.d (.int .u8 z1), .d (.int .i64 z2), .d (.str s3), .ow (.ext 0), .d (.int .i64 z4), .ow (.ext 1)])], 256⟩)
                (fun t => t.1 ≤ m2 ∧ L17_3 t.1 l8 t.2.1 t.2.2 = some (r1, r2)) (fun t => t.1) (m2, ((0 : Int), l6)) ⟨Nat.le_refl _, h⟩ (by cbv) ?_
              clear h
              rintro ⟨m3, z22, l23⟩ ⟨hm3, h⟩
              replace hm3 : m3 ≤ m2 := hm3
              cases m3 with
              | zero =>
                replace h : L17_3 0 l8 z22 l23 = some (r1, r2) := h
                rw [L17_3] at h
                cases h
              | succ m3 =>
                replace h : L17_3 (m3 + 1) l8 z22 l23 = some (r1, r2) := h
                rw [L17_3] at h
                try cbv
                refine seq_go ?_
                try cbv
                refine seq_join (T := Nat × Bool) (fun t => ⟨[(1, .v (.c (.ptr (.loc 0) 0))), (3, .v (.d (.int .i64 z22))), (26, .v (.d (.bool t.2)))], [(.ext 0, .tree .row true 6 l8 none), (.ext 1, .tree .row false 1 l23 none), (.loc 0, .cells [.d (.int .u8 z1), .d (.int .i64 z2), .d (.str s3), .ow (.ext 0), .d (.int .i64 z4), .ow (.ext 1)])], 416⟩) (fun t => t.1 ≤ m3 ∧ L17_4 t.1 l8 z22 l23 t.2 = some (r1, r2)) ?_ ?_
                · try cbv
                  replace h := lenF_inv M h
                  obtain ⟨z24, hz, h⟩ := h
                  refine ⟨false, ?_⟩
                  try cbv
                  refine ⟨z24, hz, ?_⟩
                  clear hz
                  try cbv
                  refine splitL (fun e => ?_) (fun e => ?_)
                  · replace h := ite_t e h
                    clear e
                    try cbv
                    exact join_next (m3, true) [1, 3, 26] [.ext 0, .ext 1, .loc 0] 416 ⟨by omega, h⟩ (by cbv)
                  · replace h := ite_f (Int.not_lt.2 e) h
                    clear e
                    try cbv
                    exact join_next (m3, false) [1, 3, 26] [.ext 0, .ext 1, .loc 0] 416 ⟨by omega, h⟩ (by cbv)
                · clear h
                  rintro ⟨m4, b25⟩ ⟨hm4, h⟩
                  replace hm4 : m4 ≤ m3 := hm4
                  cases m4 with
                  | zero =>
                    replace h : L17_4 0 l8 z22 l23 b25 = some (r1, r2) := h
                    rw [L17_4] at h
                    cases h
                  | succ m4 =>
                    replace h : L17_4 (m4 + 1) l8 z22 l23 b25 = some (r1, r2) := h
                    rw [L17_4] at h
                    try cbv
                    cases b25
                    · replace h := ite_f Bool.false_ne_true h
                      try cbv
                      obtain ⟨rfl, rfl⟩ := inj2 h
                      refine fin_go ?_
                      try cbv
                      exact ⟨[], rfl, rfl, ⟨rfl, ⟨rfl, trivial⟩⟩, trivial, trivial⟩
                    · replace h := ite_t rfl h
                      try cbv
                      refine seq_go ?_
                      try cbv
                      replace h := needF_inv h
                      obtain ⟨hn, h⟩ := h
                      refine ⟨(M.lock_iff _).2 hn, ?_⟩
                      clear hn
                      try cbv
                      refine ⟨[], ?_⟩
                      try cbv
                      replace h := getN_inv h
                      obtain ⟨x26, hx, h⟩ := h
                      replace h := ds_i64_inv h
                      obtain ⟨z27, rfl, h⟩ := h
                      refine ⟨_, hx, ?_⟩
                      clear hx
                      try cbv
                      replace h := letF_inv h
                      obtain ⟨z28, hz, h⟩ := h
                      refine ⟨z28, hz, ?_⟩
                      clear hz
                      try cbv
                      replace h := setF_inv h
                      obtain ⟨l29, hl29, h⟩ := h
                      refine loop_nextG (m4, (z28, l29)) [.close (.ext 1)] [] [1, 3] [.ext 0, .ext 1, .loc 0] 256 ⟨by omega, h⟩ (Nat.lt_succ_of_le (by omega)) ?_
                      try cbv
                      refine ⟨l29, hl29, ?_⟩
                      clear hl29
                      try cbv
                      first | done | exact rfl | cbv
            · replace h := ite_t rfl h
              try cbv
              refine seq_go ?_
              try cbv
              refine seq_go ?_
              try cbv
              replace h := needF_inv h
              obtain ⟨hn, h⟩ := h
              refine ⟨(M.lock_iff _).2 hn, ?_⟩
              clear hn
              try cbv
              refine ⟨[], ?_⟩
              try cbv
              replace h := getN_inv h
              obtain ⟨x11, hx, h⟩ := h
              replace h := ds_t25_inv h
              obtain ⟨z12, z13, s14, l15, z16, l17, rfl, h⟩ := h
              refine ⟨_, hx, ?_⟩
              clear hx
              try cbv
              refine ⟨false, ?_⟩
              try cbv
              replace h := bO2_inv h
              obtain ⟨l18, l19, hr, h⟩ := h
              refine call_go rfl rfl ?_
              try cbv
              refine call_with hM hI [.loc 355, .loc 357] ((ih _ (by omega)) hr) rfl (by simp) ⟨rfl, ⟨rfl, trivial⟩⟩ ⟨trivial, ⟨trivial, trivial⟩⟩ (by simp) ?_
              clear hr
              try cbv
              replace h := needF_inv h
              obtain ⟨hn, h⟩ := h
              refine ⟨(M.lock_iff _).2 hn, ?_⟩
              clear hn
              try cbv
              refine ⟨[], ?_⟩
              try cbv
              first | refine ⟨(rfl : (_ : Nat) = _), ?_⟩ | skip
              try cbv
              replace h := letF_inv h
              obtain ⟨z20, hz, h⟩ := h
              refine ⟨z20, hz, ?_⟩
              clear hz
              try cbv
              replace h := setF_inv h
              obtain ⟨l21, hl21, h⟩ := h
              refine loop_nextG (m2, (z20, l21)) [.close (.ext 0)] [] [1, 2] [.ext 0, .ext 1, .loc 0] 64 ⟨by omega, h⟩ (Nat.lt_succ_of_le (by omega)) ?_
              try cbv
              refine ⟨l21, hl21, ?_⟩
              clear hl21
              try cbv
              first | done | exact rfl | cbv
end Go.Proofs.YtagiiaejijihoaaDoor
end

set_option linter.unusedVariables false
noncomputable section
namespace Go.Proofs.YtagiiaejijihoaaDoor
open Go Go.AM
mutual
def L25_1 : Nat → (List D) → (List D) → Int → Option (List D)
  | 0, _, _, _ => none
  | n + 1, l1, l2, z3 =>
    lenF l1 fun z4 => (if z3 < z4 then L25_2 n l1 l2 z3 true else L25_2 n l1 l2 z3 false)
def L25_2 : Nat → (List D) → (List D) → Int → Bool → Option (List D)
  | 0, _, _, _, _ => none
  | n + 1, l1, l2, z3, b5 =>
    (if b5 = true then getF l1 z3 fun x6 => ds_t25 x6 fun z7 z8 s9 l10 z11 l12 => bO6 (F9 n z7 z8 s9 l10 z11 l12) fun z13 z14 s15 l16 z17 l18 => appF 88 l2 ([.agg [.int .u8 z13, .int .i64 z14, .str s15, .list true 6 l16, .int .i64 z17, .list false 1 l18]]) fun l19 => letF (IntKind.wrap .i64 (z3 + 1)) fun z20 => L25_1 n l1 l19 z20 else some l2)
def F25 : Nat → (List D) → Option (List D)
  | 0, _ => none
  | n + 1, l1 =>
    L25_1 n l1 ([] : List D) (0 : Int)
def F9 : Nat → Int → Int → ByteArray → (List D) → Int → (List D) → Option (Int × Int × ByteArray × List D × Int × List D)
  | 0, _, _, _, _, _, _ => none
  | n + 1, z1, z2, s3, l4, z5, l6 =>
    bO1 (F25 n l4) fun l7 => appF 88 ([] : List D) l7 fun l8 => appF 8 ([] : List D) l6 fun l9 => some (z1, z2, s3, l8, z5, l9)
end
set_option maxRecDepth 100000 in
set_option maxHeartbeats 40000000 in
theorem G25 (n : Nat) : (∀ ⦃l1 : List D⦄ ⦃r1 : List D⦄, F25 n l1 = some r1 →
    Trip Tryd.prog inv 25 [.d (.list true 6 l1)] [] (.v (.d (.list true 6 r1))) [] []) ∧
    (∀ ⦃z1 : Int⦄ ⦃z2 : Int⦄ ⦃s3 : ByteArray⦄ ⦃l4 : List D⦄ ⦃z5 : Int⦄ ⦃l6 : List D⦄ ⦃r1 : Int⦄ ⦃r2 : Int⦄ ⦃r3 : ByteArray⦄ ⦃r4 : List D⦄ ⦃r5 : Int⦄ ⦃r6 : List D⦄, F9 n z1 z2 s3 l4 z5 l6 = some (r1, r2, r3, r4, r5, r6) →
    Trip Tryd.prog inv 9 [.d (.agg [.int .u8 z1, .int .i64 z2, .str s3, .list true 6 l4, .int .i64 z5, .list false 1 l6])] [] (.v (.d (.agg [.int .u8 r1, .int .i64 r2, .str r3, .list true 6 r4, .int .i64 r5, .list false 1 r6]))) [] []) := by
  induction n using Nat.strongRecOn with
  | _ n ih =>
    cases n with
    | zero =>
      refine ⟨?_, ?_⟩
      · intro l1 r1 h
        cases (show (none : Option _) = some _ from h)
      · intro z1 z2 s3 l4 z5 l6 r1 r2 r3 r4 r5 r6 h
        cases (show (none : Option _) = some _ from h)
    | succ n =>
      refine ⟨?_, ?_⟩
      · intro l1 r1 h
        rw [F25] at h
        refine Trip.of tab_ok tab_one fol Tryd.func25 rfl (by kernel_rfl) rfl rfl rfl (fun M hM hI => ?_)
        try cbv
        refine seq_go ?_
        try cbv
        refine seq_go ?_
        try cbv
        refine seq_go ?_
        try cbv
        refine seq_go ?_
        try cbv
        refine loop_invT (T := Nat × List D × Int) [.slot 3 true 6 25] [0, 2, 3, 4] [.loc 96] 128 (fun t => ⟨[(0, .v (.d (.list true 6 l1))), (2, .v (.c (.nils true 6))), (3, .v (.c (.lst (.loc 96) true 6 t.2.1))), (4, .v (.d (.int .i64 t.2.2)))], [(.loc 96, .tok t.2.1.length 6 25)], 128⟩)
          (fun t => t.1 ≤ n ∧ L25_1 t.1 l1 t.2.1 t.2.2 = some r1) (fun t => t.1) (n, (([] : List D), (0 : Int))) ⟨Nat.le_refl _, h⟩ (by cbv) ?_
        clear h
        rintro ⟨m1, l2, z3⟩ ⟨hm1, h⟩
        replace hm1 : m1 ≤ n := hm1
        cases m1 with
        | zero =>
          replace h : L25_1 0 l1 l2 z3 = some r1 := h
          rw [L25_1] at h
          cases h
        | succ m1 =>
          replace h : L25_1 (m1 + 1) l1 l2 z3 = some r1 := h
          rw [L25_1] at h
          try cbv
          refine seq_go ?_
          try cbv
          refine seq_join (T := Nat × Bool) (fun t => ⟨[(0, .v (.d (.list true 6 l1))), (2, .v (.c (.nils true 6))), (3, .v (.c (.lst (.loc 96) true 6 l2))), (4, .v (.d (.int .i64 z3))), (8, .v (.d (.bool t.2)))], [(.loc 96, .tok l2.length 6 25)], 256⟩) (fun t => t.1 ≤ m1 ∧ L25_2 t.1 l1 l2 z3 t.2 = some r1) ?_ ?_
          · try cbv
            replace h := lenF_inv M h
            obtain ⟨z4, hz, h⟩ := h
            refine ⟨z4, hz, ?_⟩
            clear hz
            try cbv
            refine splitL (fun e => ?_) (fun e => ?_)
            · replace h := ite_t e h
              clear e
              try cbv
              exact join_next (m1, true) [0, 2, 3, 4, 8] [.loc 96] 256 ⟨by omega, h⟩ (by cbv)
            · replace h := ite_f (Int.not_lt.2 e) h
              clear e
              try cbv
              exact join_next (m1, false) [0, 2, 3, 4, 8] [.loc 96] 256 ⟨by omega, h⟩ (by cbv)
          · clear h
            rintro ⟨m2, b5⟩ ⟨hm2, h⟩
            replace hm2 : m2 ≤ m1 := hm2
            cases m2 with
            | zero =>
              replace h : L25_2 0 l1 l2 z3 b5 = some r1 := h
              rw [L25_2] at h
              cases h
            | succ m2 =>
              replace h : L25_2 (m2 + 1) l1 l2 z3 b5 = some r1 := h
              rw [L25_2] at h
              try cbv
              cases b5
              · replace h := ite_f Bool.false_ne_true h
                try cbv
                refine seq_go ?_
                try cbv
                obtain rfl := Option.some.inj h
                refine fin_go ?_
                try cbv
                exact ⟨[], rfl, rfl, trivial, trivial, trivial⟩
              · replace h := ite_t rfl h
                try cbv
                refine seq_go ?_
                try cbv
                replace h := getF_inv h
                obtain ⟨x6, hx6, h⟩ := h
                replace h := ds_t25_inv h
                obtain ⟨z7, z8, s9, l10, z11, l12, rfl, h⟩ := h
                refine ⟨_, hx6.1, hx6.2, ?_⟩
                try cbv
                replace h := bO6_inv h
                obtain ⟨z13, z14, s15, l16, z17, l18, hr, h⟩ := h
                refine call_go rfl rfl ?_
                try cbv
                refine call_pure hM hI ((ih _ (by omega)).2 hr) rfl ?_
                clear hr
                try cbv
                refine ⟨false, ?_⟩
                try cbv
                refine ⟨true, ?_⟩
                try cbv
                replace h := appF_inv h
                obtain ⟨l19, hb, hz, h⟩ := h
                refine ⟨false, ?_⟩
                try cbv
                first | refine ⟨rfl, (M.lock_iff _).2 hb, l19, hz, ?_⟩ | refine ⟨(M.lock_iff _).2 hb, l19, hz, ?_⟩
                clear hb hz
                try cbv
                replace h := letF_inv h
                obtain ⟨z20, hz, h⟩ := h
                refine ⟨z20, hz, ?_⟩
                clear hz
                try cbv
                exact loop_next (m2, (l19, z20)) [0, 2, 3, 4] [.loc 96] 128 ⟨by omega, h⟩ (Nat.lt_succ_of_le (by omega)) (by cbv)
      · intro z1 z2 s3 l4 z5 l6 r1 r2 r3 r4 r5 r6 h
        rw [F9] at h
        refine Trip.of tab_ok tab_one fol Tryd.func9 rfl (by kernel_rfl) rfl rfl rfl (fun M hM hI => ?_)
        try cbv
        refine seq_go ?_
        try cbv
        refine seq_go ?_
        try cbv
        refine seq_go ?_
        try cbv
        refine seq_go ?_
        try cbv
        replace h := bO1_inv h
        obtain ⟨l7, hr, h⟩ := h
        first | refine .inr (.inl ⟨[], ?_⟩) | refine .inl ⟨[], ?_⟩
        try cbv
        refine call_pure hM hI ((ih _ (by omega)).1 hr) rfl ?_
        clear hr
        try cbv
        replace h := appF_inv h
        obtain ⟨l8, hb, hz, h⟩ := h
        refine ⟨false, ?_⟩
        try cbv
        refine ⟨(M.lock_iff _).2 hb, l8, hz, true, .inl rfl, ?_⟩
        clear hb hz
        try cbv
        refine drawn ?_ ?_
        · show _ = true
          kernel_rfl
        try cbv
        refine seq_go ?_
        try cbv
        replace h := appF_inv h
        obtain ⟨l9, hb, hz, h⟩ := h
        refine ⟨false, ?_⟩
        try cbv
        refine ⟨(M.lock_iff _).2 hb, l9, hz, true, .inl rfl, ?_⟩
        clear hb hz
        try cbv
        refine seq_go ?_
        try cbv
        obtain ⟨rfl, rfl, rfl, rfl, rfl, rfl⟩ := inj6 h
        refine fin_go ?_
        try cbv
        exact ⟨[], rfl, rfl, trivial, trivial, trivial⟩
theorem T9 (n : Nat) : ∀ ⦃z1 : Int⦄ ⦃z2 : Int⦄ ⦃s3 : ByteArray⦄ ⦃l4 : List D⦄ ⦃z5 : Int⦄ ⦃l6 : List D⦄ ⦃r1 : Int⦄ ⦃r2 : Int⦄ ⦃r3 : ByteArray⦄ ⦃r4 : List D⦄ ⦃r5 : Int⦄ ⦃r6 : List D⦄, F9 n z1 z2 s3 l4 z5 l6 = some (r1, r2, r3, r4, r5, r6) →
    Trip Tryd.prog inv 9 [.d (.agg [.int .u8 z1, .int .i64 z2, .str s3, .list true 6 l4, .int .i64 z5, .list false 1 l6])] [] (.v (.d (.agg [.int .u8 r1, .int .i64 r2, .str r3, .list true 6 r4, .int .i64 r5, .list false 1 r6]))) [] [] := (G25 n).2
end Go.Proofs.YtagiiaejijihoaaDoor
end

set_option linter.unusedVariables false
noncomputable section
namespace Go.Proofs.YtagiiaejijihoaaDoor
open Go Go.AM
mutual
def L27_2 : Nat → (List D) → (List D) → Int → Option (Bool × List D)
  | 0, _, _, _ => none
  | n + 1, l1, l2, z6 =>
    lenF l2 fun z7 => (if z6 < z7 then L27_3 n l1 l2 z6 true else L27_3 n l1 l2 z6 false)
def L27_3 : Nat → (List D) → (List D) → Int → Bool → Option (Bool × List D)
  | 0, _, _, _, _ => none
  | n + 1, l1, l2, z6, b8 =>
    (if b8 = true then needF (0 ≤ z6 ∧ z6.toNat < l2.length) (getN l2 (z6.toNat) fun x9 => ds_i64 x9 fun z10 => getF l1 z6 fun x11 => ds_i64 x11 fun z12 => (if z10 = z12 then L27_4 n l1 l2 z6 false else L27_4 n l1 l2 z6 true)) else some (true, l2))
def L27_4 : Nat → (List D) → (List D) → Int → Bool → Option (Bool × List D)
  | 0, _, _, _, _ => none
  | n + 1, l1, l2, z6, b13 =>
    (if b13 = true then some (false, l2) else letF (IntKind.wrap .i64 (z6 + 1)) fun z14 => L27_2 n l1 l2 z14)
end
def L27_1 : Nat → (List D) → (List D) → Bool → Option (Bool × List D)
  | 0, _, _, _ => none
  | n + 1, l1, l2, b5 =>
    (if b5 = true then some (false, l2) else L27_2 n l1 l2 (0 : Int))
def F27 (n : Nat) (l1 : List D) (l2 : List D) : Option (Bool × List D) :=
  lenF l2 fun z3 => lenF l1 fun z4 => (if z3 = z4 then L27_1 n l1 l2 false else L27_1 n l1 l2 true)
set_option maxRecDepth 100000 in
set_option maxHeartbeats 40000000 in
theorem T27 (n : Nat) : ∀ ⦃l1 : List D⦄ ⦃l2 : List D⦄ ⦃r1 : Bool⦄ ⦃r2 : List D⦄, F27 n l1 l2 = some (r1, r2) →
    Trip Tryd.prog inv 27 [.c (.ow (.ext 0)), .d (.list false 1 l1)] [.tree .row false 1 l2 none] (.v (.d (.bool r1))) [.tree .row false 1 r2 none] [] := by
  intro l1 l2 r1 r2 h
  unfold F27 at h
  refine Trip.of tab_ok tab_one fol Tryd.func27 rfl (by kernel_rfl) rfl rfl rfl (fun M hM hI => ?_)
  try cbv
  refine seq_go ?_
  try cbv
  refine seq_go ?_
  try cbv
  refine seq_join (T := Nat × Bool) (fun t => ⟨[(0, .v (.c (.ow (.ext 0)))), (1, .v (.d (.list false 1 l1))), (4, .v (.d (.bool false))), (10, .v (.d (.bool t.2)))], [(.ext 0, .tree .row false 1 l2 none)], 192⟩) (fun t => t.1 ≤ n ∧ L27_1 t.1 l1 l2 t.2 = some (r1, r2)) ?_ ?_
  · try cbv
    replace h := lenF_inv M h
    obtain ⟨z3, hz, h⟩ := h
    refine ⟨false, ?_⟩
    try cbv
    refine ⟨z3, hz, ?_⟩
    clear hz
    try cbv
    replace h := lenF_inv M h
    obtain ⟨z4, hz, h⟩ := h
    refine ⟨z4, hz, ?_⟩
    clear hz
    try cbv
    refine splitI (fun e => ?_) (fun e => ?_)
    · replace h := ite_t e h
      clear e
      try cbv
      exact join_next (n, false) [0, 1, 4, 10] [.ext 0] 192 ⟨by omega, h⟩ (by cbv)
    · replace h := ite_f e h
      clear e
      try cbv
      exact join_next (n, true) [0, 1, 4, 10] [.ext 0] 192 ⟨by omega, h⟩ (by cbv)
  · clear h
    rintro ⟨m1, b5⟩ ⟨hm1, h⟩
    replace hm1 : m1 ≤ n := hm1
    cases m1 with
    | zero =>
      replace h : L27_1 0 l1 l2 b5 = some (r1, r2) := h
      rw [L27_1] at h
      cases h
    | succ m1 =>
      replace h : L27_1 (m1 + 1) l1 l2 b5 = some (r1, r2) := h
      rw [L27_1] at h
      try cbv
      cases b5
      · replace h := ite_f Bool.false_ne_true h
        try cbv
        refine seq_go ?_
        try cbv
        refine seq_go ?_
        try cbv
        refine loop_invG (T := Nat × Int) [] [] [0, 1, 4, 5] [.ext 0] 224 (fun t => ⟨[(0, .v (.c (.ow (.ext 0)))), (1, .v (.d (.list false 1 l1))), (4, .v (.d (.bool false))), (5, .v (.d (.int .i64 t.2)))], [(.ext 0, .tree .row false 1 l2 none)], 224⟩)
          (fun t => t.1 ≤ m1 ∧ L27_2 t.1 l1 l2 t.2 = some (r1, r2)) (fun t => t.1) (m1, (0 : Int)) ⟨Nat.le_refl _, h⟩ (by cbv) ?_
        clear h
        rintro ⟨m2, z6⟩ ⟨hm2, h⟩
        replace hm2 : m2 ≤ m1 := hm2
        cases m2 with
        | zero =>
          replace h : L27_2 0 l1 l2 z6 = some (r1, r2) := h
          rw [L27_2] at h
          cases h
        | succ m2 =>
          replace h : L27_2 (m2 + 1) l1 l2 z6 = some (r1, r2) := h
          rw [L27_2] at h
          try cbv
          refine seq_go ?_
          try cbv
          refine seq_join (T := Nat × Bool) (fun t => ⟨[(0, .v (.c (.ow (.ext 0)))), (1, .v (.d (.list false 1 l1))), (4, .v (.d (.bool false))), (5, .v (.d (.int .i64 z6))), (14, .v (.d (.bool t.2)))], [(.ext 0, .tree .row false 1 l2 none)], 352⟩) (fun t => t.1 ≤ m2 ∧ L27_3 t.1 l1 l2 z6 t.2 = some (r1, r2)) ?_ ?_
          · try cbv
            replace h := lenF_inv M h
            obtain ⟨z7, hz, h⟩ := h
            refine ⟨false, ?_⟩
            try cbv
            refine ⟨z7, hz, ?_⟩
            clear hz
            try cbv
            refine splitL (fun e => ?_) (fun e => ?_)
            · replace h := ite_t e h
              clear e
              try cbv
              exact join_next (m2, true) [0, 1, 4, 5, 14] [.ext 0] 352 ⟨by omega, h⟩ (by cbv)
            · replace h := ite_f (Int.not_lt.2 e) h
              clear e
              try cbv
              exact join_next (m2, false) [0, 1, 4, 5, 14] [.ext 0] 352 ⟨by omega, h⟩ (by cbv)
          · clear h
            rintro ⟨m3, b8⟩ ⟨hm3, h⟩
            replace hm3 : m3 ≤ m2 := hm3
            cases m3 with
            | zero =>
              replace h : L27_3 0 l1 l2 z6 b8 = some (r1, r2) := h
              rw [L27_3] at h
              cases h
            | succ m3 =>
              replace h : L27_3 (m3 + 1) l1 l2 z6 b8 = some (r1, r2) := h
              rw [L27_3] at h
              try cbv
              cases b8
              · replace h := ite_f Bool.false_ne_true h
                try cbv
                refine seq_go ?_
                try cbv
                obtain ⟨rfl, rfl⟩ := inj2 h
                refine fin_go ?_
                try cbv
                exact ⟨[], rfl, rfl, ⟨rfl, trivial⟩, trivial, trivial⟩
              · replace h := ite_t rfl h
                try cbv
                refine seq_go ?_
                try cbv
                refine seq_join (T := Nat × Bool) (fun t => ⟨[(0, .v (.c (.ow (.ext 0)))), (1, .v (.d (.list false 1 l1))), (4, .v (.d (.bool false))), (5, .v (.d (.int .i64 z6))), (25, .v (.d (.bool t.2)))], [(.ext 0, .tree .row false 1 l2 none)], 640⟩) (fun t => t.1 ≤ m3 ∧ L27_4 t.1 l1 l2 z6 t.2 = some (r1, r2)) ?_ ?_
                · try cbv
                  replace h := needF_inv h
                  obtain ⟨hn, h⟩ := h
                  refine ⟨(M.lock_iff _).2 hn, ?_⟩
                  clear hn
                  try cbv
                  refine ⟨[], ?_⟩
                  try cbv
                  replace h := getN_inv h
                  obtain ⟨x9, hx, h⟩ := h
                  replace h := ds_i64_inv h
                  obtain ⟨z10, rfl, h⟩ := h
                  refine ⟨_, hx, ?_⟩
                  clear hx
                  try cbv
                  refine ⟨true, ?_⟩
                  try cbv
                  replace h := getF_inv h
                  obtain ⟨x11, hx11, h⟩ := h
                  replace h := ds_i64_inv h
                  obtain ⟨z12, rfl, h⟩ := h
                  refine ⟨_, hx11.1, hx11.2, ?_⟩
                  try cbv
                  refine splitI (fun e => ?_) (fun e => ?_)
                  · replace h := ite_t e h
                    clear e
                    try cbv
                    refine drawn ?_ ?_
                    · show _ = true
                      kernel_rfl
                    try cbv
                    exact join_next (m3, false) [0, 1, 4, 5, 25] [.ext 0] 640 ⟨by omega, h⟩ (by cbv)
                  · replace h := ite_f e h
                    clear e
                    try cbv
                    refine drawn ?_ ?_
                    · show _ = true
                      kernel_rfl
                    try cbv
                    exact join_next (m3, true) [0, 1, 4, 5, 25] [.ext 0] 640 ⟨by omega, h⟩ (by cbv)
                · clear h
                  rintro ⟨m4, b13⟩ ⟨hm4, h⟩
                  replace hm4 : m4 ≤ m3 := hm4
                  cases m4 with
                  | zero =>
                    replace h : L27_4 0 l1 l2 z6 b13 = some (r1, r2) := h
                    rw [L27_4] at h
                    cases h
                  | succ m4 =>
                    replace h : L27_4 (m4 + 1) l1 l2 z6 b13 = some (r1, r2) := h
                    rw [L27_4] at h
                    try cbv
                    cases b13
                    · replace h := ite_f Bool.false_ne_true h
                      try cbv
                      replace h := letF_inv h
                      obtain ⟨z14, hz, h⟩ := h
                      refine ⟨z14, hz, ?_⟩
                      clear hz
                      try cbv
                      refine loop_nextG (m4, z14) [] [] [0, 1, 4, 5] [.ext 0] 224 ⟨by omega, h⟩ (Nat.lt_succ_of_le (by omega)) ?_
                      try cbv
                    · replace h := ite_t rfl h
                      try cbv
                      refine seq_go ?_
                      try cbv
                      obtain ⟨rfl, rfl⟩ := inj2 h
                      refine fin_go ?_
                      try cbv
                      exact ⟨[], rfl, rfl, ⟨rfl, trivial⟩, trivial, trivial⟩
      · replace h := ite_t rfl h
        try cbv
        refine seq_go ?_
        try cbv
        obtain ⟨rfl, rfl⟩ := inj2 h
        refine fin_go ?_
        try cbv
        exact ⟨[], rfl, rfl, ⟨rfl, trivial⟩, trivial, trivial⟩
end Go.Proofs.YtagiiaejijihoaaDoor
end

set_option linter.unusedVariables false
noncomputable section
namespace Go.Proofs.YtagiiaejijihoaaDoor
open Go Go.AM
mutual
def L28_1 : Nat → (List D) → (List D) → Bool → Option (Bool × List D)
  | 0, _, _, _ => none
  | n + 1, l1, l2, b5 =>
    (if b5 = true then some (false, l2) else L28_2 n l1 (0 : Int) l2)
def L28_2 : Nat → (List D) → Int → (List D) → Option (Bool × List D)
  | 0, _, _, _ => none
  | n + 1, l1, z6, l7 =>
    lenF l7 fun z8 => (if z6 < z8 then L28_3 n l1 z6 l7 true else L28_3 n l1 z6 l7 false)
def L28_3 : Nat → (List D) → Int → (List D) → Bool → Option (Bool × List D)
  | 0, _, _, _, _ => none
  | n + 1, l1, z6, l7, b9 =>
    (if b9 = true then needF (0 ≤ z6 ∧ z6.toNat < l7.length) (getN l7 (z6.toNat) fun x10 => ds_t25 x10 fun z11 z12 s13 l14 z15 l16 => getF l1 z6 fun x17 => ds_t25 x17 fun z18 z19 s20 l21 z22 l23 => bO3 (F11 n z11 z12 s13 z15 z18 z19 s20 l21 z22 l23 l14 l16) fun b24 l25 l26 => letB (!b24) fun b27 => (if b27 = true then setF l7 (z6.toNat) (.agg [.int .u8 z11, .int .i64 z12, .str s13, .list true 6 l25, .int .i64 z15, .list false 1 l26]) fun l28 => some (false, l28) else letF (IntKind.wrap .i64 (z6 + 1)) fun z29 => setF l7 (z6.toNat) (.agg [.int .u8 z11, .int .i64 z12, .str s13, .list true 6 l25, .int .i64 z15, .list false 1 l26]) fun l30 => L28_2 n l1 z29 l30)) else some (true, l7))
def F28 : Nat → (List D) → (List D) → Option (Bool × List D)
  | 0, _, _ => none
  | n + 1, l1, l2 =>
    lenF l2 fun z3 => lenF l1 fun z4 => (if z3 = z4 then L28_1 n l1 l2 false else L28_1 n l1 l2 true)
def F11 : Nat → Int → Int → ByteArray → Int → Int → Int → ByteArray → (List D) → Int → (List D) → (List D) → (List D) → Option (Bool × List D × List D)
  | 0, _, _, _, _, _, _, _, _, _, _, _, _ => none
  | n + 1, z1, z2, s3, z4, z5, z6, s7, l8, z9, l10, l11, l12 =>
    (if z1 = z5 then (if z2 = z6 then (if s3 = s7 then (if z4 = z9 then bO2 (F27 n l10 l12) fun b13 l14 => (if b13 = true then bO2 (F28 n l8 l11) fun b15 l16 => some (b15, l16, l14) else some (false, l11, l14)) else some (false, l11, l12)) else some (false, l11, l12)) else some (false, l11, l12)) else some (false, l11, l12))
end
set_option maxRecDepth 100000 in
set_option maxHeartbeats 40000000 in
theorem G28 (n : Nat) : (∀ ⦃l1 : List D⦄ ⦃l2 : List D⦄ ⦃r1 : Bool⦄ ⦃r2 : List D⦄, F28 n l1 l2 = some (r1, r2) →
    Trip Tryd.prog inv 28 [.c (.ow (.ext 0)), .d (.list true 6 l1)] [.tree .row true 6 l2 none] (.v (.d (.bool r1))) [.tree .row true 6 r2 none] []) ∧
    (∀ ⦃z1 : Int⦄ ⦃z2 : Int⦄ ⦃s3 : ByteArray⦄ ⦃z4 : Int⦄ ⦃z5 : Int⦄ ⦃z6 : Int⦄ ⦃s7 : ByteArray⦄ ⦃l8 : List D⦄ ⦃z9 : Int⦄ ⦃l10 : List D⦄ ⦃l11 : List D⦄ ⦃l12 : List D⦄ ⦃r1 : Bool⦄ ⦃r2 : List D⦄ ⦃r3 : List D⦄, F11 n z1 z2 s3 z4 z5 z6 s7 l8 z9 l10 l11 l12 = some (r1, r2, r3) →
    Trip Tryd.prog inv 11 [.agg [.d (.int .u8 z1), .d (.int .i64 z2), .d (.str s3), .ow (.ext 0), .d (.int .i64 z4), .ow (.ext 1)], .d (.agg [.int .u8 z5, .int .i64 z6, .str s7, .list true 6 l8, .int .i64 z9, .list false 1 l10])] [.tree .row true 6 l11 none, .tree .row false 1 l12 none] (.v (.d (.bool r1))) [.tree .row true 6 r2 none, .tree .row false 1 r3 none] []) := by
  induction n using Nat.strongRecOn with
  | _ n ih =>
    cases n with
    | zero =>
      refine ⟨?_, ?_⟩
      · intro l1 l2 r1 r2 h
        cases (show (none : Option _) = some _ from h)
      · intro z1 z2 s3 z4 z5 z6 s7 l8 z9 l10 l11 l12 r1 r2 r3 h
        cases (show (none : Option _) = some _ from h)
    | succ n =>
      refine ⟨?_, ?_⟩
      · intro l1 l2 r1 r2 h
        rw [F28] at h
        refine Trip.of tab_ok tab_one fol Tryd.func28 rfl (by kernel_rfl) rfl rfl rfl (fun M hM hI => ?_)
        try cbv
        refine seq_go ?_
        try cbv
        refine seq_go ?_
        try cbv
        refine seq_join (T := Nat × Bool) (fun t => ⟨[(0, .v (.c (.ow (.ext 0)))), (1, .v (.d (.list true 6 l1))), (4, .v (.d (.bool false))), (10, .v (.d (.bool t.2)))], [(.ext 0, .tree .row true 6 l2 none)], 192⟩) (fun t => t.1 ≤ n ∧ L28_1 t.1 l1 l2 t.2 = some (r1, r2)) ?_ ?_
        · try cbv
          replace h := lenF_inv M h
          obtain ⟨z3, hz, h⟩ := h
          refine ⟨false, ?_⟩
          try cbv
          refine ⟨z3, hz, ?_⟩
          clear hz
          try cbv
          replace h := lenF_inv M h
          obtain ⟨z4, hz, h⟩ := h
          refine ⟨z4, hz, ?_⟩
          clear hz
          try cbv
          refine splitI (fun e => ?_) (fun e => ?_)
          · replace h := ite_t e h
            clear e
            try cbv
            exact join_next (n, false) [0, 1, 4, 10] [.ext 0] 192 ⟨by omega, h⟩ (by cbv)
          · replace h := ite_f e h
            clear e
            try cbv
            exact join_next (n, true) [0, 1, 4, 10] [.ext 0] 192 ⟨by omega, h⟩ (by cbv)
        · clear h
          rintro ⟨m1, b5⟩ ⟨hm1, h⟩
          replace hm1 : m1 ≤ n := hm1
          cases m1 with
          | zero =>
            replace h : L28_1 0 l1 l2 b5 = some (r1, r2) := h
            rw [L28_1] at h
            cases h
          | succ m1 =>
            replace h : L28_1 (m1 + 1) l1 l2 b5 = some (r1, r2) := h
            rw [L28_1] at h
            try cbv
            cases b5
            · replace h := ite_f Bool.false_ne_true h
              try cbv
              refine seq_go ?_
              try cbv
              refine seq_go ?_
              try cbv
              refine loop_invG (T := Nat × Int × List D) [] [] [0, 1, 4, 5] [.ext 0] 224 (fun t => ⟨[(0, .v (.c (.ow (.ext 0)))), (1, .v (.d (.list true 6 l1))), (4, .v (.d (.bool false))), (5, .v (.d (.int .i64 t.2.1)))], [(.ext 0, .tree .row true 6 t.2.2 none)], 224⟩)
                (fun t => t.1 ≤ m1 ∧ L28_2 t.1 l1 t.2.1 t.2.2 = some (r1, r2)) (fun t => t.1) (m1, ((0 : Int), l2)) ⟨Nat.le_refl _, h⟩ (by cbv) ?_
              clear h
              rintro ⟨m2, z6, l7⟩ ⟨hm2, h⟩
              replace hm2 : m2 ≤ m1 := hm2
              cases m2 with
              | zero =>
                replace h : L28_2 0 l1 z6 l7 = some (r1, r2) := h
                rw [L28_2] at h
                cases h
              | succ m2 =>
                replace h : L28_2 (m2 + 1) l1 z6 l7 = some (r1, r2) := h
                rw [L28_2] at h
                try cbv
                refine seq_go ?_
                try cbv
                refine seq_join (T := Nat × Bool) (fun t => ⟨[(0, .v (.c (.ow (.ext 0)))), (1, .v (.d (.list true 6 l1))), (4, .v (.d (.bool false))), (5, .v (.d (.int .i64 z6))), (14, .v (.d (.bool t.2)))], [(.ext 0, .tree .row true 6 l7 none)], 352⟩) (fun t => t.1 ≤ m2 ∧ L28_3 t.1 l1 z6 l7 t.2 = some (r1, r2)) ?_ ?_
                · try cbv
                  replace h := lenF_inv M h
                  obtain ⟨z8, hz, h⟩ := h
                  refine ⟨false, ?_⟩
                  try cbv
                  refine ⟨z8, hz, ?_⟩
                  clear hz
                  try cbv
                  refine splitL (fun e => ?_) (fun e => ?_)
                  · replace h := ite_t e h
                    clear e
                    try cbv
                    exact join_next (m2, true) [0, 1, 4, 5, 14] [.ext 0] 352 ⟨by omega, h⟩ (by cbv)
                  · replace h := ite_f (Int.not_lt.2 e) h
                    clear e
                    try cbv
                    exact join_next (m2, false) [0, 1, 4, 5, 14] [.ext 0] 352 ⟨by omega, h⟩ (by cbv)
                · clear h
                  rintro ⟨m3, b9⟩ ⟨hm3, h⟩
                  replace hm3 : m3 ≤ m2 := hm3
                  cases m3 with
                  | zero =>
                    replace h : L28_3 0 l1 z6 l7 b9 = some (r1, r2) := h
                    rw [L28_3] at h
                    cases h
                  | succ m3 =>
                    replace h : L28_3 (m3 + 1) l1 z6 l7 b9 = some (r1, r2) := h
                    rw [L28_3] at h
                    try cbv
                    cases b9
                    · replace h := ite_f Bool.false_ne_true h
                      try cbv
                      refine seq_go ?_
                      try cbv
                      obtain ⟨rfl, rfl⟩ := inj2 h
                      refine fin_go ?_
                      try cbv
                      exact ⟨[], rfl, rfl, ⟨rfl, trivial⟩, trivial, trivial⟩
                    · replace h := ite_t rfl h
                      try cbv
                      refine seq_go ?_
                      try cbv
                      refine seq_go ?_
                      try cbv
                      replace h := needF_inv h
                      obtain ⟨hn, h⟩ := h
                      refine ⟨(M.lock_iff _).2 hn, ?_⟩
                      clear hn
                      try cbv
                      refine ⟨[], ?_⟩
                      try cbv
                      replace h := getN_inv h
                      obtain ⟨x10, hx, h⟩ := h
                      replace h := ds_t25_inv h
                      obtain ⟨z11, z12, s13, l14, z15, l16, rfl, h⟩ := h
                      refine ⟨_, hx, ?_⟩
                      clear hx
                      try cbv
                      refine ⟨false, ?_⟩
                      try cbv
                      replace h := getF_inv h
                      obtain ⟨x17, hx17, h⟩ := h
                      replace h := ds_t25_inv h
                      obtain ⟨z18, z19, s20, l21, z22, l23, rfl, h⟩ := h
                      refine ⟨_, hx17.1, hx17.2, ?_⟩
                      try cbv
                      replace h := bO3_inv h
                      obtain ⟨b24, l25, l26, hr, h⟩ := h
                      first | refine .inr (.inl ⟨[], ?_⟩) | refine .inl ⟨[], ?_⟩
                      try cbv
                      refine call_with hM hI [.loc 451, .loc 453] ((ih _ (by omega)).2 hr) rfl (by simp) ⟨rfl, ⟨rfl, trivial⟩⟩ ⟨trivial, ⟨trivial, trivial⟩⟩ (by simp) ?_
                      clear hr
                      try cbv
                      replace h := letB_inv h
                      obtain ⟨b27, hz, h⟩ := h
                      refine ⟨b27, not_eq' hz, ?_⟩
                      clear hz
                      try cbv
                      refine drawn ?_ ?_
                      · show _ = true
                        kernel_rfl
                      try cbv
                      cases b27
                      · replace h := ite_f Bool.false_ne_true h
                        try cbv
                        replace h := letF_inv h
                        obtain ⟨z29, hz, h⟩ := h
                        refine ⟨z29, hz, ?_⟩
                        clear hz
                        try cbv
                        replace h := setF_inv h
                        obtain ⟨l30, hl30, h⟩ := h
                        refine loop_nextG (m3, (z29, l30)) [.close (.ext 0)] [] [0, 1, 4, 5] [.ext 0] 224 ⟨by omega, h⟩ (Nat.lt_succ_of_le (by omega)) ?_
                        try cbv
                        refine ⟨l30, hl30, ?_⟩
                        clear hl30
                        try cbv
                        first | done | exact rfl | cbv
                      · replace h := ite_t rfl h
                        try cbv
                        refine seq_go ?_
                        try cbv
                        replace h := setF_inv h
                        obtain ⟨l28, hl28, h⟩ := h
                        obtain ⟨rfl, rfl⟩ := inj2 h
                        refine ⟨_, _, _, ⟨rfl, rfl, rfl⟩, [.close (.ext 0)], ?_⟩
                        try cbv
                        refine ⟨l28, hl28, ?_⟩
                        clear hl28
                        try cbv
                        exact ⟨[], rfl, rfl, ⟨rfl, trivial⟩, trivial, trivial⟩
            · replace h := ite_t rfl h
              try cbv
              refine seq_go ?_
              try cbv
              obtain ⟨rfl, rfl⟩ := inj2 h
              refine fin_go ?_
              try cbv
              exact ⟨[], rfl, rfl, ⟨rfl, trivial⟩, trivial, trivial⟩
      · intro z1 z2 s3 z4 z5 z6 s7 l8 z9 l10 l11 l12 r1 r2 r3 h
        rw [F11] at h
        refine Trip.of tab_ok tab_one fol Tryd.func11 rfl (by kernel_rfl) rfl rfl rfl (fun M hM hI => ?_)
        try cbv
        refine seq_go ?_
        try cbv
        refine seq_go ?_
        try cbv
        refine splitI (fun e => ?_) (fun e => ?_)
        · replace h := ite_t e h
          clear e
          try cbv
          refine splitI (fun e => ?_) (fun e => ?_)
          · replace h := ite_t e h
            clear e
            try cbv
            refine splitS (fun e => ?_) (fun e => ?_)
            · replace h := ite_t (bytes_eq.1 e) h
              clear e
              try cbv
              refine splitI (fun e => ?_) (fun e => ?_)
              · replace h := ite_t e h
                clear e
                try cbv
                replace h := bO2_inv h
                obtain ⟨b13, l14, hr, h⟩ := h
                refine call_go rfl rfl ?_
                try cbv
                refine call_with hM hI [.ext 1] (T27 _ hr) rfl (by simp) ⟨rfl, trivial⟩ ⟨trivial, trivial⟩ (by simp) ?_
                clear hr
                try cbv
                cases b13
                · replace h := ite_f Bool.false_ne_true h
                  try cbv
                  obtain ⟨rfl, rfl, rfl⟩ := inj3 h
                  refine fin_go ?_
                  try cbv
                  exact ⟨[], rfl, rfl, ⟨rfl, ⟨rfl, trivial⟩⟩, trivial, trivial⟩
                · replace h := ite_t rfl h
                  try cbv
                  replace h := bO2_inv h
                  obtain ⟨b15, l16, hr, h⟩ := h
                  refine call_go rfl rfl ?_
                  try cbv
                  refine call_with hM hI [.ext 0] ((ih _ (by omega)).1 hr) rfl (by simp) ⟨rfl, trivial⟩ ⟨trivial, trivial⟩ (by simp) ?_
                  clear hr
                  try cbv
                  obtain ⟨rfl, rfl, rfl⟩ := inj3 h
                  refine fin_go ?_
                  try cbv
                  exact ⟨[], rfl, rfl, ⟨rfl, ⟨rfl, trivial⟩⟩, trivial, trivial⟩
              · replace h := ite_f e h
                clear e
                try cbv
                obtain ⟨rfl, rfl, rfl⟩ := inj3 h
                refine fin_go ?_
                try cbv
                exact ⟨[], rfl, rfl, ⟨rfl, ⟨rfl, trivial⟩⟩, trivial, trivial⟩
            · replace h := ite_f (bytes_ne.1 e) h
              clear e
              try cbv
              obtain ⟨rfl, rfl, rfl⟩ := inj3 h
              refine fin_go ?_
              try cbv
              exact ⟨[], rfl, rfl, ⟨rfl, ⟨rfl, trivial⟩⟩, trivial, trivial⟩
          · replace h := ite_f e h
            clear e
            try cbv
            obtain ⟨rfl, rfl, rfl⟩ := inj3 h
            refine fin_go ?_
            try cbv
            exact ⟨[], rfl, rfl, ⟨rfl, ⟨rfl, trivial⟩⟩, trivial, trivial⟩
        · replace h := ite_f e h
          clear e
          try cbv
          obtain ⟨rfl, rfl, rfl⟩ := inj3 h
          refine fin_go ?_
          try cbv
          exact ⟨[], rfl, rfl, ⟨rfl, ⟨rfl, trivial⟩⟩, trivial, trivial⟩
theorem T11 (n : Nat) : ∀ ⦃z1 : Int⦄ ⦃z2 : Int⦄ ⦃s3 : ByteArray⦄ ⦃z4 : Int⦄ ⦃z5 : Int⦄ ⦃z6 : Int⦄ ⦃s7 : ByteArray⦄ ⦃l8 : List D⦄ ⦃z9 : Int⦄ ⦃l10 : List D⦄ ⦃l11 : List D⦄ ⦃l12 : List D⦄ ⦃r1 : Bool⦄ ⦃r2 : List D⦄ ⦃r3 : List D⦄, F11 n z1 z2 s3 z4 z5 z6 s7 l8 z9 l10 l11 l12 = some (r1, r2, r3) →
    Trip Tryd.prog inv 11 [.agg [.d (.int .u8 z1), .d (.int .i64 z2), .d (.str s3), .ow (.ext 0), .d (.int .i64 z4), .ow (.ext 1)], .d (.agg [.int .u8 z5, .int .i64 z6, .str s7, .list true 6 l8, .int .i64 z9, .list false 1 l10])] [.tree .row true 6 l11 none, .tree .row false 1 l12 none] (.v (.d (.bool r1))) [.tree .row true 6 r2 none, .tree .row false 1 r3 none] [] := (G28 n).2
end Go.Proofs.YtagiiaejijihoaaDoor
end

set_option linter.unusedVariables false
noncomputable section
namespace Go.Proofs.YtagiiaejijihoaaDoor
open Go Go.AM
def L3_1 : Nat → Int → Int → ByteArray → (List D) → Int → (List D) → Int → Int → ByteArray → (List D) → Int → (List D) → Int → Int → ByteArray → Int → Bool → (List D) → (List D) → Option (Bool)
  | 0, _, _, _, _, _, _, _, _, _, _, _, _, _, _, _, _, _, _, _ => none
  | n + 1, z1, z2, s3, l4, z5, l6, z14, z15, s16, l17, z18, l19, z20, z21, s22, z23, b38, l39, l40 =>
    (if b38 = true then some false else bO2 (F17 n z20 z21 s22 z23 l39 l40) fun l41 l42 => bO1 (F11x1 n z14 z15 s16 l17 z18 l19 z1 z2 s3 l4 z5 l6) fun b43 => some b43)
def F3 (n : Nat) (z1 : Int) (z2 : Int) (s3 : ByteArray) (l4 : List D) (z5 : Int) (l6 : List D) (z7 : Int) (z8 : Int) (s9 : ByteArray) (l10 : List D) (z11 : Int) (l12 : List D) : Option (Bool) :=
  bO1 (F8 n z1 z2 s3 l4 z5 l6 z7 z8 s9 l10 z11 l12 ([] : List D)) fun b13 => (if b13 = true then some true else bO6 (F9 n z1 z2 s3 l4 z5 l6) fun z14 z15 s16 l17 z18 l19 => bO6 (F10 n z14 z15 s16 l17 z18 l19) fun z20 z21 s22 z23 l24 l25 => bO3 (F11 n z20 z21 s22 z23 z1 z2 s3 l4 z5 l6 l24 l25) fun b26 l27 l28 => letB (!b26) fun b29 => (if b29 = true then L3_1 n z1 z2 s3 l4 z5 l6 z14 z15 s16 l17 z18 l19 z20 z21 s22 z23 true l27 l28 else bO1 (F12 n z1 z2 s3 l4 z5 l6) fun b30 => bO1 (F13 n z1 z2 s3 l4 z5 l6) fun b31 => letB (!(b30 == b31)) fun b32 => (if b32 = true then L3_1 n z1 z2 s3 l4 z5 l6 z14 z15 s16 l17 z18 l19 z20 z21 s22 z23 true l27 l28 else bO1 (F14 n z14 z15 s16 l17 z18 l19 z7 z8 s9 l10 z11 l12) fun b33 => bO1 (F11x1 n z1 z2 s3 l4 z5 l6 z7 z8 s9 l10 z11 l12) fun b34 => letB (!(b33 == b34)) fun b35 => (if b35 = true then L3_1 n z1 z2 s3 l4 z5 l6 z14 z15 s16 l17 z18 l19 z20 z21 s22 z23 true l27 l28 else bO1 (F15 n z14 z15 s16 l17 z18 l19) fun s36 => bO1 (F16 n z1 z2 s3 l4 z5 l6) fun s37 => (if s36 = s37 then L3_1 n z1 z2 s3 l4 z5 l6 z14 z15 s16 l17 z18 l19 z20 z21 s22 z23 false l27 l28 else L3_1 n z1 z2 s3 l4 z5 l6 z14 z15 s16 l17 z18 l19 z20 z21 s22 z23 true l27 l28)))))
set_option maxRecDepth 100000 in
set_option maxHeartbeats 40000000 in
theorem T3 (n : Nat) : ∀ ⦃z1 : Int⦄ ⦃z2 : Int⦄ ⦃s3 : ByteArray⦄ ⦃l4 : List D⦄ ⦃z5 : Int⦄ ⦃l6 : List D⦄ ⦃z7 : Int⦄ ⦃z8 : Int⦄ ⦃s9 : ByteArray⦄ ⦃l10 : List D⦄ ⦃z11 : Int⦄ ⦃l12 : List D⦄ ⦃r1 : Bool⦄, F3 n z1 z2 s3 l4 z5 l6 z7 z8 s9 l10 z11 l12 = some r1 →
    Trip Tryd.prog inv 3 [.d (.agg [.int .u8 z1, .int .i64 z2, .str s3, .list true 6 l4, .int .i64 z5, .list false 1 l6]), .d (.agg [.int .u8 z7, .int .i64 z8, .str s9, .list true 6 l10, .int .i64 z11, .list false 1 l12])] [] (.v (.d (.bool r1))) [] [] := by
  intro z1 z2 s3 l4 z5 l6 z7 z8 s9 l10 z11 l12 r1 h
  unfold F3 at h
  refine Trip.of tab_ok tab_one fol Tryd.func3 rfl (by kernel_rfl) rfl rfl rfl (fun M hM hI => ?_)
  try cbv
  refine seq_go ?_
  try cbv
  refine seq_go ?_
  try cbv
  refine seq_go ?_
  try cbv
  replace h := bO1_inv h
  obtain ⟨b13, hr, h⟩ := h
  refine call_go rfl rfl ?_
  try cbv
  refine call_pure hM hI (T8 _ hr) rfl ?_
  clear hr
  try cbv
  cases b13
  · replace h := ite_f Bool.false_ne_true h
    try cbv
    refine seq_go ?_
    try cbv
    replace h := bO6_inv h
    obtain ⟨z14, z15, s16, l17, z18, l19, hr, h⟩ := h
    refine call_go rfl rfl ?_
    try cbv
    refine call_pure hM hI (T9 _ hr) rfl ?_
    clear hr
    try cbv
    refine seq_go ?_
    try cbv
    replace h := bO6_inv h
    obtain ⟨z20, z21, s22, z23, l24, l25, hr, h⟩ := h
    refine call_go rfl rfl ?_
    try cbv
    refine call_with hM hI [] (T10 _ hr) rfl (by simp) trivial trivial (by simp) ?_
    clear hr
    try cbv
    refine seq_go ?_
    try cbv
    refine seq_join (T := Nat × Bool × List D × List D) (fun t => ⟨[(2, .v (.c (.ptr (.loc 0) 0))), (4, .v (.d (.bool false))), (5, .v (.c (.ptr (.loc 256) 0))), (6, .v (.c (.ptr (.loc 384) 0))), (40, .v (.d (.bool t.2.1)))], [(.loc 0, .cells [.d (.int .u8 z1), .d (.int .i64 z2), .d (.str s3), .d (.list true 6 l4), .d (.int .i64 z5), .d (.list false 1 l6)]), (.loc 256, .cells [.d (.int .u8 z14), .d (.int .i64 z15), .d (.str s16), .d (.list true 6 l17), .d (.int .i64 z18), .d (.list false 1 l19)]), (.loc 384, .cells [.d (.int .u8 z20), .d (.int .i64 z21), .d (.str s22), .ow (.loc 352), .d (.int .i64 z23), .ow (.loc 353)]), (.loc 352, .tree .row true 6 t.2.2.1 none), (.loc 353, .tree .row false 1 t.2.2.2 none)], 1312⟩) (fun t => t.1 ≤ n ∧ L3_1 t.1 z1 z2 s3 l4 z5 l6 z14 z15 s16 l17 z18 l19 z20 z21 s22 z23 t.2.1 t.2.2.1 t.2.2.2 = some r1) ?_ ?_
    · try cbv
      replace h := bO3_inv h
      obtain ⟨b26, l27, l28, hr, h⟩ := h
      first | refine .inr (.inl ⟨[], ?_⟩) | refine .inl ⟨[], ?_⟩
      try cbv
      refine call_with hM hI [.loc 352, .loc 353] (T11 _ hr) rfl (by simp) ⟨rfl, ⟨rfl, trivial⟩⟩ ⟨trivial, ⟨trivial, trivial⟩⟩ (by simp) ?_
      clear hr
      try cbv
      replace h := letB_inv h
      obtain ⟨b29, hz, h⟩ := h
      refine ⟨b29, not_eq' hz, ?_⟩
      clear hz
      try cbv
      cases b29
      · replace h := ite_f Bool.false_ne_true h
        try cbv
        replace h := bO1_inv h
        obtain ⟨b30, hr, h⟩ := h
        first | refine .inr (.inl ⟨[], ?_⟩) | refine .inl ⟨[], ?_⟩
        try cbv
        refine call_pure hM hI (T12 _ hr) rfl ?_
        clear hr
        try cbv
        replace h := bO1_inv h
        obtain ⟨b31, hr, h⟩ := h
        first | refine .inr (.inl ⟨[], ?_⟩) | refine .inl ⟨[], ?_⟩
        try cbv
        refine call_pure hM hI (T13 _ hr) rfl ?_
        clear hr
        try cbv
        replace h := letB_inv h
        obtain ⟨b32, hz, h⟩ := h
        refine ⟨b32, eqv_ne hz, ?_⟩
        clear hz
        try cbv
        cases b32
        · replace h := ite_f Bool.false_ne_true h
          try cbv
          replace h := bO1_inv h
          obtain ⟨b33, hr, h⟩ := h
          first | refine .inr (.inl ⟨[], ?_⟩) | refine .inl ⟨[], ?_⟩
          try cbv
          refine call_pure hM hI (T14 _ hr) rfl ?_
          clear hr
          try cbv
          replace h := bO1_inv h
          obtain ⟨b34, hr, h⟩ := h
          first | refine .inr (.inl ⟨[], ?_⟩) | refine .inl ⟨[], ?_⟩
          try cbv
          refine call_pure hM hI (T11x1 _ hr) rfl ?_
          clear hr
          try cbv
          replace h := letB_inv h
          obtain ⟨b35, hz, h⟩ := h
          refine ⟨b35, eqv_ne hz, ?_⟩
          clear hz
          try cbv
          cases b35
          · replace h := ite_f Bool.false_ne_true h
            try cbv
            replace h := bO1_inv h
            obtain ⟨s36, hr, h⟩ := h
            first | refine .inr (.inl ⟨[], ?_⟩) | refine .inl ⟨[], ?_⟩
            try cbv
            refine call_pure hM hI (T15 _ hr) rfl ?_
            clear hr
            try cbv
            replace h := bO1_inv h
            obtain ⟨s37, hr, h⟩ := h
            first | refine .inr (.inl ⟨[], ?_⟩) | refine .inl ⟨[], ?_⟩
            try cbv
            refine call_pure hM hI (T16 _ hr) rfl ?_
            clear hr
            try cbv
            refine splitS (fun e => ?_) (fun e => ?_)
            · replace h := ite_t (bytes_eq.1 e) h
              clear e
              try cbv
              refine drawn ?_ ?_
              · show _ = true
                kernel_rfl
              try cbv
              exact join_next (n, (false, l27, l28)) [2, 4, 5, 6, 40] [.loc 0, .loc 256, .loc 384, .loc 352, .loc 353] 1312 ⟨by omega, h⟩ (by cbv)
            · replace h := ite_f (bytes_ne.1 e) h
              clear e
              try cbv
              refine drawn ?_ ?_
              · show _ = true
                kernel_rfl
              try cbv
              exact join_next (n, (true, l27, l28)) [2, 4, 5, 6, 40] [.loc 0, .loc 256, .loc 384, .loc 352, .loc 353] 1312 ⟨by omega, h⟩ (by cbv)
          · replace h := ite_t rfl h
            try cbv
            refine drawn ?_ ?_
            · show _ = true
              kernel_rfl
            try cbv
            exact join_next (n, (true, l27, l28)) [2, 4, 5, 6, 40] [.loc 0, .loc 256, .loc 384, .loc 352, .loc 353] 1312 ⟨by omega, h⟩ (by cbv)
        · replace h := ite_t rfl h
          try cbv
          refine drawn ?_ ?_
          · show _ = true
            kernel_rfl
          try cbv
          exact join_next (n, (true, l27, l28)) [2, 4, 5, 6, 40] [.loc 0, .loc 256, .loc 384, .loc 352, .loc 353] 1312 ⟨by omega, h⟩ (by cbv)
      · replace h := ite_t rfl h
        try cbv
        refine drawn ?_ ?_
        · show _ = true
          kernel_rfl
        try cbv
        exact join_next (n, (true, l27, l28)) [2, 4, 5, 6, 40] [.loc 0, .loc 256, .loc 384, .loc 352, .loc 353] 1312 ⟨by omega, h⟩ (by cbv)
    · clear h
      rintro ⟨m1, b38, l39, l40⟩ ⟨hm1, h⟩
      replace hm1 : m1 ≤ n := hm1
      cases m1 with
      | zero =>
        replace h : L3_1 0 z1 z2 s3 l4 z5 l6 z14 z15 s16 l17 z18 l19 z20 z21 s22 z23 b38 l39 l40 = some r1 := h
        rw [L3_1] at h
        cases h
      | succ m1 =>
        replace h : L3_1 (m1 + 1) z1 z2 s3 l4 z5 l6 z14 z15 s16 l17 z18 l19 z20 z21 s22 z23 b38 l39 l40 = some r1 := h
        rw [L3_1] at h
        try cbv
        cases b38
        · replace h := ite_f Bool.false_ne_true h
          try cbv
          refine seq_go ?_
          try cbv
          replace h := bO2_inv h
          obtain ⟨l41, l42, hr, h⟩ := h
          refine call_go rfl rfl ?_
          try cbv
          refine call_with hM hI [.loc 352, .loc 353] (T17 _ hr) rfl (by simp) ⟨rfl, ⟨rfl, trivial⟩⟩ ⟨trivial, ⟨trivial, trivial⟩⟩ (by simp) ?_
          clear hr
          try cbv
          refine seq_go ?_
          try cbv
          replace h := bO1_inv h
          obtain ⟨b43, hr, h⟩ := h
          refine call_go rfl rfl ?_
          try cbv
          refine call_pure hM hI (T11x1 _ hr) rfl ?_
          clear hr
          try cbv
          obtain rfl := Option.some.inj h
          refine fin_go ?_
          try cbv
          exact ⟨[], rfl, rfl, trivial, trivial, trivial⟩
        · replace h := ite_t rfl h
          try cbv
          refine seq_go ?_
          try cbv
          obtain rfl := Option.some.inj h
          refine fin_go ?_
          try cbv
          exact ⟨[], rfl, rfl, trivial, trivial, trivial⟩
  · replace h := ite_t rfl h
    try cbv
    refine seq_go ?_
    try cbv
    obtain rfl := Option.some.inj h
    refine fin_go ?_
    try cbv
    exact ⟨[], rfl, rfl, trivial, trivial, trivial⟩
end Go.Proofs.YtagiiaejijihoaaDoor
end

namespace Go.AM
open Go Go.RowKit Go.ChangeShapes Go.WideShapes

def Shapes (ti : Types) : List TypeId → List D → Prop
  | [], [] => True
  | t :: ts, x :: xs => Shape ti t x.cells ∧ (∀ y, ti t = some y → x.isAgg = rowD y.desc) ∧ Shapes ti ts xs
  | _, _ => False

theorem Shapes.length {ti : Types} : ∀ {ts : List TypeId} {xs : List D}, Shapes ti ts xs → xs.length = ts.length
  | [], [], _ => rfl
  | _ :: _, _ :: _, h => by simp [Shapes.length h.2.2]
  | [], _ :: _, h => h.elim
  | _ :: _, [], h => h.elim

section
variable {H : Type} {enc : TypeId × Value → H} {P : Program} {ti : Types} {T : List TypeId} {w : World}

theorem conv_arg (hti : TIok P ti) (hT : plainB ti T = true) {Z : Zone} (hZ : ∀ b o, ¬ Z b o) {base base' : Nat} {spare : Nat → Bool} {held : Bool} {r : Reach} {t : TypeId} {v : Value} {d : DataW H} {ps : List MemPlace} (ht : t ∈ T)
    (hok : Value.okWide P w r base' t v) (h : DataW.Trod enc P w base spare held t v d ps) : ∃ x : D, Shape ti t x.cells ∧ (∀ y, ti t = some y → x.isAgg = rowD y.desc) ∧ RelD w Z x v := by
  obtain ⟨fuel, h⟩ := h
  obtain ⟨ds, hs, h1, h2, h3⟩ := conv hti hT (Z := Z) hZ fuel t _ _ _ ht h
  have hp := List.all_eq_true.1 hT t ht
  split at hp
  · rename_i y hy
    have hu := (hti t y hy).1
    have single : rowD y.desc = false → v.cells.toList = [v] → ∃ x : D, Shape ti t x.cells ∧ (∀ y, ti t = some y → x.isAgg = rowD y.desc) ∧ RelD w Z x v := by
      intro hr hv
      rw [hv] at h1 h3
      obtain ⟨c, rfl⟩ := List.length_eq_one_iff.1 h1
      have hc := h2 c (by simp)
      have e : c.cells = [c] := by cases c <;> first | rfl | simp [D.isAgg] at hc
      refine ⟨c, by rw [e]; exact hs, fun y' hy' => ?_, h3 0 c v rfl rfl⟩
      rw [hy] at hy'
      obtain rfl : y = y' := by simpa using hy'
      rw [hc, hr]
    split at hp
    · rename_i hd
      rw [hd] at hu
      obtain ⟨b, rfl⟩ := okWide_bool hu hok
      exact single (by rw [hd]; rfl) rfl
    · rename_i k hd
      rw [hd] at hu
      obtain ⟨b, rfl⟩ := okWide_int hu hok
      exact single (by rw [hd]; rfl) rfl
    · rename_i hd
      rw [hd] at hu
      obtain ⟨b, rfl⟩ := okWide_string hu hok
      exact single (by rw [hd]; rfl) rfl
    · rename_i e hd
      rw [hd] at hu
      obtain ⟨a, l, c, rfl⟩ := okWide_slice hu hok
      exact single (by rw [hd]; rfl) rfl
    · rename_i fs hd
      rw [hd] at hu
      obtain ⟨cs, rfl, _⟩ := okWide_struct hu hok
      refine ⟨.agg ds, hs, fun y' hy' => ?_, .agg ds cs (by simpa [Value.cells] using h1.symm) h2 (fun j c u hc hu' => h3 j c u hc (by simpa [Value.cells] using hu'))⟩
      rw [hy] at hy'
      obtain rfl : y = y' := by simpa using hy'
      rw [hd]; rfl
    · simp at hp
  · simp at hp

theorem conv_args (hti : TIok P ti) (hT : plainB ti T = true) {Z : Zone} (hZ : ∀ b o, ¬ Z b o) {base base' : Nat} {spare : Nat → Bool} {held : Bool} {r : Reach} :
    ∀ (ts : List TypeId) (vs : List Value) (ds : List (DataW H)) (ps : List MemPlace), (∀ t ∈ ts, t ∈ T) → DataW.TrodAll enc P w base spare held ts vs ds ps →
      (∀ (j : Nat) t v, ts[j]? = some t → vs[j]? = some v → Value.okWide P w r base' t v) →
      ∃ xs, Shapes ti ts xs ∧ ∀ (j : Nat) x v, xs[j]? = some x → vs[j]? = some v → RelD w Z x v
  | [], vs, ds, ps, _, h, _ => ⟨[], trivial, by simp⟩
  | t :: ts, vs, ds, ps, ht, h, hok => by
    obtain ⟨v, vs1, d, ds1, a, b, rfl, rfl, rfl, h1, h2⟩ := trodAll_cons h
    obtain ⟨x, k1, k2, k3⟩ := conv_arg hti hT hZ (ht t (by simp)) (hok 0 t v rfl rfl) h1
    obtain ⟨xs, k4, k5⟩ := conv_args hti hT hZ ts vs1 ds1 b (fun t ht' => ht t (by simp [ht'])) h2 (fun j t v h1 h2 => hok (j + 1) t v (by simpa using h1) (by simpa using h2))
    refine ⟨x :: xs, ⟨k1, k2, k4⟩, fun j x' v' hx hv => ?_⟩
    match j with
    | 0 => simp at hx hv; subst hx; subst hv; exact k3
    | j + 1 => simp at hx hv; exact k5 j x' v' hx hv

theorem again_all (hl : laidOutB P = true) {W W' : World} (hb : Below W.heap.size W W') : ∀ (ts : List TypeId) (vs : List Value) (ds : List (DataW H)) (ps : List MemPlace),
    (∀ t ∈ ts, P.readableRec t = true ∧ t < P.types.size) → DataW.TrodAll enc P W 0 (fun _ => true) true ts vs ds ps → (∀ x ∈ ps, x.block < W.heap.size) →
    DataW.TrodAll enc P W' 0 (fun b => decide (b < W.heap.size)) true ts vs ds ps
  | [], vs, ds, ps, _, h, _ => by
    obtain ⟨rfl, rfl, rfl⟩ := trodAll_nil h
    exact rfl
  | t :: ts, vs, ds, ps, ht, h, hlt => by
    obtain ⟨v, vs1, d, ds1, a, b, rfl, rfl, rfl, h1, h2⟩ := trodAll_cons h
    have ht1 := ht t (by simp)
    exact ⟨a, b, Below.trod hl ht1.1 ht1.2 h1 hb (fun x hx => hlt x (by simp [hx])), again_all hl hb ts vs1 ds1 b (fun t ht' => ht t (by simp [ht'])) h2 (fun x hx => hlt x (by simp [hx])), rfl⟩

theorem law_calls {I : Inv} (hti : TIok P ti) (hT : plainB ti T = true) {s : ChangeSpec} {fn : Func} {f : FuncId} {ts : List TypeId} {bt : TypeId}
    (hp : fn.params.toList = ts) (hv : s.vars = []) (hr : fn.resultTypes = #[bt]) (hb : P.underlying bt = some .bool) (htT : ∀ t ∈ ts, t ∈ T)
    (hs : ∀ ds : List (DataW H), ds.length = ts.length → (s.fn H ds).results = [.lit (.bool true)] ∧ (s.fn H ds).args = ds ∧ (s.fn H ds).vars = [])
    (hl : laidOutB P = true) (hrec : ∀ t ∈ ts, P.readableRec t = true ∧ t < P.types.size)
    (hc : ∀ xs : List D, Shapes ti ts xs → Trip P I f (xs.map V1.d) [] (.v (.d (.bool true))) [] [])
    {W : World} {base : Nat} {args : Array Value} {ds gs : List (DataW H)} {before : List MemPlace}
    (hI : I.at W fun _ _ => False) (hval : ∀ (j : Nat) t v, fn.params[j]? = some t → args[j]? = some v → Value.okWide P W .any base t v)
    (hW : DataW.Whole enc P fn.params.toList s.vars false W args.toList ds gs before) :
    Calls P f args W fun e W' => ∃ v, e = .returned v ∧ s.post enc P fn false true false false W args v W' := by
  have hW' := hW
  obtain ⟨p, q, hA, hV, rfl, _, _⟩ := hW
  rw [hv] at hV
  obtain ⟨rfl, rfl⟩ : gs = [] ∧ q = [] := by
    cases gs with
    | nil => exact ⟨rfl, hV⟩
    | cons _ _ => exact hV.elim
  rw [hp] at hA
  obtain ⟨hlen, hdl⟩ := trodAll_length hA
  obtain ⟨xs, hsh, hrel⟩ := conv_args hti hT (Z := fun _ _ => False) (fun _ _ h => h) (r := .any) (base' := base) ts args.toList ds p htT hA (fun j t v h1 h2 => hval j t v (by
    rw [← Array.getElem?_toList, hp]; exact h1) (by simpa using h2))
  have hxl := hsh.length
  have hcall := hc xs hsh
  have hheap : ∀ i o, heapOf [] i = some o → False := by
    intro i o h
    cases i <;> simp [heapOf] at h
  have hzone : ∀ (g : Ghost) b o, ¬ zone g (heapOf []) b o := by
    rintro g b o ⟨i, ob, h, _⟩
    exact hheap i ob h
  refine (hcall.calls (w := W) (X := fun _ _ => False) (g := fun _ => undef) (vals := args) (fun _ _ h => h.elim) (hI.mono fun b o hz => hz.elim (hzone _ b o) id) ⟨fun i o h => (hheap i o h).elim, fun i _ _ _ _ h => (hheap i _ h).elim, fun i _ _ _ h => (hheap i _ h).elim⟩ (fun _ => rfl)
    (by simp at hlen; simp; omega) (fun j x v hx hvv => ?_)).mono ?_
  · simp only [List.getElem?_map, Option.map_eq_some_iff] at hx
    obtain ⟨d, hd, rfl⟩ := hx
    exact (hrel j d v hd (by simpa using hvv)).mono (fun b o u hu _ => ⟨hu, fun hz => hz.elim (hzone _ b o) id⟩)
  · rintro e W' ⟨v, g', rfl, hpost⟩
    obtain rfl : v = .bool true := by cases (show RelD _ _ (.bool true) v from hpost.res); rfl
    have hbel : Below W.heap.size W W' := ⟨hpost.frame.os, hpost.frame.tape, hpost.frame.output, hpost.frame.size, fun k hk => hpost.frame.block k hk (fun o => hzone _ k o)⟩
    obtain ⟨s1, s2, s3⟩ := hs (ds ++ []) (by simp [hdl])
    refine ⟨_, rfl, ds, [], p ++ [], [], p, [], hW', ?_, ?_, ?_, hbel.frame _, fun h => by cases h⟩
    · rw [s1, hr]
      exact trodAll_mk1 (shut_bool hb true)
    · rw [s2, hp, List.append_nil]
      exact again_all hl hbel ts args.toList ds p hrec hA (fun x hx => hW'.lt x (by simp [hx]))
    · rw [s3, hv]; rfl
end
end Go.AM
