/- Part of a proof. No condition. (Part 4: AmOB, AmSH, AmX, YtagiiaejijihoaaDoorFo, YtagiiaejijihoaaDoorShelf, YtagiiaejijihoaaDoorSh, YtagiiaejijihoaaDoorXDs, YtagiiaejijihoaaDoorX24, YtagiiaejijihoaaDoorX8, YtagiiaejijihoaaDoorX26, YtagiiaejijihoaaDoorX10, YtagiiaejijihoaaDoorX38x1, YtagiiaejijihoaaDoorX37, YtagiiaejijihoaaDoorX19, Ytagiia.) -/
import Derived.KernelRfl
import Derived.Lib.LaidTab
import Derived.Lib.ItoaNum
import Derived.Shelf.Strings.Builder1
import Derived.Shelf.Strings.Builder2
import Derived.Shelf.Strings.OnBuilder
import Derived.Shelf.Strings.BuilderF
import Derived.Shelf.Strings.BuilderK
import Derived.Shelf.Strings.Builder2Cap
import Derived.Shelf.Strconv.Itoa0
import Derived.Shelf.Strconv.Itoa1
import Derived.Shelf.LaysM
import Derived.Shelf.Strconv.Itoa2
import Derived.Shelf.Strconv.Itoa3
import Derived.Shelf.Strconv.Itoa4
import Derived.Shelf.Strings.BuilderCap
import Derived.Shelf.Slices.Equal
import Derived.Ground.Names2Prog
import Derived.Shelf.Slices.Clone
import Derived.Shelf.Slices.Empties2
import Derived.Ground.SlgnProg
import Derived.Shelf.SlicesE.Clone
import Derived.Test.YtagiiaejijihoaaDoorProg
import Derived.Lib.AppendIntMem
import Derived.Carry
import Derived.ChangeSame
import Derived.ChangeOld
import Derived.ChangeCalls
import Derived.WideShapes
import Derived.Test.YtagiiaejijihoaaDoorValC
set_option linter.unusedVariables false
set_option linter.unusedSimpArgs false
namespace Go.AM
open Go Go.RowKit

theorem loop_invG {M : Mach} {ex : St → (AExit → St → Prop) → Prop} {σ : St} {K : AExit → St → Prop} (gs : List Gh) (l : List (Nat × Nat)) (ks : List Nat) (is : List Id) (nx : Nat) {T : Type} (S : T → St) (I : T → Prop) (m : T → Nat) (t0 : T)
    (hI : I t0) (h0 : gh gs σ fun σ => keepR ks is nx l σ (· = S t0))
    (hr : ∀ t, I t → ex (S t) fun e σ2 => match e with
      | .normal => ∃ n' σ3, n' < m t ∧ Weak σ2 σ3 ∧ ∃ t', I t' ∧ n' = m t' ∧ σ3 = S t'
      | .exit id => K (.exit id) σ2
      | .ret => K .ret σ2) : M.lock fun _ => loopP ex σ K ∨ ∃ n, unrollP ex K n σ := by
  refine (M.lock_iff _).2 <| .inl ⟨fun n σ => ∃ t, I t ∧ n = m t ∧ σ = S t, m t0, ?_, ?_⟩
  · obtain ⟨σ1, hw1, h1⟩ := gh_weak h0
    obtain ⟨σ', hw, e⟩ := keepR_weak h1
    exact ⟨σ', Weak.trans hw1 hw, t0, hI, rfl, e⟩
  · rintro n σ1 ⟨t, h1, rfl, rfl⟩
    exact hr t h1
theorem loop_nextG {T : Type} {m : T → Nat} {I : T → Prop} {S : T → St} {σ2 : St} {k : Nat} (t' : T) (gs : List Gh) (l : List (Nat × Nat)) (ks : List Nat) (is : List Id) (nx : Nat) (hI : I t') (hm : m t' < k)
    (hk : gh gs σ2 fun σ => keepR ks is nx l σ (· = S t')) : ∃ n' σ3, n' < k ∧ Weak σ2 σ3 ∧ ∃ t', I t' ∧ n' = m t' ∧ σ3 = S t' := by
  obtain ⟨σ1, hw1, h1⟩ := gh_weak hk
  obtain ⟨σ', hw, e⟩ := keepR_weak h1
  exact ⟨m t', σ', hm, Weak.trans hw1 hw, t', hI, rfl, e⟩

section
variable {w : World} {Z Z' X : Zone} {g g' : Ghost} {h h' : Heap}

end

end Go.AM

namespace Go.AM
open Go Go.RowKit

theorem Trip.ofCalls {P : Program} {I : Inv} {f : FuncId} {xs : List D} {res : V1} (hf : ∃ fn c, P.funcs[f]? = some fn ∧ fn.body = some c ∧ (fn.name == "runtime.NumGoroutine") = false)
    (h : ∀ (w : World) (Z : Zone) (vals : Array Value), I.rel w → vals.size = xs.length → (∀ (j : Nat) x v, xs[j]? = some x → vals[j]? = some v → RelD w Z x v) →
      Calls P f vals w fun e w' => ∃ v, e = .returned v ∧ ApartW (fun _ => False) w w' ∧ ∀ Z' g' h', RelV1 w' Z' g' h' res v) : Trip P I f (xs.map V1.d) [] (.v res) [] [] := by
  refine Trip.mk' hf fun w X g vals hX hI RH hg hsz hargs => ?_
  have none : ∀ {i o}, heapOf [] i = some o → False := by
    intro i o h
    cases i <;> simp [heapOf] at h
  have none2 : ∀ {i o}, heapOf2 [] [] i = some o → False := by
    intro i o h
    cases i <;> simp [heapOf2] at h
  refine (h w (zor (zone g (heapOf [])) X) vals hI.1 (by simpa using hsz) (fun j x v hx hv => hargs j (.d x) v (by simp [hx]) hv)).mono ?_
  rintro e w' ⟨v, rfl, A, hr⟩
  refine ⟨v, g, rfl, ⟨⟨fun i o hi => (none2 hi).elim, fun i j oi oj b hi => (none2 hi).elim, fun i oi b o hi => (none2 hi).elim⟩, hr _ _ _, ?_, fun j => .refl _, fun i ob b o hi => (none2 hi).elim, fun k _ => hg k⟩⟩
  exact ⟨A.os, A.tape, A.output, A.size, fun b hb _ => A.block b hb id, fun b o u hu _ => A.cell hu id⟩

def strsD : List D → Option (List ByteArray)
  | [] => some []
  | .str s :: r => match strsD r with
    | some l => some (s :: l)
    | none => none
  | _ :: _ => none
theorem strsD_map : ∀ {rows : List D} {xs : List ByteArray}, strsD rows = some xs → rows = xs.map D.str
  | [], xs, h => by cases h; rfl
  | x :: r, xs, h => by
    cases x <;> simp only [strsD] at h <;> try (exact absurd h (by simp))
    split at h
    · rename_i l hl
      cases h
      rw [strsD_map hl]; rfl
    · cases h
theorem below_apart {w w' : World} (h : Below w.heap.size w w') : ApartW (fun _ => False) w w' := ⟨h.os, h.tape, h.output, h.size, fun b hb _ => h.block b hb⟩
end Go.AM

namespace Go.AM
open Go Go.RowKit

section
variable {α β γ : Type}
end

section
variable {γ : Type}
def letB (b : Bool) (k : Bool → Option γ) : Option γ := k b
theorem letB_inv {b : Bool} {k : Bool → Option γ} {r : γ} (h : letB b k = some r) : ∃ y, b = y ∧ k y = some r := ⟨b, rfl, h⟩
end
theorem eqv_eq {a b q : Bool} (h : (a == b) = q) : eqvB a b = q := (eqvB_eq a b).trans h
theorem not_eq' {a q : Bool} (h : (!a) = q) : notB a = q := by rw [notB_eq]; exact h

theorem seq_go {M : Mach} {ea eb : St → (AExit → St → Prop) → Prop} {σ : St} {K : AExit → St → Prop} (h : ea σ fun e σ' => match e with
    | .normal => eb σ' K
    | .exit id => K (.exit id) σ'
    | .ret => K .ret σ') : M.lock fun _ => seqP ea eb σ K := (M.lock_iff _).2 (.inl h)
theorem seq_join {M : Mach} {ea eb : St → (AExit → St → Prop) → Prop} {σ : St} {K : AExit → St → Prop} {T : Type} (S : T → St) (I : T → Prop)
    (ha : ea σ fun e σ' => match e with
      | .normal => ∃ σ'', Weak σ' σ'' ∧ ∃ t, I t ∧ σ'' = S t
      | .exit id => K (.exit id) σ'
      | .ret => K .ret σ') (hb : ∀ t, I t → eb (S t) K) : M.lock fun _ => seqP ea eb σ K := by
  refine (M.lock_iff _).2 (.inr ⟨fun σ => ∃ t, I t ∧ σ = S t, ha, ?_⟩)
  rintro σ2 ⟨t, hi, rfl⟩
  exact hb t hi
theorem join_nextG {T : Type} {I : T → Prop} {S : T → St} {σ2 : St} (t' : T) (gs : List Gh) (l : List (Nat × Nat)) (ks : List Nat) (is : List Id) (nx : Nat) (hI : I t') (hk : gh gs σ2 fun σ => keepR ks is nx l σ (· = S t')) :
    ∃ σ'', Weak σ2 σ'' ∧ ∃ t, I t ∧ σ'' = S t := by
  obtain ⟨σ1, hw1, h1⟩ := gh_weak hk
  obtain ⟨σ', hw, e⟩ := keepR_weak h1
  exact ⟨σ', Weak.trans hw1 hw, t', hI, e⟩
theorem join_next {T : Type} {I : T → Prop} {S : T → St} {σ2 : St} (t' : T) (ks : List Nat) (is : List Id) (nx : Nat) (hI : I t') (hk : keep ks is nx σ2 (· = S t')) :
    ∃ σ'', Weak σ2 σ'' ∧ ∃ t, I t ∧ σ'' = S t := by
  obtain ⟨σ', hw, e⟩ := keep_weak hk
  exact ⟨σ', hw, t', hI, e⟩

section
variable {M : Mach} {P : Program} {I : Inv}

def callFV (M : Mach) (ti : Types) (o : Oper) (c : Call) (f : Operand) (fresh : Nat) (σ : St) (K : St → Prop) : Prop :=
  match opd ti (getS σ.slots) 0 f with
  | .v (.c (.fn n cap)) => withArgs (opsArgs ti (getS σ.slots) c.args.toList c.argTypes.toList) fun xs => callFn M o.dst fresh σ n (xs ++ cap.map fun i => V1.c (.ptr i 0)) K
  | _ => False
theorem call_gs {A : Prop} {ti : Types} {o : Oper} {c : Call} {f : Operand} {fresh : Nat} {σ : St} {K : St → Prop} (gs : List Gh) (ho : o.op = .call c) (hc : c.callee = .value f)
    (hk : gh gs ⟨σ.slots, σ.heap, fresh⟩ fun σ' => σ'.next = fresh ∧ M.lock fun _ => callFV M ti o c f fresh σ' K) : M.lock fun _ => A ∨ callK M ti o fresh σ K := by
  refine call_in ?_
  obtain ⟨σ', hw, hn, hk⟩ := gh_weak hk
  have hk := (M.lock_iff _).1 hk
  unfold callK
  rw [ho]
  simp only []
  rw [hc]
  simp only []
  refine ⟨σ', hw, hn, ?_⟩
  unfold callFV at hk
  split at hk
  · rename_i n cap h
    rw [h]
    exact hk
  · exact hk.elim
theorem callfv_with {ti : Types} {o : Oper} {c : Call} {f : Operand} {fresh : Nat} {σ : St} {K : St → Prop} {n : FuncId} {cap : List Id} {xs targs : List V1} {pre post new : List AObj} {res : AV} (hP : M.P = P) (hI : M.I = I) (m : List Id)
    (hf : opd ti (getS σ.slots) 0 f = .v (.c (.fn n cap))) (hxs : vals1 (opsArgs ti (getS σ.slots) c.args.toList c.argTypes.toList) = some xs) (ht : Trip P I n targs pre res post new)
    (he : (xs ++ cap.map fun i => V1.c (.ptr i 0)) = targs.map (V1.ren (renM m fresh))) (hm : m.Nodup) (hpre : preOK (getH σ.heap) (renM m fresh) m pre) (hkd : allKinds pre post) (hn : new.length ≤ 31)
    (hk : K ⟨putS σ.slots o.dst (res.ren (renM m fresh)), setW σ.heap (wrM m (renM m fresh) post ++ wrNew fresh (renM m fresh) 0 new), σ.next⟩) : M.lock fun _ => callFV M ti o c f fresh σ K := by
  refine (M.lock_iff _).2 ?_
  unfold callFV
  rw [hf]
  simp only []
  unfold withArgs
  rw [hxs]
  refine ⟨m, targs, pre, _, hP ▸ hI ▸ ht, he, (preOK_get hpre).1, hm, (preOK_get hpre).2, ?_⟩
  rintro res' post' new' ⟨rfl, rfl, rfl⟩
  exact ⟨⟨hkd, hn⟩, hk⟩
theorem op_pl {ti : Types} {o : Oper} {fresh : Nat} {σ : St} {K : St → Prop} (hk : plOp M ti o fresh σ K) : M.lock fun _ => plOp M ti o fresh σ K ∨ ghOp M ti o fresh σ K := (M.lock_iff _).2 (.inl hk)
end
end Go.AM

namespace Go.Proofs.YtagiiaejijihoaaDoor
open Go Go.AM
theorem fol : Tryd.prog.follows .mixedOrders = true := by kernel_rfl
theorem var_same {P : Program} {name : String} {g : Nat} (hg : P.globalNamed name = some g) {w w' : World} (h : w'.heap[g]? = w.heap[g]?) : w'.var? P name = w.var? P name := by
  unfold World.var?
  rw [hg]
  simp only [Option.bind_some, h]
theorem pow10_no : ∃ g, Tryd.prog.globalNamed "internal/strconv.uint64pow10" = some g := ⟨0, by kernel_rfl⟩
def inv : Inv := ⟨fun b => Tryd.prog.globalNamed "internal/strconv.uint64pow10" = some b, fun w => Lib.TabIs Tryd.prog w "internal/strconv.uint64pow10" .u64 Lib.pow10Tab, fun h hr => by
  obtain ⟨g, hg⟩ := pow10_no
  unfold Lib.TabIs at hr ⊢
  rw [var_same hg (h g hg)]
  exact hr⟩
end Go.Proofs.YtagiiaejijihoaaDoor

namespace Go.Proofs
open Go.Shelf
def Tryd.lays156_ren : Go.Shelf.Ren := ⟨fun | 156 => 40 | 165 => 42 | 166 => 43 | 169 => 44 | 240 => 49 | 241 => 50 | 276 => 56 | 277 => 57 | n => n, fun | 31 => 55 | 9 => 9 | 3 => 3 | 4 => 4 | 0 => 0 | 20 => 20 | 72 => 60 | 76 => 64 | 70 => 58 | 37 => 57 | 75 => 63 | 127 => 73 | 164 => 82 | 5 => 5 | 80 => 66 | n => n, fun | n => n⟩
theorem Tryd.lays156 : Go.Proofs.Lays.n156 Tryd.prog Tryd.lays156_ren := {
  mixed := by kernel_rfl
  f156 := Tryd.func40.trans (congrArg some (by kernel_rfl))
  f165 := Tryd.func42.trans (congrArg some (by kernel_rfl))
  f166 := Tryd.func43.trans (congrArg some (by kernel_rfl))
  f169 := Tryd.func44.trans (congrArg some (by kernel_rfl))
  f240 := Tryd.func49.trans (congrArg some (by kernel_rfl))
  f241 := Tryd.func50.trans (congrArg some (by kernel_rfl))
  f276 := Tryd.func56.trans (congrArg some (by kernel_rfl))
  f277 := Tryd.func57.trans (congrArg some (by kernel_rfl))
  t0 := Tryd.underlying0
  a0 := Tryd.isAgg0
  z0 := Tryd.sizeOf0
  v0 := Tryd.zeroValue0
  t3 := Tryd.underlying3
  a3 := Tryd.isAgg3
  z3 := Tryd.sizeOf3
  v3 := Tryd.zeroValue3
  t4 := Tryd.underlying4
  a4 := Tryd.isAgg4
  z4 := Tryd.sizeOf4
  v4 := Tryd.zeroValue4
  t9 := Tryd.underlying9
  a9 := Tryd.isAgg9
  z9 := Tryd.sizeOf9
  v9 := Tryd.zeroValue9
  t20 := Tryd.underlying20
  a20 := Tryd.isAgg20
  z20 := Tryd.sizeOf20
  v20 := Tryd.zeroValue20
  t31 := Tryd.underlying55
  a31 := Tryd.isAgg55
  z31 := Tryd.sizeOf55
  v31 := Tryd.zeroValue55
  t37 := Tryd.underlying57
  a37 := Tryd.isAgg57
  z37 := Tryd.sizeOf57
  v37 := Tryd.zeroValue57
  t70 := Tryd.underlying58
  a70 := Tryd.isAgg58
  z70 := Tryd.sizeOf58
  v70 := Tryd.zeroValue58
  t72 := Tryd.underlying60
  a72 := Tryd.isAgg60
  z72 := Tryd.sizeOf60
  v72 := Tryd.zeroValue60
  t75 := Tryd.underlying63
  a75 := Tryd.isAgg63
  z75 := Tryd.sizeOf63
  v75 := Tryd.zeroValue63
  t76 := Tryd.underlying64
  a76 := Tryd.isAgg64
  z76 := Tryd.sizeOf64
  v76 := Tryd.zeroValue64
  t127 := Tryd.underlying73
  a127 := Tryd.isAgg73
  z127 := Tryd.sizeOf73
  v127 := Tryd.zeroValue73
  t164 := Tryd.underlying82
  a164 := Tryd.isAgg82
  z164 := Tryd.sizeOf82
  v164 := Tryd.zeroValue82 }
theorem Tryd.Builder_Extra_156 : Builder.Extra Tryd.prog Tryd.lays156_ren := {
  sizeBuilder := by kernel_rfl
  liesBuilder := by kernel_rfl
  t5 := Tryd.underlying5
  a5 := Tryd.isAgg5
  z5 := Tryd.sizeOf5
  v5 := Tryd.zeroValue5
  infoByte := by kernel_rfl
  cellsByte := by kernel_rfl
  sizeByte := by kernel_rfl
  neB5 := by decide }
open Go.RowKit in
theorem Tryd.strings_Join_none (a : Option Addr) (c : Nat) (sep : ByteArray) (w : World) :
    Calls Tryd.prog 40 #[.slice a 0 c, .string sep] w fun e w' => e = .returned (.string ⟨#[]⟩) ∧ w' = w := Any.strings_Join_none Tryd.lays156 Tryd.Builder_Extra_156 a c sep w
open Go.RowKit in
theorem Tryd.strings_Join (bk o c : Nat) (xs : List ByteArray) (sep : ByteArray) (w : World) (hcells : ∀ (j : Nat) x, xs[j]? = some x → w.cell? ⟨bk, o + j, none⟩ = some (.string x)) (hbk : bk < w.heap.size) (hN : xs.length ≤ 140737488355328) (hcap : xs.length ≤ c) (hlen : (Lib.join (xs.map (·.data.toList)) sep.data.toList).length ≤ 140737488355328) :
    Calls Tryd.prog 40 #[.slice (some ⟨bk, o, none⟩) xs.length c, .string sep] w fun e w' => e = .returned (.string ⟨(Lib.join (xs.map (·.data.toList)) sep.data.toList).toArray⟩) ∧ Below w.heap.size w w' := Any.strings_Join Tryd.lays156 Tryd.Builder_Extra_156 bk o c xs sep w hcells hbk hN hcap hlen
def Tryd.laysM171_ren : Go.Shelf.Ren := ⟨fun | 171 => 32 | 243 => 39 | 246 => 41 | 283 => 45 | 284 => 46 | 285 => 47 | 286 => 48 | 129 => 52 | 317 => 51 | 318 => 53 | 319 => 54 | 320 => 55 | 337 => 58 | 338 => 59 | n => n, fun | 3 => 3 | 9 => 9 | 2 => 2 | 4 => 4 | 171 => 67 | 0 => 0 | 53 => 68 | 37 => 57 | 5 => 5 | 173 => 71 | 212 => 76 | 51 => 77 | 20 => 20 | 213 => 78 | 46 => 80 | 232 => 86 | 233 => 87 | n => n, fun | 17 => 0 | 18 => 2 | 19 => 3 | n => n⟩
theorem Tryd.laysM171 : Go.Proofs.LaysM.n171 Tryd.prog Tryd.laysM171_ren := {
  mixed := by kernel_rfl
  f129 := Tryd.func52.trans (congrArg some (by kernel_rfl))
  f171 := Tryd.func32.trans (congrArg some (by kernel_rfl))
  f243 := Tryd.func39.trans (congrArg some (by kernel_rfl))
  f246 := Tryd.func41.trans (congrArg some (by kernel_rfl))
  f283 := Tryd.func45.trans (congrArg some (by kernel_rfl))
  f284 := Tryd.func46.trans (congrArg some (by kernel_rfl))
  f285 := Tryd.func47.trans (congrArg some (by kernel_rfl))
  f286 := Tryd.func48.trans (congrArg some (by kernel_rfl))
  f317 := Tryd.func51.trans (congrArg some (by kernel_rfl))
  f318 := Tryd.func53.trans (congrArg some (by kernel_rfl))
  f319 := Tryd.func54.trans (congrArg some (by kernel_rfl))
  f320 := Tryd.func55.trans (congrArg some (by kernel_rfl))
  f337 := Tryd.func58.trans (congrArg some (by kernel_rfl))
  f338 := Tryd.func59.trans (congrArg some (by kernel_rfl))
  t0 := Tryd.underlying0
  a0 := Tryd.isAgg0
  z0 := Tryd.sizeOf0
  v0 := Tryd.zeroValue0
  t2 := Tryd.underlying2
  a2 := Tryd.isAgg2
  z2 := Tryd.sizeOf2
  v2 := Tryd.zeroValue2
  t3 := Tryd.underlying3
  a3 := Tryd.isAgg3
  z3 := Tryd.sizeOf3
  v3 := Tryd.zeroValue3
  t4 := Tryd.underlying4
  a4 := Tryd.isAgg4
  z4 := Tryd.sizeOf4
  v4 := Tryd.zeroValue4
  t5 := Tryd.underlying5
  a5 := Tryd.isAgg5
  z5 := Tryd.sizeOf5
  v5 := Tryd.zeroValue5
  t9 := Tryd.underlying9
  a9 := Tryd.isAgg9
  z9 := Tryd.sizeOf9
  v9 := Tryd.zeroValue9
  t20 := Tryd.underlying20
  a20 := Tryd.isAgg20
  z20 := Tryd.sizeOf20
  v20 := Tryd.zeroValue20
  t37 := Tryd.underlying57
  a37 := Tryd.isAgg57
  z37 := Tryd.sizeOf57
  v37 := Tryd.zeroValue57
  t46 := Tryd.underlying80
  a46 := Tryd.isAgg80
  z46 := Tryd.sizeOf80
  v46 := Tryd.zeroValue80
  t51 := Tryd.underlying77
  a51 := Tryd.isAgg77
  z51 := Tryd.sizeOf77
  v51 := Tryd.zeroValue77
  t53 := Tryd.underlying68
  a53 := Tryd.isAgg68
  z53 := Tryd.sizeOf68
  v53 := Tryd.zeroValue68
  t171 := Tryd.underlying67
  a171 := Tryd.isAgg67
  z171 := Tryd.sizeOf67
  v171 := Tryd.zeroValue67
  t173 := Tryd.underlying71
  a173 := Tryd.isAgg71
  z173 := Tryd.sizeOf71
  v173 := Tryd.zeroValue71
  t212 := Tryd.underlying76
  a212 := Tryd.isAgg76
  z212 := Tryd.sizeOf76
  v212 := Tryd.zeroValue76
  t213 := Tryd.underlying78
  a213 := Tryd.isAgg78
  z213 := Tryd.sizeOf78
  t232 := Tryd.underlying86
  a232 := Tryd.isAgg86
  z232 := Tryd.sizeOf86
  v232 := Tryd.zeroValue86
  t233 := Tryd.underlying87
  a233 := Tryd.isAgg87
  z233 := Tryd.sizeOf87
  v233 := Tryd.zeroValue87
  g17 := by kernel_rfl
  g18 := by kernel_rfl
  g19 := by kernel_rfl
  i0 := by kernel_rfl
  i2 := by kernel_rfl
  i3 := by kernel_rfl
  i4 := by kernel_rfl
  i5 := by kernel_rfl
  i9 := by kernel_rfl
  i20 := by kernel_rfl
  i37 := by kernel_rfl
  i46 := by kernel_rfl
  i51 := by kernel_rfl
  i53 := by kernel_rfl
  i171 := by kernel_rfl
  i173 := by kernel_rfl
  i212 := by kernel_rfl
  i232 := by kernel_rfl
  i233 := by kernel_rfl
  m17 := by kernel_rfl
  m18 := by kernel_rfl
  m19 := by kernel_rfl }
open Go.RowKit Go.Sort Go.Lib in
theorem Tryd.strconv_Itoa (n : Int) (h0 : -9223372036854775808 ≤ n) (h1 : n ≤ 9223372036854775807) (w : World) (htab : Lib.TabIs Tryd.prog w "internal/strconv.uint64pow10" .u64 Lib.pow10Tab) :
    Calls Tryd.prog 32 #[.int .i64 n] w fun e w' => e = .returned (.string ⟨(Lib.itoa n).toArray⟩) ∧ ∃ k os, w' = grow (w.drewN k) os := Any.strconv_Itoa Tryd.laysM171 n h0 h1 w htab
def Tryd.laysM173_ren : Go.Shelf.Ren := ⟨fun | 173 => 34 | 246 => 41 | 283 => 45 | 284 => 46 | 285 => 47 | 286 => 48 | 129 => 52 | 317 => 51 | 318 => 53 | 319 => 54 | 320 => 55 | 337 => 58 | 338 => 59 | n => n, fun | 2 => 2 | 3 => 3 | 9 => 9 | 4 => 4 | 171 => 67 | 0 => 0 | 53 => 68 | 37 => 57 | 5 => 5 | 173 => 71 | 212 => 76 | 51 => 77 | 20 => 20 | 213 => 78 | 46 => 80 | 232 => 86 | 233 => 87 | n => n, fun | 17 => 0 | 18 => 2 | 19 => 3 | n => n⟩
theorem Tryd.laysM173 : Go.Proofs.LaysM.n173 Tryd.prog Tryd.laysM173_ren := {
  mixed := by kernel_rfl
  f129 := Tryd.func52.trans (congrArg some (by kernel_rfl))
  f173 := Tryd.func34.trans (congrArg some (by kernel_rfl))
  f246 := Tryd.func41.trans (congrArg some (by kernel_rfl))
  f283 := Tryd.func45.trans (congrArg some (by kernel_rfl))
  f284 := Tryd.func46.trans (congrArg some (by kernel_rfl))
  f285 := Tryd.func47.trans (congrArg some (by kernel_rfl))
  f286 := Tryd.func48.trans (congrArg some (by kernel_rfl))
  f317 := Tryd.func51.trans (congrArg some (by kernel_rfl))
  f318 := Tryd.func53.trans (congrArg some (by kernel_rfl))
  f319 := Tryd.func54.trans (congrArg some (by kernel_rfl))
  f320 := Tryd.func55.trans (congrArg some (by kernel_rfl))
  f337 := Tryd.func58.trans (congrArg some (by kernel_rfl))
  f338 := Tryd.func59.trans (congrArg some (by kernel_rfl))
  t0 := Tryd.underlying0
  a0 := Tryd.isAgg0
  z0 := Tryd.sizeOf0
  v0 := Tryd.zeroValue0
  t2 := Tryd.underlying2
  a2 := Tryd.isAgg2
  z2 := Tryd.sizeOf2
  v2 := Tryd.zeroValue2
  t3 := Tryd.underlying3
  a3 := Tryd.isAgg3
  z3 := Tryd.sizeOf3
  v3 := Tryd.zeroValue3
  t4 := Tryd.underlying4
  a4 := Tryd.isAgg4
  z4 := Tryd.sizeOf4
  v4 := Tryd.zeroValue4
  t5 := Tryd.underlying5
  a5 := Tryd.isAgg5
  z5 := Tryd.sizeOf5
  v5 := Tryd.zeroValue5
  t9 := Tryd.underlying9
  a9 := Tryd.isAgg9
  z9 := Tryd.sizeOf9
  v9 := Tryd.zeroValue9
  t20 := Tryd.underlying20
  a20 := Tryd.isAgg20
  z20 := Tryd.sizeOf20
  v20 := Tryd.zeroValue20
  t37 := Tryd.underlying57
  a37 := Tryd.isAgg57
  z37 := Tryd.sizeOf57
  v37 := Tryd.zeroValue57
  t46 := Tryd.underlying80
  a46 := Tryd.isAgg80
  z46 := Tryd.sizeOf80
  v46 := Tryd.zeroValue80
  t51 := Tryd.underlying77
  a51 := Tryd.isAgg77
  z51 := Tryd.sizeOf77
  v51 := Tryd.zeroValue77
  t53 := Tryd.underlying68
  a53 := Tryd.isAgg68
  z53 := Tryd.sizeOf68
  v53 := Tryd.zeroValue68
  t171 := Tryd.underlying67
  a171 := Tryd.isAgg67
  z171 := Tryd.sizeOf67
  v171 := Tryd.zeroValue67
  t173 := Tryd.underlying71
  a173 := Tryd.isAgg71
  z173 := Tryd.sizeOf71
  v173 := Tryd.zeroValue71
  t212 := Tryd.underlying76
  a212 := Tryd.isAgg76
  z212 := Tryd.sizeOf76
  v212 := Tryd.zeroValue76
  t213 := Tryd.underlying78
  a213 := Tryd.isAgg78
  z213 := Tryd.sizeOf78
  t232 := Tryd.underlying86
  a232 := Tryd.isAgg86
  z232 := Tryd.sizeOf86
  v232 := Tryd.zeroValue86
  t233 := Tryd.underlying87
  a233 := Tryd.isAgg87
  z233 := Tryd.sizeOf87
  v233 := Tryd.zeroValue87
  g17 := by kernel_rfl
  g18 := by kernel_rfl
  g19 := by kernel_rfl
  i0 := by kernel_rfl
  i2 := by kernel_rfl
  i3 := by kernel_rfl
  i4 := by kernel_rfl
  i5 := by kernel_rfl
  i9 := by kernel_rfl
  i20 := by kernel_rfl
  i37 := by kernel_rfl
  i46 := by kernel_rfl
  i51 := by kernel_rfl
  i53 := by kernel_rfl
  i171 := by kernel_rfl
  i173 := by kernel_rfl
  i212 := by kernel_rfl
  i232 := by kernel_rfl
  i233 := by kernel_rfl
  m17 := by kernel_rfl
  m18 := by kernel_rfl
  m19 := by kernel_rfl }
open Go.RowKit Go.Sort Go.Lib in
theorem Tryd.strconv_FormatInt_10 (n : Int) (h0 : -9223372036854775808 ≤ n) (h1 : n ≤ 9223372036854775807) (w : World) (htab : Lib.TabIs Tryd.prog w "internal/strconv.uint64pow10" .u64 Lib.pow10Tab) :
    Calls Tryd.prog 34 #[.int .i64 n, .int .i64 10] w fun e w' => e = .returned (.string ⟨(Lib.itoa n).toArray⟩) ∧ ∃ k os, w' = grow (w.drewN k) os := Any.strconv_FormatInt_10 Tryd.laysM173 n h0 h1 w htab
end Go.Proofs

set_option linter.unusedVariables false
namespace Go.Proofs.YtagiiaejijihoaaDoor
open Go Go.AM

theorem two {vals : Array Value} (h : vals.size = 2) : ∃ v u, vals = #[v, u] :=
  ⟨vals[0], vals[1], by
    apply Array.ext
    · simpa using h
    · intro i h1 h2
      match i, h2 with
      | 0, _ => rfl
      | 1, _ => rfl⟩
theorem relStr {w : World} {Z : Zone} {s : ByteArray} {v : Value} (h : RelD w Z (.str s) v) : v = .string s := by cases h; rfl
def itoaB (z : Int) : ByteArray := ⟨(Lib.itoa z).toArray⟩
def joinB (xs : List ByteArray) (sep : ByteArray) : ByteArray := ⟨(Lib.join (xs.map (·.data.toList)) sep.data.toList).toArray⟩
def F32 (n : Nat) (z : Int) : Option ByteArray := if -9223372036854775808 ≤ z ∧ z ≤ 9223372036854775807 then some (itoaB z) else none
def F34 (n : Nat) (z b : Int) : Option ByteArray := if b = 10 ∧ -9223372036854775808 ≤ z ∧ z ≤ 9223372036854775807 then some (itoaB z) else none
def F40 (n : Nat) (l : List D) (sep : ByteArray) : Option ByteArray :=
  match strsD l with
  | some xs => if xs.length ≤ 140737488355328 ∧ (Lib.join (xs.map (·.data.toList)) sep.data.toList).length ≤ 140737488355328 then some (joinB xs sep) else none
  | none => none

theorem T32 (n : Nat) : ∀ ⦃z : Int⦄ ⦃r1 : ByteArray⦄, F32 n z = some r1 → Trip Tryd.prog inv 32 [.d (.int .i64 z)] [] (.v (.d (.str r1))) [] [] := by
  intro z r1 h
  unfold F32 at h
  split at h
  · rename_i hz
    cases h
    refine Trip.ofCalls (xs := [.int .i64 z]) ⟨_, _, Tryd.func32, rfl, by kernel_rfl⟩ fun w Z vals hr hsz hv => ?_
    obtain ⟨v, rfl⟩ : ∃ v, vals = #[v] := Array.size_eq_one_iff.1 hsz
    cases hv 0 _ _ rfl rfl
    refine (Tryd.strconv_Itoa z hz.1 hz.2 w hr).mono ?_
    rintro e w' ⟨rfl, k, os, rfl⟩
    exact ⟨_, rfl, below_apart (Lib.below_grow _ w (Nat.le_refl _) k os), fun _ _ _ => .str _⟩
  · cases h
theorem T34 (n : Nat) : ∀ ⦃z b : Int⦄ ⦃r1 : ByteArray⦄, F34 n z b = some r1 → Trip Tryd.prog inv 34 [.d (.int .i64 z), .d (.int .i64 b)] [] (.v (.d (.str r1))) [] [] := by
  intro z b r1 h
  unfold F34 at h
  split at h
  · rename_i hz
    cases h
    obtain ⟨rfl, hz⟩ := hz
    refine Trip.ofCalls (xs := [.int .i64 z, .int .i64 10]) ⟨_, _, Tryd.func34, rfl, by kernel_rfl⟩ fun w Z vals hr hsz hv => ?_
    obtain ⟨v, u, rfl⟩ : ∃ v u, vals = #[v, u] := two hsz
    cases hv 0 _ _ rfl rfl
    cases hv 1 _ _ rfl rfl
    refine (Tryd.strconv_FormatInt_10 z hz.1 hz.2 w hr).mono ?_
    rintro e w' ⟨rfl, k, os, rfl⟩
    exact ⟨_, rfl, below_apart (Lib.below_grow _ w (Nat.le_refl _) k os), fun _ _ _ => .str _⟩
  · cases h
theorem T40 (n : Nat) : ∀ ⦃l : List D⦄ ⦃sep r1 : ByteArray⦄, F40 n l sep = some r1 → Trip Tryd.prog inv 40 [.d (.list false 1 l), .d (.str sep)] [] (.v (.d (.str r1))) [] [] := by
  intro l sep r1 h
  unfold F40 at h
  split at h
  rotate_left
  · cases h
  rename_i xs hxs
  obtain rfl := strsD_map hxs
  split at h
  rotate_left
  · cases h
  rename_i hb
  cases h
  refine Trip.ofCalls (xs := [.list false 1 (xs.map D.str), .str sep]) ⟨_, _, Tryd.func40, rfl, by kernel_rfl⟩ fun w Z vals hr hsz hv => ?_
  obtain ⟨v, u, rfl⟩ : ∃ v u, vals = #[v, u] := two hsz
  cases hv 1 _ _ rfl rfl
  cases hv 0 _ _ rfl rfl with
  | list _ _ _ A cap b o U hcap hmax hfit ha hc hrr =>
    by_cases he : xs = []
    · subst he
      refine (Tryd.strings_Join_none A cap sep w).mono ?_
      rintro e w' ⟨rfl, rfl⟩
      exact ⟨_, rfl, ⟨rfl, rfl, rfl, Nat.le_refl _, fun _ _ _ => rfl⟩, fun _ _ _ => .str _⟩
    · have hA := ha (by simpa using he)
      subst hA
      have cells : ∀ (j : Nat) x, xs[j]? = some x → w.cell? ⟨b, o + j, none⟩ = some (.string x) := by
        intro j x hx
        have h1 : (xs.map D.str)[j]? = some (.str x) := by simp [hx]
        have h2 := (hc j _ 0 _ h1 rfl).1
        have h3 := hrr j _ 0 _ h1 rfl
        simp only [Nat.mul_one, Nat.add_zero] at h2
        rw [h2, relStr h3]
      have hbk : b < w.heap.size := by
        obtain ⟨x, xs', rfl⟩ := List.exists_cons_of_ne_nil he
        have := World.block_lt_of_cell? w ⟨b, o + 0, none⟩ (cells 0 x rfl)
        exact this
      have := Tryd.strings_Join b o cap xs sep w cells hbk hb.1 (by simpa using hcap) hb.2
      rw [List.length_map]
      refine this.mono ?_
      rintro e w' ⟨rfl, hbl⟩
      exact ⟨_, rfl, below_apart hbl, fun _ _ _ => .str _⟩
end Go.Proofs.YtagiiaejijihoaaDoor

set_option linter.unusedVariables false
noncomputable section
namespace Go.Proofs.YtagiiaejijihoaaDoor
open Go Go.AM
def k_S : ByteArray := ⟨#[83]⟩
def ds_i64 {γ : Type} (x : D) (k : Int → Option γ) : Option γ := match x with | .int .i64 a0 => k a0 | _ => none
theorem ds_i64_inv {γ : Type} {x : D} {k : Int → Option γ} {r : γ} (h : ds_i64 x k = some r) : ∃ a0, x = .int .i64 a0 ∧ k a0 = some r := by
  unfold ds_i64 at h
  split at h
  · exact ⟨_, rfl, h⟩
  · cases h
def ds_t25 {γ : Type} (x : D) (k : Int → Int → ByteArray → List D → Int → List D → Option γ) : Option γ := match x with | .agg [.int .u8 a0, .int .i64 a1, .str a2, .list true 6 a3, .int .i64 a4, .list false 1 a5] => k a0 a1 a2 a3 a4 a5 | _ => none
theorem ds_t25_inv {γ : Type} {x : D} {k : Int → Int → ByteArray → List D → Int → List D → Option γ} {r : γ} (h : ds_t25 x k = some r) : ∃ a0 a1 a2 a3 a4 a5, x = .agg [.int .u8 a0, .int .i64 a1, .str a2, .list true 6 a3, .int .i64 a4, .list false 1 a5] ∧ k a0 a1 a2 a3 a4 a5 = some r := by
  unfold ds_t25 at h
  split at h
  · exact ⟨_, _, _, _, _, _, rfl, h⟩
  · cases h
def k__ : ByteArray := ⟨#[63]⟩
def k___1 : ByteArray := ⟨#[45]⟩
def k_i : ByteArray := ⟨#[105]⟩
def k_b : ByteArray := ⟨#[98]⟩
def k_u : ByteArray := ⟨#[117]⟩
def k_s : ByteArray := ⟨#[115]⟩
def k_e : ByteArray := ⟨#[101]⟩
def k_B : ByteArray := ⟨#[66]⟩
def k_C : ByteArray := ⟨#[67]⟩
def k_R : ByteArray := ⟨#[82]⟩
def k_A : ByteArray := ⟨#[65]⟩
def k_M : ByteArray := ⟨#[77]⟩
def k_T : ByteArray := ⟨#[84]⟩
def k_V : ByteArray := ⟨#[86]⟩
def k_r : ByteArray := ⟨#[114]⟩
def k_m : ByteArray := ⟨#[109]⟩
def ds_str {γ : Type} (x : D) (k : ByteArray → Option γ) : Option γ := match x with | .str a0 => k a0 | _ => none
theorem ds_str_inv {γ : Type} {x : D} {k : ByteArray → Option γ} {r : γ} (h : ds_str x k = some r) : ∃ a0, x = .str a0 ∧ k a0 = some r := by
  unfold ds_str at h
  split at h
  · exact ⟨_, rfl, h⟩
  · cases h
def k___2 : ByteArray := ⟨#[44]⟩
def k___3 : ByteArray := ⟨#[58]⟩
def k___4 : ByteArray := ⟨#[40]⟩
def k___ : ByteArray := ⟨#[41, 91]⟩
def k___5 : ByteArray := ⟨#[93]⟩
def k_i1_0__0____ : ByteArray := ⟨#[105, 49, 58, 48, 58, 58, 48, 40, 41, 91, 93]⟩
end Go.Proofs.YtagiiaejijihoaaDoor
end

set_option linter.unusedVariables false
noncomputable section
namespace Go.Proofs.YtagiiaejijihoaaDoor
open Go Go.AM
mutual
def L24_1 : Nat → (List D) → Int → Int → Option (Int)
  | 0, _, _, _ => none
  | n + 1, l1, z3, z4 =>
    lenF l1 fun z5 => (if z4 < z5 then (if (0 : Int) ≤ z3 then L24_2 n l1 z3 z4 true else L24_2 n l1 z3 z4 false) else L24_2 n l1 z3 z4 false)
def L24_2 : Nat → (List D) → Int → Int → Bool → Option (Int)
  | 0, _, _, _, _ => none
  | n + 1, l1, z3, z4, b6 =>
    (if b6 = true then getF l1 z4 fun x7 => ds_t25 x7 fun z8 z9 s10 l11 z12 l13 => letF (IntKind.wrap .i64 (z3 - 10)) fun z14 => (if z14 < (0 : Int) then L24_3 n l1 z4 s10 l11 l13 z14 true else szF s10 fun z15 => (if z14 < z15 then L24_3 n l1 z4 s10 l11 l13 z14 true else lenF l13 fun z16 => szF s10 fun z17 => letF (IntKind.wrap .i64 (z14 - z17)) fun z18 => (if z18 < z16 then L24_3 n l1 z4 s10 l11 l13 z14 true else L24_3 n l1 z4 s10 l11 l13 z14 false))) else some z3)
def L24_3 : Nat → (List D) → Int → ByteArray → (List D) → (List D) → Int → Bool → Option (Int)
  | 0, _, _, _, _, _, _, _ => none
  | n + 1, l1, z4, s10, l11, l13, z14, b19 =>
    (if b19 = true then some (-1 : Int) else szF s10 fun z20 => letF (IntKind.wrap .i64 (z14 - z20)) fun z21 => lenF l13 fun z22 => letF (IntKind.wrap .i64 (z21 - z22)) fun z23 => bO1 (F24 n l11 z23) fun z24 => letF (IntKind.wrap .i64 (z4 + 1)) fun z25 => L24_1 n l1 z24 z25)
def F24 : Nat → (List D) → Int → Option (Int)
  | 0, _, _ => none
  | n + 1, l1, z2 =>
    L24_1 n l1 z2 (0 : Int)
end
set_option maxRecDepth 100000 in
set_option maxHeartbeats 40000000 in
theorem T24 (n : Nat) : ∀ ⦃l1 : List D⦄ ⦃z2 : Int⦄ ⦃r1 : Int⦄, F24 n l1 z2 = some r1 →
    Trip Tryd.prog inv 24 [.d (.list true 6 l1), .d (.int .i64 z2)] [] (.v (.d (.int .i64 r1))) [] [] := by
  induction n using Nat.strongRecOn with
  | _ n ih =>
    cases n with
    | zero =>
      intro l1 z2 r1 h
      cases (show (none : Option _) = some _ from h)
    | succ n =>
      intro l1 z2 r1 h
      rw [F24] at h
      refine Trip.of tab_ok tab_one fol Tryd.func24 rfl (by kernel_rfl) rfl rfl rfl (fun M hM hI => ?_)
      try cbv
      refine seq_go ?_
      try cbv
      refine seq_go ?_
      try cbv
      refine seq_go ?_
      try cbv
      refine loop_inv (T := Nat × Int × Int) [0, 1, 4, 5] [] 64 (fun t => ⟨[(0, .v (.d (.list true 6 l1))), (1, .v (.d (.int .i64 t.2.1))), (4, .v (.d (.int .i64 0))), (5, .v (.d (.int .i64 t.2.2)))], [], 64⟩)
        (fun t => t.1 ≤ n ∧ L24_1 t.1 l1 t.2.1 t.2.2 = some r1) (fun t => t.1) (n, (z2, (0 : Int))) ⟨Nat.le_refl _, h⟩ (by cbv) ?_
      clear h
      rintro ⟨m1, z3, z4⟩ ⟨hm1, h⟩
      replace hm1 : m1 ≤ n := hm1
      cases m1 with
      | zero =>
        replace h : L24_1 0 l1 z3 z4 = some r1 := h
        rw [L24_1] at h
        cases h
      | succ m1 =>
        replace h : L24_1 (m1 + 1) l1 z3 z4 = some r1 := h
        rw [L24_1] at h
        try cbv
        refine seq_go ?_
        try cbv
        refine seq_join (T := Nat × Bool) (fun t => ⟨[(0, .v (.d (.list true 6 l1))), (1, .v (.d (.int .i64 z3))), (4, .v (.d (.int .i64 0))), (5, .v (.d (.int .i64 z4))), (14, .v (.d (.bool t.2)))], [], 320⟩) (fun t => t.1 ≤ m1 ∧ L24_2 t.1 l1 z3 z4 t.2 = some r1) ?_ ?_
        · try cbv
          replace h := lenF_inv M h
          obtain ⟨z5, hz, h⟩ := h
          refine ⟨z5, hz, ?_⟩
          clear hz
          try cbv
          refine splitL (fun e => ?_) (fun e => ?_)
          · replace h := ite_t e h
            clear e
            try cbv
            refine splitLe (fun e => ?_) (fun e => ?_)
            · replace h := ite_t e h
              clear e
              try cbv
              exact join_next (m1, true) [0, 1, 4, 5, 14] [] 320 ⟨by omega, h⟩ (by cbv)
            · replace h := ite_f (Int.not_le.2 e) h
              clear e
              try cbv
              exact join_next (m1, false) [0, 1, 4, 5, 14] [] 320 ⟨by omega, h⟩ (by cbv)
          · replace h := ite_f (Int.not_lt.2 e) h
            clear e
            try cbv
            exact join_next (m1, false) [0, 1, 4, 5, 14] [] 320 ⟨by omega, h⟩ (by cbv)
        · clear h
          rintro ⟨m2, b6⟩ ⟨hm2, h⟩
          replace hm2 : m2 ≤ m1 := hm2
          cases m2 with
          | zero =>
            replace h : L24_2 0 l1 z3 z4 b6 = some r1 := h
            rw [L24_2] at h
            cases h
          | succ m2 =>
            replace h : L24_2 (m2 + 1) l1 z3 z4 b6 = some r1 := h
            rw [L24_2] at h
            try cbv
            cases b6
            · replace h := ite_f Bool.false_ne_true h
              try cbv
              refine seq_go ?_
              try cbv
              obtain rfl := Option.some.inj h
              refine fin_go ?_
              try cbv
              exact ⟨[], rfl, rfl, trivial, trivial, trivial⟩
            · replace h := ite_t rfl h
              try cbv
              refine seq_go ?_
              try cbv
              refine seq_go ?_
              try cbv
              replace h := getF_inv h
              obtain ⟨x7, hx7, h⟩ := h
              replace h := ds_t25_inv h
              obtain ⟨z8, z9, s10, l11, z12, l13, rfl, h⟩ := h
              refine ⟨_, hx7.1, hx7.2, ?_⟩
              try cbv
              refine seq_go ?_
              try cbv
              replace h := letF_inv h
              obtain ⟨z14, hz, h⟩ := h
              refine ⟨z14, hz, ?_⟩
              clear hz
              try cbv
              refine seq_go ?_
              try cbv
              refine seq_join (T := Nat × Bool) (fun t => ⟨[(0, .v (.d (.list true 6 l1))), (1, .v (.d (.int .i64 z14))), (4, .v (.d (.int .i64 0))), (5, .v (.d (.int .i64 z4))), (6, .v (.c (.ptr (.loc 448) 0))), (42, .v (.d (.bool t.2)))], [(.loc 448, .cells [.d (.int .u8 z8), .d (.int .i64 z9), .d (.str s10), .d (.list true 6 l11), .d (.int .i64 z12), .d (.list false 1 l13)])], 1248⟩) (fun t => t.1 ≤ m2 ∧ L24_3 t.1 l1 z4 s10 l11 l13 z14 t.2 = some r1) ?_ ?_
              · try cbv
                refine splitL (fun e => ?_) (fun e => ?_)
                · replace h := ite_t e h
                  clear e
                  try cbv
                  exact join_next (m2, true) [0, 1, 4, 5, 6, 42] [.loc 448] 1248 ⟨by omega, h⟩ (by cbv)
                · replace h := ite_f (Int.not_lt.2 e) h
                  clear e
                  try cbv
                  replace h := szF_inv M h
                  obtain ⟨z15, hz, h⟩ := h
                  refine ⟨z15, hz, ?_⟩
                  clear hz
                  try cbv
                  refine splitL (fun e => ?_) (fun e => ?_)
                  · replace h := ite_t e h
                    clear e
                    try cbv
                    exact join_next (m2, true) [0, 1, 4, 5, 6, 42] [.loc 448] 1248 ⟨by omega, h⟩ (by cbv)
                  · replace h := ite_f (Int.not_lt.2 e) h
                    clear e
                    try cbv
                    replace h := lenF_inv M h
                    obtain ⟨z16, hz, h⟩ := h
                    refine ⟨z16, hz, ?_⟩
                    clear hz
                    try cbv
                    replace h := szF_inv M h
                    obtain ⟨z17, hz, h⟩ := h
                    refine ⟨z17, hz, ?_⟩
                    clear hz
                    try cbv
                    replace h := letF_inv h
                    obtain ⟨z18, hz, h⟩ := h
                    refine ⟨z18, hz, ?_⟩
                    clear hz
                    try cbv
                    refine splitL (fun e => ?_) (fun e => ?_)
                    · replace h := ite_t e h
                      clear e
                      try cbv
                      exact join_next (m2, true) [0, 1, 4, 5, 6, 42] [.loc 448] 1248 ⟨by omega, h⟩ (by cbv)
                    · replace h := ite_f (Int.not_lt.2 e) h
                      clear e
                      try cbv
                      exact join_next (m2, false) [0, 1, 4, 5, 6, 42] [.loc 448] 1248 ⟨by omega, h⟩ (by cbv)
              · clear h
                rintro ⟨m3, b19⟩ ⟨hm3, h⟩
                replace hm3 : m3 ≤ m2 := hm3
                cases m3 with
                | zero =>
                  replace h : L24_3 0 l1 z4 s10 l11 l13 z14 b19 = some r1 := h
                  rw [L24_3] at h
                  cases h
                | succ m3 =>
                  replace h : L24_3 (m3 + 1) l1 z4 s10 l11 l13 z14 b19 = some r1 := h
                  rw [L24_3] at h
                  try cbv
                  cases b19
                  · replace h := ite_f Bool.false_ne_true h
                    try cbv
                    replace h := szF_inv M h
                    obtain ⟨z20, hz, h⟩ := h
                    refine ⟨z20, hz, ?_⟩
                    clear hz
                    try cbv
                    replace h := letF_inv h
                    obtain ⟨z21, hz, h⟩ := h
                    refine ⟨z21, hz, ?_⟩
                    clear hz
                    try cbv
                    replace h := lenF_inv M h
                    obtain ⟨z22, hz, h⟩ := h
                    refine ⟨z22, hz, ?_⟩
                    clear hz
                    try cbv
                    replace h := letF_inv h
                    obtain ⟨z23, hz, h⟩ := h
                    refine ⟨z23, hz, ?_⟩
                    clear hz
                    try cbv
                    replace h := bO1_inv h
                    obtain ⟨z24, hr, h⟩ := h
                    refine call_go rfl rfl ?_
                    try cbv
                    refine call_pure hM hI ((ih _ (by omega)) hr) rfl ?_
                    clear hr
                    try cbv
                    replace h := letF_inv h
                    obtain ⟨z25, hz, h⟩ := h
                    refine ⟨z25, hz, ?_⟩
                    clear hz
                    try cbv
                    exact loop_next (m3, (z24, z25)) [0, 1, 4, 5] [] 64 ⟨by omega, h⟩ (Nat.lt_succ_of_le (by omega)) (by cbv)
                  · replace h := ite_t rfl h
                    try cbv
                    refine seq_go ?_
                    try cbv
                    obtain rfl := Option.some.inj h
                    refine fin_go ?_
                    try cbv
                    exact ⟨[], rfl, rfl, trivial, trivial, trivial⟩
end Go.Proofs.YtagiiaejijihoaaDoor
end

set_option linter.unusedVariables false
noncomputable section
namespace Go.Proofs.YtagiiaejijihoaaDoor
open Go Go.AM
def F8 (n : Nat) (z1 : Int) (z2 : Int) (s3 : ByteArray) (l4 : List D) (z5 : Int) (l6 : List D) (z7 : Int) (z8 : Int) (s9 : ByteArray) (l10 : List D) (z11 : Int) (l12 : List D) (l13 : List D) : Option (Bool) :=
  lenF l13 fun z14 => (if (100 : Int) < z14 then some true else bO1 (F24 n ([.agg [.int .u8 z1, .int .i64 z2, .str s3, .list true 6 l4, .int .i64 z5, .list false 1 l6]]) (5000 : Int)) fun z15 => bO1 (F24 n ([.agg [.int .u8 z7, .int .i64 z8, .str s9, .list true 6 l10, .int .i64 z11, .list false 1 l12]]) z15) fun z16 => (if z16 < (0 : Int) then some true else some false))
set_option maxRecDepth 100000 in
set_option maxHeartbeats 40000000 in
theorem T8 (n : Nat) : ∀ ⦃z1 : Int⦄ ⦃z2 : Int⦄ ⦃s3 : ByteArray⦄ ⦃l4 : List D⦄ ⦃z5 : Int⦄ ⦃l6 : List D⦄ ⦃z7 : Int⦄ ⦃z8 : Int⦄ ⦃s9 : ByteArray⦄ ⦃l10 : List D⦄ ⦃z11 : Int⦄ ⦃l12 : List D⦄ ⦃l13 : List D⦄ ⦃r1 : Bool⦄, F8 n z1 z2 s3 l4 z5 l6 z7 z8 s9 l10 z11 l12 l13 = some r1 →
    Trip Tryd.prog inv 8 [.d (.agg [.int .u8 z1, .int .i64 z2, .str s3, .list true 6 l4, .int .i64 z5, .list false 1 l6]), .d (.agg [.int .u8 z7, .int .i64 z8, .str s9, .list true 6 l10, .int .i64 z11, .list false 1 l12]), .d (.list false 1 l13)] [] (.v (.d (.bool r1))) [] [] := by
  intro z1 z2 s3 l4 z5 l6 z7 z8 s9 l10 z11 l12 l13 r1 h
  unfold F8 at h
  refine Trip.of tab_ok tab_one fol Tryd.func8 rfl (by kernel_rfl) rfl rfl rfl (fun M hM hI => ?_)
  try cbv
  refine seq_go ?_
  try cbv
  refine seq_go ?_
  try cbv
  replace h := lenF_inv M h
  obtain ⟨z14, hz, h⟩ := h
  refine ⟨z14, hz, ?_⟩
  clear hz
  try cbv
  refine splitL (fun e => ?_) (fun e => ?_)
  · replace h := ite_t e h
    clear e
    try cbv
    refine drawn ?_ ?_
    · show _ = true
      kernel_rfl
    try cbv
    obtain rfl := Option.some.inj h
    refine fin_go ?_
    try cbv
    exact ⟨[], rfl, rfl, trivial, trivial, trivial⟩
  · replace h := ite_f (Int.not_lt.2 e) h
    clear e
    try cbv
    refine ⟨false, ?_⟩
    try cbv
    refine ⟨true, ?_⟩
    try cbv
    refine ⟨false, ?_⟩
    try cbv
    refine ⟨true, ?_⟩
    try cbv
    replace h := bO1_inv h
    obtain ⟨z15, hr, h⟩ := h
    first | refine .inr (.inl ⟨[], ?_⟩) | refine .inl ⟨[], ?_⟩
    try cbv
    refine call_pure hM hI (T24 _ hr) rfl ?_
    clear hr
    try cbv
    replace h := bO1_inv h
    obtain ⟨z16, hr, h⟩ := h
    first | refine .inr (.inl ⟨[], ?_⟩) | refine .inl ⟨[], ?_⟩
    try cbv
    refine call_pure hM hI (T24 _ hr) rfl ?_
    clear hr
    try cbv
    refine splitL (fun e => ?_) (fun e => ?_)
    · replace h := ite_t e h
      clear e
      try cbv
      refine drawn ?_ ?_
      · show _ = true
        kernel_rfl
      try cbv
      obtain rfl := Option.some.inj h
      refine fin_go ?_
      try cbv
      exact ⟨[], rfl, rfl, trivial, trivial, trivial⟩
    · replace h := ite_f (Int.not_lt.2 e) h
      clear e
      try cbv
      refine drawn ?_ ?_
      · show _ = true
        kernel_rfl
      try cbv
      obtain rfl := Option.some.inj h
      refine fin_go ?_
      try cbv
      exact ⟨[], rfl, rfl, trivial, trivial, trivial⟩
end Go.Proofs.YtagiiaejijihoaaDoor
end

set_option linter.unusedVariables false
noncomputable section
namespace Go.Proofs.YtagiiaejijihoaaDoor
open Go Go.AM
def L26_1 : Nat → (List D) → Bool → Option (List D)
  | 0, _, _ => none
  | n + 1, l1, b2 =>
    (if b2 = true then some ([] : List D) else needF (scalB l1 = true) (appF 8 ([] : List D) l1 fun l3 => some l3))
def F26 (n : Nat) (l1 : List D) : Option (List D) :=
  (nilF l1 (L26_1 n l1 true) (L26_1 n l1 false))
set_option maxRecDepth 100000 in
set_option maxHeartbeats 40000000 in
theorem T26 (n : Nat) : ∀ ⦃l1 : List D⦄ ⦃r1 : List D⦄, F26 n l1 = some r1 →
    Trip Tryd.prog inv 26 [.d (.list false 1 l1)] [] (.v (.c (.ow (.loc 0)))) [] [.tree .row false 1 r1 none] := by
  intro l1 r1 h
  unfold F26 at h
  refine Trip.of tab_ok tab_one fol Tryd.func26 rfl (by kernel_rfl) rfl rfl rfl (fun M hM hI => ?_)
  try cbv
  refine seq_go ?_
  try cbv
  refine seq_go ?_
  try cbv
  refine seq_join (T := Nat × Bool) (fun t => ⟨[(0, .v (.d (.list false 1 l1))), (2, .v (.c (.nils false 1))), (4, .v (.d (.bool t.2)))], [], 96⟩) (fun t => t.1 ≤ n ∧ L26_1 t.1 l1 t.2 = some r1) ?_ ?_
  · try cbv
    replace h := nilF_inv h
    obtain ⟨h, hA⟩ := h
    refine nil_both ?_ (fun e => ?_)
    · clear hA
      try cbv
      exact join_next (n, false) [0, 2, 4] [] 96 ⟨by omega, h⟩ (by cbv)
    · replace h := hA e
      clear hA
      try cbv
      exact join_next (n, true) [0, 2, 4] [] 96 ⟨by omega, h⟩ (by cbv)
  · clear h
    rintro ⟨m1, b2⟩ ⟨hm1, h⟩
    replace hm1 : m1 ≤ n := hm1
    cases m1 with
    | zero =>
      replace h : L26_1 0 l1 b2 = some r1 := h
      rw [L26_1] at h
      cases h
    | succ m1 =>
      replace h : L26_1 (m1 + 1) l1 b2 = some r1 := h
      rw [L26_1] at h
      try cbv
      cases b2
      · replace h := ite_f Bool.false_ne_true h
        try cbv
        refine seq_go ?_
        try cbv
        refine ⟨true, ?_⟩
        try cbv
        refine ⟨[], ?_⟩
        try cbv
        refine ⟨[], rfl, ?_⟩
        try cbv
        refine op_pl ?_
        try cbv
        refine ⟨true, ?_⟩
        try cbv
        refine ⟨true, ?_⟩
        try cbv
        refine ⟨[], ?_⟩
        try cbv
        replace h := needF_inv h
        obtain ⟨hs, h⟩ := h
        replace h := appF_inv h
        obtain ⟨l3, hb, hz, h⟩ := h
        refine ⟨scalB_iff.1 hs, (M.lock_iff _).2 hb, l3, hz, ?_⟩
        clear hs hb hz
        try cbv
        obtain rfl := Option.some.inj h
        refine fin_go ?_
        try cbv
        exact ⟨[.loc 160], rfl, rfl, trivial, ⟨rfl, trivial⟩, trivial⟩
      · replace h := ite_t rfl h
        try cbv
        refine seq_go ?_
        try cbv
        obtain rfl := Option.some.inj h
        refine ⟨_, _, _, ⟨rfl, rfl, rfl⟩, [.treeS 2 false 1], ?_⟩
        try cbv
        exact ⟨[.loc 128], rfl, rfl, trivial, ⟨rfl, trivial⟩, trivial⟩
end Go.Proofs.YtagiiaejijihoaaDoor
end

set_option linter.unusedVariables false
noncomputable section
namespace Go.Proofs.YtagiiaejijihoaaDoor
open Go Go.AM
mutual
def L10_1 : Nat → Int → Int → ByteArray → (List D) → Int → (List D) → Int → Int → (List D) → Option (Int × Int × ByteArray × Int × List D × List D)
  | 0, _, _, _, _, _, _, _, _, _ => none
  | n + 1, z1, z2, s3, l4, z5, l6, z7, z8, l9 =>
    (if z8 < z7 then L10_2 n z1 z2 s3 l4 z5 l6 z7 z8 l9 true else L10_2 n z1 z2 s3 l4 z5 l6 z7 z8 l9 false)
def L10_2 : Nat → Int → Int → ByteArray → (List D) → Int → (List D) → Int → Int → (List D) → Bool → Option (Int × Int × ByteArray × Int × List D × List D)
  | 0, _, _, _, _, _, _, _, _, _, _ => none
  | n + 1, z1, z2, s3, l4, z5, l6, z7, z8, l9, b10 =>
    (if b10 = true then getF l4 z8 fun x11 => ds_t25 x11 fun z12 z13 s14 l15 z16 l17 => bO6 (F10 n z12 z13 s14 l15 z16 l17) fun z18 z19 s20 z21 l22 l23 => appF 88 l9 ([.agg [.int .u8 z18, .int .i64 z19, .str s20, .list true 6 l22, .int .i64 z21, .list false 1 l23]]) fun l24 => letF (IntKind.wrap .i64 (z8 + 1)) fun z25 => L10_1 n z1 z2 s3 l4 z5 l6 z7 z25 l24 else bO1 (F26 n l6) fun l26 => some (z1, z2, s3, z5, l9, l26))
def F10 : Nat → Int → Int → ByteArray → (List D) → Int → (List D) → Option (Int × Int × ByteArray × Int × List D × List D)
  | 0, _, _, _, _, _, _ => none
  | n + 1, z1, z2, s3, l4, z5, l6 =>
    lenF l4 fun z7 => L10_1 n z1 z2 s3 l4 z5 l6 z7 (0 : Int) ([] : List D)
end
set_option maxRecDepth 100000 in
set_option maxHeartbeats 40000000 in
theorem T10 (n : Nat) : ∀ ⦃z1 : Int⦄ ⦃z2 : Int⦄ ⦃s3 : ByteArray⦄ ⦃l4 : List D⦄ ⦃z5 : Int⦄ ⦃l6 : List D⦄ ⦃r1 : Int⦄ ⦃r2 : Int⦄ ⦃r3 : ByteArray⦄ ⦃r4 : Int⦄ ⦃r5 : List D⦄ ⦃r6 : List D⦄, F10 n z1 z2 s3 l4 z5 l6 = some (r1, r2, r3, r4, r5, r6) →
    Trip Tryd.prog inv 10 [.d (.agg [.int .u8 z1, .int .i64 z2, .str s3, .list true 6 l4, .int .i64 z5, .list false 1 l6])] [] (.v (.agg [.d (.int .u8 r1), .d (.int .i64 r2), .d (.str r3), .ow (.loc 0), .d (.int .i64 r4), .ow (.loc 1)])) [] [.tree .row true 6 r5 none, .tree .row false 1 r6 none] := by
  induction n using Nat.strongRecOn with
  | _ n ih =>
    cases n with
    | zero =>
      intro z1 z2 s3 l4 z5 l6 r1 r2 r3 r4 r5 r6 h
      cases (show (none : Option _) = some _ from h)
    | succ n =>
      intro z1 z2 s3 l4 z5 l6 r1 r2 r3 r4 r5 r6 h
      rw [F10] at h
      refine Trip.of tab_ok tab_one fol Tryd.func10 rfl (by kernel_rfl) rfl rfl rfl (fun M hM hI => ?_)
      try cbv
      refine seq_go ?_
      try cbv
      refine seq_go ?_
      try cbv
      refine seq_go ?_
      try cbv
      refine seq_go ?_
      try cbv
      replace h := lenF_inv M h
      obtain ⟨z7, hz, h⟩ := h
      refine ⟨z7, hz, ?_⟩
      clear hz
      try cbv
      refine loop_invG (T := Nat × Int × List D) [.treeS 3 true 6] [] [1, 2, 3, 7, 8, 9] [.loc 0, .loc 32, .loc 224] 256 (fun t => ⟨[(1, .v (.c (.ptr (.loc 0) 0))), (2, .v (.c (.ptr (.loc 32) 0))), (3, .v (.c (.ow (.loc 224)))), (7, .v (.d (.list true 6 l4))), (8, .v (.d (.int .i64 z7))), (9, .v (.d (.int .i64 t.2.1)))], [(.loc 0, .cells [.d (.int .u8 z1), .d (.int .i64 z2), .d (.str s3), .d (.list true 6 l4), .d (.int .i64 z5), .d (.list false 1 l6)]), (.loc 32, .cells [.d (.int .u8 0), .d (.int .i64 0), .d (.str ByteArray.empty), .nils true 6, .d (.int .i64 0), .nils false 1]), (.loc 224, .tree .row true 6 t.2.2 none)], 256⟩)
        (fun t => t.1 ≤ n ∧ L10_1 t.1 z1 z2 s3 l4 z5 l6 z7 t.2.1 t.2.2 = some (r1, r2, r3, r4, r5, r6)) (fun t => t.1) (n, ((0 : Int), ([] : List D))) ⟨Nat.le_refl _, h⟩ (by cbv) ?_
      clear h
      rintro ⟨m1, z8, l9⟩ ⟨hm1, h⟩
      replace hm1 : m1 ≤ n := hm1
      cases m1 with
      | zero =>
        replace h : L10_1 0 z1 z2 s3 l4 z5 l6 z7 z8 l9 = some (r1, r2, r3, r4, r5, r6) := h
        rw [L10_1] at h
        cases h
      | succ m1 =>
        replace h : L10_1 (m1 + 1) z1 z2 s3 l4 z5 l6 z7 z8 l9 = some (r1, r2, r3, r4, r5, r6) := h
        rw [L10_1] at h
        try cbv
        refine seq_join (T := Nat × Bool) (fun t => ⟨[(1, .v (.c (.ptr (.loc 0) 0))), (2, .v (.c (.ptr (.loc 32) 0))), (3, .v (.c (.ow (.loc 224)))), (7, .v (.d (.list true 6 l4))), (8, .v (.d (.int .i64 z7))), (9, .v (.d (.int .i64 z8))), (10, .v (.d (.bool t.2)))], [(.loc 0, .cells [.d (.int .u8 z1), .d (.int .i64 z2), .d (.str s3), .d (.list true 6 l4), .d (.int .i64 z5), .d (.list false 1 l6)]), (.loc 32, .cells [.d (.int .u8 0), .d (.int .i64 0), .d (.str ByteArray.empty), .nils true 6, .d (.int .i64 0), .nils false 1]), (.loc 224, .tree .row true 6 l9 none)], 288⟩) (fun t => t.1 ≤ m1 ∧ L10_2 t.1 z1 z2 s3 l4 z5 l6 z7 z8 l9 t.2 = some (r1, r2, r3, r4, r5, r6)) ?_ ?_
        · try cbv
          refine splitL (fun e => ?_) (fun e => ?_)
          · replace h := ite_t e h
            clear e
            try cbv
            exact join_next (m1, true) [1, 2, 3, 7, 8, 9, 10] [.loc 0, .loc 32, .loc 224] 288 ⟨by omega, h⟩ (by cbv)
          · replace h := ite_f (Int.not_lt.2 e) h
            clear e
            try cbv
            exact join_next (m1, false) [1, 2, 3, 7, 8, 9, 10] [.loc 0, .loc 32, .loc 224] 288 ⟨by omega, h⟩ (by cbv)
        · clear h
          rintro ⟨m2, b10⟩ ⟨hm2, h⟩
          replace hm2 : m2 ≤ m1 := hm2
          cases m2 with
          | zero =>
            replace h : L10_2 0 z1 z2 s3 l4 z5 l6 z7 z8 l9 b10 = some (r1, r2, r3, r4, r5, r6) := h
            rw [L10_2] at h
            cases h
          | succ m2 =>
            replace h : L10_2 (m2 + 1) z1 z2 s3 l4 z5 l6 z7 z8 l9 b10 = some (r1, r2, r3, r4, r5, r6) := h
            rw [L10_2] at h
            try cbv
            refine seq_go ?_
            try cbv
            cases b10
            · replace h := ite_f Bool.false_ne_true h
              try cbv
              refine seq_go ?_
              try cbv
              replace h := bO1_inv h
              obtain ⟨l26, hr, h⟩ := h
              refine call_go rfl rfl ?_
              try cbv
              refine call_with hM hI [] (T26 _ hr) rfl (by simp) trivial trivial (by simp) ?_
              clear hr
              try cbv
              refine seq_go ?_
              try cbv
              obtain ⟨rfl, rfl, rfl, rfl, rfl, rfl⟩ := inj6 h
              refine fin_go ?_
              try cbv
              exact ⟨[.loc 224, .loc 384], rfl, rfl, trivial, ⟨rfl, ⟨rfl, trivial⟩⟩, trivial⟩
            · replace h := ite_t rfl h
              try cbv
              refine seq_go ?_
              try cbv
              refine seq_go ?_
              try cbv
              replace h := getF_inv h
              obtain ⟨x11, hx11, h⟩ := h
              replace h := ds_t25_inv h
              obtain ⟨z12, z13, s14, l15, z16, l17, rfl, h⟩ := h
              refine ⟨_, hx11.1, hx11.2, ?_⟩
              try cbv
              replace h := bO6_inv h
              obtain ⟨z18, z19, s20, z21, l22, l23, hr, h⟩ := h
              refine call_go rfl rfl ?_
              try cbv
              refine call_with hM hI [] ((ih _ (by omega)) hr) rfl (by simp) trivial trivial (by simp) ?_
              clear hr
              try cbv
              refine ⟨false, ?_⟩
              try cbv
              refine ⟨false, ?_⟩
              try cbv
              refine op_pl ?_
              try cbv
              refine ⟨true, ?_⟩
              try cbv
              refine ⟨true, ?_⟩
              try cbv
              refine ⟨[], ?_⟩
              try cbv
              replace h := appF_inv h
              obtain ⟨l24, hb, hz, h⟩ := h
              refine ⟨[.agg [.int .u8 z18, .int .i64 z19, .str s20, .list true 6 l22, .int .i64 z21, .list false 1 l23]], rfl, ?_⟩
              try cbv
              refine ⟨(M.lock_iff _).2 hb, l24, hz, ?_⟩
              clear hb hz
              try cbv
              replace h := letF_inv h
              obtain ⟨z25, hz, h⟩ := h
              refine ⟨z25, hz, ?_⟩
              clear hz
              try cbv
              refine loop_nextG (m2, (z25, l24)) [] [(544, 224)] [1, 2, 3, 7, 8, 9] [.loc 0, .loc 32, .loc 544] 256 ⟨by omega, h⟩ (Nat.lt_succ_of_le (by omega)) ?_
              try cbv
end Go.Proofs.YtagiiaejijihoaaDoor
end

set_option linter.unusedVariables false
noncomputable section
namespace Go.Proofs.YtagiiaejijihoaaDoor
open Go Go.AM
def L38x1_2 : Nat → (List D) → (List D) → Bool → Option (Int × List D × List D)
  | 0, _, _, _ => none
  | n + 1, l6, l7, b11 =>
    (if b11 = true then some ((6 : Int), l6, l7) else some ((0 : Int), l6, l7))
def L38x1_1 : Nat → Int → Int → (List D) → (List D) → Bool → Option (Int × List D × List D)
  | 0, _, _, _, _, _ => none
  | n + 1, z1, z5, l6, l7, b8 =>
    (if b8 = true then some ((3 : Int), l6, l7) else (if z1 = (4 : Int) then (if z5 < (0 : Int) then L38x1_2 n l6 l7 true else lenF l6 fun z9 => (if z9 ≤ z5 then L38x1_2 n l6 l7 true else L38x1_2 n l6 l7 false)) else (if z1 = (5 : Int) then (if z5 < (0 : Int) then L38x1_2 n l6 l7 true else lenF l6 fun z10 => (if z10 ≤ z5 then L38x1_2 n l6 l7 true else L38x1_2 n l6 l7 false)) else L38x1_2 n l6 l7 true)))
def F38x1 (n : Nat) (z1 : Int) (z2 : Int) (s3 : ByteArray) (z4 : Int) (z5 : Int) (l6 : List D) (l7 : List D) : Option (Int × List D × List D) :=
  (if z1 = (0 : Int) then L38x1_1 n z1 z5 l6 l7 true else L38x1_1 n z1 z5 l6 l7 false)
set_option maxRecDepth 100000 in
set_option maxHeartbeats 40000000 in
theorem T38x1 (n : Nat) : ∀ ⦃z1 : Int⦄ ⦃z2 : Int⦄ ⦃s3 : ByteArray⦄ ⦃z4 : Int⦄ ⦃z5 : Int⦄ ⦃l6 : List D⦄ ⦃l7 : List D⦄ ⦃r1 : Int⦄ ⦃r2 : List D⦄ ⦃r3 : List D⦄, F38x1 n z1 z2 s3 z4 z5 l6 l7 = some (r1, r2, r3) →
    Trip Tryd.prog inv 38 [.agg [.d (.int .u8 z1), .d (.int .i64 z2), .d (.str s3), .ow (.ext 0), .d (.int .i64 z4), .ow (.ext 1)], .d (.int .i64 z5)] [.tree .row true 6 l6 none, .tree .row false 1 l7 none] (.v (.d (.int .u8 r1))) [.tree .row true 6 r2 none, .tree .row false 1 r3 none] [] := by
  intro z1 z2 s3 z4 z5 l6 l7 r1 r2 r3 h
  unfold F38x1 at h
  refine Trip.of tab_ok tab_one fol Tryd.func38 rfl (by kernel_rfl) rfl rfl rfl (fun M hM hI => ?_)
  try cbv
  refine seq_go ?_
  try cbv
  refine seq_go ?_
  try cbv
  refine seq_join (T := Nat × Bool) (fun t => ⟨[(1, .v (.d (.int .i64 z5))), (2, .v (.c (.ptr (.loc 0) 0))), (4, .v (.d (.int .u8 0))), (5, .v (.d (.bool t.2)))], [(.ext 0, .tree .row true 6 l6 none), (.ext 1, .tree .row false 1 l7 none), (.loc 0, .cells [.d (.int .u8 z1), .d (.int .i64 z2), .d (.str s3), .ow (.ext 0), .d (.int .i64 z4), .ow (.ext 1)])], 192⟩) (fun t => t.1 ≤ n ∧ L38x1_1 t.1 z1 z5 l6 l7 t.2 = some (r1, r2, r3)) ?_ ?_
  · try cbv
    refine splitI (fun e => ?_) (fun e => ?_)
    · replace h := ite_t e h
      clear e
      try cbv
      exact join_next (n, true) [1, 2, 4, 5] [.ext 0, .ext 1, .loc 0] 192 ⟨by omega, h⟩ (by cbv)
    · replace h := ite_f e h
      clear e
      try cbv
      exact join_next (n, false) [1, 2, 4, 5] [.ext 0, .ext 1, .loc 0] 192 ⟨by omega, h⟩ (by cbv)
  · clear h
    rintro ⟨m1, b8⟩ ⟨hm1, h⟩
    replace hm1 : m1 ≤ n := hm1
    cases m1 with
    | zero =>
      replace h : L38x1_1 0 z1 z5 l6 l7 b8 = some (r1, r2, r3) := h
      rw [L38x1_1] at h
      cases h
    | succ m1 =>
      replace h : L38x1_1 (m1 + 1) z1 z5 l6 l7 b8 = some (r1, r2, r3) := h
      rw [L38x1_1] at h
      try cbv
      cases b8
      · replace h := ite_f Bool.false_ne_true h
        try cbv
        refine seq_join (T := Nat × Bool) (fun t => ⟨[(4, .v (.d (.int .u8 0))), (9, .v (.d (.bool t.2)))], [(.ext 0, .tree .row true 6 l6 none), (.ext 1, .tree .row false 1 l7 none)], 832⟩) (fun t => t.1 ≤ m1 ∧ L38x1_2 t.1 l6 l7 t.2 = some (r1, r2, r3)) ?_ ?_
        · try cbv
          refine splitI (fun e => ?_) (fun e => ?_)
          · replace h := ite_t e h
            clear e
            try cbv
            refine splitL (fun e => ?_) (fun e => ?_)
            · replace h := ite_t e h
              clear e
              try cbv
              exact join_next (m1, true) [4, 9] [.ext 0, .ext 1] 832 ⟨by omega, h⟩ (by cbv)
            · replace h := ite_f (Int.not_lt.2 e) h
              clear e
              try cbv
              replace h := lenF_inv M h
              obtain ⟨z9, hz, h⟩ := h
              refine ⟨false, ?_⟩
              try cbv
              refine ⟨z9, hz, ?_⟩
              clear hz
              try cbv
              refine splitLe (fun e => ?_) (fun e => ?_)
              · replace h := ite_t e h
                clear e
                try cbv
                exact join_next (m1, true) [4, 9] [.ext 0, .ext 1] 832 ⟨by omega, h⟩ (by cbv)
              · replace h := ite_f (Int.not_le.2 e) h
                clear e
                try cbv
                exact join_next (m1, false) [4, 9] [.ext 0, .ext 1] 832 ⟨by omega, h⟩ (by cbv)
          · replace h := ite_f e h
            clear e
            try cbv
            refine splitI (fun e => ?_) (fun e => ?_)
            · replace h := ite_t e h
              clear e
              try cbv
              refine splitL (fun e => ?_) (fun e => ?_)
              · replace h := ite_t e h
                clear e
                try cbv
                exact join_next (m1, true) [4, 9] [.ext 0, .ext 1] 832 ⟨by omega, h⟩ (by cbv)
              · replace h := ite_f (Int.not_lt.2 e) h
                clear e
                try cbv
                replace h := lenF_inv M h
                obtain ⟨z10, hz, h⟩ := h
                refine ⟨false, ?_⟩
                try cbv
                refine ⟨z10, hz, ?_⟩
                clear hz
                try cbv
                refine splitLe (fun e => ?_) (fun e => ?_)
                · replace h := ite_t e h
                  clear e
                  try cbv
                  exact join_next (m1, true) [4, 9] [.ext 0, .ext 1] 832 ⟨by omega, h⟩ (by cbv)
                · replace h := ite_f (Int.not_le.2 e) h
                  clear e
                  try cbv
                  exact join_next (m1, false) [4, 9] [.ext 0, .ext 1] 832 ⟨by omega, h⟩ (by cbv)
            · replace h := ite_f e h
              clear e
              try cbv
              exact join_next (m1, true) [4, 9] [.ext 0, .ext 1] 832 ⟨by omega, h⟩ (by cbv)
        · clear h
          rintro ⟨m2, b11⟩ ⟨hm2, h⟩
          replace hm2 : m2 ≤ m1 := hm2
          cases m2 with
          | zero =>
            replace h : L38x1_2 0 l6 l7 b11 = some (r1, r2, r3) := h
            rw [L38x1_2] at h
            cases h
          | succ m2 =>
            replace h : L38x1_2 (m2 + 1) l6 l7 b11 = some (r1, r2, r3) := h
            rw [L38x1_2] at h
            try cbv
            cases b11
            · replace h := ite_f Bool.false_ne_true h
              try cbv
              refine seq_go ?_
              try cbv
              obtain ⟨rfl, rfl, rfl⟩ := inj3 h
              refine fin_go ?_
              try cbv
              exact ⟨[], rfl, rfl, ⟨rfl, ⟨rfl, trivial⟩⟩, trivial, trivial⟩
            · replace h := ite_t rfl h
              try cbv
              refine seq_go ?_
              try cbv
              obtain ⟨rfl, rfl, rfl⟩ := inj3 h
              refine fin_go ?_
              try cbv
              exact ⟨[], rfl, rfl, ⟨rfl, ⟨rfl, trivial⟩⟩, trivial, trivial⟩
      · replace h := ite_t rfl h
        try cbv
        refine seq_go ?_
        try cbv
        obtain ⟨rfl, rfl, rfl⟩ := inj3 h
        refine fin_go ?_
        try cbv
        exact ⟨[], rfl, rfl, ⟨rfl, ⟨rfl, trivial⟩⟩, trivial, trivial⟩
end Go.Proofs.YtagiiaejijihoaaDoor
end

set_option linter.unusedVariables false
noncomputable section
namespace Go.Proofs.YtagiiaejijihoaaDoor
open Go Go.AM
mutual
def L37_1 : Nat → Int → Int → ByteArray → Int → (List D) → (List D) → (List D) → Int → Int → ByteArray → (List D) → Int → (List D) → Int → Bool → Option (Int × Int × ByteArray × Int × Int × Int × ByteArray × List D × Int × List D × Int × List D × List D)
  | 0, _, _, _, _, _, _, _, _, _, _, _, _, _, _, _ => none
  | n + 1, z1, z2, s3, z4, l5, l6, l7, z8, z9, s10, l11, z12, l13, z14, b16 =>
    (if b16 = true then bO6 (F10 n z8 z9 s10 l11 z12 l13) fun z17 z18 s19 z20 l21 l22 => some (z17, z18, s19, z20, z8, z9, s10, l11, z12, l13, z14, l21, l22) else getF l5 0 fun x23 => ds_i64 x23 fun z24 => bO3 (F38x1 n z1 z2 s3 z4 z24 l6 l7) fun z25 l26 l27 => (if z25 = (0 : Int) then L37_2 n z1 z2 s3 z4 l5 z8 z9 s10 l11 z12 l13 z24 z25 l26 l27 true else L37_2 n z1 z2 s3 z4 l5 z8 z9 s10 l11 z12 l13 z24 z25 l26 l27 false))
def L37_2 : Nat → Int → Int → ByteArray → Int → (List D) → Int → Int → ByteArray → (List D) → Int → (List D) → Int → Int → (List D) → (List D) → Bool → Option (Int × Int × ByteArray × Int × Int × Int × ByteArray × List D × Int × List D × Int × List D × List D)
  | 0, _, _, _, _, _, _, _, _, _, _, _, _, _, _, _, _ => none
  | n + 1, z1, z2, s3, z4, l5, z8, z9, s10, l11, z12, l13, z24, z25, l26, l27, b28 =>
    (if b28 = true then needF (0 ≤ z24 ∧ z24.toNat < l26.length) (getN l26 (z24.toNat) fun x29 => ds_t25 x29 fun z30 z31 s32 l33 z34 l35 => fromF l5 (1 : Int) fun l36 => bO13 (F37 n z30 z31 s32 z34 l36 l33 l35 z8 z9 s10 l11 z12 l13 z25) fun z37 z38 s39 z40 z41 z42 s43 l44 z45 l46 z47 l48 l49 => needF (0 ≤ z24 ∧ z24.toNat < l26.length) (setF l26 (z24.toNat) (.agg [.int .u8 z37, .int .i64 z38, .str s39, .list true 6 l48, .int .i64 z40, .list false 1 l49]) fun l50 => L37_3 n z1 z2 s3 z4 l50 l27 z41 z42 s43 l44 z45 l46 z47)) else L37_3 n z1 z2 s3 z4 l26 l27 z8 z9 s10 l11 z12 l13 z25)
def L37_3 : Nat → Int → Int → ByteArray → Int → (List D) → (List D) → Int → Int → ByteArray → (List D) → Int → (List D) → Int → Option (Int × Int × ByteArray × Int × Int × Int × ByteArray × List D × Int × List D × Int × List D × List D)
  | 0, _, _, _, _, _, _, _, _, _, _, _, _, _ => none
  | n + 1, z1, z2, s3, z4, l51, l52, z53, z54, s55, l56, z57, l58, z59 =>
    some (z1, z2, s3, z4, z53, z54, s55, l56, z57, l58, z59, l51, l52)
def F37 : Nat → Int → Int → ByteArray → Int → (List D) → (List D) → (List D) → Int → Int → ByteArray → (List D) → Int → (List D) → Int → Option (Int × Int × ByteArray × Int × Int × Int × ByteArray × List D × Int × List D × Int × List D × List D)
  | 0, _, _, _, _, _, _, _, _, _, _, _, _, _, _ => none
  | n + 1, z1, z2, s3, z4, l5, l6, l7, z8, z9, s10, l11, z12, l13, z14 =>
    lenF l5 fun z15 => (if z15 = (0 : Int) then L37_1 n z1 z2 s3 z4 l5 l6 l7 z8 z9 s10 l11 z12 l13 z14 true else L37_1 n z1 z2 s3 z4 l5 l6 l7 z8 z9 s10 l11 z12 l13 z14 false)
end
set_option maxRecDepth 100000 in
set_option maxHeartbeats 40000000 in
theorem T37 (n : Nat) : ∀ ⦃z1 : Int⦄ ⦃z2 : Int⦄ ⦃s3 : ByteArray⦄ ⦃z4 : Int⦄ ⦃l5 : List D⦄ ⦃l6 : List D⦄ ⦃l7 : List D⦄ ⦃z8 : Int⦄ ⦃z9 : Int⦄ ⦃s10 : ByteArray⦄ ⦃l11 : List D⦄ ⦃z12 : Int⦄ ⦃l13 : List D⦄ ⦃z14 : Int⦄ ⦃r1 : Int⦄ ⦃r2 : Int⦄ ⦃r3 : ByteArray⦄ ⦃r4 : Int⦄ ⦃r5 : Int⦄ ⦃r6 : Int⦄ ⦃r7 : ByteArray⦄ ⦃r8 : List D⦄ ⦃r9 : Int⦄ ⦃r10 : List D⦄ ⦃r11 : Int⦄ ⦃r12 : List D⦄ ⦃r13 : List D⦄, F37 n z1 z2 s3 z4 l5 l6 l7 z8 z9 s10 l11 z12 l13 z14 = some (r1, r2, r3, r4, r5, r6, r7, r8, r9, r10, r11, r12, r13) →
    Trip Tryd.prog inv 37 [.agg [.d (.int .u8 z1), .d (.int .i64 z2), .d (.str s3), .ow (.ext 0), .d (.int .i64 z4), .ow (.ext 1)], .d (.list false 1 l5), .c (.ptr (.ext 2) 0), .c (.ptr (.ext 3) 0), .c (.ptr (.ext 4) 0)] [.tree .row true 6 l6 none, .tree .row false 1 l7 none, .cells [.d (.int .u8 z8), .d (.int .i64 z9), .d (.str s10), .d (.list true 6 l11), .d (.int .i64 z12), .d (.list false 1 l13)], .cells [.d (.int .u8 z14)], .cells [.fn 37 [.ext 2, .ext 3, .ext 4]]] (.v (.agg [.d (.int .u8 r1), .d (.int .i64 r2), .d (.str r3), .ow (.loc 0), .d (.int .i64 r4), .ow (.loc 1)])) [.gone, .gone, .cells [.d (.int .u8 r5), .d (.int .i64 r6), .d (.str r7), .d (.list true 6 r8), .d (.int .i64 r9), .d (.list false 1 r10)], .cells [.d (.int .u8 r11)], .cells [.fn 37 [.ext 2, .ext 3, .ext 4]]] [.tree .row true 6 r12 none, .tree .row false 1 r13 none] := by
  induction n using Nat.strongRecOn with
  | _ n ih =>
    cases n with
    | zero =>
      intro z1 z2 s3 z4 l5 l6 l7 z8 z9 s10 l11 z12 l13 z14 r1 r2 r3 r4 r5 r6 r7 r8 r9 r10 r11 r12 r13 h
      cases (show (none : Option _) = some _ from h)
    | succ n =>
      intro z1 z2 s3 z4 l5 l6 l7 z8 z9 s10 l11 z12 l13 z14 r1 r2 r3 r4 r5 r6 r7 r8 r9 r10 r11 r12 r13 h
      rw [F37] at h
      refine Trip.of tab_ok tab_one fol Tryd.func37 rfl (by kernel_rfl) rfl rfl rfl (fun M hM hI => ?_)
      try cbv
      refine seq_go ?_
      try cbv
      refine seq_go ?_
      try cbv
      refine seq_join (T := Nat × Bool) (fun t => ⟨[(1, .v (.d (.list false 1 l5))), (2, .v (.c (.ptr (.ext 2) 0))), (3, .v (.c (.ptr (.ext 3) 0))), (4, .v (.c (.ptr (.ext 4) 0))), (5, .v (.c (.ptr (.loc 0) 0))), (7, .v (.c (.ptr (.loc 32) 0))), (10, .v (.d (.bool t.2)))], [(.ext 0, .tree .row true 6 l6 none), (.ext 1, .tree .row false 1 l7 none), (.ext 2, .cells [.d (.int .u8 z8), .d (.int .i64 z9), .d (.str s10), .d (.list true 6 l11), .d (.int .i64 z12), .d (.list false 1 l13)]), (.ext 3, .cells [.d (.int .u8 z14)]), (.ext 4, .cells [.fn 37 [.ext 2, .ext 3, .ext 4]]), (.loc 0, .cells [.d (.int .u8 z1), .d (.int .i64 z2), .d (.str s3), .ow (.ext 0), .d (.int .i64 z4), .ow (.ext 1)]), (.loc 32, .cells [.d (.int .u8 0), .d (.int .i64 0), .d (.str ByteArray.empty), .nils true 6, .d (.int .i64 0), .nils false 1])], 160⟩) (fun t => t.1 ≤ n ∧ L37_1 t.1 z1 z2 s3 z4 l5 l6 l7 z8 z9 s10 l11 z12 l13 z14 t.2 = some (r1, r2, r3, r4, r5, r6, r7, r8, r9, r10, r11, r12, r13)) ?_ ?_
      · try cbv
        replace h := lenF_inv M h
        obtain ⟨z15, hz, h⟩ := h
        refine ⟨z15, hz, ?_⟩
        clear hz
        try cbv
        refine splitI (fun e => ?_) (fun e => ?_)
        · replace h := ite_t e h
          clear e
          try cbv
          exact join_next (n, true) [1, 2, 3, 4, 5, 7, 10] [.ext 0, .ext 1, .ext 2, .ext 3, .ext 4, .loc 0, .loc 32] 160 ⟨by omega, h⟩ (by cbv)
        · replace h := ite_f e h
          clear e
          try cbv
          exact join_next (n, false) [1, 2, 3, 4, 5, 7, 10] [.ext 0, .ext 1, .ext 2, .ext 3, .ext 4, .loc 0, .loc 32] 160 ⟨by omega, h⟩ (by cbv)
      · clear h
        rintro ⟨m1, b16⟩ ⟨hm1, h⟩
        replace hm1 : m1 ≤ n := hm1
        cases m1 with
        | zero =>
          replace h : L37_1 0 z1 z2 s3 z4 l5 l6 l7 z8 z9 s10 l11 z12 l13 z14 b16 = some (r1, r2, r3, r4, r5, r6, r7, r8, r9, r10, r11, r12, r13) := h
          rw [L37_1] at h
          cases h
        | succ m1 =>
          replace h : L37_1 (m1 + 1) z1 z2 s3 z4 l5 l6 l7 z8 z9 s10 l11 z12 l13 z14 b16 = some (r1, r2, r3, r4, r5, r6, r7, r8, r9, r10, r11, r12, r13) := h
          rw [L37_1] at h
          try cbv
          cases b16
          · replace h := ite_f Bool.false_ne_true h
            try cbv
            refine seq_join (T := Nat × List D × List D × Int × Int × ByteArray × List D × Int × List D × Int) (fun t => ⟨[(5, .v (.c (.ptr (.loc 0) 0))), (7, .v (.c (.ptr (.loc 32) 0)))], [(.ext 0, .tree .row true 6 t.2.1 none), (.ext 1, .tree .row false 1 t.2.2.1 none), (.ext 2, .cells [.d (.int .u8 t.2.2.2.1), .d (.int .i64 t.2.2.2.2.1), .d (.str t.2.2.2.2.2.1), .d (.list true 6 t.2.2.2.2.2.2.1), .d (.int .i64 t.2.2.2.2.2.2.2.1), .d (.list false 1 t.2.2.2.2.2.2.2.2.1)]), (.ext 3, .cells [.d (.int .u8 t.2.2.2.2.2.2.2.2.2)]), (.ext 4, .cells [.fn 37 [.ext 2, .ext 3, .ext 4]]), (.loc 0, .cells [.d (.int .u8 z1), .d (.int .i64 z2), .d (.str s3), .ow (.ext 0), .d (.int .i64 z4), .ow (.ext 1)]), (.loc 32, .cells [.d (.int .u8 0), .d (.int .i64 0), .d (.str ByteArray.empty), .nils true 6, .d (.int .i64 0), .nils false 1])], 992⟩) (fun t => t.1 ≤ m1 ∧ L37_3 t.1 z1 z2 s3 z4 t.2.1 t.2.2.1 t.2.2.2.1 t.2.2.2.2.1 t.2.2.2.2.2.1 t.2.2.2.2.2.2.1 t.2.2.2.2.2.2.2.1 t.2.2.2.2.2.2.2.2.1 t.2.2.2.2.2.2.2.2.2 = some (r1, r2, r3, r4, r5, r6, r7, r8, r9, r10, r11, r12, r13)) ?_ ?_
            · try cbv
              refine seq_go ?_
              try cbv
              replace h := getF_inv h
              obtain ⟨x23, hx23, h⟩ := h
              replace h := ds_i64_inv h
              obtain ⟨z24, rfl, h⟩ := h
              refine ⟨_, hx23.1, hx23.2, ?_⟩
              try cbv
              replace h := bO3_inv h
              obtain ⟨z25, l26, l27, hr, h⟩ := h
              first | refine .inr (.inl ⟨[], ?_⟩) | refine .inl ⟨[], ?_⟩
              try cbv
              refine call_with hM hI [.ext 0, .ext 1] (T38x1 _ hr) rfl (by simp) ⟨rfl, ⟨rfl, trivial⟩⟩ ⟨trivial, ⟨trivial, trivial⟩⟩ (by simp) ?_
              clear hr
              try cbv
              refine drawn ?_ ?_
              · show _ = true
                kernel_rfl
              try cbv
              refine seq_join (T := Nat × Bool) (fun t => ⟨[(1, .v (.d (.list false 1 l5))), (4, .v (.c (.ptr (.ext 4) 0))), (5, .v (.c (.ptr (.loc 0) 0))), (7, .v (.c (.ptr (.loc 32) 0))), (19, .v (.d (.bool t.2)))], [(.ext 0, .tree .row true 6 l26 none), (.ext 1, .tree .row false 1 l27 none), (.ext 2, .cells [.d (.int .u8 z8), .d (.int .i64 z9), .d (.str s10), .d (.list true 6 l11), .d (.int .i64 z12), .d (.list false 1 l13)]), (.ext 3, .cells [.d (.int .u8 z25)]), (.ext 4, .cells [.fn 37 [.ext 2, .ext 3, .ext 4]]), (.loc 0, .cells [.d (.int .u8 z1), .d (.int .i64 z2), .d (.str s3), .ow (.ext 0), .d (.int .i64 z4), .ow (.ext 1)]), (.loc 32, .cells [.d (.int .u8 0), .d (.int .i64 0), .d (.str ByteArray.empty), .nils true 6, .d (.int .i64 0), .nils false 1])], 416⟩) (fun t => t.1 ≤ m1 ∧ L37_2 t.1 z1 z2 s3 z4 l5 z8 z9 s10 l11 z12 l13 z24 z25 l26 l27 t.2 = some (r1, r2, r3, r4, r5, r6, r7, r8, r9, r10, r11, r12, r13)) ?_ ?_
              · try cbv
                refine splitI (fun e => ?_) (fun e => ?_)
                · replace h := ite_t e h
                  clear e
                  try cbv
                  exact join_next (m1, true) [1, 4, 5, 7, 19] [.ext 0, .ext 1, .ext 2, .ext 3, .ext 4, .loc 0, .loc 32] 416 ⟨by omega, h⟩ (by cbv)
                · replace h := ite_f e h
                  clear e
                  try cbv
                  exact join_next (m1, false) [1, 4, 5, 7, 19] [.ext 0, .ext 1, .ext 2, .ext 3, .ext 4, .loc 0, .loc 32] 416 ⟨by omega, h⟩ (by cbv)
              · clear h
                rintro ⟨m2, b28⟩ ⟨hm2, h⟩
                replace hm2 : m2 ≤ m1 := hm2
                cases m2 with
                | zero =>
                  replace h : L37_2 0 z1 z2 s3 z4 l5 z8 z9 s10 l11 z12 l13 z24 z25 l26 l27 b28 = some (r1, r2, r3, r4, r5, r6, r7, r8, r9, r10, r11, r12, r13) := h
                  rw [L37_2] at h
                  cases h
                | succ m2 =>
                  replace h : L37_2 (m2 + 1) z1 z2 s3 z4 l5 z8 z9 s10 l11 z12 l13 z24 z25 l26 l27 b28 = some (r1, r2, r3, r4, r5, r6, r7, r8, r9, r10, r11, r12, r13) := h
                  rw [L37_2] at h
                  try cbv
                  cases b28
                  · replace h := ite_f Bool.false_ne_true h
                    try cbv
                    exact join_next (m2, (l26, l27, z8, z9, s10, l11, z12, l13, z25)) [5, 7] [.ext 0, .ext 1, .ext 2, .ext 3, .ext 4, .loc 0, .loc 32] 992 ⟨by omega, h⟩ (by cbv)
                  · replace h := ite_t rfl h
                    try cbv
                    refine ⟨_, hx23.1, hx23.2, ?_⟩
                    try cbv
                    refine ⟨_, hx23.1, hx23.2, ?_⟩
                    try cbv
                    replace h := needF_inv h
                    obtain ⟨hn, h⟩ := h
                    refine ⟨(M.lock_iff _).2 hn, ?_⟩
                    clear hn
                    try cbv
                    refine ⟨[], ?_⟩
                    try cbv
                    replace h := getN_inv h
                    obtain ⟨x29, hx, h⟩ := h
                    replace h := ds_t25_inv h
                    obtain ⟨z30, z31, s32, l33, z34, l35, rfl, h⟩ := h
                    refine ⟨_, hx, ?_⟩
                    clear hx
                    try cbv
                    refine ⟨false, ?_⟩
                    try cbv
                    replace h := fromF_inv M h
                    obtain ⟨l36, hb, hz, h⟩ := h
                    refine ⟨l36, hb, hz, ?_⟩
                    clear hb hz
                    try cbv
                    replace h := bO13_inv h
                    obtain ⟨z37, z38, s39, z40, z41, z42, s43, l44, z45, l46, z47, l48, l49, hr, h⟩ := h
                    first | refine .inr (.inr ⟨[.ext 4], ?_⟩) | refine .inr ⟨[.ext 4], ?_⟩
                    try cbv
                    refine call_with hM hI [.loc 803, .loc 805, .ext 2, .ext 3, .ext 4] ((ih _ (by omega)) hr) rfl (by simp) ⟨rfl, ⟨rfl, ⟨rfl, ⟨rfl, ⟨rfl, trivial⟩⟩⟩⟩⟩ ⟨trivial, ⟨trivial, ⟨trivial, ⟨trivial, ⟨trivial, trivial⟩⟩⟩⟩⟩ (by simp) ?_
                    try cbv
                    first | refine ⟨(rfl : (_ : Option AObj) = _), ?_⟩ | skip
                    try cbv
                    clear hr
                    try cbv
                    replace h := needF_inv h
                    obtain ⟨hn, h⟩ := h
                    refine ⟨(M.lock_iff _).2 hn, ?_⟩
                    clear hn
                    try cbv
                    refine ⟨[], ?_⟩
                    try cbv
                    first | refine ⟨(rfl : (_ : Nat) = _), ?_⟩ | skip
                    try cbv
                    refine drawn ?_ ?_
                    · show _ = true
                      kernel_rfl
                    try cbv
                    replace h := setF_inv h
                    obtain ⟨l50, hl50, h⟩ := h
                    refine join_nextG (m2, (l50, l27, z41, z42, s43, l44, z45, l46, z47)) [.close (.ext 0)] [] [5, 7] [.ext 0, .ext 1, .ext 2, .ext 3, .ext 4, .loc 0, .loc 32] 992 ⟨by omega, h⟩ ?_
                    try cbv
                    refine ⟨l50, hl50, ?_⟩
                    clear hl50
                    try cbv
                    first | done | exact rfl | cbv
            · clear h
              rintro ⟨m3, l51, l52, z53, z54, s55, l56, z57, l58, z59⟩ ⟨hm3, h⟩
              replace hm3 : m3 ≤ m1 := hm3
              cases m3 with
              | zero =>
                replace h : L37_3 0 z1 z2 s3 z4 l51 l52 z53 z54 s55 l56 z57 l58 z59 = some (r1, r2, r3, r4, r5, r6, r7, r8, r9, r10, r11, r12, r13) := h
                rw [L37_3] at h
                cases h
              | succ m3 =>
                replace h : L37_3 (m3 + 1) z1 z2 s3 z4 l51 l52 z53 z54 s55 l56 z57 l58 z59 = some (r1, r2, r3, r4, r5, r6, r7, r8, r9, r10, r11, r12, r13) := h
                rw [L37_3] at h
                try cbv
                refine seq_go ?_
                try cbv
                obtain ⟨rfl, rfl, rfl, rfl, rfl, rfl, rfl, rfl, rfl, rfl, rfl, rfl, rfl⟩ := inj13 h
                refine ⟨_, _, _, ⟨rfl, rfl, rfl⟩, [.move (.ext 0), .move (.ext 1)], ?_⟩
                try cbv
                exact ⟨[.loc 1056, .loc 1088], rfl, rfl, ⟨rfl, ⟨rfl, ⟨rfl, trivial⟩⟩⟩, ⟨rfl, ⟨rfl, trivial⟩⟩, trivial⟩
          · replace h := ite_t rfl h
            try cbv
            refine seq_go ?_
            try cbv
            replace h := bO6_inv h
            obtain ⟨z17, z18, s19, z20, l21, l22, hr, h⟩ := h
            refine call_go rfl rfl ?_
            try cbv
            refine call_with hM hI [] (T10 _ hr) rfl (by simp) trivial trivial (by simp) ?_
            clear hr
            try cbv
            obtain ⟨rfl, rfl, rfl, rfl, rfl, rfl, rfl, rfl, rfl, rfl, rfl, rfl, rfl⟩ := inj13 h
            refine ⟨_, _, _, ⟨rfl, rfl, rfl⟩, [.drop (.ext 0), .drop (.ext 1)], ?_⟩
            try cbv
            exact ⟨[.loc 192, .loc 193], rfl, rfl, ⟨rfl, ⟨rfl, ⟨rfl, trivial⟩⟩⟩, ⟨rfl, ⟨rfl, trivial⟩⟩, trivial⟩
end Go.Proofs.YtagiiaejijihoaaDoor
end

set_option linter.unusedVariables false
noncomputable section
namespace Go.Proofs.YtagiiaejijihoaaDoor
open Go Go.AM
def L19_1 : Nat → Int → Int → ByteArray → Int → Int → (List D) → (List D) → Bool → Option (Int × Int × ByteArray × Int × Int × List D × List D)
  | 0, _, _, _, _, _, _, _, _ => none
  | n + 1, z20, z21, s22, z23, z30, l31, l32, b33 =>
    (if b33 = true then some ((0 : Int), (0 : Int), ByteArray.empty, (0 : Int), z30, ([] : List D), ([] : List D)) else some (z20, z21, s22, z23, (0 : Int), l31, l32))
def F19 (n : Nat) (z1 : Int) (z2 : Int) (s3 : ByteArray) (l4 : List D) (z5 : Int) (l6 : List D) (l7 : List D) (z8 : Int) (z9 : Int) (s10 : ByteArray) (l11 : List D) (z12 : Int) (l13 : List D) : Option (Int × Int × ByteArray × Int × Int × List D × List D) :=
  bO6 (F10 n z1 z2 s3 l4 z5 l6) fun z14 z15 s16 z17 l18 l19 => bO13 (F37 n z14 z15 s16 z17 l7 l18 l19 z8 z9 s10 l11 z12 l13 (0 : Int)) fun z20 z21 s22 z23 z24 z25 s26 l27 z28 l29 z30 l31 l32 => (if z30 = (0 : Int) then L19_1 n z20 z21 s22 z23 z30 l31 l32 false else L19_1 n z20 z21 s22 z23 z30 l31 l32 true)
set_option maxRecDepth 100000 in
set_option maxHeartbeats 40000000 in
theorem T19 (n : Nat) : ∀ ⦃z1 : Int⦄ ⦃z2 : Int⦄ ⦃s3 : ByteArray⦄ ⦃l4 : List D⦄ ⦃z5 : Int⦄ ⦃l6 : List D⦄ ⦃l7 : List D⦄ ⦃z8 : Int⦄ ⦃z9 : Int⦄ ⦃s10 : ByteArray⦄ ⦃l11 : List D⦄ ⦃z12 : Int⦄ ⦃l13 : List D⦄ ⦃r1 : Int⦄ ⦃r2 : Int⦄ ⦃r3 : ByteArray⦄ ⦃r4 : Int⦄ ⦃r5 : Int⦄ ⦃r6 : List D⦄ ⦃r7 : List D⦄, F19 n z1 z2 s3 l4 z5 l6 l7 z8 z9 s10 l11 z12 l13 = some (r1, r2, r3, r4, r5, r6, r7) →
    Trip Tryd.prog inv 19 [.d (.agg [.int .u8 z1, .int .i64 z2, .str s3, .list true 6 l4, .int .i64 z5, .list false 1 l6]), .d (.list false 1 l7), .d (.agg [.int .u8 z8, .int .i64 z9, .str s10, .list true 6 l11, .int .i64 z12, .list false 1 l13])] [] (.t [.agg [.d (.int .u8 r1), .d (.int .i64 r2), .d (.str r3), .ow (.loc 0), .d (.int .i64 r4), .ow (.loc 1)], .d (.int .u8 r5)]) [] [.tree .row true 6 r6 none, .tree .row false 1 r7 none] := by
  intro z1 z2 s3 l4 z5 l6 l7 z8 z9 s10 l11 z12 l13 r1 r2 r3 r4 r5 r6 r7 h
  unfold F19 at h
  refine Trip.of tab_ok tab_one fol Tryd.func19 rfl (by kernel_rfl) rfl rfl rfl (fun M hM hI => ?_)
  try cbv
  refine seq_go ?_
  try cbv
  refine seq_go ?_
  try cbv
  refine seq_go ?_
  try cbv
  refine seq_go ?_
  try cbv
  refine seq_go ?_
  try cbv
  replace h := bO6_inv h
  obtain ⟨z14, z15, s16, z17, l18, l19, hr, h⟩ := h
  first | refine .inr (.inl ⟨[], ?_⟩) | refine .inl ⟨[], ?_⟩
  try cbv
  refine call_with hM hI [] (T10 _ hr) rfl (by simp) trivial trivial (by simp) ?_
  clear hr
  try cbv
  replace h := bO13_inv h
  obtain ⟨z20, z21, s22, z23, z24, z25, s26, l27, z28, l29, z30, l31, l32, hr, h⟩ := h
  first | refine .inr (.inr ⟨[.loc 192], ?_⟩) | refine .inr ⟨[.loc 192], ?_⟩
  try cbv
  refine call_with hM hI [.loc 352, .loc 353, .loc 32, .loc 128, .loc 192] (T37 _ hr) rfl (by simp) ⟨rfl, ⟨rfl, ⟨rfl, ⟨rfl, ⟨rfl, trivial⟩⟩⟩⟩⟩ ⟨trivial, ⟨trivial, ⟨trivial, ⟨trivial, ⟨trivial, trivial⟩⟩⟩⟩⟩ (by simp) ?_
  try cbv
  first | refine ⟨(rfl : (_ : Option AObj) = _), ?_⟩ | skip
  try cbv
  clear hr
  try cbv
  refine drawn ?_ ?_
  · show _ = true
    kernel_rfl
  try cbv
  refine seq_go ?_
  try cbv
  refine seq_join (T := Nat × Bool) (fun t => ⟨[(6, .v (.c (.ptr (.loc 64) 0))), (7, .v (.d (.int .u8 0))), (8, .v (.c (.ptr (.loc 128) 0))), (10, .v (.c (.ptr (.loc 448) 0))), (18, .v (.d (.bool t.2)))], [(.loc 64, .cells [.d (.int .u8 0), .d (.int .i64 0), .d (.str ByteArray.empty), .nils true 6, .d (.int .i64 0), .nils false 1]), (.loc 128, .cells [.d (.int .u8 z30)]), (.loc 448, .cells [.d (.int .u8 z20), .d (.int .i64 z21), .d (.str s22), .ow (.loc 416), .d (.int .i64 z23), .ow (.loc 417)]), (.loc 416, .tree .row true 6 l31 none), (.loc 417, .tree .row false 1 l32 none)], 576⟩) (fun t => t.1 ≤ n ∧ L19_1 t.1 z20 z21 s22 z23 z30 l31 l32 t.2 = some (r1, r2, r3, r4, r5, r6, r7)) ?_ ?_
  · try cbv
    refine splitI (fun e => ?_) (fun e => ?_)
    · replace h := ite_t e h
      clear e
      try cbv
      exact join_next (n, false) [6, 7, 8, 10, 18] [.loc 64, .loc 128, .loc 448, .loc 416, .loc 417] 576 ⟨by omega, h⟩ (by cbv)
    · replace h := ite_f e h
      clear e
      try cbv
      exact join_next (n, true) [6, 7, 8, 10, 18] [.loc 64, .loc 128, .loc 448, .loc 416, .loc 417] 576 ⟨by omega, h⟩ (by cbv)
  · clear h
    rintro ⟨m1, b33⟩ ⟨hm1, h⟩
    replace hm1 : m1 ≤ n := hm1
    cases m1 with
    | zero =>
      replace h : L19_1 0 z20 z21 s22 z23 z30 l31 l32 b33 = some (r1, r2, r3, r4, r5, r6, r7) := h
      rw [L19_1] at h
      cases h
    | succ m1 =>
      replace h : L19_1 (m1 + 1) z20 z21 s22 z23 z30 l31 l32 b33 = some (r1, r2, r3, r4, r5, r6, r7) := h
      rw [L19_1] at h
      try cbv
      cases b33
      · replace h := ite_f Bool.false_ne_true h
        try cbv
        refine seq_go ?_
        try cbv
        obtain ⟨rfl, rfl, rfl, rfl, rfl, rfl, rfl⟩ := inj7 h
        refine fin_go ?_
        try cbv
        exact ⟨[.loc 416, .loc 417], rfl, rfl, trivial, ⟨rfl, ⟨rfl, trivial⟩⟩, trivial⟩
      · replace h := ite_t rfl h
        try cbv
        refine seq_go ?_
        try cbv
        refine drawn ?_ ?_
        · show _ = true
          kernel_rfl
        try cbv
        obtain ⟨rfl, rfl, rfl, rfl, rfl, rfl, rfl⟩ := inj7 h
        refine ⟨_, _, _, ⟨rfl, rfl, rfl⟩, [.treeC (.loc 64) 3 true 6, .treeC (.loc 64) 5 false 1], ?_⟩
        try cbv
        exact ⟨[.loc 704, .loc 736], rfl, rfl, trivial, ⟨rfl, ⟨rfl, trivial⟩⟩, trivial⟩
end Go.Proofs.YtagiiaejijihoaaDoor
end

set_option linter.unusedVariables false
noncomputable section
namespace Go.Proofs.YtagiiaejijihoaaDoor
open Go Go.AM
def L38_2 : Nat → Bool → Option (Int)
  | 0, _ => none
  | n + 1, b11 =>
    (if b11 = true then some (6 : Int) else some (0 : Int))
def L38_1 : Nat → Int → (List D) → Int → Bool → Option (Int)
  | 0, _, _, _, _ => none
  | n + 1, z1, l4, z7, b8 =>
    (if b8 = true then some (3 : Int) else (if z1 = (4 : Int) then (if z7 < (0 : Int) then L38_2 n true else lenF l4 fun z9 => (if z9 ≤ z7 then L38_2 n true else L38_2 n false)) else (if z1 = (5 : Int) then (if z7 < (0 : Int) then L38_2 n true else lenF l4 fun z10 => (if z10 ≤ z7 then L38_2 n true else L38_2 n false)) else L38_2 n true)))
def F38 (n : Nat) (z1 : Int) (z2 : Int) (s3 : ByteArray) (l4 : List D) (z5 : Int) (l6 : List D) (z7 : Int) : Option (Int) :=
  (if z1 = (0 : Int) then L38_1 n z1 l4 z7 true else L38_1 n z1 l4 z7 false)
set_option maxRecDepth 100000 in
set_option maxHeartbeats 40000000 in
theorem T38 (n : Nat) : ∀ ⦃z1 : Int⦄ ⦃z2 : Int⦄ ⦃s3 : ByteArray⦄ ⦃l4 : List D⦄ ⦃z5 : Int⦄ ⦃l6 : List D⦄ ⦃z7 : Int⦄ ⦃r1 : Int⦄, F38 n z1 z2 s3 l4 z5 l6 z7 = some r1 →
    Trip Tryd.prog inv 38 [.d (.agg [.int .u8 z1, .int .i64 z2, .str s3, .list true 6 l4, .int .i64 z5, .list false 1 l6]), .d (.int .i64 z7)] [] (.v (.d (.int .u8 r1))) [] [] := by
  intro z1 z2 s3 l4 z5 l6 z7 r1 h
  unfold F38 at h
  refine Trip.of tab_ok tab_one fol Tryd.func38 rfl (by kernel_rfl) rfl rfl rfl (fun M hM hI => ?_)
  try cbv
  refine seq_go ?_
  try cbv
  refine seq_go ?_
  try cbv
  refine seq_join (T := Nat × Bool) (fun t => ⟨[(1, .v (.d (.int .i64 z7))), (2, .v (.c (.ptr (.loc 0) 0))), (4, .v (.d (.int .u8 0))), (5, .v (.d (.bool t.2)))], [(.loc 0, .cells [.d (.int .u8 z1), .d (.int .i64 z2), .d (.str s3), .d (.list true 6 l4), .d (.int .i64 z5), .d (.list false 1 l6)])], 192⟩) (fun t => t.1 ≤ n ∧ L38_1 t.1 z1 l4 z7 t.2 = some r1) ?_ ?_
  · try cbv
    refine splitI (fun e => ?_) (fun e => ?_)
    · replace h := ite_t e h
      clear e
      try cbv
      exact join_next (n, true) [1, 2, 4, 5] [.loc 0] 192 ⟨by omega, h⟩ (by cbv)
    · replace h := ite_f e h
      clear e
      try cbv
      exact join_next (n, false) [1, 2, 4, 5] [.loc 0] 192 ⟨by omega, h⟩ (by cbv)
  · clear h
    rintro ⟨m1, b8⟩ ⟨hm1, h⟩
    replace hm1 : m1 ≤ n := hm1
    cases m1 with
    | zero =>
      replace h : L38_1 0 z1 l4 z7 b8 = some r1 := h
      rw [L38_1] at h
      cases h
    | succ m1 =>
      replace h : L38_1 (m1 + 1) z1 l4 z7 b8 = some r1 := h
      rw [L38_1] at h
      try cbv
      cases b8
      · replace h := ite_f Bool.false_ne_true h
        try cbv
        refine seq_join (T := Nat × Bool) (fun t => ⟨[(4, .v (.d (.int .u8 0))), (9, .v (.d (.bool t.2)))], [], 832⟩) (fun t => t.1 ≤ m1 ∧ L38_2 t.1 t.2 = some r1) ?_ ?_
        · try cbv
          refine splitI (fun e => ?_) (fun e => ?_)
          · replace h := ite_t e h
            clear e
            try cbv
            refine splitL (fun e => ?_) (fun e => ?_)
            · replace h := ite_t e h
              clear e
              try cbv
              exact join_next (m1, true) [4, 9] [] 832 ⟨by omega, h⟩ (by cbv)
            · replace h := ite_f (Int.not_lt.2 e) h
              clear e
              try cbv
              replace h := lenF_inv M h
              obtain ⟨z9, hz, h⟩ := h
              refine ⟨z9, hz, ?_⟩
              clear hz
              try cbv
              refine splitLe (fun e => ?_) (fun e => ?_)
              · replace h := ite_t e h
                clear e
                try cbv
                exact join_next (m1, true) [4, 9] [] 832 ⟨by omega, h⟩ (by cbv)
              · replace h := ite_f (Int.not_le.2 e) h
                clear e
                try cbv
                exact join_next (m1, false) [4, 9] [] 832 ⟨by omega, h⟩ (by cbv)
          · replace h := ite_f e h
            clear e
            try cbv
            refine splitI (fun e => ?_) (fun e => ?_)
            · replace h := ite_t e h
              clear e
              try cbv
              refine splitL (fun e => ?_) (fun e => ?_)
              · replace h := ite_t e h
                clear e
                try cbv
                exact join_next (m1, true) [4, 9] [] 832 ⟨by omega, h⟩ (by cbv)
              · replace h := ite_f (Int.not_lt.2 e) h
                clear e
                try cbv
                replace h := lenF_inv M h
                obtain ⟨z10, hz, h⟩ := h
                refine ⟨z10, hz, ?_⟩
                clear hz
                try cbv
                refine splitLe (fun e => ?_) (fun e => ?_)
                · replace h := ite_t e h
                  clear e
                  try cbv
                  exact join_next (m1, true) [4, 9] [] 832 ⟨by omega, h⟩ (by cbv)
                · replace h := ite_f (Int.not_le.2 e) h
                  clear e
                  try cbv
                  exact join_next (m1, false) [4, 9] [] 832 ⟨by omega, h⟩ (by cbv)
            · replace h := ite_f e h
              clear e
              try cbv
              exact join_next (m1, true) [4, 9] [] 832 ⟨by omega, h⟩ (by cbv)
        · clear h
          rintro ⟨m2, b11⟩ ⟨hm2, h⟩
          replace hm2 : m2 ≤ m1 := hm2
          cases m2 with
          | zero =>
            replace h : L38_2 0 b11 = some r1 := h
            rw [L38_2] at h
            cases h
          | succ m2 =>
            replace h : L38_2 (m2 + 1) b11 = some r1 := h
            rw [L38_2] at h
            try cbv
            cases b11
            · replace h := ite_f Bool.false_ne_true h
              try cbv
              refine seq_go ?_
              try cbv
              obtain rfl := Option.some.inj h
              refine fin_go ?_
              try cbv
              exact ⟨[], rfl, rfl, trivial, trivial, trivial⟩
            · replace h := ite_t rfl h
              try cbv
              refine seq_go ?_
              try cbv
              obtain rfl := Option.some.inj h
              refine fin_go ?_
              try cbv
              exact ⟨[], rfl, rfl, trivial, trivial, trivial⟩
      · replace h := ite_t rfl h
        try cbv
        refine seq_go ?_
        try cbv
        obtain rfl := Option.some.inj h
        refine fin_go ?_
        try cbv
        exact ⟨[], rfl, rfl, trivial, trivial, trivial⟩
end Go.Proofs.YtagiiaejijihoaaDoor
end

set_option linter.unusedVariables false
noncomputable section
namespace Go.Proofs.YtagiiaejijihoaaDoor
open Go Go.AM
def L20_4 : Nat → Int → Int → ByteArray → (List D) → Int → (List D) → Bool → Option (Int × Int × ByteArray × List D × Int × List D × Int)
  | 0, _, _, _, _, _, _, _ => none
  | n + 1, z10, z11, s12, l13, z14, l15, b29 =>
    (if b29 = true then some ((0 : Int), (0 : Int), ByteArray.empty, ([] : List D), (0 : Int), ([] : List D), (3 : Int)) else bO6 (F10 n z10 z11 s12 l13 z14 l15) fun z30 z31 s32 z33 l34 l35 => some (z30, z31, s32, l34, z33, l35, (0 : Int)))
mutual
def L20_1 : Nat → (List D) → Int → Int → Int → Int → ByteArray → (List D) → Int → (List D) → Option (Int × Int × ByteArray × List D × Int × List D × Int)
  | 0, _, _, _, _, _, _, _, _, _ => none
  | n + 1, l7, z8, z9, z10, z11, s12, l13, z14, l15 =>
    (if z9 < z8 then L20_2 n l7 z8 z9 z10 z11 s12 l13 z14 l15 true else L20_2 n l7 z8 z9 z10 z11 s12 l13 z14 l15 false)
def L20_2 : Nat → (List D) → Int → Int → Int → Int → ByteArray → (List D) → Int → (List D) → Bool → Option (Int × Int × ByteArray × List D × Int × List D × Int)
  | 0, _, _, _, _, _, _, _, _, _, _ => none
  | n + 1, l7, z8, z9, z10, z11, s12, l13, z14, l15, b16 =>
    (if b16 = true then getF l7 z9 fun x17 => ds_i64 x17 fun z18 => bO1 (F38 n z10 z11 s12 l13 z14 l15 z18) fun z19 => (if z19 = (0 : Int) then L20_3 n l7 z8 z9 l13 z18 z19 false else L20_3 n l7 z8 z9 l13 z18 z19 true) else (if z10 = (0 : Int) then L20_4 n z10 z11 s12 l13 z14 l15 true else L20_4 n z10 z11 s12 l13 z14 l15 false))
def L20_3 : Nat → (List D) → Int → Int → (List D) → Int → Int → Bool → Option (Int × Int × ByteArray × List D × Int × List D × Int)
  | 0, _, _, _, _, _, _, _ => none
  | n + 1, l7, z8, z9, l13, z18, z19, b20 =>
    (if b20 = true then some ((0 : Int), (0 : Int), ByteArray.empty, ([] : List D), (0 : Int), ([] : List D), z19) else getF l13 z18 fun x21 => ds_t25 x21 fun z22 z23 s24 l25 z26 l27 => letF (IntKind.wrap .i64 (z9 + 1)) fun z28 => L20_1 n l7 z8 z28 z22 z23 s24 l25 z26 l27)
end
def F20 (n : Nat) (z1 : Int) (z2 : Int) (s3 : ByteArray) (l4 : List D) (z5 : Int) (l6 : List D) (l7 : List D) : Option (Int × Int × ByteArray × List D × Int × List D × Int) :=
  lenF l7 fun z8 => L20_1 n l7 z8 (0 : Int) z1 z2 s3 l4 z5 l6
set_option maxRecDepth 100000 in
set_option maxHeartbeats 40000000 in
theorem T20 (n : Nat) : ∀ ⦃z1 : Int⦄ ⦃z2 : Int⦄ ⦃s3 : ByteArray⦄ ⦃l4 : List D⦄ ⦃z5 : Int⦄ ⦃l6 : List D⦄ ⦃l7 : List D⦄ ⦃r1 : Int⦄ ⦃r2 : Int⦄ ⦃r3 : ByteArray⦄ ⦃r4 : List D⦄ ⦃r5 : Int⦄ ⦃r6 : List D⦄ ⦃r7 : Int⦄, F20 n z1 z2 s3 l4 z5 l6 l7 = some (r1, r2, r3, r4, r5, r6, r7) →
    Trip Tryd.prog inv 20 [.d (.agg [.int .u8 z1, .int .i64 z2, .str s3, .list true 6 l4, .int .i64 z5, .list false 1 l6]), .d (.list false 1 l7)] [] (.t [.d (.agg [.int .u8 r1, .int .i64 r2, .str r3, .list true 6 r4, .int .i64 r5, .list false 1 r6]), .d (.int .u8 r7)]) [] [] := by
  intro z1 z2 s3 l4 z5 l6 l7 r1 r2 r3 r4 r5 r6 r7 h
  unfold F20 at h
  refine Trip.of tab_ok tab_one fol Tryd.func20 rfl (by kernel_rfl) rfl rfl rfl (fun M hM hI => ?_)
  try cbv
  refine seq_go ?_
  try cbv
  refine seq_go ?_
  try cbv
  refine seq_go ?_
  try cbv
  replace h := lenF_inv M h
  obtain ⟨z8, hz, h⟩ := h
  refine ⟨z8, hz, ?_⟩
  clear hz
  try cbv
  refine loop_inv (T := Nat × Int × Int × Int × ByteArray × List D × Int × List D) [2, 4, 5, 9, 10, 11] [.loc 0, .loc 32] 192 (fun t => ⟨[(2, .v (.c (.ptr (.loc 0) 0))), (4, .v (.c (.ptr (.loc 32) 0))), (5, .v (.d (.int .u8 0))), (9, .v (.d (.list false 1 l7))), (10, .v (.d (.int .i64 z8))), (11, .v (.d (.int .i64 t.2.1)))], [(.loc 0, .cells [.d (.int .u8 t.2.2.1), .d (.int .i64 t.2.2.2.1), .d (.str t.2.2.2.2.1), .d (.list true 6 t.2.2.2.2.2.1), .d (.int .i64 t.2.2.2.2.2.2.1), .d (.list false 1 t.2.2.2.2.2.2.2)]), (.loc 32, .cells [.d (.int .u8 0), .d (.int .i64 0), .d (.str ByteArray.empty), .nils true 6, .d (.int .i64 0), .nils false 1])], 192⟩)
    (fun t => t.1 ≤ n ∧ L20_1 t.1 l7 z8 t.2.1 t.2.2.1 t.2.2.2.1 t.2.2.2.2.1 t.2.2.2.2.2.1 t.2.2.2.2.2.2.1 t.2.2.2.2.2.2.2 = some (r1, r2, r3, r4, r5, r6, r7)) (fun t => t.1) (n, ((0 : Int), z1, z2, s3, l4, z5, l6)) ⟨Nat.le_refl _, h⟩ (by cbv) ?_
  clear h
  rintro ⟨m1, z9, z10, z11, s12, l13, z14, l15⟩ ⟨hm1, h⟩
  replace hm1 : m1 ≤ n := hm1
  cases m1 with
  | zero =>
    replace h : L20_1 0 l7 z8 z9 z10 z11 s12 l13 z14 l15 = some (r1, r2, r3, r4, r5, r6, r7) := h
    rw [L20_1] at h
    cases h
  | succ m1 =>
    replace h : L20_1 (m1 + 1) l7 z8 z9 z10 z11 s12 l13 z14 l15 = some (r1, r2, r3, r4, r5, r6, r7) := h
    rw [L20_1] at h
    try cbv
    refine seq_join (T := Nat × Bool) (fun t => ⟨[(2, .v (.c (.ptr (.loc 0) 0))), (4, .v (.c (.ptr (.loc 32) 0))), (5, .v (.d (.int .u8 0))), (9, .v (.d (.list false 1 l7))), (10, .v (.d (.int .i64 z8))), (11, .v (.d (.int .i64 z9))), (12, .v (.d (.bool t.2)))], [(.loc 0, .cells [.d (.int .u8 z10), .d (.int .i64 z11), .d (.str s12), .d (.list true 6 l13), .d (.int .i64 z14), .d (.list false 1 l15)]), (.loc 32, .cells [.d (.int .u8 0), .d (.int .i64 0), .d (.str ByteArray.empty), .nils true 6, .d (.int .i64 0), .nils false 1])], 224⟩) (fun t => t.1 ≤ m1 ∧ L20_2 t.1 l7 z8 z9 z10 z11 s12 l13 z14 l15 t.2 = some (r1, r2, r3, r4, r5, r6, r7)) ?_ ?_
    · try cbv
      refine splitL (fun e => ?_) (fun e => ?_)
      · replace h := ite_t e h
        clear e
        try cbv
        exact join_next (m1, true) [2, 4, 5, 9, 10, 11, 12] [.loc 0, .loc 32] 224 ⟨by omega, h⟩ (by cbv)
      · replace h := ite_f (Int.not_lt.2 e) h
        clear e
        try cbv
        exact join_next (m1, false) [2, 4, 5, 9, 10, 11, 12] [.loc 0, .loc 32] 224 ⟨by omega, h⟩ (by cbv)
    · clear h
      rintro ⟨m2, b16⟩ ⟨hm2, h⟩
      replace hm2 : m2 ≤ m1 := hm2
      cases m2 with
      | zero =>
        replace h : L20_2 0 l7 z8 z9 z10 z11 s12 l13 z14 l15 b16 = some (r1, r2, r3, r4, r5, r6, r7) := h
        rw [L20_2] at h
        cases h
      | succ m2 =>
        replace h : L20_2 (m2 + 1) l7 z8 z9 z10 z11 s12 l13 z14 l15 b16 = some (r1, r2, r3, r4, r5, r6, r7) := h
        rw [L20_2] at h
        try cbv
        refine seq_go ?_
        try cbv
        cases b16
        · replace h := ite_f Bool.false_ne_true h
          try cbv
          refine seq_go ?_
          try cbv
          refine seq_join (T := Nat × Bool) (fun t => ⟨[(2, .v (.c (.ptr (.loc 0) 0))), (4, .v (.c (.ptr (.loc 32) 0))), (5, .v (.d (.int .u8 0))), (30, .v (.d (.bool t.2)))], [(.loc 0, .cells [.d (.int .u8 z10), .d (.int .i64 z11), .d (.str s12), .d (.list true 6 l13), .d (.int .i64 z14), .d (.list false 1 l15)]), (.loc 32, .cells [.d (.int .u8 0), .d (.int .i64 0), .d (.str ByteArray.empty), .nils true 6, .d (.int .i64 0), .nils false 1])], 320⟩) (fun t => t.1 ≤ m2 ∧ L20_4 t.1 z10 z11 s12 l13 z14 l15 t.2 = some (r1, r2, r3, r4, r5, r6, r7)) ?_ ?_
          · try cbv
            refine splitI (fun e => ?_) (fun e => ?_)
            · replace h := ite_t e h
              clear e
              try cbv
              exact join_next (m2, true) [2, 4, 5, 30] [.loc 0, .loc 32] 320 ⟨by omega, h⟩ (by cbv)
            · replace h := ite_f e h
              clear e
              try cbv
              exact join_next (m2, false) [2, 4, 5, 30] [.loc 0, .loc 32] 320 ⟨by omega, h⟩ (by cbv)
          · clear h
            rintro ⟨m4, b29⟩ ⟨hm4, h⟩
            replace hm4 : m4 ≤ m2 := hm4
            cases m4 with
            | zero =>
              replace h : L20_4 0 z10 z11 s12 l13 z14 l15 b29 = some (r1, r2, r3, r4, r5, r6, r7) := h
              rw [L20_4] at h
              cases h
            | succ m4 =>
              replace h : L20_4 (m4 + 1) z10 z11 s12 l13 z14 l15 b29 = some (r1, r2, r3, r4, r5, r6, r7) := h
              rw [L20_4] at h
              try cbv
              cases b29
              · replace h := ite_f Bool.false_ne_true h
                try cbv
                refine seq_go ?_
                try cbv
                replace h := bO6_inv h
                obtain ⟨z30, z31, s32, z33, l34, l35, hr, h⟩ := h
                refine call_go rfl rfl ?_
                try cbv
                refine call_with hM hI [] (T10 _ hr) rfl (by simp) trivial trivial (by simp) ?_
                clear hr
                try cbv
                obtain ⟨rfl, rfl, rfl, rfl, rfl, rfl, rfl⟩ := inj7 h
                refine ⟨_, _, _, ⟨rfl, rfl, rfl⟩, [.freeze (.loc 352), .freeze (.loc 353)], ?_⟩
                try cbv
                exact ⟨[], rfl, rfl, trivial, trivial, trivial⟩
              · replace h := ite_t rfl h
                try cbv
                refine seq_go ?_
                try cbv
                obtain ⟨rfl, rfl, rfl, rfl, rfl, rfl, rfl⟩ := inj7 h
                refine fin_go ?_
                try cbv
                exact ⟨[], rfl, rfl, trivial, trivial, trivial⟩
        · replace h := ite_t rfl h
          try cbv
          refine seq_go ?_
          try cbv
          refine seq_go ?_
          try cbv
          replace h := getF_inv h
          obtain ⟨x17, hx17, h⟩ := h
          replace h := ds_i64_inv h
          obtain ⟨z18, rfl, h⟩ := h
          refine ⟨_, hx17.1, hx17.2, ?_⟩
          try cbv
          refine seq_go ?_
          try cbv
          refine seq_go ?_
          try cbv
          replace h := bO1_inv h
          obtain ⟨z19, hr, h⟩ := h
          refine call_go rfl rfl ?_
          try cbv
          refine call_pure hM hI (T38 _ hr) rfl ?_
          clear hr
          try cbv
          refine seq_join (T := Nat × Bool) (fun t => ⟨[(2, .v (.c (.ptr (.loc 0) 0))), (4, .v (.c (.ptr (.loc 32) 0))), (5, .v (.d (.int .u8 0))), (7, .v (.d (.int .i64 z18))), (8, .v (.d (.int .u8 z19))), (9, .v (.d (.list false 1 l7))), (10, .v (.d (.int .i64 z8))), (11, .v (.d (.int .i64 z9))), (19, .v (.d (.bool t.2)))], [(.loc 0, .cells [.d (.int .u8 z10), .d (.int .i64 z11), .d (.str s12), .d (.list true 6 l13), .d (.int .i64 z14), .d (.list false 1 l15)]), (.loc 32, .cells [.d (.int .u8 0), .d (.int .i64 0), .d (.str ByteArray.empty), .nils true 6, .d (.int .i64 0), .nils false 1])], 512⟩) (fun t => t.1 ≤ m2 ∧ L20_3 t.1 l7 z8 z9 l13 z18 z19 t.2 = some (r1, r2, r3, r4, r5, r6, r7)) ?_ ?_
          · try cbv
            refine splitI (fun e => ?_) (fun e => ?_)
            · replace h := ite_t e h
              clear e
              try cbv
              exact join_next (m2, false) [2, 4, 5, 7, 8, 9, 10, 11, 19] [.loc 0, .loc 32] 512 ⟨by omega, h⟩ (by cbv)
            · replace h := ite_f e h
              clear e
              try cbv
              exact join_next (m2, true) [2, 4, 5, 7, 8, 9, 10, 11, 19] [.loc 0, .loc 32] 512 ⟨by omega, h⟩ (by cbv)
          · clear h
            rintro ⟨m3, b20⟩ ⟨hm3, h⟩
            replace hm3 : m3 ≤ m2 := hm3
            cases m3 with
            | zero =>
              replace h : L20_3 0 l7 z8 z9 l13 z18 z19 b20 = some (r1, r2, r3, r4, r5, r6, r7) := h
              rw [L20_3] at h
              cases h
            | succ m3 =>
              replace h : L20_3 (m3 + 1) l7 z8 z9 l13 z18 z19 b20 = some (r1, r2, r3, r4, r5, r6, r7) := h
              rw [L20_3] at h
              try cbv
              cases b20
              · replace h := ite_f Bool.false_ne_true h
                try cbv
                replace h := getF_inv h
                obtain ⟨x21, hx21, h⟩ := h
                replace h := ds_t25_inv h
                obtain ⟨z22, z23, s24, l25, z26, l27, rfl, h⟩ := h
                refine ⟨_, hx21.1, hx21.2, ?_⟩
                try cbv
                replace h := letF_inv h
                obtain ⟨z28, hz, h⟩ := h
                refine ⟨z28, hz, ?_⟩
                clear hz
                try cbv
                exact loop_next (m3, (z28, z22, z23, s24, l25, z26, l27)) [2, 4, 5, 9, 10, 11] [.loc 0, .loc 32] 192 ⟨by omega, h⟩ (Nat.lt_succ_of_le (by omega)) (by cbv)
              · replace h := ite_t rfl h
                try cbv
                refine seq_go ?_
                try cbv
                obtain ⟨rfl, rfl, rfl, rfl, rfl, rfl, rfl⟩ := inj7 h
                refine fin_go ?_
                try cbv
                exact ⟨[], rfl, rfl, trivial, trivial, trivial⟩
end Go.Proofs.YtagiiaejijihoaaDoor
end

set_option linter.unusedVariables false
noncomputable section
namespace Go.Proofs.YtagiiaejijihoaaDoor
open Go Go.AM
mutual
def L27_2 : Nat → (List D) → (List D) → Int → Option (Bool)
  | 0, _, _, _ => none
  | n + 1, l1, l2, z6 =>
    lenF l1 fun z7 => (if z6 < z7 then L27_3 n l1 l2 z6 true else L27_3 n l1 l2 z6 false)
def L27_3 : Nat → (List D) → (List D) → Int → Bool → Option (Bool)
  | 0, _, _, _, _ => none
  | n + 1, l1, l2, z6, b8 =>
    (if b8 = true then getF l1 z6 fun x9 => ds_i64 x9 fun z10 => getF l2 z6 fun x11 => ds_i64 x11 fun z12 => (if z10 = z12 then L27_4 n l1 l2 z6 false else L27_4 n l1 l2 z6 true) else some true)
def L27_4 : Nat → (List D) → (List D) → Int → Bool → Option (Bool)
  | 0, _, _, _, _ => none
  | n + 1, l1, l2, z6, b13 =>
    (if b13 = true then some false else letF (IntKind.wrap .i64 (z6 + 1)) fun z14 => L27_2 n l1 l2 z14)
end
def L27_1 : Nat → (List D) → (List D) → Bool → Option (Bool)
  | 0, _, _, _ => none
  | n + 1, l1, l2, b5 =>
    (if b5 = true then some false else L27_2 n l1 l2 (0 : Int))
def F27 (n : Nat) (l1 : List D) (l2 : List D) : Option (Bool) :=
  lenF l1 fun z3 => lenF l2 fun z4 => (if z3 = z4 then L27_1 n l1 l2 false else L27_1 n l1 l2 true)
set_option maxRecDepth 100000 in
set_option maxHeartbeats 40000000 in
theorem T27 (n : Nat) : ∀ ⦃l1 : List D⦄ ⦃l2 : List D⦄ ⦃r1 : Bool⦄, F27 n l1 l2 = some r1 →
    Trip Tryd.prog inv 27 [.d (.list false 1 l1), .d (.list false 1 l2)] [] (.v (.d (.bool r1))) [] [] := by
  intro l1 l2 r1 h
  unfold F27 at h
  refine Trip.of tab_ok tab_one fol Tryd.func27 rfl (by kernel_rfl) rfl rfl rfl (fun M hM hI => ?_)
  try cbv
  refine seq_go ?_
  try cbv
  refine seq_go ?_
  try cbv
  refine seq_join (T := Nat × Bool) (fun t => ⟨[(0, .v (.d (.list false 1 l1))), (1, .v (.d (.list false 1 l2))), (4, .v (.d (.bool false))), (10, .v (.d (.bool t.2)))], [], 192⟩) (fun t => t.1 ≤ n ∧ L27_1 t.1 l1 l2 t.2 = some r1) ?_ ?_
  · try cbv
    replace h := lenF_inv M h
    obtain ⟨z3, hz, h⟩ := h
    refine ⟨z3, hz, ?_⟩
    clear hz
    try cbv
    replace h := lenF_inv M h
    obtain ⟨z4, hz, h⟩ := h
    refine ⟨z4, hz, ?_⟩
    clear hz
    try cbv
    refine splitI (fun e => ?_) (fun e => ?_)
    · replace h := ite_t e h
      clear e
      try cbv
      exact join_next (n, false) [0, 1, 4, 10] [] 192 ⟨by omega, h⟩ (by cbv)
    · replace h := ite_f e h
      clear e
      try cbv
      exact join_next (n, true) [0, 1, 4, 10] [] 192 ⟨by omega, h⟩ (by cbv)
  · clear h
    rintro ⟨m1, b5⟩ ⟨hm1, h⟩
    replace hm1 : m1 ≤ n := hm1
    cases m1 with
    | zero =>
      replace h : L27_1 0 l1 l2 b5 = some r1 := h
      rw [L27_1] at h
      cases h
    | succ m1 =>
      replace h : L27_1 (m1 + 1) l1 l2 b5 = some r1 := h
      rw [L27_1] at h
      try cbv
      cases b5
      · replace h := ite_f Bool.false_ne_true h
        try cbv
        refine seq_go ?_
        try cbv
        refine seq_go ?_
        try cbv
        refine loop_inv (T := Nat × Int) [0, 1, 4, 5] [] 224 (fun t => ⟨[(0, .v (.d (.list false 1 l1))), (1, .v (.d (.list false 1 l2))), (4, .v (.d (.bool false))), (5, .v (.d (.int .i64 t.2)))], [], 224⟩)
          (fun t => t.1 ≤ m1 ∧ L27_2 t.1 l1 l2 t.2 = some r1) (fun t => t.1) (m1, (0 : Int)) ⟨Nat.le_refl _, h⟩ (by cbv) ?_
        clear h
        rintro ⟨m2, z6⟩ ⟨hm2, h⟩
        replace hm2 : m2 ≤ m1 := hm2
        cases m2 with
        | zero =>
          replace h : L27_2 0 l1 l2 z6 = some r1 := h
          rw [L27_2] at h
          cases h
        | succ m2 =>
          replace h : L27_2 (m2 + 1) l1 l2 z6 = some r1 := h
          rw [L27_2] at h
          try cbv
          refine seq_go ?_
          try cbv
          refine seq_join (T := Nat × Bool) (fun t => ⟨[(0, .v (.d (.list false 1 l1))), (1, .v (.d (.list false 1 l2))), (4, .v (.d (.bool false))), (5, .v (.d (.int .i64 z6))), (14, .v (.d (.bool t.2)))], [], 352⟩) (fun t => t.1 ≤ m2 ∧ L27_3 t.1 l1 l2 z6 t.2 = some r1) ?_ ?_
          · try cbv
            replace h := lenF_inv M h
            obtain ⟨z7, hz, h⟩ := h
            refine ⟨z7, hz, ?_⟩
            clear hz
            try cbv
            refine splitL (fun e => ?_) (fun e => ?_)
            · replace h := ite_t e h
              clear e
              try cbv
              exact join_next (m2, true) [0, 1, 4, 5, 14] [] 352 ⟨by omega, h⟩ (by cbv)
            · replace h := ite_f (Int.not_lt.2 e) h
              clear e
              try cbv
              exact join_next (m2, false) [0, 1, 4, 5, 14] [] 352 ⟨by omega, h⟩ (by cbv)
          · clear h
            rintro ⟨m3, b8⟩ ⟨hm3, h⟩
            replace hm3 : m3 ≤ m2 := hm3
            cases m3 with
            | zero =>
              replace h : L27_3 0 l1 l2 z6 b8 = some r1 := h
              rw [L27_3] at h
              cases h
            | succ m3 =>
              replace h : L27_3 (m3 + 1) l1 l2 z6 b8 = some r1 := h
              rw [L27_3] at h
              try cbv
              cases b8
              · replace h := ite_f Bool.false_ne_true h
                try cbv
                refine seq_go ?_
                try cbv
                obtain rfl := Option.some.inj h
                refine fin_go ?_
                try cbv
                exact ⟨[], rfl, rfl, trivial, trivial, trivial⟩
              · replace h := ite_t rfl h
                try cbv
                refine seq_go ?_
                try cbv
                refine seq_join (T := Nat × Bool) (fun t => ⟨[(0, .v (.d (.list false 1 l1))), (1, .v (.d (.list false 1 l2))), (4, .v (.d (.bool false))), (5, .v (.d (.int .i64 z6))), (25, .v (.d (.bool t.2)))], [], 640⟩) (fun t => t.1 ≤ m3 ∧ L27_4 t.1 l1 l2 z6 t.2 = some r1) ?_ ?_
                · try cbv
                  replace h := getF_inv h
                  obtain ⟨x9, hx9, h⟩ := h
                  replace h := ds_i64_inv h
                  obtain ⟨z10, rfl, h⟩ := h
                  refine ⟨_, hx9.1, hx9.2, ?_⟩
                  try cbv
                  replace h := getF_inv h
                  obtain ⟨x11, hx11, h⟩ := h
                  replace h := ds_i64_inv h
                  obtain ⟨z12, rfl, h⟩ := h
                  refine ⟨_, hx11.1, hx11.2, ?_⟩
                  try cbv
                  refine splitI (fun e => ?_) (fun e => ?_)
                  · replace h := ite_t e h
                    clear e
                    try cbv
                    refine drawn ?_ ?_
                    · show _ = true
                      kernel_rfl
                    try cbv
                    exact join_next (m3, false) [0, 1, 4, 5, 25] [] 640 ⟨by omega, h⟩ (by cbv)
                  · replace h := ite_f e h
                    clear e
                    try cbv
                    refine drawn ?_ ?_
                    · show _ = true
                      kernel_rfl
                    try cbv
                    exact join_next (m3, true) [0, 1, 4, 5, 25] [] 640 ⟨by omega, h⟩ (by cbv)
                · clear h
                  rintro ⟨m4, b13⟩ ⟨hm4, h⟩
                  replace hm4 : m4 ≤ m3 := hm4
                  cases m4 with
                  | zero =>
                    replace h : L27_4 0 l1 l2 z6 b13 = some r1 := h
                    rw [L27_4] at h
                    cases h
                  | succ m4 =>
                    replace h : L27_4 (m4 + 1) l1 l2 z6 b13 = some r1 := h
                    rw [L27_4] at h
                    try cbv
                    cases b13
                    · replace h := ite_f Bool.false_ne_true h
                      try cbv
                      replace h := letF_inv h
                      obtain ⟨z14, hz, h⟩ := h
                      refine ⟨z14, hz, ?_⟩
                      clear hz
                      try cbv
                      exact loop_next (m4, z14) [0, 1, 4, 5] [] 224 ⟨by omega, h⟩ (Nat.lt_succ_of_le (by omega)) (by cbv)
                    · replace h := ite_t rfl h
                      try cbv
                      refine seq_go ?_
                      try cbv
                      obtain rfl := Option.some.inj h
                      refine fin_go ?_
                      try cbv
                      exact ⟨[], rfl, rfl, trivial, trivial, trivial⟩
      · replace h := ite_t rfl h
        try cbv
        refine seq_go ?_
        try cbv
        obtain rfl := Option.some.inj h
        refine fin_go ?_
        try cbv
        exact ⟨[], rfl, rfl, trivial, trivial, trivial⟩
end Go.Proofs.YtagiiaejijihoaaDoor
end

set_option linter.unusedVariables false
noncomputable section
namespace Go.Proofs.YtagiiaejijihoaaDoor
open Go Go.AM
mutual
def L28_1 : Nat → (List D) → (List D) → Bool → Option (Bool)
  | 0, _, _, _ => none
  | n + 1, l1, l2, b5 =>
    (if b5 = true then some false else L28_2 n l1 l2 (0 : Int))
def L28_2 : Nat → (List D) → (List D) → Int → Option (Bool)
  | 0, _, _, _ => none
  | n + 1, l1, l2, z6 =>
    lenF l1 fun z7 => (if z6 < z7 then L28_3 n l1 l2 z6 true else L28_3 n l1 l2 z6 false)
def L28_3 : Nat → (List D) → (List D) → Int → Bool → Option (Bool)
  | 0, _, _, _, _ => none
  | n + 1, l1, l2, z6, b8 =>
    (if b8 = true then getF l1 z6 fun x9 => ds_t25 x9 fun z10 z11 s12 l13 z14 l15 => getF l2 z6 fun x16 => ds_t25 x16 fun z17 z18 s19 l20 z21 l22 => bO1 (F11 n z10 z11 s12 l13 z14 l15 z17 z18 s19 l20 z21 l22) fun b23 => letB (!b23) fun b24 => (if b24 = true then some false else letF (IntKind.wrap .i64 (z6 + 1)) fun z25 => L28_2 n l1 l2 z25) else some true)
def F28 : Nat → (List D) → (List D) → Option (Bool)
  | 0, _, _ => none
  | n + 1, l1, l2 =>
    lenF l1 fun z3 => lenF l2 fun z4 => (if z3 = z4 then L28_1 n l1 l2 false else L28_1 n l1 l2 true)
def F11 : Nat → Int → Int → ByteArray → (List D) → Int → (List D) → Int → Int → ByteArray → (List D) → Int → (List D) → Option (Bool)
  | 0, _, _, _, _, _, _, _, _, _, _, _, _ => none
  | n + 1, z1, z2, s3, l4, z5, l6, z7, z8, s9, l10, z11, l12 =>
    (if z1 = z7 then (if z2 = z8 then (if s3 = s9 then (if z5 = z11 then bO1 (F27 n l6 l12) fun b13 => (if b13 = true then bO1 (F28 n l4 l10) fun b14 => some b14 else some false) else some false) else some false) else some false) else some false)
end
set_option maxRecDepth 100000 in
set_option maxHeartbeats 40000000 in
theorem G28 (n : Nat) : (∀ ⦃l1 : List D⦄ ⦃l2 : List D⦄ ⦃r1 : Bool⦄, F28 n l1 l2 = some r1 →
    Trip Tryd.prog inv 28 [.d (.list true 6 l1), .d (.list true 6 l2)] [] (.v (.d (.bool r1))) [] []) ∧
    (∀ ⦃z1 : Int⦄ ⦃z2 : Int⦄ ⦃s3 : ByteArray⦄ ⦃l4 : List D⦄ ⦃z5 : Int⦄ ⦃l6 : List D⦄ ⦃z7 : Int⦄ ⦃z8 : Int⦄ ⦃s9 : ByteArray⦄ ⦃l10 : List D⦄ ⦃z11 : Int⦄ ⦃l12 : List D⦄ ⦃r1 : Bool⦄, F11 n z1 z2 s3 l4 z5 l6 z7 z8 s9 l10 z11 l12 = some r1 →
    Trip Tryd.prog inv 11 [.d (.agg [.int .u8 z1, .int .i64 z2, .str s3, .list true 6 l4, .int .i64 z5, .list false 1 l6]), .d (.agg [.int .u8 z7, .int .i64 z8, .str s9, .list true 6 l10, .int .i64 z11, .list false 1 l12])] [] (.v (.d (.bool r1))) [] []) := by
  induction n using Nat.strongRecOn with
  | _ n ih =>
    cases n with
    | zero =>
      refine ⟨?_, ?_⟩
      · intro l1 l2 r1 h
        cases (show (none : Option _) = some _ from h)
      · intro z1 z2 s3 l4 z5 l6 z7 z8 s9 l10 z11 l12 r1 h
        cases (show (none : Option _) = some _ from h)
    | succ n =>
      refine ⟨?_, ?_⟩
      · intro l1 l2 r1 h
        rw [F28] at h
        refine Trip.of tab_ok tab_one fol Tryd.func28 rfl (by kernel_rfl) rfl rfl rfl (fun M hM hI => ?_)
        try cbv
        refine seq_go ?_
        try cbv
        refine seq_go ?_
        try cbv
        refine seq_join (T := Nat × Bool) (fun t => ⟨[(0, .v (.d (.list true 6 l1))), (1, .v (.d (.list true 6 l2))), (4, .v (.d (.bool false))), (10, .v (.d (.bool t.2)))], [], 192⟩) (fun t => t.1 ≤ n ∧ L28_1 t.1 l1 l2 t.2 = some r1) ?_ ?_
        · try cbv
          replace h := lenF_inv M h
          obtain ⟨z3, hz, h⟩ := h
          refine ⟨z3, hz, ?_⟩
          clear hz
          try cbv
          replace h := lenF_inv M h
          obtain ⟨z4, hz, h⟩ := h
          refine ⟨z4, hz, ?_⟩
          clear hz
          try cbv
          refine splitI (fun e => ?_) (fun e => ?_)
          · replace h := ite_t e h
            clear e
            try cbv
            exact join_next (n, false) [0, 1, 4, 10] [] 192 ⟨by omega, h⟩ (by cbv)
          · replace h := ite_f e h
            clear e
            try cbv
            exact join_next (n, true) [0, 1, 4, 10] [] 192 ⟨by omega, h⟩ (by cbv)
        · clear h
          rintro ⟨m1, b5⟩ ⟨hm1, h⟩
          replace hm1 : m1 ≤ n := hm1
          cases m1 with
          | zero =>
            replace h : L28_1 0 l1 l2 b5 = some r1 := h
            rw [L28_1] at h
            cases h
          | succ m1 =>
            replace h : L28_1 (m1 + 1) l1 l2 b5 = some r1 := h
            rw [L28_1] at h
            try cbv
            cases b5
            · replace h := ite_f Bool.false_ne_true h
              try cbv
              refine seq_go ?_
              try cbv
              refine seq_go ?_
              try cbv
              refine loop_inv (T := Nat × Int) [0, 1, 4, 5] [] 224 (fun t => ⟨[(0, .v (.d (.list true 6 l1))), (1, .v (.d (.list true 6 l2))), (4, .v (.d (.bool false))), (5, .v (.d (.int .i64 t.2)))], [], 224⟩)
                (fun t => t.1 ≤ m1 ∧ L28_2 t.1 l1 l2 t.2 = some r1) (fun t => t.1) (m1, (0 : Int)) ⟨Nat.le_refl _, h⟩ (by cbv) ?_
              clear h
              rintro ⟨m2, z6⟩ ⟨hm2, h⟩
              replace hm2 : m2 ≤ m1 := hm2
              cases m2 with
              | zero =>
                replace h : L28_2 0 l1 l2 z6 = some r1 := h
                rw [L28_2] at h
                cases h
              | succ m2 =>
                replace h : L28_2 (m2 + 1) l1 l2 z6 = some r1 := h
                rw [L28_2] at h
                try cbv
                refine seq_go ?_
                try cbv
                refine seq_join (T := Nat × Bool) (fun t => ⟨[(0, .v (.d (.list true 6 l1))), (1, .v (.d (.list true 6 l2))), (4, .v (.d (.bool false))), (5, .v (.d (.int .i64 z6))), (14, .v (.d (.bool t.2)))], [], 352⟩) (fun t => t.1 ≤ m2 ∧ L28_3 t.1 l1 l2 z6 t.2 = some r1) ?_ ?_
                · try cbv
                  replace h := lenF_inv M h
                  obtain ⟨z7, hz, h⟩ := h
                  refine ⟨z7, hz, ?_⟩
                  clear hz
                  try cbv
                  refine splitL (fun e => ?_) (fun e => ?_)
                  · replace h := ite_t e h
                    clear e
                    try cbv
                    exact join_next (m2, true) [0, 1, 4, 5, 14] [] 352 ⟨by omega, h⟩ (by cbv)
                  · replace h := ite_f (Int.not_lt.2 e) h
                    clear e
                    try cbv
                    exact join_next (m2, false) [0, 1, 4, 5, 14] [] 352 ⟨by omega, h⟩ (by cbv)
                · clear h
                  rintro ⟨m3, b8⟩ ⟨hm3, h⟩
                  replace hm3 : m3 ≤ m2 := hm3
                  cases m3 with
                  | zero =>
                    replace h : L28_3 0 l1 l2 z6 b8 = some r1 := h
                    rw [L28_3] at h
                    cases h
                  | succ m3 =>
                    replace h : L28_3 (m3 + 1) l1 l2 z6 b8 = some r1 := h
                    rw [L28_3] at h
                    try cbv
                    cases b8
                    · replace h := ite_f Bool.false_ne_true h
                      try cbv
                      refine seq_go ?_
                      try cbv
                      obtain rfl := Option.some.inj h
                      refine fin_go ?_
                      try cbv
                      exact ⟨[], rfl, rfl, trivial, trivial, trivial⟩
                    · replace h := ite_t rfl h
                      try cbv
                      refine seq_go ?_
                      try cbv
                      refine seq_go ?_
                      try cbv
                      replace h := getF_inv h
                      obtain ⟨x9, hx9, h⟩ := h
                      replace h := ds_t25_inv h
                      obtain ⟨z10, z11, s12, l13, z14, l15, rfl, h⟩ := h
                      refine ⟨_, hx9.1, hx9.2, ?_⟩
                      try cbv
                      replace h := getF_inv h
                      obtain ⟨x16, hx16, h⟩ := h
                      replace h := ds_t25_inv h
                      obtain ⟨z17, z18, s19, l20, z21, l22, rfl, h⟩ := h
                      refine ⟨_, hx16.1, hx16.2, ?_⟩
                      try cbv
                      replace h := bO1_inv h
                      obtain ⟨b23, hr, h⟩ := h
                      first | refine .inr (.inl ⟨[], ?_⟩) | refine .inl ⟨[], ?_⟩
                      try cbv
                      refine call_pure hM hI ((ih _ (by omega)).2 hr) rfl ?_
                      clear hr
                      try cbv
                      replace h := letB_inv h
                      obtain ⟨b24, hz, h⟩ := h
                      refine ⟨b24, not_eq' hz, ?_⟩
                      clear hz
                      try cbv
                      refine drawn ?_ ?_
                      · show _ = true
                        kernel_rfl
                      try cbv
                      cases b24
                      · replace h := ite_f Bool.false_ne_true h
                        try cbv
                        replace h := letF_inv h
                        obtain ⟨z25, hz, h⟩ := h
                        refine ⟨z25, hz, ?_⟩
                        clear hz
                        try cbv
                        exact loop_next (m3, z25) [0, 1, 4, 5] [] 224 ⟨by omega, h⟩ (Nat.lt_succ_of_le (by omega)) (by cbv)
                      · replace h := ite_t rfl h
                        try cbv
                        refine seq_go ?_
                        try cbv
                        obtain rfl := Option.some.inj h
                        refine fin_go ?_
                        try cbv
                        exact ⟨[], rfl, rfl, trivial, trivial, trivial⟩
            · replace h := ite_t rfl h
              try cbv
              refine seq_go ?_
              try cbv
              obtain rfl := Option.some.inj h
              refine fin_go ?_
              try cbv
              exact ⟨[], rfl, rfl, trivial, trivial, trivial⟩
      · intro z1 z2 s3 l4 z5 l6 z7 z8 s9 l10 z11 l12 r1 h
        rw [F11] at h
        refine Trip.of tab_ok tab_one fol Tryd.func11 rfl (by kernel_rfl) rfl rfl rfl (fun M hM hI => ?_)
        try cbv
        refine seq_go ?_
        try cbv
        refine seq_go ?_
        try cbv
        refine splitI (fun e => ?_) (fun e => ?_)
        · replace h := ite_t e h
          clear e
          try cbv
          refine splitI (fun e => ?_) (fun e => ?_)
          · replace h := ite_t e h
            clear e
            try cbv
            refine splitS (fun e => ?_) (fun e => ?_)
            · replace h := ite_t (bytes_eq.1 e) h
              clear e
              try cbv
              refine splitI (fun e => ?_) (fun e => ?_)
              · replace h := ite_t e h
                clear e
                try cbv
                replace h := bO1_inv h
                obtain ⟨b13, hr, h⟩ := h
                refine call_go rfl rfl ?_
                try cbv
                refine call_pure hM hI (T27 _ hr) rfl ?_
                clear hr
                try cbv
                cases b13
                · replace h := ite_f Bool.false_ne_true h
                  try cbv
                  obtain rfl := Option.some.inj h
                  refine fin_go ?_
                  try cbv
                  exact ⟨[], rfl, rfl, trivial, trivial, trivial⟩
                · replace h := ite_t rfl h
                  try cbv
                  replace h := bO1_inv h
                  obtain ⟨b14, hr, h⟩ := h
                  refine call_go rfl rfl ?_
                  try cbv
                  refine call_pure hM hI ((ih _ (by omega)).1 hr) rfl ?_
                  clear hr
                  try cbv
                  obtain rfl := Option.some.inj h
                  refine fin_go ?_
                  try cbv
                  exact ⟨[], rfl, rfl, trivial, trivial, trivial⟩
              · replace h := ite_f e h
                clear e
                try cbv
                obtain rfl := Option.some.inj h
                refine fin_go ?_
                try cbv
                exact ⟨[], rfl, rfl, trivial, trivial, trivial⟩
            · replace h := ite_f (bytes_ne.1 e) h
              clear e
              try cbv
              obtain rfl := Option.some.inj h
              refine fin_go ?_
              try cbv
              exact ⟨[], rfl, rfl, trivial, trivial, trivial⟩
          · replace h := ite_f e h
            clear e
            try cbv
            obtain rfl := Option.some.inj h
            refine fin_go ?_
            try cbv
            exact ⟨[], rfl, rfl, trivial, trivial, trivial⟩
        · replace h := ite_f e h
          clear e
          try cbv
          obtain rfl := Option.some.inj h
          refine fin_go ?_
          try cbv
          exact ⟨[], rfl, rfl, trivial, trivial, trivial⟩
theorem T11 (n : Nat) : ∀ ⦃z1 : Int⦄ ⦃z2 : Int⦄ ⦃s3 : ByteArray⦄ ⦃l4 : List D⦄ ⦃z5 : Int⦄ ⦃l6 : List D⦄ ⦃z7 : Int⦄ ⦃z8 : Int⦄ ⦃s9 : ByteArray⦄ ⦃l10 : List D⦄ ⦃z11 : Int⦄ ⦃l12 : List D⦄ ⦃r1 : Bool⦄, F11 n z1 z2 s3 l4 z5 l6 z7 z8 s9 l10 z11 l12 = some r1 →
    Trip Tryd.prog inv 11 [.d (.agg [.int .u8 z1, .int .i64 z2, .str s3, .list true 6 l4, .int .i64 z5, .list false 1 l6]), .d (.agg [.int .u8 z7, .int .i64 z8, .str s9, .list true 6 l10, .int .i64 z11, .list false 1 l12])] [] (.v (.d (.bool r1))) [] [] := (G28 n).2
end Go.Proofs.YtagiiaejijihoaaDoor
end

set_option linter.unusedVariables false
noncomputable section
namespace Go.Proofs.YtagiiaejijihoaaDoor
open Go Go.AM

theorem iw {z : Int} (h1 : -9223372036854775808 ≤ z) (h2 : z ≤ 9223372036854775807) : IntKind.i64.wrap z = z := IntWalk.i64_in _ (by omega)
theorem ilt {i n : Nat} (h : i < n) : (i : Int) < (n : Int) := by omega
theorem need_pos {γ : Type} {p : Prop} [Decidable p] (h : p) (x : Option γ) : needF p x = x := if_pos h
theorem appF_ok {γ : Type} {b : Nat} {L M : List D} {k : List D → Option γ} (h : L.length + M.length ≤ maxLen ∧ (L.length + M.length) * b ≤ 140737488355328) : appF b L M k = k (L ++ M) := by
  unfold appF
  exact if_pos h
theorem getN_some {γ : Type} {L : List D} {i : Nat} {x : D} {k : D → Option γ} (h : L[i]? = some x) : getN L i k = k x := by unfold getN; rw [h]

structure VV where
  k : Int
  i : Int
  nm : ByteArray
  fs : List D
  id : Int
  pt : List D
def VV.row (v : VV) : D := .agg [.int .u8 v.k, .int .i64 v.i, .str v.nm, .list true 6 v.fs, .int .i64 v.id, .list false 1 v.pt]
def zeroV : VV := ⟨0, 0, ByteArray.empty, [], 0, []⟩
def un : D → VV
  | .agg [.int _ a0, .int _ a1, .str a2, .list _ _ a3, .int _ a4, .list _ _ a5] => ⟨a0, a1, a2, a3, a4, a5⟩
  | _ => zeroV
theorem un_row (v : VV) : un v.row = v := rfl
theorem row_inj {v w : VV} (h : v.row = w.row) : v = w := by rw [← un_row v, h, un_row]
structure VT (v : VV) : Prop where
  k : (Lit.int .u8 v.k).wf = true
  i : (Lit.int .i64 v.i).wf = true
  nm : v.nm.size ≤ maxLen
  fs : ListS tab 25 v.fs
  id : (Lit.int .i64 v.id).wf = true
  pt : ListS tab 3 v.pt
inductive Sm : List D → Prop
  | mk {l : List D} (h : l.length ≤ 500) (hp : ∀ v : VV, v.row ∈ l → v.pt.length ≤ 5000) (hf : ∀ v : VV, v.row ∈ l → Sm v.fs) : Sm l
theorem Sm.len {l : List D} (h : Sm l) : l.length ≤ 500 := by cases h; assumption
theorem Sm.pt {l : List D} (h : Sm l) {v : VV} (hv : v.row ∈ l) : v.pt.length ≤ 5000 := by
  cases h with
  | mk h hp hf => exact hp v hv
theorem Sm.fs {l : List D} (h : Sm l) {v : VV} (hv : v.row ∈ l) : Sm v.fs := by
  cases h with
  | mk h hp hf => exact hf v hv
structure VS (v : VV) : Prop where
  t : VT v
  p : v.pt.length ≤ 5000
  f : Sm v.fs
theorem rowV {l : List D} (h : ListS tab 25 l) {i : Nat} (hi : i < l.length) : ∃ v : VV, l[i]? = some v.row ∧ v.row ∈ l ∧ VT v := by
  obtain ⟨x, hx, hm, hr⟩ := h.get hi
  obtain ⟨a0, a1, a2, a3, a4, a5, rfl, w0, w1, w2, w3, w4, w5⟩ := rs25 hr
  exact ⟨⟨a0, a1, a2, a3, a4, a5⟩, hx, hm, ⟨w0, w1, w2, w3, w4, w5⟩⟩
theorem ds25 {γ : Type} (v : VV) (k : Int → Int → ByteArray → List D → Int → List D → Option γ) : ds_t25 v.row k = k v.k v.i v.nm v.fs v.id v.pt := rfl
theorem size_fs {l : List D} {v : VV} (h : v.row ∈ l) : SizeOf.sizeOf v.fs < SizeOf.sizeOf l := size_row (ag := true) (sz := 6) h (by simp)
theorem intsS {l : List D} (h : ListS tab 3 l) : ∃ q : List Int, l = q.map (D.int .i64) ∧ ∀ z ∈ q, (Lit.int .i64 z).wf = true := by
  induction l with
  | nil => exact ⟨[], rfl, by simp⟩
  | cons x l ih =>
    obtain ⟨q, rfl, hq⟩ := ih ⟨by have := h.1; simp only [List.length_cons] at this; omega, fun y hy => h.2 y (List.mem_cons_of_mem _ hy)⟩
    obtain ⟨z, rfl, hz⟩ := rs3 (h.2 x (by simp))
    exact ⟨z :: q, rfl, fun y hy => by rcases List.mem_cons.1 hy with rfl | hy; exact hz; exact hq y hy⟩
abbrev pD (q : List Int) : List D := q.map (D.int .i64)

theorem ev24 (l : List D) : ListS tab 25 l → ∀ z : Int, -1 ≤ z → z ≤ 5000 → ∃ r, Ev (fun n => F24 n l z) r ∧ -1 ≤ r ∧ r ≤ z + 0 ∧ (0 ≤ r → Sm l ∧ 10 * (l.length : Int) ≤ z - r) := by
  refine list_ind (P := fun l => ListS tab 25 l → ∀ z : Int, -1 ≤ z → z ≤ 5000 → ∃ r, Ev (fun n => F24 n l z) r ∧ -1 ≤ r ∧ r ≤ z + 0 ∧ (0 ≤ r → Sm l ∧ 10 * (l.length : Int) ≤ z - r)) (fun l ih h => ?_) l
  have loop : ∀ i : Nat, i ≤ l.length → ∀ z : Int, -1 ≤ z → z ≤ 5000 → ∃ r, Ev (fun n => L24_1 n l z (i : Int)) r ∧ -1 ≤ r ∧ r ≤ z ∧
      (0 ≤ r → 10 * ((l.length : Int) - i) ≤ z - r ∧ ∀ j : Nat, i ≤ j → ∀ v : VV, l[j]? = some v.row → v.pt.length ≤ 5000 ∧ Sm v.fs) := by
    refine down l.length ?_ ?_
    · intro z h1 h2
      refine ⟨z, .succ ?_, h1, Int.le_refl _, fun _ => ⟨by omega, fun j hj v hv => absurd ((List.getElem?_eq_some_iff.1 hv).1) (by omega)⟩⟩
      simp only [L24_1, lenF, Int.lt_irrefl, if_false]
      exact .succ (by simp only [L24_2, Bool.false_eq_true, if_false]; exact .ret)
    · intro i hi ihd z h1 h2
      by_cases hz : 0 ≤ z
      · obtain ⟨v, hx, hm, hv⟩ := rowV h hi
        have hw := iw (z := z - 10) (by omega) (by omega)
        have fail : ∀ z14, ∃ r, Ev (fun n => L24_3 n l (i : Int) v.nm v.fs v.pt z14 true) r ∧ r = -1 := fun z14 => ⟨-1, .succ (by simp only [L24_3, if_true]; exact .ret), rfl⟩
        have hsz : v.nm.size = (v.nm.data.toList).length := (Array.length_toList (xs := v.nm.data)).symm
        by_cases c1 : z - 10 < 0
        · refine ⟨-1, .succ ?_, by omega, by omega, by omega⟩
          simp only [L24_1, lenF, if_pos (ilt hi), if_pos hz]
          refine .succ ?_
          simp only [L24_2, if_true, getF_nat hx, ds25, letF, hw, if_pos c1]
          exact .succ (by simp only [L24_3, if_true]; exact .ret)
        by_cases c2 : z - 10 < (v.nm.size : Int)
        · refine ⟨-1, .succ ?_, by omega, by omega, by omega⟩
          simp only [L24_1, lenF, if_pos (ilt hi), if_pos hz]
          refine .succ ?_
          simp only [L24_2, if_true, getF_nat hx, ds25, letF, hw, if_neg c1, szF, if_pos c2]
          exact .succ (by simp only [L24_3, if_true]; exact .ret)
        have hw2 := iw (z := z - 10 - (v.nm.size : Int)) (by omega) (by omega)
        by_cases c3 : z - 10 - (v.nm.size : Int) < (v.pt.length : Int)
        · refine ⟨-1, .succ ?_, by omega, by omega, by omega⟩
          simp only [L24_1, lenF, if_pos (ilt hi), if_pos hz]
          refine .succ ?_
          simp only [L24_2, if_true, getF_nat hx, ds25, letF, hw, if_neg c1, szF, if_neg c2, lenF, hw2, if_pos c3]
          exact .succ (by simp only [L24_3, if_true]; exact .ret)
        have hw3 := iw (z := z - 10 - (v.nm.size : Int) - (v.pt.length : Int)) (by omega) (by omega)
        obtain ⟨y, e1, e2, e3, e4⟩ := ih v.fs (size_fs hm) hv.fs (z - 10 - (v.nm.size : Int) - (v.pt.length : Int)) (by omega) (by omega)
        obtain ⟨r, k1, k2, k3, k4⟩ := ihd y (by omega) (by omega)
        refine ⟨r, .succ ?_, k2, by omega, fun hr => ⟨?_, ?_⟩⟩
        · simp only [L24_1, lenF, if_pos (ilt hi), if_pos hz]
          refine .succ ?_
          simp only [L24_2, if_true, getF_nat hx, ds25, letF, hw, if_neg c1, szF, if_neg c2, lenF, hw2, if_neg c3]
          refine .succ ?_
          simp only [L24_3, Bool.false_eq_true, if_false, szF, letF, hw2, lenF, hw3]
          refine Ev.bO1 e1 ?_
          simp only [letF, wrap_succ hi h.1]
          exact k1
        · have := (k4 hr).1
          have := (e4 (by omega)).2
          omega
        · intro j hj w hw'
          by_cases e : j = i
          · subst e
            rw [hx] at hw'
            obtain rfl := row_inj (Option.some.inj hw')
            exact ⟨by omega, (e4 (by omega)).1⟩
          · exact (k4 hr).2 j (by omega) w hw'
      · refine ⟨z, .succ ?_, h1, Int.le_refl _, by omega⟩
        simp only [L24_1, lenF, if_pos (ilt hi), if_neg hz]
        exact .succ (by simp only [L24_2, Bool.false_eq_true, if_false]; exact .ret)
  intro z h1 h2
  obtain ⟨r, k1, k2, k3, k4⟩ := loop 0 (Nat.zero_le _) z h1 h2
  refine ⟨r, .succ (by simp only [F24]; exact k1), k2, by omega, fun hr => ?_⟩
  obtain ⟨q1, q2⟩ := k4 hr
  refine ⟨.mk (by omega) (fun v hv => ?_) (fun v hv => ?_), by omega⟩
  · obtain ⟨j, hj⟩ := List.getElem?_of_mem hv
    exact (q2 j (Nat.zero_le _) v hj).1
  · obtain ⟨j, hj⟩ := List.getElem?_of_mem hv
    exact (q2 j (Nat.zero_le _) v hj).2
theorem VT.rowS {v : VV} (h : VT v) : RowS tab 25 v.row := mk25 h.k h.i h.nm h.fs h.id h.pt
theorem one_sm {v : VV} (h : Sm [v.row]) : v.pt.length ≤ 5000 ∧ Sm v.fs := ⟨h.pt (by simp), h.fs (by simp)⟩
theorem ev8 {v x : VV} (hv : VT v) (hx : VT x) (l : List D) : ∃ b, Ev (fun n => F8 n v.k v.i v.nm v.fs v.id v.pt x.k x.i x.nm x.fs x.id x.pt l) b ∧ (b = false → VS v ∧ VS x ∧ l.length ≤ 100) := by
  unfold F8
  by_cases c : (100 : Int) < (l.length : Int)
  · exact ⟨true, by simp only [lenF, if_pos c]; exact .ret, fun h => by cases h⟩
  · simp only [lenF, if_neg c]
    obtain ⟨y, e1, e2, e3, e4⟩ := ev24 [v.row] (.one hv.rowS) 5000 (by omega) (by omega)
    obtain ⟨r, k1, k2, k3, k4⟩ := ev24 [x.row] (.one hx.rowS) y (by omega) (by omega)
    by_cases hr : r < 0
    · exact ⟨true, Ev.bO1 e1 (Ev.bO1 k1 (by simp only [if_pos hr]; exact .ret)), fun h => by cases h⟩
    · refine ⟨false, Ev.bO1 e1 (Ev.bO1 k1 (by simp only [if_neg hr]; exact .ret)), fun _ => ?_⟩
      obtain ⟨p1, p2⟩ := one_sm (e4 (by omega)).1
      obtain ⟨q1, q2⟩ := one_sm (k4 (by omega)).1
      exact ⟨⟨hv, p1, p2⟩, ⟨hx, q1, q2⟩, by omega⟩

theorem Ev.nilF {l : List D} {A B : Nat → Option (List D)} {r : List D} (hB : Ev B r) (hA : l = [] → Ev A r) : Ev (fun n => nilF l (A n) (B n)) r := by
  by_cases e : l = []
  · obtain ⟨N, h1⟩ := hA e
    obtain ⟨M, h2⟩ := hB
    refine ⟨N + M, fun n hn => ?_⟩
    show AM.nilF l (A n) (B n) = some r
    rw [nilF_eq (fun _ => by rw [h1 n (by omega), h2 n (by omega)])]
    exact h2 n (by omega)
  · obtain ⟨M, h2⟩ := hB
    refine ⟨M, fun n hn => ?_⟩
    show AM.nilF l (A n) (B n) = some r
    rw [nilF_eq (fun h => absurd h e)]
    exact h2 n hn
theorem scal_ints {l : List D} (h : ListS tab 3 l) : scalB l = true := by
  obtain ⟨q, rfl, _⟩ := intsS h
  unfold scalB
  simp [D.cells, isCon]
theorem ev26 {l : List D} (h : ListS tab 3 l) (hl : l.length ≤ 5000) : Ev (fun n => F26 n l) l := by
  unfold F26
  refine Ev.nilF (.succ ?_) (fun e => ?_)
  · have hM : 5000 < maxLen := by decide
    simp only [L26_1, Bool.false_eq_true, if_false]
    rw [need_pos (scal_ints h)]
    unfold appF
    rw [if_pos (by simp only [List.length_nil]; omega)]
    exact .ret
  · subst e
    exact .succ (by simp only [L26_1, if_true]; exact .ret)
theorem ev10L (l : List D) : ListS tab 25 l → Sm l → ∀ (z1 z2 : Int) (s3 : ByteArray) (z5 : Int) (l6 : List D), ListS tab 3 l6 → l6.length ≤ 5000 → Ev (fun n => F10 n z1 z2 s3 l z5 l6) (z1, z2, s3, z5, l, l6) := by
  refine list_ind (P := fun l => ListS tab 25 l → Sm l → ∀ (z1 z2 : Int) (s3 : ByteArray) (z5 : Int) (l6 : List D), ListS tab 3 l6 → l6.length ≤ 5000 → Ev (fun n => F10 n z1 z2 s3 l z5 l6) (z1, z2, s3, z5, l, l6)) (fun l ih h hs z1 z2 s3 z5 l6 h6 h6' => ?_) l
  have hM : 5000 < maxLen := by decide
  have hl := hs.len
  have loop : ∀ i : Nat, i ≤ l.length → Ev (fun n => L10_1 n z1 z2 s3 l z5 l6 (l.length : Int) (i : Int) (l.take i)) (z1, z2, s3, z5, l, l6) := by
    refine down l.length ?_ ?_
    · refine .succ ?_
      simp only [L10_1, Int.lt_irrefl, if_false]
      refine .succ ?_
      simp only [L10_2, Bool.false_eq_true, if_false, List.take_length]
      exact Ev.bO1 (ev26 h6 h6') .ret
    · intro i hi ihd
      obtain ⟨v, hx, hm, hv⟩ := rowV h hi
      have ht : l.take (i + 1) = l.take i ++ [v.row] := by rw [List.take_add_one, hx]; rfl
      refine .succ ?_
      simp only [L10_1, if_pos (ilt hi)]
      refine .succ ?_
      simp only [L10_2, if_true, getF_nat hx, ds25]
      refine Ev.bO6 (ih v.fs (size_fs hm) hv.fs (hs.fs hm) v.k v.i v.nm v.id v.pt hv.pt (hs.pt hm)) ?_
      have hb : (l.take i).length + [v.row].length ≤ maxLen ∧ ((l.take i).length + [v.row].length) * 88 ≤ 140737488355328 := by simp only [List.length_take, List.length_cons, List.length_nil]; omega
      have ha : ∀ k : List D → Option (Int × Int × ByteArray × Int × List D × List D), appF 88 (l.take i) [.agg [.int .u8 v.k, .int .i64 v.i, .str v.nm, .list true 6 v.fs, .int .i64 v.id, .list false 1 v.pt]] k = k (l.take i ++ [v.row]) := fun k => appF_ok hb
      simp only [ha, letF, wrap_succ hi h.1]
      rw [ht] at ihd
      exact ihd
  refine .succ ?_
  simp only [F10, lenF]
  exact loop 0 (Nat.zero_le _)
theorem ev10 {v : VV} (h : VS v) : Ev (fun n => F10 n v.k v.i v.nm v.fs v.id v.pt) (v.k, v.i, v.nm, v.id, v.fs, v.pt) := ev10L v.fs h.t.fs h.f _ _ _ _ _ h.t.pt h.p

theorem ints_ev {q q' : List Int} (h : q.length ≤ maxLen) : Ev (fun n => F27 n (pD q) (pD q')) (decide (q = q')) := by
  unfold F27
  simp only [lenF, List.length_map]
  by_cases e : q.length = q'.length
  · simp only [if_pos (show (q.length : Int) = (q'.length : Int) by omega)]
    refine .succ ?_
    simp only [L27_1, Bool.false_eq_true, if_false]
    have loop : ∀ i : Nat, i ≤ q.length → Ev (fun n => L27_2 n (pD q) (pD q') (i : Int)) (decide (q.drop i = q'.drop i)) := by
      refine down _ ?_ (fun i hi ih => ?_)
      · refine .succ ?_
        simp only [L27_2, lenF, List.length_map, Int.lt_irrefl, if_false]
        rw [List.drop_length, e, List.drop_length, decide_eq_true rfl]
        exact .succ (by simp only [L27_3, Bool.false_eq_true, if_false]; exact .ret)
      · have hi' : i < q'.length := by omega
        have h1 : (pD q)[i]? = some (.int .i64 q[i]) := by simp [hi]
        have h2 : (pD q')[i]? = some (.int .i64 q'[i]) := by simp [hi']
        have d1 := List.drop_eq_getElem_cons hi
        have d2 := List.drop_eq_getElem_cons hi'
        refine .succ ?_
        simp only [L27_2, lenF, List.length_map, if_pos (ilt hi)]
        refine .succ ?_
        simp only [L27_3, if_true, getF_nat h1, getF_nat h2, ds_i64]
        by_cases c : q[i] = q'[i]
        · simp only [if_pos c]
          refine .succ ?_
          simp only [L27_4, Bool.false_eq_true, if_false, letF, wrap_succ hi h]
          have : decide (q.drop i = q'.drop i) = decide (q.drop (i + 1) = q'.drop (i + 1)) := by
            rw [d1, d2, c]; exact decide_eq_decide.2 ⟨fun h => (List.cons.inj h).2, fun h => by rw [h]⟩
          rw [this]
          exact ih
        · simp only [if_neg c]
          rw [decide_eq_false (by rw [d1, d2]; intro h; exact c (List.cons.inj h).1)]
          exact .succ (by simp only [L27_4, if_true]; exact .ret)
    have := loop 0 (Nat.zero_le _)
    simpa using this
  · simp only [if_neg (show ¬ (q.length : Int) = (q'.length : Int) by omega)]
    rw [decide_eq_false (fun h => e (congrArg _ h))]
    exact .succ (by simp only [L27_1, if_true]; exact .ret)
theorem pD_inj {q q' : List Int} (h : pD q = pD q') : q = q' := by
  induction q generalizing q' with
  | nil => cases q' <;> simp_all
  | cons a q ih =>
    cases q' with
    | nil => simp at h
    | cons b q' =>
      simp only [List.map_cons, List.cons.injEq, D.int.injEq, true_and] at h
      rw [h.1, ih h.2]
open Classical in
theorem same_of (v w : VV) (hv : VT v) (hw : VT w) (hfs : Ev (fun n => F28 n v.fs w.fs) (decide (v.fs = w.fs))) :
    Ev (fun n => F11 n v.k v.i v.nm v.fs v.id v.pt w.k w.i w.nm w.fs w.id w.pt) (decide (v = w)) := by
  have no : v ≠ w → Ev (fun _ => some false) (decide (v = w)) := fun h => by rw [decide_eq_false h]; exact .ret
  refine .succ ?_
  simp only [F11]
  by_cases c1 : v.k = w.k
  rotate_left
  · simp only [if_neg c1]; exact no (fun h => c1 (by rw [h]))
  by_cases c2 : v.i = w.i
  rotate_left
  · simp only [if_pos c1, if_neg c2]; exact no (fun h => c2 (by rw [h]))
  by_cases c3 : v.nm = w.nm
  rotate_left
  · simp only [if_pos c1, if_pos c2, if_neg c3]; exact no (fun h => c3 (by rw [h]))
  by_cases c4 : v.id = w.id
  rotate_left
  · simp only [if_pos c1, if_pos c2, if_pos c3, if_neg c4]; exact no (fun h => c4 (by rw [h]))
  simp only [if_pos c1, if_pos c2, if_pos c3, if_pos c4]
  obtain ⟨q, e1, _⟩ := intsS hv.pt
  obtain ⟨q', e2, _⟩ := intsS hw.pt
  have hq : q.length ≤ maxLen := by have := hv.pt.1; rw [e1] at this; simpa using this
  rw [e1, e2]
  refine Ev.bO1 (ints_ev hq) ?_
  by_cases c5 : q = q'
  rotate_left
  · simp only [decide_eq_false c5, Bool.false_eq_true, if_false]
    exact no (fun h => c5 (pD_inj (e1.symm.trans ((congrArg VV.pt h).trans e2))))
  simp only [decide_eq_true c5, if_true]
  refine Ev.bO1 hfs ?_
  have : decide (v.fs = w.fs) = decide (v = w) := by
    refine decide_eq_decide.2 ⟨fun h => ?_, fun h => by rw [h]⟩
    have e3 : v.pt = w.pt := by rw [e1, e2, c5]
    obtain ⟨a, b, c, d, e, f⟩ := v
    obtain ⟨a', b', c', d', e', f'⟩ := w
    simp only [VV.mk.injEq]
    exact ⟨c1, c2, c3, h, c4, e3⟩
  rw [this]
  exact .ret
open Classical in
theorem sameL (l : List D) : ∀ m, ListS tab 25 l → ListS tab 25 m → Ev (fun n => F28 n l m) (decide (l = m)) := by
  refine list_ind (P := fun l => ∀ m, ListS tab 25 l → ListS tab 25 m → Ev (fun n => F28 n l m) (decide (l = m))) (fun l ih m h hm => ?_) l
  refine .succ ?_
  simp only [F28, lenF]
  by_cases e : l.length = m.length
  rotate_left
  · simp only [if_neg (show ¬ (l.length : Int) = (m.length : Int) by omega)]
    rw [decide_eq_false (fun h => e (congrArg _ h))]
    exact .succ (by simp only [L28_1, if_true]; exact .ret)
  simp only [if_pos (show (l.length : Int) = (m.length : Int) by omega)]
  refine .succ ?_
  simp only [L28_1, Bool.false_eq_true, if_false]
  have loop : ∀ i : Nat, i ≤ l.length → Ev (fun n => L28_2 n l m (i : Int)) (decide (l.drop i = m.drop i)) := by
    refine down _ ?_ (fun i hi ihd => ?_)
    · refine .succ ?_
      simp only [L28_2, lenF, Int.lt_irrefl, if_false]
      rw [List.drop_length, e, List.drop_length, decide_eq_true rfl]
      exact .succ (by simp only [L28_3, Bool.false_eq_true, if_false]; exact .ret)
    · have hi' : i < m.length := by omega
      obtain ⟨v, hx, hvm, hv⟩ := rowV h hi
      obtain ⟨w, hy, hwm, hw⟩ := rowV hm hi'
      have d1 : l.drop i = v.row :: l.drop (i + 1) := by
        rw [List.drop_eq_getElem_cons hi]; congr 1
        rw [List.getElem?_eq_getElem hi] at hx; exact Option.some.inj hx
      have d2 : m.drop i = w.row :: m.drop (i + 1) := by
        rw [List.drop_eq_getElem_cons hi']; congr 1
        rw [List.getElem?_eq_getElem hi'] at hy; exact Option.some.inj hy
      refine .succ ?_
      simp only [L28_2, lenF, if_pos (ilt hi)]
      refine .succ ?_
      simp only [L28_3, if_true, getF_nat hx, getF_nat hy, ds25]
      refine Ev.bO1 (same_of v w hv hw (ih v.fs (size_fs hvm) w.fs hv.fs hw.fs)) ?_
      by_cases c : v = w
      · simp only [decide_eq_true c, letB, Bool.not_true, Bool.false_eq_true, if_false, letF, wrap_succ hi h.1]
        have : decide (l.drop i = m.drop i) = decide (l.drop (i + 1) = m.drop (i + 1)) := by
          rw [d1, d2, c]; exact decide_eq_decide.2 ⟨fun h => (List.cons.inj h).2, fun h => by rw [h]⟩
        rw [this]
        exact ihd
      · simp only [decide_eq_false c, letB, Bool.not_false, if_true]
        rw [decide_eq_false (by rw [d1, d2]; intro h; exact c (row_inj (List.cons.inj h).1))]
        exact .ret
  have := loop 0 (Nat.zero_le _)
  simpa using this
open Classical in
theorem ev11 {v w : VV} (hv : VT v) (hw : VT w) : Ev (fun n => F11 n v.k v.i v.nm v.fs v.id v.pt w.k w.i w.nm w.fs w.id w.pt) (decide (v = w)) :=
  same_of v w hv hw (sameL v.fs w.fs hv.fs hw.fs)

def leads (v : VV) (n : Int) : Int := if v.k = 0 then 3 else if (v.k = 4 ∨ v.k = 5) ∧ 0 ≤ n ∧ n < (v.fs.length : Int) then 0 else 6
theorem ev38 (v : VV) (n0 : Int) : Ev (fun n => F38 n v.k v.i v.nm v.fs v.id v.pt n0) (leads v n0) := by
  unfold F38 leads
  by_cases c : v.k = 0
  · simp only [if_pos c]; exact .succ (by simp only [L38_1, if_true]; exact .ret)
  · simp only [if_neg c]
    have t : Ev (fun n => L38_2 n true) 6 := .succ (by simp only [L38_2, if_true]; exact .ret)
    have f : Ev (fun n => L38_2 n false) 0 := .succ (by simp only [L38_2, Bool.false_eq_true, if_false]; exact .ret)
    refine .succ ?_
    simp only [L38_1, Bool.false_eq_true, if_false, lenF]
    by_cases c4 : v.k = 4
    · by_cases cn : n0 < 0
      · simp only [if_pos c4, if_pos cn]; rw [if_neg (by omega)]; exact t
      · by_cases cl : (v.fs.length : Int) ≤ n0
        · simp only [if_pos c4, if_neg cn, if_pos cl]; rw [if_neg (by omega)]; exact t
        · simp only [if_pos c4, if_neg cn, if_neg cl]; rw [if_pos (by omega)]; exact f
    · by_cases c5 : v.k = 5
      · by_cases cn : n0 < 0
        · simp only [if_neg c4, if_pos c5, if_pos cn]; rw [if_neg (by omega)]; exact t
        · by_cases cl : (v.fs.length : Int) ≤ n0
          · simp only [if_neg c4, if_pos c5, if_neg cn, if_pos cl]; rw [if_neg (by omega)]; exact t
          · simp only [if_neg c4, if_pos c5, if_neg cn, if_neg cl]; rw [if_pos (by omega)]; exact f
      · simp only [if_neg c4, if_neg c5]; rw [if_neg (by omega)]; exact t
theorem ev38x (v : VV) (n0 : Int) : Ev (fun n => F38x1 n v.k v.i v.nm v.id n0 v.fs v.pt) (leads v n0, v.fs, v.pt) := by
  unfold F38x1 leads
  by_cases c : v.k = 0
  · simp only [if_pos c]; exact .succ (by simp only [L38x1_1, if_true]; exact .ret)
  · simp only [if_neg c]
    have t : Ev (fun n => L38x1_2 n v.fs v.pt true) (6, v.fs, v.pt) := .succ (by simp only [L38x1_2, if_true]; exact .ret)
    have f : Ev (fun n => L38x1_2 n v.fs v.pt false) (0, v.fs, v.pt) := .succ (by simp only [L38x1_2, Bool.false_eq_true, if_false]; exact .ret)
    refine .succ ?_
    simp only [L38x1_1, Bool.false_eq_true, if_false, lenF]
    by_cases c4 : v.k = 4
    · by_cases cn : n0 < 0
      · simp only [if_pos c4, if_pos cn]; rw [if_neg (by omega)]; exact t
      · by_cases cl : (v.fs.length : Int) ≤ n0
        · simp only [if_pos c4, if_neg cn, if_pos cl]; rw [if_neg (by omega)]; exact t
        · simp only [if_pos c4, if_neg cn, if_neg cl]; rw [if_pos (by omega)]; exact f
    · by_cases c5 : v.k = 5
      · by_cases cn : n0 < 0
        · simp only [if_neg c4, if_pos c5, if_pos cn]; rw [if_neg (by omega)]; exact t
        · by_cases cl : (v.fs.length : Int) ≤ n0
          · simp only [if_neg c4, if_pos c5, if_neg cn, if_pos cl]; rw [if_neg (by omega)]; exact t
          · simp only [if_neg c4, if_pos c5, if_neg cn, if_neg cl]; rw [if_pos (by omega)]; exact f
      · simp only [if_neg c4, if_neg c5]; rw [if_neg (by omega)]; exact t
theorem leads_ok {v : VV} {n : Int} (h : leads v n = 0) : v.k ≠ 0 ∧ (v.k = 4 ∨ v.k = 5) ∧ 0 ≤ n ∧ n.toNat < v.fs.length := by
  unfold leads at h
  split at h
  · omega
  · split at h
    · rename_i h1 h2; exact ⟨h1, h2.1, h2.2.1, by omega⟩
    · omega
def part (v : VV) (n : Int) : VV := un (v.fs[n.toNat]?.getD (.bool false))
def setp (v : VV) (n : Int) (w : VV) : VV := { v with fs := v.fs.set n.toNat w.row }
def getS : List Int → VV → VV × Int
  | [], v => if v.k = 0 then (zeroV, 3) else (v, 0)
  | n :: p, v => if leads v n = 0 then getS p (part v n) else (zeroV, leads v n)
def setS : List Int → VV → VV → VV × Int
  | [], v, x => (x, 0)
  | n :: p, v, x => if leads v n = 0 then (setp v n (setS p (part v n) x).1, (setS p (part v n) x).2) else (v, leads v n)
theorem part_ok {v : VV} (hv : VS v) {n : Int} (h : leads v n = 0) : v.fs[n.toNat]? = some (part v n).row ∧ (part v n).row ∈ v.fs ∧ VS (part v n) := by
  obtain ⟨_, _, _, hl⟩ := leads_ok h
  obtain ⟨w, h1, h2, h3⟩ := rowV hv.t.fs hl
  have : part v n = w := by unfold part; rw [h1]; rfl
  rw [this]
  exact ⟨h1, h2, h3, hv.f.pt h2, hv.f.fs h2⟩
theorem VS.setp {v : VV} (hv : VS v) {w : VV} (hw : VS w) (n : Int) : VS (setp v n w) := by
  refine ⟨⟨hv.t.k, hv.t.i, hv.t.nm, hv.t.fs.set _ hw.t.rowS, hv.t.id, hv.t.pt⟩, hv.p, ?_⟩
  refine .mk (by show (v.fs.set _ _).length ≤ 500; rw [List.length_set]; exact hv.f.len) (fun u hu => ?_) (fun u hu => ?_)
  · rcases List.mem_or_eq_of_mem_set hu with hu | hu
    · exact hv.f.pt hu
    · rw [row_inj hu]; exact hw.p
  · rcases List.mem_or_eq_of_mem_set hu with hu | hu
    · exact hv.f.fs hu
    · rw [row_inj hu]; exact hw.f
theorem setS_VS {x : VV} (hx : VS x) : ∀ (p : List Int) {v : VV}, VS v → VS (setS p v x).1
  | [], v, hv => hx
  | n :: p, v, hv => by
    unfold setS
    by_cases c : leads v n = 0
    · rw [if_pos c]
      exact hv.setp (setS_VS hx p (part_ok hv c).2.2) n
    · rw [if_neg c]; exact hv
theorem getS_VS : ∀ (p : List Int) {v : VV}, VS v → (getS p v).2 = 0 → VS (getS p v).1
  | [], v, hv, h => by
    unfold getS at h ⊢
    by_cases c : v.k = 0
    · rw [if_pos c] at h; exact absurd h (by show ¬ (3 : Int) = 0; decide)
    · rw [if_neg c]; exact hv
  | n :: p, v, hv, h => by
    unfold getS at h ⊢
    by_cases c : leads v n = 0
    · rw [if_pos c] at h ⊢; exact getS_VS p (part_ok hv c).2.2 h
    · rw [if_neg c] at h; exact absurd h c
theorem zeroV_VT : VT zeroV := ⟨rfl, rfl, by decide, .nil, rfl, .nil⟩
theorem getS_VT (p : List Int) {v : VV} (hv : VS v) : VT (getS p v).1 := by
  by_cases h : (getS p v).2 = 0
  · exact (getS_VS p hv h).t
  · have : (getS p v).1 = zeroV := by
      clear hv
      induction p generalizing v with
      | nil =>
        unfold getS at h ⊢
        split
        · rfl
        · rename_i c; rw [if_neg c] at h; exact absurd rfl h
      | cons n p ih =>
        unfold getS at h ⊢
        by_cases c : leads v n = 0
        · rw [if_pos c] at h ⊢; exact ih h
        · rw [if_neg c]
    rw [this]; exact zeroV_VT
theorem ev20 (q : List Int) (hq : q.length ≤ maxLen) {v : VV} (hv : VS v) : Ev (fun n => F20 n v.k v.i v.nm v.fs v.id v.pt (pD q)) ((getS q v).1.k, (getS q v).1.i, (getS q v).1.nm, (getS q v).1.fs, (getS q v).1.id, (getS q v).1.pt, (getS q v).2) := by
  have loop : ∀ i : Nat, i ≤ q.length → ∀ v, VS v → Ev (fun n => L20_1 n (pD q) (q.length : Int) (i : Int) v.k v.i v.nm v.fs v.id v.pt) ((getS (q.drop i) v).1.k, (getS (q.drop i) v).1.i, (getS (q.drop i) v).1.nm, (getS (q.drop i) v).1.fs, (getS (q.drop i) v).1.id, (getS (q.drop i) v).1.pt, (getS (q.drop i) v).2) := by
    refine down _ (fun v hv => ?_) (fun i hi ih v hv => ?_)
    · rw [List.drop_length]
      refine .succ ?_
      simp only [L20_1, Int.lt_irrefl, if_false]
      refine .succ ?_
      simp only [L20_2, Bool.false_eq_true, if_false]
      unfold getS
      by_cases c : v.k = 0
      · simp only [if_pos c]
        exact .succ (by simp only [L20_4, if_true]; exact .ret)
      · simp only [if_neg c]
        exact .succ (by simp only [L20_4, Bool.false_eq_true, if_false]; exact Ev.bO6 (ev10 hv) .ret)
    · have h1 : (pD q)[i]? = some (.int .i64 q[i]) := by simp [hi]
      rw [List.drop_eq_getElem_cons hi]
      refine .succ ?_
      simp only [L20_1, if_pos (ilt hi)]
      refine .succ ?_
      simp only [L20_2, if_true, getF_nat h1, ds_i64]
      refine Ev.bO1 (ev38 v q[i]) ?_
      unfold getS
      by_cases c : leads v q[i] = 0
      · obtain ⟨e1, _, e3⟩ := part_ok hv c
        have hg : ∀ k : D → Option (Int × Int × ByteArray × List D × Int × List D × Int), getF v.fs q[i] k = k (part v q[i]).row := fun k => getF_some (leads_ok c).2.2.1 e1
        simp only [if_pos c]
        refine .succ ?_
        simp only [L20_3, Bool.false_eq_true, if_false, hg, ds25, letF, wrap_succ hi hq]
        exact ih _ e3
      · simp only [if_neg c]
        exact .succ (by simp only [L20_3, if_true]; exact .ret)
  unfold F20
  simp only [lenF, List.length_map]
  exact loop 0 (Nat.zero_le _) v hv
theorem ev37 {x : VV} (hx : VS x) : ∀ (q : List Int), q.length ≤ maxLen → (∀ z ∈ q, (Lit.int .i64 z).wf = true) → ∀ {v : VV}, VS v →
    Ev (fun n => F37 n v.k v.i v.nm v.id (pD q) v.fs v.pt x.k x.i x.nm x.fs x.id x.pt (0 : Int))
      ((setS q v x).1.k, (setS q v x).1.i, (setS q v x).1.nm, (setS q v x).1.id, x.k, x.i, x.nm, x.fs, x.id, x.pt, (setS q v x).2, (setS q v x).1.fs, (setS q v x).1.pt)
  | [], _, _, v, hv => by
    refine .succ ?_
    simp only [F37, lenF, List.map_nil, List.length_nil, show ((0 : Nat) : Int) = 0 from rfl, if_true]
    refine .succ ?_
    simp only [L37_1, if_true]
    exact Ev.bO6 (ev10 hx) .ret
  | z :: q, hq, hw, v, hv => by
    have hl : q.length ≤ maxLen := by simp only [List.length_cons] at hq; omega
    have h0 : (pD (z :: q))[0]? = some (.int .i64 z) := rfl
    have h0' : ∀ {γ : Type} (k : D → Option γ), getF (pD (z :: q)) 0 k = k (.int .i64 z) := fun k => getF_nat (i := 0) h0
    refine .succ ?_
    simp only [F37, lenF, List.length_map, if_neg (show ¬ ((z :: q).length : Int) = 0 by simp only [List.length_cons]; omega)]
    refine .succ ?_
    simp only [L37_1, Bool.false_eq_true, if_false, h0', ds_i64]
    refine Ev.bO3 (ev38x v z) ?_
    unfold setS
    by_cases c : leads v z = 0
    · obtain ⟨e1, _, e3⟩ := part_ok hv c
      obtain ⟨_, _, c1, c2⟩ := leads_ok c
      simp only [if_pos c, c]
      refine .succ ?_
      have hf : ∀ {γ : Type} (k : List D → Option γ), fromF (pD (z :: q)) (1 : Int) k = k (pD q) := by
        intro γ k
        unfold fromF
        rw [if_pos ⟨by omega, by simp only [List.length_map, List.length_cons]; omega⟩]
        rfl
      simp only [L37_2, if_true, need_pos (show 0 ≤ z ∧ z.toNat < v.fs.length from ⟨c1, c2⟩), getN_some e1, ds25, hf]
      refine Ev.bO13 (ev37 hx q hl (fun y hy => hw y (List.mem_cons_of_mem _ hy)) e3) ?_
      simp only [setF]
      exact .succ (by simp only [L37_3]; exact .ret)
    · simp only [if_neg c]
      refine .succ ?_
      simp only [L37_2, Bool.false_eq_true, if_false]
      exact .succ (by simp only [L37_3]; exact .ret)
def setR (q : List Int) (v x : VV) : VV × Int := if (setS q v x).2 = 0 then ((setS q v x).1, 0) else (zeroV, (setS q v x).2)
theorem ev19 {v x : VV} (hv : VS v) (hx : VS x) {q : List Int} (hq : q.length ≤ maxLen) (hw : ∀ z ∈ q, (Lit.int .i64 z).wf = true) :
    Ev (fun n => F19 n v.k v.i v.nm v.fs v.id v.pt (pD q) x.k x.i x.nm x.fs x.id x.pt) ((setR q v x).1.k, (setR q v x).1.i, (setR q v x).1.nm, (setR q v x).1.id, (setR q v x).2, (setR q v x).1.fs, (setR q v x).1.pt) := by
  unfold F19 setR
  refine Ev.bO6 (ev10 hv) (Ev.bO13 (ev37 hx q hq hw hv) ?_)
  by_cases c : (setS q v x).2 = 0
  · simp only [if_pos c]
    exact .succ (by simp only [L19_1, Bool.false_eq_true, if_false]; exact .ret)
  · simp only [if_neg c]
    exact .succ (by simp only [L19_1, if_true]; exact .ret)
end Go.Proofs.YtagiiaejijihoaaDoor

set_option linter.unusedVariables false
noncomputable section
namespace Go.Proofs.YtagiiaejijihoaaDoor
open Go Go.AM
def L12_4 : Nat → Bool → Option (Bool)
  | 0, _ => none
  | n + 1, b10 =>
    (if b10 = true then some true else some false)
def L12_3 : Nat → Int → Bool → Option (Bool)
  | 0, _, _ => none
  | n + 1, z1, b9 =>
    (if b9 = true then L12_4 n true else (if z1 = (14 : Int) then L12_4 n true else L12_4 n false))
def L12_2 : Nat → Int → Bool → Option (Bool)
  | 0, _, _ => none
  | n + 1, z1, b8 =>
    (if b8 = true then L12_4 n true else (if z1 = (3 : Int) then L12_3 n z1 true else L12_3 n z1 false))
def L12_1 : Nat → Int → Bool → Option (Bool)
  | 0, _, _ => none
  | n + 1, z1, b7 =>
    (if b7 = true then L12_4 n true else (if z1 = (2 : Int) then L12_2 n z1 true else L12_2 n z1 false))
def F12 (n : Nat) (z1 : Int) (z2 : Int) (s3 : ByteArray) (l4 : List D) (z5 : Int) (l6 : List D) : Option (Bool) :=
  (if z1 = (1 : Int) then L12_1 n z1 true else L12_1 n z1 false)
set_option maxRecDepth 100000 in
set_option maxHeartbeats 40000000 in
theorem T12 (n : Nat) : ∀ ⦃z1 : Int⦄ ⦃z2 : Int⦄ ⦃s3 : ByteArray⦄ ⦃l4 : List D⦄ ⦃z5 : Int⦄ ⦃l6 : List D⦄ ⦃r1 : Bool⦄, F12 n z1 z2 s3 l4 z5 l6 = some r1 →
    Trip Tryd.prog inv 12 [.d (.agg [.int .u8 z1, .int .i64 z2, .str s3, .list true 6 l4, .int .i64 z5, .list false 1 l6])] [] (.v (.d (.bool r1))) [] [] := by
  intro z1 z2 s3 l4 z5 l6 r1 h
  unfold F12 at h
  refine Trip.of tab_ok tab_one fol Tryd.func12 rfl (by kernel_rfl) rfl rfl rfl (fun M hM hI => ?_)
  try cbv
  refine seq_go ?_
  try cbv
  refine seq_go ?_
  try cbv
  refine seq_go ?_
  try cbv
  refine seq_join (T := Nat × Bool) (fun t => ⟨[(2, .v (.d (.bool false))), (5, .v (.d (.bool t.2)))], [], 384⟩) (fun t => t.1 ≤ n ∧ L12_4 t.1 t.2 = some r1) ?_ ?_
  · try cbv
    refine seq_join (T := Nat × Bool) (fun t => ⟨[(2, .v (.d (.bool false))), (4, .v (.d (.int .u8 z1))), (5, .v (.d (.bool t.2)))], [], 192⟩) (fun t => t.1 ≤ n ∧ L12_1 t.1 z1 t.2 = some r1) ?_ ?_
    · try cbv
      refine splitI (fun e => ?_) (fun e => ?_)
      · replace h := ite_t e h
        clear e
        try cbv
        exact join_next (n, true) [2, 4, 5] [] 192 ⟨by omega, h⟩ (by cbv)
      · replace h := ite_f e h
        clear e
        try cbv
        exact join_next (n, false) [2, 4, 5] [] 192 ⟨by omega, h⟩ (by cbv)
    · clear h
      rintro ⟨m1, b7⟩ ⟨hm1, h⟩
      replace hm1 : m1 ≤ n := hm1
      cases m1 with
      | zero =>
        replace h : L12_1 0 z1 b7 = some r1 := h
        rw [L12_1] at h
        cases h
      | succ m1 =>
        replace h : L12_1 (m1 + 1) z1 b7 = some r1 := h
        rw [L12_1] at h
        try cbv
        cases b7
        · replace h := ite_f Bool.false_ne_true h
          try cbv
          refine seq_join (T := Nat × Bool) (fun t => ⟨[(2, .v (.d (.bool false))), (4, .v (.d (.int .u8 z1))), (5, .v (.d (.bool t.2)))], [], 256⟩) (fun t => t.1 ≤ m1 ∧ L12_2 t.1 z1 t.2 = some r1) ?_ ?_
          · try cbv
            refine splitI (fun e => ?_) (fun e => ?_)
            · replace h := ite_t e h
              clear e
              try cbv
              exact join_next (m1, true) [2, 4, 5] [] 256 ⟨by omega, h⟩ (by cbv)
            · replace h := ite_f e h
              clear e
              try cbv
              exact join_next (m1, false) [2, 4, 5] [] 256 ⟨by omega, h⟩ (by cbv)
          · clear h
            rintro ⟨m2, b8⟩ ⟨hm2, h⟩
            replace hm2 : m2 ≤ m1 := hm2
            cases m2 with
            | zero =>
              replace h : L12_2 0 z1 b8 = some r1 := h
              rw [L12_2] at h
              cases h
            | succ m2 =>
              replace h : L12_2 (m2 + 1) z1 b8 = some r1 := h
              rw [L12_2] at h
              try cbv
              cases b8
              · replace h := ite_f Bool.false_ne_true h
                try cbv
                refine seq_join (T := Nat × Bool) (fun t => ⟨[(2, .v (.d (.bool false))), (4, .v (.d (.int .u8 z1))), (5, .v (.d (.bool t.2)))], [], 320⟩) (fun t => t.1 ≤ m2 ∧ L12_3 t.1 z1 t.2 = some r1) ?_ ?_
                · try cbv
                  refine splitI (fun e => ?_) (fun e => ?_)
                  · replace h := ite_t e h
                    clear e
                    try cbv
                    exact join_next (m2, true) [2, 4, 5] [] 320 ⟨by omega, h⟩ (by cbv)
                  · replace h := ite_f e h
                    clear e
                    try cbv
                    exact join_next (m2, false) [2, 4, 5] [] 320 ⟨by omega, h⟩ (by cbv)
                · clear h
                  rintro ⟨m3, b9⟩ ⟨hm3, h⟩
                  replace hm3 : m3 ≤ m2 := hm3
                  cases m3 with
                  | zero =>
                    replace h : L12_3 0 z1 b9 = some r1 := h
                    rw [L12_3] at h
                    cases h
                  | succ m3 =>
                    replace h : L12_3 (m3 + 1) z1 b9 = some r1 := h
                    rw [L12_3] at h
                    try cbv
                    cases b9
                    · replace h := ite_f Bool.false_ne_true h
                      try cbv
                      refine splitI (fun e => ?_) (fun e => ?_)
                      · replace h := ite_t e h
                        clear e
                        try cbv
                        exact join_next (m3, true) [2, 5] [] 384 ⟨by omega, h⟩ (by cbv)
                      · replace h := ite_f e h
                        clear e
                        try cbv
                        exact join_next (m3, false) [2, 5] [] 384 ⟨by omega, h⟩ (by cbv)
                    · replace h := ite_t rfl h
                      try cbv
                      exact join_next (m3, true) [2, 5] [] 384 ⟨by omega, h⟩ (by cbv)
              · replace h := ite_t rfl h
                try cbv
                exact join_next (m2, true) [2, 5] [] 384 ⟨by omega, h⟩ (by cbv)
        · replace h := ite_t rfl h
          try cbv
          exact join_next (m1, true) [2, 5] [] 384 ⟨by omega, h⟩ (by cbv)
  · clear h
    rintro ⟨m4, b10⟩ ⟨hm4, h⟩
    replace hm4 : m4 ≤ n := hm4
    cases m4 with
    | zero =>
      replace h : L12_4 0 b10 = some r1 := h
      rw [L12_4] at h
      cases h
    | succ m4 =>
      replace h : L12_4 (m4 + 1) b10 = some r1 := h
      rw [L12_4] at h
      try cbv
      cases b10
      · replace h := ite_f Bool.false_ne_true h
        try cbv
        refine seq_go ?_
        try cbv
        obtain rfl := Option.some.inj h
        refine fin_go ?_
        try cbv
        exact ⟨[], rfl, rfl, trivial, trivial, trivial⟩
      · replace h := ite_t rfl h
        try cbv
        refine seq_go ?_
        try cbv
        obtain rfl := Option.some.inj h
        refine fin_go ?_
        try cbv
        exact ⟨[], rfl, rfl, trivial, trivial, trivial⟩
end Go.Proofs.YtagiiaejijihoaaDoor
end

set_option linter.unusedVariables false
noncomputable section
namespace Go.Proofs.YtagiiaejijihoaaDoor
open Go Go.AM
def F31 (n : Nat) : Option (Unit) :=
  some ()
set_option maxRecDepth 100000 in
set_option maxHeartbeats 40000000 in
theorem T31 (n : Nat) : F31 n = some () →
    Trip Tryd.prog inv 31 [] [] (.v (.d (.agg [.str k___1, .str k_i, .str k_b, .str k_u, .str k_s, .str k_e, .str k_B, .str k_C, .str k_R, .str k_A, .str k_M, .str k_T, .str k_S, .str k_V, .str k_r, .str k_m]))) [] [] := by
  intro h
  unfold F31 at h
  refine Trip.of tab_ok tab_one fol Tryd.func31 rfl (by kernel_rfl) rfl rfl rfl (fun M hM hI => ?_)
  try cbv
  refine seq_go ?_
  try cbv
  refine seq_go ?_
  try cbv
  skip
  refine fin_go ?_
  try cbv
  exact ⟨[], rfl, rfl, trivial, trivial, trivial⟩
end Go.Proofs.YtagiiaejijihoaaDoor
end

set_option linter.unusedVariables false
noncomputable section
namespace Go.Proofs.YtagiiaejijihoaaDoor
open Go Go.AM
def F33 (n : Nat) (l1 : List D) : Option (ByteArray) :=
  bO1 (F40 n l1 ByteArray.empty) fun s2 => some s2
set_option maxRecDepth 100000 in
set_option maxHeartbeats 40000000 in
theorem T33 (n : Nat) : ∀ ⦃l1 : List D⦄ ⦃r1 : ByteArray⦄, F33 n l1 = some r1 →
    Trip Tryd.prog inv 33 [.d (.list false 1 l1)] [] (.v (.d (.str r1))) [] [] := by
  intro l1 r1 h
  unfold F33 at h
  refine Trip.of tab_ok tab_one fol Tryd.func33 rfl (by kernel_rfl) rfl rfl rfl (fun M hM hI => ?_)
  try cbv
  refine seq_go ?_
  try cbv
  refine seq_go ?_
  try cbv
  replace h := bO1_inv h
  obtain ⟨s2, hr, h⟩ := h
  refine call_go rfl rfl ?_
  try cbv
  refine call_pure hM hI (T40 _ hr) rfl ?_
  clear hr
  try cbv
  obtain rfl := Option.some.inj h
  refine fin_go ?_
  try cbv
  exact ⟨[], rfl, rfl, trivial, trivial, trivial⟩
end Go.Proofs.YtagiiaejijihoaaDoor
end

set_option linter.unusedVariables false
noncomputable section
namespace Go.Proofs.YtagiiaejijihoaaDoor
open Go Go.AM
set_option maxHeartbeats 40000000 in
mutual
def L15_1 : Nat → Int → Int → ByteArray → (List D) → Int → (List D) → Bool → Option (ByteArray)
  | 0, _, _, _, _, _, _, _ => none
  | n + 1, z1, z2, s3, l4, z5, l6, b8 =>
    (if b8 = true then bO0 (F31 n) (getF [.str k___1, .str k_i, .str k_b, .str k_u, .str k_s, .str k_e, .str k_B, .str k_C, .str k_R, .str k_A, .str k_M, .str k_T, .str k_S, .str k_V, .str k_r, .str k_m] z1 fun x9 => ds_str x9 fun s10 => L15_2 n z2 s3 l4 z5 l6 s10) else L15_2 n z2 s3 l4 z5 l6 k__)
def L15_2 : Nat → Int → ByteArray → (List D) → Int → (List D) → ByteArray → Option (ByteArray)
  | 0, _, _, _, _, _, _ => none
  | n + 1, z2, s3, l4, z5, l6, s11 =>
    lenF l4 fun z12 => L15_3 n z2 s3 l4 z5 l6 s11 z12 ByteArray.empty (0 : Int)
def L15_3 : Nat → Int → ByteArray → (List D) → Int → (List D) → ByteArray → Int → ByteArray → Int → Option (ByteArray)
  | 0, _, _, _, _, _, _, _, _, _ => none
  | n + 1, z2, s3, l4, z5, l6, s11, z12, s13, z14 =>
    (if z14 < z12 then L15_4 n z2 s3 l4 z5 l6 s11 z12 s13 z14 true else L15_4 n z2 s3 l4 z5 l6 s11 z12 s13 z14 false)
def L15_4 : Nat → Int → ByteArray → (List D) → Int → (List D) → ByteArray → Int → ByteArray → Int → Bool → Option (ByteArray)
  | 0, _, _, _, _, _, _, _, _, _, _ => none
  | n + 1, z2, s3, l4, z5, l6, s11, z12, s13, z14, b15 =>
    (if b15 = true then getF l4 z14 fun x16 => ds_t25 x16 fun z17 z18 s19 l20 z21 l22 => bO1 (F15 n z17 z18 s19 l20 z21 l22) fun s23 => catF s13 s23 fun s24 => letF (IntKind.wrap .i64 (z14 + 1)) fun z25 => L15_3 n z2 s3 l4 z5 l6 s11 z12 s24 z25 else lenF l6 fun z26 => L15_5 n z2 s3 z5 l6 s11 s13 z26 ByteArray.empty (0 : Int))
def L15_5 : Nat → Int → ByteArray → Int → (List D) → ByteArray → ByteArray → Int → ByteArray → Int → Option (ByteArray)
  | 0, _, _, _, _, _, _, _, _, _ => none
  | n + 1, z2, s3, z5, l6, s11, s13, z26, s27, z28 =>
    (if z28 < z26 then L15_6 n z2 s3 z5 l6 s11 s13 z26 s27 z28 true else L15_6 n z2 s3 z5 l6 s11 s13 z26 s27 z28 false)
def L15_6 : Nat → Int → ByteArray → Int → (List D) → ByteArray → ByteArray → Int → ByteArray → Int → Bool → Option (ByteArray)
  | 0, _, _, _, _, _, _, _, _, _, _ => none
  | n + 1, z2, s3, z5, l6, s11, s13, z26, s27, z28, b29 =>
    (if b29 = true then getF l6 z28 fun x30 => ds_i64 x30 fun z31 => bO1 (F32 n z31) fun s32 => catF s32 k___2 fun s33 => catF s27 s33 fun s34 => letF (IntKind.wrap .i64 (z28 + 1)) fun z35 => L15_5 n z2 s3 z5 l6 s11 s13 z26 s34 z35 else bO1 (F34 n z2 (10 : Int)) fun s36 => szF s3 fun z37 => bO1 (F32 n z37) fun s38 => bO1 (F32 n z5) fun s39 => bO1 (F33 n ([.str s11, .str s36, .str k___3, .str s38, .str k___3, .str s3, .str k___3, .str s39, .str k___4, .str s13, .str k___, .str s27, .str k___5])) fun s40 => some s40)
def F15 : Nat → Int → Int → ByteArray → (List D) → Int → (List D) → Option (ByteArray)
  | 0, _, _, _, _, _, _ => none
  | n + 1, z1, z2, s3, l4, z5, l6 =>
    letF (IntKind.wrap .i64 z1) fun z7 => bO0 (F31 n) ((if z7 < (16 : Int) then L15_1 n z1 z2 s3 l4 z5 l6 true else L15_1 n z1 z2 s3 l4 z5 l6 false))
end
set_option maxRecDepth 100000 in
set_option maxHeartbeats 40000000 in
theorem T15 (n : Nat) : ∀ ⦃z1 : Int⦄ ⦃z2 : Int⦄ ⦃s3 : ByteArray⦄ ⦃l4 : List D⦄ ⦃z5 : Int⦄ ⦃l6 : List D⦄ ⦃r1 : ByteArray⦄, F15 n z1 z2 s3 l4 z5 l6 = some r1 →
    Trip Tryd.prog inv 15 [.d (.agg [.int .u8 z1, .int .i64 z2, .str s3, .list true 6 l4, .int .i64 z5, .list false 1 l6])] [] (.v (.d (.str r1))) [] [] := by
  induction n using Nat.strongRecOn with
  | _ n ih =>
    cases n with
    | zero =>
      intro z1 z2 s3 l4 z5 l6 r1 h
      cases (show (none : Option _) = some _ from h)
    | succ n =>
      intro z1 z2 s3 l4 z5 l6 r1 h
      rw [F15] at h
      refine Trip.of tab_ok tab_one fol Tryd.func15 rfl (by kernel_rfl) rfl rfl rfl (fun M hM hI => ?_)
      try cbv
      refine seq_go ?_
      try cbv
      refine seq_go ?_
      try cbv
      refine seq_join (T := Nat × ByteArray) (fun t => ⟨[(1, .v (.c (.ptr (.loc 0) 0))), (2, .v (.d (.str ByteArray.empty))), (3, .v (.d (.str t.2)))], [(.loc 0, .cells [.d (.int .u8 z1), .d (.int .i64 z2), .d (.str s3), .d (.list true 6 l4), .d (.int .i64 z5), .d (.list false 1 l6)])], 448⟩) (fun t => t.1 ≤ n ∧ L15_2 t.1 z2 s3 l4 z5 l6 t.2 = some r1) ?_ ?_
      · try cbv
        refine seq_join (T := Nat × Bool) (fun t => ⟨[(1, .v (.c (.ptr (.loc 0) 0))), (2, .v (.d (.str ByteArray.empty))), (3, .v (.d (.str k__))), (15, .v (.d (.bool t.2)))], [(.loc 0, .cells [.d (.int .u8 z1), .d (.int .i64 z2), .d (.str s3), .d (.list true 6 l4), .d (.int .i64 z5), .d (.list false 1 l6)])], 288⟩) (fun t => t.1 ≤ n ∧ L15_1 t.1 z1 z2 s3 l4 z5 l6 t.2 = some r1) ?_ ?_
        · try cbv
          replace h := letF_inv h
          obtain ⟨z7, hz, h⟩ := h
          refine ⟨z7, hz, ?_⟩
          clear hz
          try cbv
          replace h := bO0_inv h
          obtain ⟨hr, h⟩ := h
          first | refine .inr (.inl ⟨[], ?_⟩) | refine .inl ⟨[], ?_⟩
          try cbv
          refine call_pure hM hI (T31 _ hr) rfl ?_
          clear hr
          try cbv
          refine splitL (fun e => ?_) (fun e => ?_)
          · replace h := ite_t e h
            clear e
            try cbv
            refine drawn ?_ ?_
            · show _ = true
              kernel_rfl
            try cbv
            exact join_next (n, true) [1, 2, 3, 15] [.loc 0] 288 ⟨by omega, h⟩ (by cbv)
          · replace h := ite_f (Int.not_lt.2 e) h
            clear e
            try cbv
            refine drawn ?_ ?_
            · show _ = true
              kernel_rfl
            try cbv
            exact join_next (n, false) [1, 2, 3, 15] [.loc 0] 288 ⟨by omega, h⟩ (by cbv)
        · clear h
          rintro ⟨m1, b8⟩ ⟨hm1, h⟩
          replace hm1 : m1 ≤ n := hm1
          cases m1 with
          | zero =>
            replace h : L15_1 0 z1 z2 s3 l4 z5 l6 b8 = some r1 := h
            rw [L15_1] at h
            cases h
          | succ m1 =>
            replace h : L15_1 (m1 + 1) z1 z2 s3 l4 z5 l6 b8 = some r1 := h
            rw [L15_1] at h
            try cbv
            cases b8
            · replace h := ite_f Bool.false_ne_true h
              try cbv
              exact join_next (m1, k__) [1, 2, 3] [.loc 0] 448 ⟨by omega, h⟩ (by cbv)
            · replace h := ite_t rfl h
              try cbv
              replace h := bO0_inv h
              obtain ⟨hr, h⟩ := h
              first | refine .inr (.inl ⟨[], ?_⟩) | refine .inl ⟨[], ?_⟩
              try cbv
              refine call_pure hM hI (T31 _ hr) rfl ?_
              clear hr
              try cbv
              replace h := getF_inv h
              obtain ⟨x9, ⟨hx0, hx⟩, h⟩ := h
              refine ⟨x9, hx0, hx, ?_⟩
              clear hx0 hx
              replace h := ds_str_inv h
              obtain ⟨s10, rfl, h⟩ := h
              try cbv
              refine drawn ?_ ?_
              · show _ = true
                kernel_rfl
              try cbv
              exact join_next (m1, s10) [1, 2, 3] [.loc 0] 448 ⟨by omega, h⟩ (by cbv)
      · clear h
        rintro ⟨m2, s11⟩ ⟨hm2, h⟩
        replace hm2 : m2 ≤ n := hm2
        cases m2 with
        | zero =>
          replace h : L15_2 0 z2 s3 l4 z5 l6 s11 = some r1 := h
          rw [L15_2] at h
          cases h
        | succ m2 =>
          replace h : L15_2 (m2 + 1) z2 s3 l4 z5 l6 s11 = some r1 := h
          rw [L15_2] at h
          try cbv
          refine seq_go ?_
          try cbv
          refine seq_go ?_
          try cbv
          refine seq_go ?_
          try cbv
          replace h := lenF_inv M h
          obtain ⟨z12, hz, h⟩ := h
          refine ⟨z12, hz, ?_⟩
          clear hz
          try cbv
          refine loop_inv (T := Nat × ByteArray × Int) [1, 2, 3, 4, 5, 21, 22, 23] [.loc 0] 640 (fun t => ⟨[(1, .v (.c (.ptr (.loc 0) 0))), (2, .v (.d (.str ByteArray.empty))), (3, .v (.d (.str s11))), (4, .v (.d (.str t.2.1))), (5, .v (.d (.str ByteArray.empty))), (21, .v (.d (.list true 6 l4))), (22, .v (.d (.int .i64 z12))), (23, .v (.d (.int .i64 t.2.2)))], [(.loc 0, .cells [.d (.int .u8 z1), .d (.int .i64 z2), .d (.str s3), .d (.list true 6 l4), .d (.int .i64 z5), .d (.list false 1 l6)])], 640⟩)
            (fun t => t.1 ≤ m2 ∧ L15_3 t.1 z2 s3 l4 z5 l6 s11 z12 t.2.1 t.2.2 = some r1) (fun t => t.1) (m2, (ByteArray.empty, (0 : Int))) ⟨Nat.le_refl _, h⟩ (by cbv) ?_
          clear h
          rintro ⟨m3, s13, z14⟩ ⟨hm3, h⟩
          replace hm3 : m3 ≤ m2 := hm3
          cases m3 with
          | zero =>
            replace h : L15_3 0 z2 s3 l4 z5 l6 s11 z12 s13 z14 = some r1 := h
            rw [L15_3] at h
            cases h
          | succ m3 =>
            replace h : L15_3 (m3 + 1) z2 s3 l4 z5 l6 s11 z12 s13 z14 = some r1 := h
            rw [L15_3] at h
            try cbv
            refine seq_join (T := Nat × Bool) (fun t => ⟨[(1, .v (.c (.ptr (.loc 0) 0))), (2, .v (.d (.str ByteArray.empty))), (3, .v (.d (.str s11))), (4, .v (.d (.str s13))), (5, .v (.d (.str ByteArray.empty))), (21, .v (.d (.list true 6 l4))), (22, .v (.d (.int .i64 z12))), (23, .v (.d (.int .i64 z14))), (24, .v (.d (.bool t.2)))], [(.loc 0, .cells [.d (.int .u8 z1), .d (.int .i64 z2), .d (.str s3), .d (.list true 6 l4), .d (.int .i64 z5), .d (.list false 1 l6)])], 672⟩) (fun t => t.1 ≤ m3 ∧ L15_4 t.1 z2 s3 l4 z5 l6 s11 z12 s13 z14 t.2 = some r1) ?_ ?_
            · try cbv
              refine splitL (fun e => ?_) (fun e => ?_)
              · replace h := ite_t e h
                clear e
                try cbv
                exact join_next (m3, true) [1, 2, 3, 4, 5, 21, 22, 23, 24] [.loc 0] 672 ⟨by omega, h⟩ (by cbv)
              · replace h := ite_f (Int.not_lt.2 e) h
                clear e
                try cbv
                exact join_next (m3, false) [1, 2, 3, 4, 5, 21, 22, 23, 24] [.loc 0] 672 ⟨by omega, h⟩ (by cbv)
            · clear h
              rintro ⟨m4, b15⟩ ⟨hm4, h⟩
              replace hm4 : m4 ≤ m3 := hm4
              cases m4 with
              | zero =>
                replace h : L15_4 0 z2 s3 l4 z5 l6 s11 z12 s13 z14 b15 = some r1 := h
                rw [L15_4] at h
                cases h
              | succ m4 =>
                replace h : L15_4 (m4 + 1) z2 s3 l4 z5 l6 s11 z12 s13 z14 b15 = some r1 := h
                rw [L15_4] at h
                try cbv
                refine seq_go ?_
                try cbv
                cases b15
                · replace h := ite_f Bool.false_ne_true h
                  try cbv
                  refine seq_go ?_
                  try cbv
                  refine seq_go ?_
                  try cbv
                  replace h := lenF_inv M h
                  obtain ⟨z26, hz, h⟩ := h
                  refine ⟨z26, hz, ?_⟩
                  clear hz
                  try cbv
                  refine loop_inv (T := Nat × ByteArray × Int) [1, 2, 3, 4, 5, 33, 34, 35] [.loc 0] 800 (fun t => ⟨[(1, .v (.c (.ptr (.loc 0) 0))), (2, .v (.d (.str ByteArray.empty))), (3, .v (.d (.str s11))), (4, .v (.d (.str s13))), (5, .v (.d (.str t.2.1))), (33, .v (.d (.list false 1 l6))), (34, .v (.d (.int .i64 z26))), (35, .v (.d (.int .i64 t.2.2)))], [(.loc 0, .cells [.d (.int .u8 z1), .d (.int .i64 z2), .d (.str s3), .d (.list true 6 l4), .d (.int .i64 z5), .d (.list false 1 l6)])], 800⟩)
                    (fun t => t.1 ≤ m4 ∧ L15_5 t.1 z2 s3 z5 l6 s11 s13 z26 t.2.1 t.2.2 = some r1) (fun t => t.1) (m4, (ByteArray.empty, (0 : Int))) ⟨Nat.le_refl _, h⟩ (by cbv) ?_
                  clear h
                  rintro ⟨m5, s27, z28⟩ ⟨hm5, h⟩
                  replace hm5 : m5 ≤ m4 := hm5
                  cases m5 with
                  | zero =>
                    replace h : L15_5 0 z2 s3 z5 l6 s11 s13 z26 s27 z28 = some r1 := h
                    rw [L15_5] at h
                    cases h
                  | succ m5 =>
                    replace h : L15_5 (m5 + 1) z2 s3 z5 l6 s11 s13 z26 s27 z28 = some r1 := h
                    rw [L15_5] at h
                    try cbv
                    refine seq_join (T := Nat × Bool) (fun t => ⟨[(1, .v (.c (.ptr (.loc 0) 0))), (2, .v (.d (.str ByteArray.empty))), (3, .v (.d (.str s11))), (4, .v (.d (.str s13))), (5, .v (.d (.str s27))), (33, .v (.d (.list false 1 l6))), (34, .v (.d (.int .i64 z26))), (35, .v (.d (.int .i64 z28))), (36, .v (.d (.bool t.2)))], [(.loc 0, .cells [.d (.int .u8 z1), .d (.int .i64 z2), .d (.str s3), .d (.list true 6 l4), .d (.int .i64 z5), .d (.list false 1 l6)])], 832⟩) (fun t => t.1 ≤ m5 ∧ L15_6 t.1 z2 s3 z5 l6 s11 s13 z26 s27 z28 t.2 = some r1) ?_ ?_
                    · try cbv
                      refine splitL (fun e => ?_) (fun e => ?_)
                      · replace h := ite_t e h
                        clear e
                        try cbv
                        exact join_next (m5, true) [1, 2, 3, 4, 5, 33, 34, 35, 36] [.loc 0] 832 ⟨by omega, h⟩ (by cbv)
                      · replace h := ite_f (Int.not_lt.2 e) h
                        clear e
                        try cbv
                        exact join_next (m5, false) [1, 2, 3, 4, 5, 33, 34, 35, 36] [.loc 0] 832 ⟨by omega, h⟩ (by cbv)
                    · clear h
                      rintro ⟨m6, b29⟩ ⟨hm6, h⟩
                      replace hm6 : m6 ≤ m5 := hm6
                      cases m6 with
                      | zero =>
                        replace h : L15_6 0 z2 s3 z5 l6 s11 s13 z26 s27 z28 b29 = some r1 := h
                        rw [L15_6] at h
                        cases h
                      | succ m6 =>
                        replace h : L15_6 (m6 + 1) z2 s3 z5 l6 s11 s13 z26 s27 z28 b29 = some r1 := h
                        rw [L15_6] at h
                        try cbv
                        refine seq_go ?_
                        try cbv
                        cases b29
                        · replace h := ite_f Bool.false_ne_true h
                          try cbv
                          refine seq_go ?_
                          try cbv
                          replace h := bO1_inv h
                          obtain ⟨s36, hr, h⟩ := h
                          first | refine .inr (.inl ⟨[], ?_⟩) | refine .inl ⟨[], ?_⟩
                          try cbv
                          refine call_pure hM hI (T34 _ hr) rfl ?_
                          clear hr
                          try cbv
                          replace h := szF_inv M h
                          obtain ⟨z37, hz, h⟩ := h
                          refine ⟨z37, hz, ?_⟩
                          clear hz
                          try cbv
                          replace h := bO1_inv h
                          obtain ⟨s38, hr, h⟩ := h
                          first | refine .inr (.inl ⟨[], ?_⟩) | refine .inl ⟨[], ?_⟩
                          try cbv
                          refine call_pure hM hI (T32 _ hr) rfl ?_
                          clear hr
                          try cbv
                          replace h := bO1_inv h
                          obtain ⟨s39, hr, h⟩ := h
                          first | refine .inr (.inl ⟨[], ?_⟩) | refine .inl ⟨[], ?_⟩
                          try cbv
                          refine call_pure hM hI (T32 _ hr) rfl ?_
                          clear hr
                          try cbv
                          refine ⟨false, ?_⟩
                          try cbv
                          refine ⟨true, ?_⟩
                          try cbv
                          replace h := bO1_inv h
                          obtain ⟨s40, hr, h⟩ := h
                          first | refine .inr (.inl ⟨[], ?_⟩) | refine .inl ⟨[], ?_⟩
                          try cbv
                          refine call_pure hM hI (T33 _ hr) rfl ?_
                          clear hr
                          try cbv
                          refine drawn ?_ ?_
                          · show _ = true
                            kernel_rfl
                          try cbv
                          obtain rfl := Option.some.inj h
                          refine fin_go ?_
                          try cbv
                          exact ⟨[], rfl, rfl, trivial, trivial, trivial⟩
                        · replace h := ite_t rfl h
                          try cbv
                          refine seq_go ?_
                          try cbv
                          refine seq_go ?_
                          try cbv
                          replace h := getF_inv h
                          obtain ⟨x30, hx30, h⟩ := h
                          replace h := ds_i64_inv h
                          obtain ⟨z31, rfl, h⟩ := h
                          refine ⟨_, hx30.1, hx30.2, ?_⟩
                          try cbv
                          replace h := bO1_inv h
                          obtain ⟨s32, hr, h⟩ := h
                          refine call_go rfl rfl ?_
                          try cbv
                          refine call_pure hM hI (T32 _ hr) rfl ?_
                          clear hr
                          try cbv
                          replace h := catF_inv h
                          obtain ⟨s33, hz, hb, h⟩ := h
                          refine ⟨s33, hz, hb, ?_⟩
                          clear hb hz
                          try cbv
                          replace h := catF_inv h
                          obtain ⟨s34, hz, hb, h⟩ := h
                          refine ⟨s34, hz, hb, ?_⟩
                          clear hb hz
                          try cbv
                          replace h := letF_inv h
                          obtain ⟨z35, hz, h⟩ := h
                          refine ⟨z35, hz, ?_⟩
                          clear hz
                          try cbv
                          exact loop_next (m6, (s34, z35)) [1, 2, 3, 4, 5, 33, 34, 35] [.loc 0] 800 ⟨by omega, h⟩ (Nat.lt_succ_of_le (by omega)) (by cbv)
                · replace h := ite_t rfl h
                  try cbv
                  refine seq_go ?_
                  try cbv
                  refine seq_go ?_
                  try cbv
                  replace h := getF_inv h
                  obtain ⟨x16, hx16, h⟩ := h
                  replace h := ds_t25_inv h
                  obtain ⟨z17, z18, s19, l20, z21, l22, rfl, h⟩ := h
                  refine ⟨_, hx16.1, hx16.2, ?_⟩
                  try cbv
                  replace h := bO1_inv h
                  obtain ⟨s23, hr, h⟩ := h
                  refine call_go rfl rfl ?_
                  try cbv
                  refine call_pure hM hI ((ih _ (by omega)) hr) rfl ?_
                  clear hr
                  try cbv
                  replace h := catF_inv h
                  obtain ⟨s24, hz, hb, h⟩ := h
                  refine ⟨s24, hz, hb, ?_⟩
                  clear hb hz
                  try cbv
                  replace h := letF_inv h
                  obtain ⟨z25, hz, h⟩ := h
                  refine ⟨z25, hz, ?_⟩
                  clear hz
                  try cbv
                  exact loop_next (m4, (s24, z25)) [1, 2, 3, 4, 5, 21, 22, 23] [.loc 0] 640 ⟨by omega, h⟩ (Nat.lt_succ_of_le (by omega)) (by cbv)
end Go.Proofs.YtagiiaejijihoaaDoor
end

set_option linter.unusedVariables false
noncomputable section
namespace Go.Proofs.YtagiiaejijihoaaDoor
open Go Go.AM
def F22 (n : Nat) (z1 : Int) : Option (Int) :=
  some z1
set_option maxRecDepth 100000 in
set_option maxHeartbeats 40000000 in
theorem T22 (n : Nat) : ∀ ⦃z1 : Int⦄ ⦃r1 : Int⦄, F22 n z1 = some r1 →
    Trip Tryd.prog inv 22 [.d (.int .i64 z1)] [] (.v (.d (.agg [.int .u8 1, .int .i64 r1, .str ByteArray.empty, .list true 6 [], .int .i64 0, .list false 1 []]))) [] [] := by
  intro z1 r1 h
  unfold F22 at h
  refine Trip.of tab_ok tab_one fol Tryd.func22 rfl (by kernel_rfl) rfl rfl rfl (fun M hM hI => ?_)
  try cbv
  refine seq_go ?_
  try cbv
  refine seq_go ?_
  try cbv
  obtain rfl := Option.some.inj h
  refine fin_go ?_
  try cbv
  exact ⟨[], rfl, rfl, trivial, trivial, trivial⟩
end Go.Proofs.YtagiiaejijihoaaDoor
end

set_option linter.unusedVariables false
noncomputable section
namespace Go.Proofs.YtagiiaejijihoaaDoor
open Go Go.AM
def F36 (n : Nat) (l1 : List D) : Option (List D) :=
  some l1
set_option maxRecDepth 100000 in
set_option maxHeartbeats 40000000 in
theorem T36 (n : Nat) : ∀ ⦃l1 : List D⦄ ⦃r1 : List D⦄, F36 n l1 = some r1 →
    Trip Tryd.prog inv 36 [.d (.list true 6 l1)] [] (.v (.d (.agg [.int .u8 4, .int .i64 0, .str k_S, .list true 6 r1, .int .i64 0, .list false 1 []]))) [] [] := by
  intro l1 r1 h
  unfold F36 at h
  refine Trip.of tab_ok tab_one fol Tryd.func36 rfl (by kernel_rfl) rfl rfl rfl (fun M hM hI => ?_)
  try cbv
  refine seq_go ?_
  try cbv
  refine seq_go ?_
  try cbv
  obtain rfl := Option.some.inj h
  refine fin_go ?_
  try cbv
  exact ⟨[], rfl, rfl, trivial, trivial, trivial⟩
end Go.Proofs.YtagiiaejijihoaaDoor
end

set_option linter.unusedVariables false
noncomputable section
namespace Go.Proofs.YtagiiaejijihoaaDoor
open Go Go.AM
def F18 (n : Nat) : Option (Bool) :=
  bO1 (F22 n (1 : Int)) fun z1 => bO1 (F36 n ([.agg [.int .u8 0, .int .i64 0, .str ByteArray.empty, .list true 6 [], .int .i64 0, .list false 1 []], .agg [.int .u8 6, .int .i64 0, .str ByteArray.empty, .list true 6 [], .int .i64 7, .list false 1 []]])) fun l2 => bO1 (F36 n ([.agg [.int .u8 1, .int .i64 z1, .str ByteArray.empty, .list true 6 [], .int .i64 0, .list false 1 []], .agg [.int .u8 4, .int .i64 0, .str k_S, .list true 6 l2, .int .i64 0, .list false 1 []]])) fun l3 => bO7 (F20 n (4 : Int) (0 : Int) k_S l3 (0 : Int) ([] : List D) ([.int .i64 0])) fun z4 z5 s6 l7 z8 l9 z10 => bO7 (F20 n (4 : Int) (0 : Int) k_S l3 (0 : Int) ([] : List D) ([.int .i64 1, .int .i64 1])) fun z11 z12 s13 l14 z15 l16 z17 => bO7 (F20 n (4 : Int) (0 : Int) k_S l3 (0 : Int) ([] : List D) ([.int .i64 1, .int .i64 0])) fun z18 z19 s20 l21 z22 l23 z24 => bO7 (F20 n (4 : Int) (0 : Int) k_S l3 (0 : Int) ([] : List D) ([.int .i64 1, .int .i64 0, .int .i64 0])) fun z25 z26 s27 l28 z29 l30 z31 => bO7 (F20 n (4 : Int) (0 : Int) k_S l3 (0 : Int) ([] : List D) ([.int .i64 2])) fun z32 z33 s34 l35 z36 l37 z38 => bO7 (F20 n (4 : Int) (0 : Int) k_S l3 (0 : Int) ([] : List D) ([.int .i64 0, .int .i64 0])) fun z39 z40 s41 l42 z43 l44 z45 => bO1 (F22 n (5 : Int)) fun z46 => bO7 (F19 n (4 : Int) (0 : Int) k_S l3 (0 : Int) ([] : List D) ([.int .i64 1, .int .i64 0]) (1 : Int) z46 ByteArray.empty ([] : List D) (0 : Int) ([] : List D)) fun z47 z48 s49 z50 z51 l52 l53 => bO7 (F20 n z47 z48 s49 l52 z50 l53 ([.int .i64 1, .int .i64 0])) fun z54 z55 s56 l57 z58 l59 z60 => (if z5 = (1 : Int) then (if z10 = (0 : Int) then (if z15 = (7 : Int) then (if z17 = (0 : Int) then (if z24 = (3 : Int) then (if z31 = (3 : Int) then (if z38 = (6 : Int) then (if z45 = (6 : Int) then (if z51 = (0 : Int) then (if z55 = (5 : Int) then (if z60 = (0 : Int) then bO1 (F22 n (1 : Int)) fun z61 => bO1 (F15 n (1 : Int) z61 ByteArray.empty ([] : List D) (0 : Int) ([] : List D)) fun s62 => (if s62 = k_i1_0__0____ then bO1 (F22 n (1 : Int)) fun z63 => bO1 (F12 n (1 : Int) z63 ByteArray.empty ([] : List D) (0 : Int) ([] : List D)) fun b64 => (if b64 = true then bO1 (F12 n z11 z12 s13 l14 z15 l16) fun b65 => letB (!b65) fun b66 => some b66 else some false) else some false) else some false) else some false) else some false) else some false) else some false) else some false) else some false) else some false) else some false) else some false) else some false)
set_option maxRecDepth 100000 in
set_option maxHeartbeats 40000000 in
theorem T18 (n : Nat) : ∀ ⦃r1 : Bool⦄, F18 n = some r1 →
    Trip Tryd.prog inv 18 [] [] (.v (.d (.bool r1))) [] [] := by
  intro r1 h
  unfold F18 at h
  refine Trip.of tab_ok tab_one fol Tryd.func18 rfl (by kernel_rfl) rfl rfl rfl (fun M hM hI => ?_)
  try cbv
  refine seq_go ?_
  try cbv
  refine seq_go ?_
  try cbv
  replace h := bO1_inv h
  obtain ⟨z1, hr, h⟩ := h
  refine call_go rfl rfl ?_
  try cbv
  refine call_pure hM hI (T22 _ hr) rfl ?_
  clear hr
  try cbv
  refine ⟨false, ?_⟩
  try cbv
  refine ⟨true, ?_⟩
  try cbv
  replace h := bO1_inv h
  obtain ⟨l2, hr, h⟩ := h
  refine call_go rfl rfl ?_
  try cbv
  refine call_pure hM hI (T36 _ hr) rfl ?_
  clear hr
  try cbv
  refine ⟨false, ?_⟩
  try cbv
  refine ⟨true, ?_⟩
  try cbv
  replace h := bO1_inv h
  obtain ⟨l3, hr, h⟩ := h
  refine call_go rfl rfl ?_
  try cbv
  refine call_pure hM hI (T36 _ hr) rfl ?_
  clear hr
  try cbv
  refine seq_go ?_
  try cbv
  refine ⟨false, ?_⟩
  try cbv
  refine ⟨true, ?_⟩
  try cbv
  replace h := bO7_inv h
  obtain ⟨z4, z5, s6, l7, z8, l9, z10, hr, h⟩ := h
  refine call_go rfl rfl ?_
  try cbv
  refine call_pure hM hI (T20 _ hr) rfl ?_
  clear hr
  try cbv
  refine seq_go ?_
  try cbv
  refine ⟨false, ?_⟩
  try cbv
  refine ⟨true, ?_⟩
  try cbv
  replace h := bO7_inv h
  obtain ⟨z11, z12, s13, l14, z15, l16, z17, hr, h⟩ := h
  refine call_go rfl rfl ?_
  try cbv
  refine call_pure hM hI (T20 _ hr) rfl ?_
  clear hr
  try cbv
  refine seq_go ?_
  try cbv
  refine ⟨false, ?_⟩
  try cbv
  refine ⟨true, ?_⟩
  try cbv
  replace h := bO7_inv h
  obtain ⟨z18, z19, s20, l21, z22, l23, z24, hr, h⟩ := h
  refine call_go rfl rfl ?_
  try cbv
  refine call_pure hM hI (T20 _ hr) rfl ?_
  clear hr
  try cbv
  refine seq_go ?_
  try cbv
  refine ⟨false, ?_⟩
  try cbv
  refine ⟨true, ?_⟩
  try cbv
  replace h := bO7_inv h
  obtain ⟨z25, z26, s27, l28, z29, l30, z31, hr, h⟩ := h
  refine call_go rfl rfl ?_
  try cbv
  refine call_pure hM hI (T20 _ hr) rfl ?_
  clear hr
  try cbv
  refine seq_go ?_
  try cbv
  refine ⟨false, ?_⟩
  try cbv
  refine ⟨true, ?_⟩
  try cbv
  replace h := bO7_inv h
  obtain ⟨z32, z33, s34, l35, z36, l37, z38, hr, h⟩ := h
  refine call_go rfl rfl ?_
  try cbv
  refine call_pure hM hI (T20 _ hr) rfl ?_
  clear hr
  try cbv
  refine seq_go ?_
  try cbv
  refine ⟨false, ?_⟩
  try cbv
  refine ⟨true, ?_⟩
  try cbv
  replace h := bO7_inv h
  obtain ⟨z39, z40, s41, l42, z43, l44, z45, hr, h⟩ := h
  refine call_go rfl rfl ?_
  try cbv
  refine call_pure hM hI (T20 _ hr) rfl ?_
  clear hr
  try cbv
  refine seq_go ?_
  try cbv
  refine ⟨false, ?_⟩
  try cbv
  refine ⟨true, ?_⟩
  try cbv
  replace h := bO1_inv h
  obtain ⟨z46, hr, h⟩ := h
  first | refine .inr (.inl ⟨[], ?_⟩) | refine .inl ⟨[], ?_⟩
  try cbv
  refine call_pure hM hI (T22 _ hr) rfl ?_
  clear hr
  try cbv
  replace h := bO7_inv h
  obtain ⟨z47, z48, s49, z50, z51, l52, l53, hr, h⟩ := h
  first | refine .inr (.inl ⟨[], ?_⟩) | refine .inl ⟨[], ?_⟩
  try cbv
  refine call_with hM hI [] (T19 _ hr) rfl (by simp) trivial trivial (by simp) ?_
  clear hr
  try cbv
  refine drawn ?_ ?_
  · show _ = true
    kernel_rfl
  try cbv
  refine seq_go ?_
  try cbv
  refine ⟨false, ?_⟩
  try cbv
  refine ⟨true, ?_⟩
  try cbv
  replace h := bO7_inv h
  obtain ⟨z54, z55, s56, l57, z58, l59, z60, hr, h⟩ := h
  refine call_gs [.freeze (.loc 2144), .freeze (.loc 2145)] rfl rfl ?_
  try cbv
  first | refine ⟨by first | rfl | trivial, ?_⟩ | skip
  refine callfv_with hM hI [] rfl rfl (T20 _ hr) rfl (by simp) trivial trivial (by simp) ?_
  clear hr
  try cbv
  refine seq_go ?_
  try cbv
  refine splitI (fun e => ?_) (fun e => ?_)
  · replace h := ite_t e h
    clear e
    try cbv
    refine splitI (fun e => ?_) (fun e => ?_)
    · replace h := ite_t e h
      clear e
      try cbv
      refine splitI (fun e => ?_) (fun e => ?_)
      · replace h := ite_t e h
        clear e
        try cbv
        refine splitI (fun e => ?_) (fun e => ?_)
        · replace h := ite_t e h
          clear e
          try cbv
          refine splitI (fun e => ?_) (fun e => ?_)
          · replace h := ite_t e h
            clear e
            try cbv
            refine splitI (fun e => ?_) (fun e => ?_)
            · replace h := ite_t e h
              clear e
              try cbv
              refine splitI (fun e => ?_) (fun e => ?_)
              · replace h := ite_t e h
                clear e
                try cbv
                refine splitI (fun e => ?_) (fun e => ?_)
                · replace h := ite_t e h
                  clear e
                  try cbv
                  refine splitI (fun e => ?_) (fun e => ?_)
                  · replace h := ite_t e h
                    clear e
                    try cbv
                    refine splitI (fun e => ?_) (fun e => ?_)
                    · replace h := ite_t e h
                      clear e
                      try cbv
                      refine splitI (fun e => ?_) (fun e => ?_)
                      · replace h := ite_t e h
                        clear e
                        try cbv
                        replace h := bO1_inv h
                        obtain ⟨z61, hr, h⟩ := h
                        refine call_go rfl rfl ?_
                        try cbv
                        refine call_pure hM hI (T22 _ hr) rfl ?_
                        clear hr
                        try cbv
                        replace h := bO1_inv h
                        obtain ⟨s62, hr, h⟩ := h
                        refine call_go rfl rfl ?_
                        try cbv
                        refine call_pure hM hI (T15 _ hr) rfl ?_
                        clear hr
                        try cbv
                        refine splitS (fun e => ?_) (fun e => ?_)
                        · replace h := ite_t (bytes_eq.1 e) h
                          clear e
                          try cbv
                          replace h := bO1_inv h
                          obtain ⟨z63, hr, h⟩ := h
                          refine call_go rfl rfl ?_
                          try cbv
                          refine call_pure hM hI (T22 _ hr) rfl ?_
                          clear hr
                          try cbv
                          replace h := bO1_inv h
                          obtain ⟨b64, hr, h⟩ := h
                          refine call_go rfl rfl ?_
                          try cbv
                          refine call_pure hM hI (T12 _ hr) rfl ?_
                          clear hr
                          try cbv
                          cases b64
                          · replace h := ite_f Bool.false_ne_true h
                            try cbv
                            obtain rfl := Option.some.inj h
                            refine fin_go ?_
                            try cbv
                            exact ⟨[], rfl, rfl, trivial, trivial, trivial⟩
                          · replace h := ite_t rfl h
                            try cbv
                            replace h := bO1_inv h
                            obtain ⟨b65, hr, h⟩ := h
                            refine call_go rfl rfl ?_
                            try cbv
                            refine call_pure hM hI (T12 _ hr) rfl ?_
                            clear hr
                            try cbv
                            replace h := letB_inv h
                            obtain ⟨b66, hz, h⟩ := h
                            refine ⟨b66, not_eq' hz, ?_⟩
                            clear hz
                            try cbv
                            obtain rfl := Option.some.inj h
                            refine fin_go ?_
                            try cbv
                            exact ⟨[], rfl, rfl, trivial, trivial, trivial⟩
                        · replace h := ite_f (bytes_ne.1 e) h
                          clear e
                          try cbv
                          obtain rfl := Option.some.inj h
                          refine fin_go ?_
                          try cbv
                          exact ⟨[], rfl, rfl, trivial, trivial, trivial⟩
                      · replace h := ite_f e h
                        clear e
                        try cbv
                        obtain rfl := Option.some.inj h
                        refine fin_go ?_
                        try cbv
                        exact ⟨[], rfl, rfl, trivial, trivial, trivial⟩
                    · replace h := ite_f e h
                      clear e
                      try cbv
                      obtain rfl := Option.some.inj h
                      refine fin_go ?_
                      try cbv
                      exact ⟨[], rfl, rfl, trivial, trivial, trivial⟩
                  · replace h := ite_f e h
                    clear e
                    try cbv
                    obtain rfl := Option.some.inj h
                    refine fin_go ?_
                    try cbv
                    exact ⟨[], rfl, rfl, trivial, trivial, trivial⟩
                · replace h := ite_f e h
                  clear e
                  try cbv
                  obtain rfl := Option.some.inj h
                  refine fin_go ?_
                  try cbv
                  exact ⟨[], rfl, rfl, trivial, trivial, trivial⟩
              · replace h := ite_f e h
                clear e
                try cbv
                obtain rfl := Option.some.inj h
                refine fin_go ?_
                try cbv
                exact ⟨[], rfl, rfl, trivial, trivial, trivial⟩
            · replace h := ite_f e h
              clear e
              try cbv
              obtain rfl := Option.some.inj h
              refine fin_go ?_
              try cbv
              exact ⟨[], rfl, rfl, trivial, trivial, trivial⟩
          · replace h := ite_f e h
            clear e
            try cbv
            obtain rfl := Option.some.inj h
            refine fin_go ?_
            try cbv
            exact ⟨[], rfl, rfl, trivial, trivial, trivial⟩
        · replace h := ite_f e h
          clear e
          try cbv
          obtain rfl := Option.some.inj h
          refine fin_go ?_
          try cbv
          exact ⟨[], rfl, rfl, trivial, trivial, trivial⟩
      · replace h := ite_f e h
        clear e
        try cbv
        obtain rfl := Option.some.inj h
        refine fin_go ?_
        try cbv
        exact ⟨[], rfl, rfl, trivial, trivial, trivial⟩
    · replace h := ite_f e h
      clear e
      try cbv
      obtain rfl := Option.some.inj h
      refine fin_go ?_
      try cbv
      exact ⟨[], rfl, rfl, trivial, trivial, trivial⟩
  · replace h := ite_f e h
    clear e
    try cbv
    obtain rfl := Option.some.inj h
    refine fin_go ?_
    try cbv
    exact ⟨[], rfl, rfl, trivial, trivial, trivial⟩
end Go.Proofs.YtagiiaejijihoaaDoor
end

set_option linter.unusedVariables false
noncomputable section
namespace Go.Proofs.YtagiiaejijihoaaDoor
open Go Go.AM
mutual
def L21_2 : Nat → (List D) → (List D) → Int → Option (Bool)
  | 0, _, _, _ => none
  | n + 1, l1, l2, z6 =>
    lenF l2 fun z7 => (if z6 < z7 then L21_3 n l1 l2 z6 true else L21_3 n l1 l2 z6 false)
def L21_3 : Nat → (List D) → (List D) → Int → Bool → Option (Bool)
  | 0, _, _, _, _ => none
  | n + 1, l1, l2, z6, b8 =>
    (if b8 = true then getF l1 z6 fun x9 => ds_i64 x9 fun z10 => getF l2 z6 fun x11 => ds_i64 x11 fun z12 => (if z10 = z12 then L21_4 n l1 l2 z6 false else L21_4 n l1 l2 z6 true) else some true)
def L21_4 : Nat → (List D) → (List D) → Int → Bool → Option (Bool)
  | 0, _, _, _, _ => none
  | n + 1, l1, l2, z6, b13 =>
    (if b13 = true then some false else letF (IntKind.wrap .i64 (z6 + 1)) fun z14 => L21_2 n l1 l2 z14)
end
def L21_1 : Nat → (List D) → (List D) → Bool → Option (Bool)
  | 0, _, _, _ => none
  | n + 1, l1, l2, b5 =>
    (if b5 = true then some false else L21_2 n l1 l2 (0 : Int))
def F21 (n : Nat) (l1 : List D) (l2 : List D) : Option (Bool) :=
  lenF l1 fun z3 => lenF l2 fun z4 => (if z3 < z4 then L21_1 n l1 l2 true else L21_1 n l1 l2 false)
set_option maxRecDepth 100000 in
set_option maxHeartbeats 40000000 in
theorem T21 (n : Nat) : ∀ ⦃l1 : List D⦄ ⦃l2 : List D⦄ ⦃r1 : Bool⦄, F21 n l1 l2 = some r1 →
    Trip Tryd.prog inv 21 [.d (.list false 1 l1), .d (.list false 1 l2)] [] (.v (.d (.bool r1))) [] [] := by
  intro l1 l2 r1 h
  unfold F21 at h
  refine Trip.of tab_ok tab_one fol Tryd.func21 rfl (by kernel_rfl) rfl rfl rfl (fun M hM hI => ?_)
  try cbv
  refine seq_go ?_
  try cbv
  refine seq_go ?_
  try cbv
  refine seq_join (T := Nat × Bool) (fun t => ⟨[(0, .v (.d (.list false 1 l1))), (1, .v (.d (.list false 1 l2))), (4, .v (.d (.bool false))), (10, .v (.d (.bool t.2)))], [], 192⟩) (fun t => t.1 ≤ n ∧ L21_1 t.1 l1 l2 t.2 = some r1) ?_ ?_
  · try cbv
    replace h := lenF_inv M h
    obtain ⟨z3, hz, h⟩ := h
    refine ⟨z3, hz, ?_⟩
    clear hz
    try cbv
    replace h := lenF_inv M h
    obtain ⟨z4, hz, h⟩ := h
    refine ⟨z4, hz, ?_⟩
    clear hz
    try cbv
    refine splitL (fun e => ?_) (fun e => ?_)
    · replace h := ite_t e h
      clear e
      try cbv
      exact join_next (n, true) [0, 1, 4, 10] [] 192 ⟨by omega, h⟩ (by cbv)
    · replace h := ite_f (Int.not_lt.2 e) h
      clear e
      try cbv
      exact join_next (n, false) [0, 1, 4, 10] [] 192 ⟨by omega, h⟩ (by cbv)
  · clear h
    rintro ⟨m1, b5⟩ ⟨hm1, h⟩
    replace hm1 : m1 ≤ n := hm1
    cases m1 with
    | zero =>
      replace h : L21_1 0 l1 l2 b5 = some r1 := h
      rw [L21_1] at h
      cases h
    | succ m1 =>
      replace h : L21_1 (m1 + 1) l1 l2 b5 = some r1 := h
      rw [L21_1] at h
      try cbv
      cases b5
      · replace h := ite_f Bool.false_ne_true h
        try cbv
        refine seq_go ?_
        try cbv
        refine seq_go ?_
        try cbv
        refine loop_inv (T := Nat × Int) [0, 1, 4, 5] [] 224 (fun t => ⟨[(0, .v (.d (.list false 1 l1))), (1, .v (.d (.list false 1 l2))), (4, .v (.d (.bool false))), (5, .v (.d (.int .i64 t.2)))], [], 224⟩)
          (fun t => t.1 ≤ m1 ∧ L21_2 t.1 l1 l2 t.2 = some r1) (fun t => t.1) (m1, (0 : Int)) ⟨Nat.le_refl _, h⟩ (by cbv) ?_
        clear h
        rintro ⟨m2, z6⟩ ⟨hm2, h⟩
        replace hm2 : m2 ≤ m1 := hm2
        cases m2 with
        | zero =>
          replace h : L21_2 0 l1 l2 z6 = some r1 := h
          rw [L21_2] at h
          cases h
        | succ m2 =>
          replace h : L21_2 (m2 + 1) l1 l2 z6 = some r1 := h
          rw [L21_2] at h
          try cbv
          refine seq_go ?_
          try cbv
          refine seq_join (T := Nat × Bool) (fun t => ⟨[(0, .v (.d (.list false 1 l1))), (1, .v (.d (.list false 1 l2))), (4, .v (.d (.bool false))), (5, .v (.d (.int .i64 z6))), (14, .v (.d (.bool t.2)))], [], 352⟩) (fun t => t.1 ≤ m2 ∧ L21_3 t.1 l1 l2 z6 t.2 = some r1) ?_ ?_
          · try cbv
            replace h := lenF_inv M h
            obtain ⟨z7, hz, h⟩ := h
            refine ⟨z7, hz, ?_⟩
            clear hz
            try cbv
            refine splitL (fun e => ?_) (fun e => ?_)
            · replace h := ite_t e h
              clear e
              try cbv
              exact join_next (m2, true) [0, 1, 4, 5, 14] [] 352 ⟨by omega, h⟩ (by cbv)
            · replace h := ite_f (Int.not_lt.2 e) h
              clear e
              try cbv
              exact join_next (m2, false) [0, 1, 4, 5, 14] [] 352 ⟨by omega, h⟩ (by cbv)
          · clear h
            rintro ⟨m3, b8⟩ ⟨hm3, h⟩
            replace hm3 : m3 ≤ m2 := hm3
            cases m3 with
            | zero =>
              replace h : L21_3 0 l1 l2 z6 b8 = some r1 := h
              rw [L21_3] at h
              cases h
            | succ m3 =>
              replace h : L21_3 (m3 + 1) l1 l2 z6 b8 = some r1 := h
              rw [L21_3] at h
              try cbv
              cases b8
              · replace h := ite_f Bool.false_ne_true h
                try cbv
                refine seq_go ?_
                try cbv
                obtain rfl := Option.some.inj h
                refine fin_go ?_
                try cbv
                exact ⟨[], rfl, rfl, trivial, trivial, trivial⟩
              · replace h := ite_t rfl h
                try cbv
                refine seq_go ?_
                try cbv
                refine seq_join (T := Nat × Bool) (fun t => ⟨[(0, .v (.d (.list false 1 l1))), (1, .v (.d (.list false 1 l2))), (4, .v (.d (.bool false))), (5, .v (.d (.int .i64 z6))), (25, .v (.d (.bool t.2)))], [], 640⟩) (fun t => t.1 ≤ m3 ∧ L21_4 t.1 l1 l2 z6 t.2 = some r1) ?_ ?_
                · try cbv
                  replace h := getF_inv h
                  obtain ⟨x9, hx9, h⟩ := h
                  replace h := ds_i64_inv h
                  obtain ⟨z10, rfl, h⟩ := h
                  refine ⟨_, hx9.1, hx9.2, ?_⟩
                  try cbv
                  replace h := getF_inv h
                  obtain ⟨x11, hx11, h⟩ := h
                  replace h := ds_i64_inv h
                  obtain ⟨z12, rfl, h⟩ := h
                  refine ⟨_, hx11.1, hx11.2, ?_⟩
                  try cbv
                  refine splitI (fun e => ?_) (fun e => ?_)
                  · replace h := ite_t e h
                    clear e
                    try cbv
                    refine drawn ?_ ?_
                    · show _ = true
                      kernel_rfl
                    try cbv
                    exact join_next (m3, false) [0, 1, 4, 5, 25] [] 640 ⟨by omega, h⟩ (by cbv)
                  · replace h := ite_f e h
                    clear e
                    try cbv
                    refine drawn ?_ ?_
                    · show _ = true
                      kernel_rfl
                    try cbv
                    exact join_next (m3, true) [0, 1, 4, 5, 25] [] 640 ⟨by omega, h⟩ (by cbv)
                · clear h
                  rintro ⟨m4, b13⟩ ⟨hm4, h⟩
                  replace hm4 : m4 ≤ m3 := hm4
                  cases m4 with
                  | zero =>
                    replace h : L21_4 0 l1 l2 z6 b13 = some r1 := h
                    rw [L21_4] at h
                    cases h
                  | succ m4 =>
                    replace h : L21_4 (m4 + 1) l1 l2 z6 b13 = some r1 := h
                    rw [L21_4] at h
                    try cbv
                    cases b13
                    · replace h := ite_f Bool.false_ne_true h
                      try cbv
                      replace h := letF_inv h
                      obtain ⟨z14, hz, h⟩ := h
                      refine ⟨z14, hz, ?_⟩
                      clear hz
                      try cbv
                      exact loop_next (m4, z14) [0, 1, 4, 5] [] 224 ⟨by omega, h⟩ (Nat.lt_succ_of_le (by omega)) (by cbv)
                    · replace h := ite_t rfl h
                      try cbv
                      refine seq_go ?_
                      try cbv
                      obtain rfl := Option.some.inj h
                      refine fin_go ?_
                      try cbv
                      exact ⟨[], rfl, rfl, trivial, trivial, trivial⟩
      · replace h := ite_t rfl h
        try cbv
        refine seq_go ?_
        try cbv
        obtain rfl := Option.some.inj h
        refine fin_go ?_
        try cbv
        exact ⟨[], rfl, rfl, trivial, trivial, trivial⟩
end Go.Proofs.YtagiiaejijihoaaDoor
end

set_option linter.unusedVariables false
noncomputable section
namespace Go.Proofs.YtagiiaejijihoaaDoor
open Go Go.AM
def L4_6 : Nat → Int → Int → ByteArray → (List D) → Int → (List D) → (List D) → Int → Int → ByteArray → Int → (List D) → (List D) → Option (Bool)
  | 0, _, _, _, _, _, _, _, _, _, _, _, _, _ => none
  | n + 1, z1, z2, s3, l4, z5, l6, l13, z20, z21, s22, z23, l25, l26 =>
    bO7 (F20 n z1 z2 s3 l4 z5 l6 l13) fun z63 z64 s65 l66 z67 l68 z69 => bO7 (F19 n z20 z21 s22 l25 z23 l26 l13 z63 z64 s65 l66 z67 l68) fun z70 z71 s72 z73 z74 l75 l76 => (if z69 = (0 : Int) then (if z74 = (0 : Int) then bO1 (F11 n z70 z71 s72 l75 z73 l76 z1 z2 s3 l4 z5 l6) fun b77 => some b77 else some false) else some true)
def L4_5 : Nat → Int → Int → ByteArray → (List D) → Int → (List D) → (List D) → Int → Int → ByteArray → Int → (List D) → (List D) → Bool → Option (Bool)
  | 0, _, _, _, _, _, _, _, _, _, _, _, _, _, _ => none
  | n + 1, z1, z2, s3, l4, z5, l6, l13, z20, z21, s22, z23, l25, l26, b62 =>
    (if b62 = true then some false else L4_6 n z1 z2 s3 l4 z5 l6 l13 z20 z21 s22 z23 l25 l26)
def L4_4 : Nat → Int → Int → ByteArray → (List D) → Int → (List D) → (List D) → (List D) → Int → Int → ByteArray → Int → (List D) → (List D) → Bool → Option (Bool)
  | 0, _, _, _, _, _, _, _, _, _, _, _, _, _, _, _ => none
  | n + 1, z1, z2, s3, l4, z5, l6, l13, l14, z20, z21, s22, z23, l25, l26, b45 =>
    (if b45 = true then bO7 (F20 n z1 z2 s3 l4 z5 l6 l14) fun z46 z47 s48 l49 z50 l51 z52 => bO7 (F20 n z20 z21 s22 l25 z23 l26 l14) fun z53 z54 s55 l56 z57 l58 z59 => (if z52 = z59 then bO1 (F11 n z46 z47 s48 l49 z50 l51 z53 z54 s55 l56 z57 l58) fun b60 => letB (!b60) fun b61 => L4_5 n z1 z2 s3 l4 z5 l6 l13 z20 z21 s22 z23 l25 l26 b61 else L4_5 n z1 z2 s3 l4 z5 l6 l13 z20 z21 s22 z23 l25 l26 true) else L4_6 n z1 z2 s3 l4 z5 l6 l13 z20 z21 s22 z23 l25 l26)
def L4_3 : Nat → Int → Int → ByteArray → (List D) → Int → (List D) → (List D) → (List D) → Int → Int → ByteArray → Int → (List D) → (List D) → Bool → Option (Bool)
  | 0, _, _, _, _, _, _, _, _, _, _, _, _, _, _, _ => none
  | n + 1, z1, z2, s3, l4, z5, l6, l13, l14, z20, z21, s22, z23, l25, l26, b40 =>
    (if b40 = true then some false else bO1 (F21 n l13 l14) fun b41 => letB (!b41) fun b42 => (if b42 = true then bO1 (F21 n l14 l13) fun b43 => letB (!b43) fun b44 => L4_4 n z1 z2 s3 l4 z5 l6 l13 l14 z20 z21 s22 z23 l25 l26 b44 else L4_4 n z1 z2 s3 l4 z5 l6 l13 l14 z20 z21 s22 z23 l25 l26 false))
def L4_2 : Nat → Int → Int → ByteArray → (List D) → Int → (List D) → Int → Int → ByteArray → (List D) → Int → (List D) → (List D) → (List D) → Int → Int → ByteArray → Int → (List D) → (List D) → Bool → Option (Bool)
  | 0, _, _, _, _, _, _, _, _, _, _, _, _, _, _, _, _, _, _, _, _, _ => none
  | n + 1, z1, z2, s3, l4, z5, l6, z7, z8, s9, l10, z11, l12, l13, l14, z20, z21, s22, z23, l25, l26, b27 =>
    (if b27 = true then bO1 (F11 n z20 z21 s22 l25 z23 l26 (0 : Int) (0 : Int) ByteArray.empty ([] : List D) (0 : Int) ([] : List D)) fun b28 => some b28 else bO7 (F20 n z20 z21 s22 l25 z23 l26 l13) fun z29 z30 s31 l32 z33 l34 z35 => (if z7 = (0 : Int) then (if z35 = (3 : Int) then (if z7 = (0 : Int) then L4_3 n z1 z2 s3 l4 z5 l6 l13 l14 z20 z21 s22 z23 l25 l26 false else (if z35 = (0 : Int) then bO1 (F11 n z29 z30 s31 l32 z33 l34 z7 z8 s9 l10 z11 l12) fun b36 => letB (!b36) fun b37 => L4_3 n z1 z2 s3 l4 z5 l6 l13 l14 z20 z21 s22 z23 l25 l26 b37 else L4_3 n z1 z2 s3 l4 z5 l6 l13 l14 z20 z21 s22 z23 l25 l26 true)) else L4_3 n z1 z2 s3 l4 z5 l6 l13 l14 z20 z21 s22 z23 l25 l26 true) else (if z7 = (0 : Int) then L4_3 n z1 z2 s3 l4 z5 l6 l13 l14 z20 z21 s22 z23 l25 l26 false else (if z35 = (0 : Int) then bO1 (F11 n z29 z30 s31 l32 z33 l34 z7 z8 s9 l10 z11 l12) fun b38 => letB (!b38) fun b39 => L4_3 n z1 z2 s3 l4 z5 l6 l13 l14 z20 z21 s22 z23 l25 l26 b39 else L4_3 n z1 z2 s3 l4 z5 l6 l13 l14 z20 z21 s22 z23 l25 l26 true))))
def L4_1 : Nat → Int → Int → ByteArray → (List D) → Int → (List D) → Int → Int → ByteArray → (List D) → Int → (List D) → (List D) → (List D) → Bool → Option (Bool)
  | 0, _, _, _, _, _, _, _, _, _, _, _, _, _, _, _ => none
  | n + 1, z1, z2, s3, l4, z5, l6, z7, z8, s9, l10, z11, l12, l13, l14, b19 =>
    (if b19 = true then some true else bO7 (F19 n z1 z2 s3 l4 z5 l6 l13 z7 z8 s9 l10 z11 l12) fun z20 z21 s22 z23 z24 l25 l26 => (if z24 = (0 : Int) then L4_2 n z1 z2 s3 l4 z5 l6 z7 z8 s9 l10 z11 l12 l13 l14 z20 z21 s22 z23 l25 l26 false else L4_2 n z1 z2 s3 l4 z5 l6 z7 z8 s9 l10 z11 l12 l13 l14 z20 z21 s22 z23 l25 l26 true))
def F4 (n : Nat) (z1 : Int) (z2 : Int) (s3 : ByteArray) (l4 : List D) (z5 : Int) (l6 : List D) (z7 : Int) (z8 : Int) (s9 : ByteArray) (l10 : List D) (z11 : Int) (l12 : List D) (l13 : List D) (l14 : List D) : Option (Bool) :=
  bO1 (F18 n) fun b15 => letB (!b15) fun b16 => (if b16 = true then some false else bO1 (F8 n z1 z2 s3 l4 z5 l6 z7 z8 s9 l10 z11 l12 l13) fun b17 => (if b17 = true then L4_1 n z1 z2 s3 l4 z5 l6 z7 z8 s9 l10 z11 l12 l13 l14 true else lenF l14 fun z18 => (if (100 : Int) < z18 then L4_1 n z1 z2 s3 l4 z5 l6 z7 z8 s9 l10 z11 l12 l13 l14 true else L4_1 n z1 z2 s3 l4 z5 l6 z7 z8 s9 l10 z11 l12 l13 l14 false)))
set_option maxRecDepth 100000 in
set_option maxHeartbeats 40000000 in
theorem T4 (n : Nat) : ∀ ⦃z1 : Int⦄ ⦃z2 : Int⦄ ⦃s3 : ByteArray⦄ ⦃l4 : List D⦄ ⦃z5 : Int⦄ ⦃l6 : List D⦄ ⦃z7 : Int⦄ ⦃z8 : Int⦄ ⦃s9 : ByteArray⦄ ⦃l10 : List D⦄ ⦃z11 : Int⦄ ⦃l12 : List D⦄ ⦃l13 : List D⦄ ⦃l14 : List D⦄ ⦃r1 : Bool⦄, F4 n z1 z2 s3 l4 z5 l6 z7 z8 s9 l10 z11 l12 l13 l14 = some r1 →
    Trip Tryd.prog inv 4 [.d (.agg [.int .u8 z1, .int .i64 z2, .str s3, .list true 6 l4, .int .i64 z5, .list false 1 l6]), .d (.agg [.int .u8 z7, .int .i64 z8, .str s9, .list true 6 l10, .int .i64 z11, .list false 1 l12]), .d (.list false 1 l13), .d (.list false 1 l14)] [] (.v (.d (.bool r1))) [] [] := by
  intro z1 z2 s3 l4 z5 l6 z7 z8 s9 l10 z11 l12 l13 l14 r1 h
  unfold F4 at h
  refine Trip.of tab_ok tab_one fol Tryd.func4 rfl (by kernel_rfl) rfl rfl rfl (fun M hM hI => ?_)
  try cbv
  refine seq_go ?_
  try cbv
  refine seq_go ?_
  try cbv
  refine seq_go ?_
  try cbv
  replace h := bO1_inv h
  obtain ⟨b15, hr, h⟩ := h
  refine call_go rfl rfl ?_
  try cbv
  refine call_pure hM hI (T18 _ hr) rfl ?_
  clear hr
  try cbv
  replace h := letB_inv h
  obtain ⟨b16, hz, h⟩ := h
  refine ⟨b16, not_eq' hz, ?_⟩
  clear hz
  try cbv
  cases b16
  · replace h := ite_f Bool.false_ne_true h
    try cbv
    refine seq_go ?_
    try cbv
    refine seq_join (T := Nat × Bool) (fun t => ⟨[(2, .v (.d (.list false 1 l13))), (3, .v (.d (.list false 1 l14))), (4, .v (.c (.ptr (.loc 0) 0))), (5, .v (.c (.ptr (.loc 32) 0))), (8, .v (.d (.bool false))), (31, .v (.d (.bool t.2)))], [(.loc 0, .cells [.d (.int .u8 z1), .d (.int .i64 z2), .d (.str s3), .d (.list true 6 l4), .d (.int .i64 z5), .d (.list false 1 l6)]), (.loc 32, .cells [.d (.int .u8 z7), .d (.int .i64 z8), .d (.str s9), .d (.list true 6 l10), .d (.int .i64 z11), .d (.list false 1 l12)])], 448⟩) (fun t => t.1 ≤ n ∧ L4_1 t.1 z1 z2 s3 l4 z5 l6 z7 z8 s9 l10 z11 l12 l13 l14 t.2 = some r1) ?_ ?_
    · try cbv
      replace h := bO1_inv h
      obtain ⟨b17, hr, h⟩ := h
      refine call_go rfl rfl ?_
      try cbv
      refine call_pure hM hI (T8 _ hr) rfl ?_
      clear hr
      try cbv
      cases b17
      · replace h := ite_f Bool.false_ne_true h
        try cbv
        replace h := lenF_inv M h
        obtain ⟨z18, hz, h⟩ := h
        refine ⟨z18, hz, ?_⟩
        clear hz
        try cbv
        refine splitL (fun e => ?_) (fun e => ?_)
        · replace h := ite_t e h
          clear e
          try cbv
          exact join_next (n, true) [2, 3, 4, 5, 8, 31] [.loc 0, .loc 32] 448 ⟨by omega, h⟩ (by cbv)
        · replace h := ite_f (Int.not_lt.2 e) h
          clear e
          try cbv
          exact join_next (n, false) [2, 3, 4, 5, 8, 31] [.loc 0, .loc 32] 448 ⟨by omega, h⟩ (by cbv)
      · replace h := ite_t rfl h
        try cbv
        exact join_next (n, true) [2, 3, 4, 5, 8, 31] [.loc 0, .loc 32] 448 ⟨by omega, h⟩ (by cbv)
    · clear h
      rintro ⟨m1, b19⟩ ⟨hm1, h⟩
      replace hm1 : m1 ≤ n := hm1
      cases m1 with
      | zero =>
        replace h : L4_1 0 z1 z2 s3 l4 z5 l6 z7 z8 s9 l10 z11 l12 l13 l14 b19 = some r1 := h
        rw [L4_1] at h
        cases h
      | succ m1 =>
        replace h : L4_1 (m1 + 1) z1 z2 s3 l4 z5 l6 z7 z8 s9 l10 z11 l12 l13 l14 b19 = some r1 := h
        rw [L4_1] at h
        try cbv
        cases b19
        · replace h := ite_f Bool.false_ne_true h
          try cbv
          refine seq_go ?_
          try cbv
          replace h := bO7_inv h
          obtain ⟨z20, z21, s22, z23, z24, l25, l26, hr, h⟩ := h
          refine call_go rfl rfl ?_
          try cbv
          refine call_with hM hI [] (T19 _ hr) rfl (by simp) trivial trivial (by simp) ?_
          clear hr
          try cbv
          refine seq_go ?_
          try cbv
          refine seq_join (T := Nat × Bool) (fun t => ⟨[(2, .v (.d (.list false 1 l13))), (3, .v (.d (.list false 1 l14))), (4, .v (.c (.ptr (.loc 0) 0))), (5, .v (.c (.ptr (.loc 32) 0))), (8, .v (.d (.bool false))), (9, .v (.c (.ptr (.loc 672) 0))), (40, .v (.d (.bool t.2)))], [(.loc 0, .cells [.d (.int .u8 z1), .d (.int .i64 z2), .d (.str s3), .d (.list true 6 l4), .d (.int .i64 z5), .d (.list false 1 l6)]), (.loc 32, .cells [.d (.int .u8 z7), .d (.int .i64 z8), .d (.str s9), .d (.list true 6 l10), .d (.int .i64 z11), .d (.list false 1 l12)]), (.loc 672, .cells [.d (.int .u8 z20), .d (.int .i64 z21), .d (.str s22), .ow (.loc 544), .d (.int .i64 z23), .ow (.loc 545)]), (.loc 544, .tree .row true 6 l25 none), (.loc 545, .tree .row false 1 l26 none)], 832⟩) (fun t => t.1 ≤ m1 ∧ L4_2 t.1 z1 z2 s3 l4 z5 l6 z7 z8 s9 l10 z11 l12 l13 l14 z20 z21 s22 z23 l25 l26 t.2 = some r1) ?_ ?_
          · try cbv
            refine splitI (fun e => ?_) (fun e => ?_)
            · replace h := ite_t e h
              clear e
              try cbv
              exact join_next (m1, false) [2, 3, 4, 5, 8, 9, 40] [.loc 0, .loc 32, .loc 672, .loc 544, .loc 545] 832 ⟨by omega, h⟩ (by cbv)
            · replace h := ite_f e h
              clear e
              try cbv
              exact join_next (m1, true) [2, 3, 4, 5, 8, 9, 40] [.loc 0, .loc 32, .loc 672, .loc 544, .loc 545] 832 ⟨by omega, h⟩ (by cbv)
          · clear h
            rintro ⟨m2, b27⟩ ⟨hm2, h⟩
            replace hm2 : m2 ≤ m1 := hm2
            cases m2 with
            | zero =>
              replace h : L4_2 0 z1 z2 s3 l4 z5 l6 z7 z8 s9 l10 z11 l12 l13 l14 z20 z21 s22 z23 l25 l26 b27 = some r1 := h
              rw [L4_2] at h
              cases h
            | succ m2 =>
              replace h : L4_2 (m2 + 1) z1 z2 s3 l4 z5 l6 z7 z8 s9 l10 z11 l12 l13 l14 z20 z21 s22 z23 l25 l26 b27 = some r1 := h
              rw [L4_2] at h
              try cbv
              cases b27
              · replace h := ite_f Bool.false_ne_true h
                try cbv
                refine seq_go ?_
                try cbv
                replace h := bO7_inv h
                obtain ⟨z29, z30, s31, l32, z33, l34, z35, hr, h⟩ := h
                refine call_gs [.freeze (.loc 544), .freeze (.loc 545)] rfl rfl ?_
                try cbv
                first | refine ⟨by first | rfl | trivial, ?_⟩ | skip
                refine callfv_with hM hI [] rfl rfl (T20 _ hr) rfl (by simp) trivial trivial (by simp) ?_
                clear hr
                try cbv
                refine seq_go ?_
                try cbv
                refine seq_join (T := Nat × Bool) (fun t => ⟨[(2, .v (.d (.list false 1 l13))), (3, .v (.d (.list false 1 l14))), (4, .v (.c (.ptr (.loc 0) 0))), (8, .v (.d (.bool false))), (9, .v (.c (.ptr (.loc 672) 0))), (71, .v (.d (.bool t.2)))], [(.loc 0, .cells [.d (.int .u8 z1), .d (.int .i64 z2), .d (.str s3), .d (.list true 6 l4), .d (.int .i64 z5), .d (.list false 1 l6)]), (.loc 672, .cells [.d (.int .u8 z20), .d (.int .i64 z21), .d (.str s22), .d (.list true 6 l25), .d (.int .i64 z23), .d (.list false 1 l26)])], 1824⟩) (fun t => t.1 ≤ m2 ∧ L4_3 t.1 z1 z2 s3 l4 z5 l6 l13 l14 z20 z21 s22 z23 l25 l26 t.2 = some r1) ?_ ?_
                · try cbv
                  refine splitI (fun e => ?_) (fun e => ?_)
                  · replace h := ite_t e h
                    clear e
                    try cbv
                    refine splitI (fun e => ?_) (fun e => ?_)
                    · replace h := ite_t e h
                      clear e
                      try cbv
                      refine splitI (fun e => ?_) (fun e => ?_)
                      · replace h := ite_t e h
                        clear e
                        try cbv
                        exact join_next (m2, false) [2, 3, 4, 8, 9, 71] [.loc 0, .loc 672] 1824 ⟨by omega, h⟩ (by cbv)
                      · replace h := ite_f e h
                        clear e
                        try cbv
                        refine splitI (fun e => ?_) (fun e => ?_)
                        · replace h := ite_t e h
                          clear e
                          try cbv
                          replace h := bO1_inv h
                          obtain ⟨b36, hr, h⟩ := h
                          refine call_go rfl rfl ?_
                          try cbv
                          refine call_pure hM hI (T11 _ hr) rfl ?_
                          clear hr
                          try cbv
                          replace h := letB_inv h
                          obtain ⟨b37, hz, h⟩ := h
                          refine ⟨b37, not_eq' hz, ?_⟩
                          clear hz
                          try cbv
                          exact join_next (m2, b37) [2, 3, 4, 8, 9, 71] [.loc 0, .loc 672] 1824 ⟨by omega, h⟩ (by cbv)
                        · replace h := ite_f e h
                          clear e
                          try cbv
                          exact join_next (m2, true) [2, 3, 4, 8, 9, 71] [.loc 0, .loc 672] 1824 ⟨by omega, h⟩ (by cbv)
                    · replace h := ite_f e h
                      clear e
                      try cbv
                      exact join_next (m2, true) [2, 3, 4, 8, 9, 71] [.loc 0, .loc 672] 1824 ⟨by omega, h⟩ (by cbv)
                  · replace h := ite_f e h
                    clear e
                    try cbv
                    refine splitI (fun e => ?_) (fun e => ?_)
                    · replace h := ite_t e h
                      clear e
                      try cbv
                      exact join_next (m2, false) [2, 3, 4, 8, 9, 71] [.loc 0, .loc 672] 1824 ⟨by omega, h⟩ (by cbv)
                    · replace h := ite_f e h
                      clear e
                      try cbv
                      refine splitI (fun e => ?_) (fun e => ?_)
                      · replace h := ite_t e h
                        clear e
                        try cbv
                        replace h := bO1_inv h
                        obtain ⟨b38, hr, h⟩ := h
                        refine call_go rfl rfl ?_
                        try cbv
                        refine call_pure hM hI (T11 _ hr) rfl ?_
                        clear hr
                        try cbv
                        replace h := letB_inv h
                        obtain ⟨b39, hz, h⟩ := h
                        refine ⟨b39, not_eq' hz, ?_⟩
                        clear hz
                        try cbv
                        exact join_next (m2, b39) [2, 3, 4, 8, 9, 71] [.loc 0, .loc 672] 1824 ⟨by omega, h⟩ (by cbv)
                      · replace h := ite_f e h
                        clear e
                        try cbv
                        exact join_next (m2, true) [2, 3, 4, 8, 9, 71] [.loc 0, .loc 672] 1824 ⟨by omega, h⟩ (by cbv)
                · clear h
                  rintro ⟨m3, b40⟩ ⟨hm3, h⟩
                  replace hm3 : m3 ≤ m2 := hm3
                  cases m3 with
                  | zero =>
                    replace h : L4_3 0 z1 z2 s3 l4 z5 l6 l13 l14 z20 z21 s22 z23 l25 l26 b40 = some r1 := h
                    rw [L4_3] at h
                    cases h
                  | succ m3 =>
                    replace h : L4_3 (m3 + 1) z1 z2 s3 l4 z5 l6 l13 l14 z20 z21 s22 z23 l25 l26 b40 = some r1 := h
                    rw [L4_3] at h
                    try cbv
                    cases b40
                    · replace h := ite_f Bool.false_ne_true h
                      try cbv
                      refine seq_join (T := Nat × Unit) (fun t => ⟨[(2, .v (.d (.list false 1 l13))), (4, .v (.c (.ptr (.loc 0) 0))), (8, .v (.d (.bool false))), (9, .v (.c (.ptr (.loc 672) 0)))], [(.loc 0, .cells [.d (.int .u8 z1), .d (.int .i64 z2), .d (.str s3), .d (.list true 6 l4), .d (.int .i64 z5), .d (.list false 1 l6)]), (.loc 672, .cells [.d (.int .u8 z20), .d (.int .i64 z21), .d (.str s22), .d (.list true 6 l25), .d (.int .i64 z23), .d (.list false 1 l26)])], 3008⟩) (fun t => t.1 ≤ m3 ∧ L4_6 t.1 z1 z2 s3 l4 z5 l6 l13 z20 z21 s22 z23 l25 l26 = some r1) ?_ ?_
                      · try cbv
                        refine seq_join (T := Nat × Bool) (fun t => ⟨[(2, .v (.d (.list false 1 l13))), (3, .v (.d (.list false 1 l14))), (4, .v (.c (.ptr (.loc 0) 0))), (8, .v (.d (.bool false))), (9, .v (.c (.ptr (.loc 672) 0))), (81, .v (.d (.bool t.2)))], [(.loc 0, .cells [.d (.int .u8 z1), .d (.int .i64 z2), .d (.str s3), .d (.list true 6 l4), .d (.int .i64 z5), .d (.list false 1 l6)]), (.loc 672, .cells [.d (.int .u8 z20), .d (.int .i64 z21), .d (.str s22), .d (.list true 6 l25), .d (.int .i64 z23), .d (.list false 1 l26)])], 2144⟩) (fun t => t.1 ≤ m3 ∧ L4_4 t.1 z1 z2 s3 l4 z5 l6 l13 l14 z20 z21 s22 z23 l25 l26 t.2 = some r1) ?_ ?_
                        · try cbv
                          replace h := bO1_inv h
                          obtain ⟨b41, hr, h⟩ := h
                          refine call_go rfl rfl ?_
                          try cbv
                          refine call_pure hM hI (T21 _ hr) rfl ?_
                          clear hr
                          try cbv
                          replace h := letB_inv h
                          obtain ⟨b42, hz, h⟩ := h
                          refine ⟨b42, not_eq' hz, ?_⟩
                          clear hz
                          try cbv
                          cases b42
                          · replace h := ite_f Bool.false_ne_true h
                            try cbv
                            exact join_next (m3, false) [2, 3, 4, 8, 9, 81] [.loc 0, .loc 672] 2144 ⟨by omega, h⟩ (by cbv)
                          · replace h := ite_t rfl h
                            try cbv
                            replace h := bO1_inv h
                            obtain ⟨b43, hr, h⟩ := h
                            refine call_go rfl rfl ?_
                            try cbv
                            refine call_pure hM hI (T21 _ hr) rfl ?_
                            clear hr
                            try cbv
                            replace h := letB_inv h
                            obtain ⟨b44, hz, h⟩ := h
                            refine ⟨b44, not_eq' hz, ?_⟩
                            clear hz
                            try cbv
                            exact join_next (m3, b44) [2, 3, 4, 8, 9, 81] [.loc 0, .loc 672] 2144 ⟨by omega, h⟩ (by cbv)
                        · clear h
                          rintro ⟨m4, b45⟩ ⟨hm4, h⟩
                          replace hm4 : m4 ≤ m3 := hm4
                          cases m4 with
                          | zero =>
                            replace h : L4_4 0 z1 z2 s3 l4 z5 l6 l13 l14 z20 z21 s22 z23 l25 l26 b45 = some r1 := h
                            rw [L4_4] at h
                            cases h
                          | succ m4 =>
                            replace h : L4_4 (m4 + 1) z1 z2 s3 l4 z5 l6 l13 l14 z20 z21 s22 z23 l25 l26 b45 = some r1 := h
                            rw [L4_4] at h
                            try cbv
                            cases b45
                            · replace h := ite_f Bool.false_ne_true h
                              try cbv
                              exact join_next (m4, ()) [2, 4, 8, 9] [.loc 0, .loc 672] 3008 ⟨by omega, h⟩ (by cbv)
                            · replace h := ite_t rfl h
                              try cbv
                              refine seq_go ?_
                              try cbv
                              replace h := bO7_inv h
                              obtain ⟨z46, z47, s48, l49, z50, l51, z52, hr, h⟩ := h
                              refine call_go rfl rfl ?_
                              try cbv
                              refine call_pure hM hI (T20 _ hr) rfl ?_
                              clear hr
                              try cbv
                              refine seq_go ?_
                              try cbv
                              replace h := bO7_inv h
                              obtain ⟨z53, z54, s55, l56, z57, l58, z59, hr, h⟩ := h
                              refine call_go rfl rfl ?_
                              try cbv
                              refine call_pure hM hI (T20 _ hr) rfl ?_
                              clear hr
                              try cbv
                              refine seq_join (T := Nat × Bool) (fun t => ⟨[(2, .v (.d (.list false 1 l13))), (4, .v (.c (.ptr (.loc 0) 0))), (8, .v (.d (.bool false))), (9, .v (.c (.ptr (.loc 672) 0))), (102, .v (.d (.bool t.2)))], [(.loc 0, .cells [.d (.int .u8 z1), .d (.int .i64 z2), .d (.str s3), .d (.list true 6 l4), .d (.int .i64 z5), .d (.list false 1 l6)]), (.loc 672, .cells [.d (.int .u8 z20), .d (.int .i64 z21), .d (.str s22), .d (.list true 6 l25), .d (.int .i64 z23), .d (.list false 1 l26)])], 3008⟩) (fun t => t.1 ≤ m4 ∧ L4_5 t.1 z1 z2 s3 l4 z5 l6 l13 z20 z21 s22 z23 l25 l26 t.2 = some r1) ?_ ?_
                              · try cbv
                                refine splitI (fun e => ?_) (fun e => ?_)
                                · replace h := ite_t e h
                                  clear e
                                  try cbv
                                  replace h := bO1_inv h
                                  obtain ⟨b60, hr, h⟩ := h
                                  refine call_go rfl rfl ?_
                                  try cbv
                                  refine call_pure hM hI (T11 _ hr) rfl ?_
                                  clear hr
                                  try cbv
                                  replace h := letB_inv h
                                  obtain ⟨b61, hz, h⟩ := h
                                  refine ⟨b61, not_eq' hz, ?_⟩
                                  clear hz
                                  try cbv
                                  exact join_next (m4, b61) [2, 4, 8, 9, 102] [.loc 0, .loc 672] 3008 ⟨by omega, h⟩ (by cbv)
                                · replace h := ite_f e h
                                  clear e
                                  try cbv
                                  exact join_next (m4, true) [2, 4, 8, 9, 102] [.loc 0, .loc 672] 3008 ⟨by omega, h⟩ (by cbv)
                              · clear h
                                rintro ⟨m5, b62⟩ ⟨hm5, h⟩
                                replace hm5 : m5 ≤ m4 := hm5
                                cases m5 with
                                | zero =>
                                  replace h : L4_5 0 z1 z2 s3 l4 z5 l6 l13 z20 z21 s22 z23 l25 l26 b62 = some r1 := h
                                  rw [L4_5] at h
                                  cases h
                                | succ m5 =>
                                  replace h : L4_5 (m5 + 1) z1 z2 s3 l4 z5 l6 l13 z20 z21 s22 z23 l25 l26 b62 = some r1 := h
                                  rw [L4_5] at h
                                  try cbv
                                  cases b62
                                  · replace h := ite_f Bool.false_ne_true h
                                    try cbv
                                    exact join_next (m5, ()) [2, 4, 8, 9] [.loc 0, .loc 672] 3008 ⟨by omega, h⟩ (by cbv)
                                  · replace h := ite_t rfl h
                                    try cbv
                                    refine seq_go ?_
                                    try cbv
                                    obtain rfl := Option.some.inj h
                                    refine fin_go ?_
                                    try cbv
                                    exact ⟨[], rfl, rfl, trivial, trivial, trivial⟩
                      · clear h
                        rintro ⟨m6, _⟩ ⟨hm6, h⟩
                        replace hm6 : m6 ≤ m3 := hm6
                        cases m6 with
                        | zero =>
                          replace h : L4_6 0 z1 z2 s3 l4 z5 l6 l13 z20 z21 s22 z23 l25 l26 = some r1 := h
                          rw [L4_6] at h
                          cases h
                        | succ m6 =>
                          replace h : L4_6 (m6 + 1) z1 z2 s3 l4 z5 l6 l13 z20 z21 s22 z23 l25 l26 = some r1 := h
                          rw [L4_6] at h
                          try cbv
                          refine seq_go ?_
                          try cbv
                          replace h := bO7_inv h
                          obtain ⟨z63, z64, s65, l66, z67, l68, z69, hr, h⟩ := h
                          refine call_go rfl rfl ?_
                          try cbv
                          refine call_pure hM hI (T20 _ hr) rfl ?_
                          clear hr
                          try cbv
                          refine seq_go ?_
                          try cbv
                          replace h := bO7_inv h
                          obtain ⟨z70, z71, s72, z73, z74, l75, l76, hr, h⟩ := h
                          refine call_go rfl rfl ?_
                          try cbv
                          refine call_with hM hI [] (T19 _ hr) rfl (by simp) trivial trivial (by simp) ?_
                          clear hr
                          try cbv
                          refine seq_go ?_
                          try cbv
                          refine splitI (fun e => ?_) (fun e => ?_)
                          · replace h := ite_t e h
                            clear e
                            try cbv
                            refine splitI (fun e => ?_) (fun e => ?_)
                            · replace h := ite_t e h
                              clear e
                              try cbv
                              replace h := bO1_inv h
                              obtain ⟨b77, hr, h⟩ := h
                              refine call_gs [.freeze (.loc 3392), .freeze (.loc 3393)] rfl rfl ?_
                              try cbv
                              first | refine ⟨by first | rfl | trivial, ?_⟩ | skip
                              refine callfv_with hM hI [] rfl rfl (T11 _ hr) rfl (by simp) trivial trivial (by simp) ?_
                              clear hr
                              try cbv
                              obtain rfl := Option.some.inj h
                              refine fin_go ?_
                              try cbv
                              exact ⟨[], rfl, rfl, trivial, trivial, trivial⟩
                            · replace h := ite_f e h
                              clear e
                              try cbv
                              obtain rfl := Option.some.inj h
                              refine fin_go ?_
                              try cbv
                              exact ⟨[], rfl, rfl, trivial, trivial, trivial⟩
                          · replace h := ite_f e h
                            clear e
                            try cbv
                            obtain rfl := Option.some.inj h
                            refine fin_go ?_
                            try cbv
                            exact ⟨[], rfl, rfl, trivial, trivial, trivial⟩
                    · replace h := ite_t rfl h
                      try cbv
                      refine seq_go ?_
                      try cbv
                      obtain rfl := Option.some.inj h
                      refine fin_go ?_
                      try cbv
                      exact ⟨[], rfl, rfl, trivial, trivial, trivial⟩
              · replace h := ite_t rfl h
                try cbv
                refine seq_go ?_
                try cbv
                replace h := bO1_inv h
                obtain ⟨b28, hr, h⟩ := h
                refine call_gs [.freeze (.loc 544), .freeze (.loc 545)] rfl rfl ?_
                try cbv
                first | refine ⟨by first | rfl | trivial, ?_⟩ | skip
                refine callfv_with hM hI [] rfl rfl (T11 _ hr) rfl (by simp) trivial trivial (by simp) ?_
                clear hr
                try cbv
                obtain rfl := Option.some.inj h
                refine fin_go ?_
                try cbv
                exact ⟨[], rfl, rfl, trivial, trivial, trivial⟩
        · replace h := ite_t rfl h
          try cbv
          refine seq_go ?_
          try cbv
          obtain rfl := Option.some.inj h
          refine fin_go ?_
          try cbv
          exact ⟨[], rfl, rfl, trivial, trivial, trivial⟩
  · replace h := ite_t rfl h
    try cbv
    refine seq_go ?_
    try cbv
    obtain rfl := Option.some.inj h
    refine fin_go ?_
    try cbv
    exact ⟨[], rfl, rfl, trivial, trivial, trivial⟩
end Go.Proofs.YtagiiaejijihoaaDoor
end

set_option linter.unusedVariables false
noncomputable section
namespace Go.Proofs.YtagiiaejijihoaaDoor
open Go Go.AM
def L5_2 : Nat → (List D) → Int → Int → Int → ByteArray → (List D) → Int → (List D) → Int → Int → Int → ByteArray → (List D) → Int → (List D) → Int → Bool → Option (Bool)
  | 0, _, _, _, _, _, _, _, _, _, _, _, _, _, _, _, _, _ => none
  | n + 1, l7, z8, z14, z15, s16, l17, z18, l19, z20, z22, z23, s24, l25, z26, l27, z28, b29 =>
    (if b29 = true then (if z20 = z28 then some true else some false) else fromF l7 z8 fun l30 => bO7 (F20 n z22 z23 s24 l25 z26 l27 l30) fun z31 z32 s33 l34 z35 l36 z37 => (if z20 = z37 then bO1 (F11 n z14 z15 s16 l17 z18 l19 z31 z32 s33 l34 z35 l36) fun b38 => some b38 else some false))
def L5_1 : Nat → Int → Int → ByteArray → (List D) → Int → (List D) → (List D) → Int → Bool → Option (Bool)
  | 0, _, _, _, _, _, _, _, _, _ => none
  | n + 1, z1, z2, s3, l4, z5, l6, l7, z8, b13 =>
    (if b13 = true then some true else bO7 (F20 n z1 z2 s3 l4 z5 l6 l7) fun z14 z15 s16 l17 z18 l19 z20 => sliceF l7 (0 : Int) z8 fun l21 => bO7 (F20 n z1 z2 s3 l4 z5 l6 l21) fun z22 z23 s24 l25 z26 l27 z28 => (if z28 = (0 : Int) then L5_2 n l7 z8 z14 z15 s16 l17 z18 l19 z20 z22 z23 s24 l25 z26 l27 z28 false else L5_2 n l7 z8 z14 z15 s16 l17 z18 l19 z20 z22 z23 s24 l25 z26 l27 z28 true))
def F5 (n : Nat) (z1 : Int) (z2 : Int) (s3 : ByteArray) (l4 : List D) (z5 : Int) (l6 : List D) (l7 : List D) (z8 : Int) : Option (Bool) :=
  bO1 (F18 n) fun b9 => letB (!b9) fun b10 => (if b10 = true then some false else bO1 (F8 n z1 z2 s3 l4 z5 l6 (0 : Int) (0 : Int) ByteArray.empty ([] : List D) (0 : Int) ([] : List D) l7) fun b11 => (if b11 = true then L5_1 n z1 z2 s3 l4 z5 l6 l7 z8 true else (if z8 < (0 : Int) then L5_1 n z1 z2 s3 l4 z5 l6 l7 z8 true else lenF l7 fun z12 => (if z12 < z8 then L5_1 n z1 z2 s3 l4 z5 l6 l7 z8 true else L5_1 n z1 z2 s3 l4 z5 l6 l7 z8 false))))
set_option maxRecDepth 100000 in
set_option maxHeartbeats 40000000 in
theorem T5 (n : Nat) : ∀ ⦃z1 : Int⦄ ⦃z2 : Int⦄ ⦃s3 : ByteArray⦄ ⦃l4 : List D⦄ ⦃z5 : Int⦄ ⦃l6 : List D⦄ ⦃l7 : List D⦄ ⦃z8 : Int⦄ ⦃r1 : Bool⦄, F5 n z1 z2 s3 l4 z5 l6 l7 z8 = some r1 →
    Trip Tryd.prog inv 5 [.d (.agg [.int .u8 z1, .int .i64 z2, .str s3, .list true 6 l4, .int .i64 z5, .list false 1 l6]), .d (.list false 1 l7), .d (.int .i64 z8)] [] (.v (.d (.bool r1))) [] [] := by
  intro z1 z2 s3 l4 z5 l6 l7 z8 r1 h
  unfold F5 at h
  refine Trip.of tab_ok tab_one fol Tryd.func5 rfl (by kernel_rfl) rfl rfl rfl (fun M hM hI => ?_)
  try cbv
  refine seq_go ?_
  try cbv
  refine seq_go ?_
  try cbv
  refine seq_go ?_
  try cbv
  replace h := bO1_inv h
  obtain ⟨b9, hr, h⟩ := h
  refine call_go rfl rfl ?_
  try cbv
  refine call_pure hM hI (T18 _ hr) rfl ?_
  clear hr
  try cbv
  replace h := letB_inv h
  obtain ⟨b10, hz, h⟩ := h
  refine ⟨b10, not_eq' hz, ?_⟩
  clear hz
  try cbv
  cases b10
  · replace h := ite_f Bool.false_ne_true h
    try cbv
    refine seq_go ?_
    try cbv
    refine seq_join (T := Nat × Bool) (fun t => ⟨[(1, .v (.d (.list false 1 l7))), (2, .v (.d (.int .i64 z8))), (3, .v (.c (.ptr (.loc 0) 0))), (6, .v (.d (.bool false))), (28, .v (.d (.bool t.2)))], [(.loc 0, .cells [.d (.int .u8 z1), .d (.int .i64 z2), .d (.str s3), .d (.list true 6 l4), .d (.int .i64 z5), .d (.list false 1 l6)])], 576⟩) (fun t => t.1 ≤ n ∧ L5_1 t.1 z1 z2 s3 l4 z5 l6 l7 z8 t.2 = some r1) ?_ ?_
    · try cbv
      replace h := bO1_inv h
      obtain ⟨b11, hr, h⟩ := h
      refine call_go rfl rfl ?_
      try cbv
      refine call_pure hM hI (T8 _ hr) rfl ?_
      clear hr
      try cbv
      cases b11
      · replace h := ite_f Bool.false_ne_true h
        try cbv
        refine splitL (fun e => ?_) (fun e => ?_)
        · replace h := ite_t e h
          clear e
          try cbv
          exact join_next (n, true) [1, 2, 3, 6, 28] [.loc 0] 576 ⟨by omega, h⟩ (by cbv)
        · replace h := ite_f (Int.not_lt.2 e) h
          clear e
          try cbv
          replace h := lenF_inv M h
          obtain ⟨z12, hz, h⟩ := h
          refine ⟨z12, hz, ?_⟩
          clear hz
          try cbv
          refine splitL (fun e => ?_) (fun e => ?_)
          · replace h := ite_t e h
            clear e
            try cbv
            exact join_next (n, true) [1, 2, 3, 6, 28] [.loc 0] 576 ⟨by omega, h⟩ (by cbv)
          · replace h := ite_f (Int.not_lt.2 e) h
            clear e
            try cbv
            exact join_next (n, false) [1, 2, 3, 6, 28] [.loc 0] 576 ⟨by omega, h⟩ (by cbv)
      · replace h := ite_t rfl h
        try cbv
        exact join_next (n, true) [1, 2, 3, 6, 28] [.loc 0] 576 ⟨by omega, h⟩ (by cbv)
    · clear h
      rintro ⟨m1, b13⟩ ⟨hm1, h⟩
      replace hm1 : m1 ≤ n := hm1
      cases m1 with
      | zero =>
        replace h : L5_1 0 z1 z2 s3 l4 z5 l6 l7 z8 b13 = some r1 := h
        rw [L5_1] at h
        cases h
      | succ m1 =>
        replace h : L5_1 (m1 + 1) z1 z2 s3 l4 z5 l6 l7 z8 b13 = some r1 := h
        rw [L5_1] at h
        try cbv
        cases b13
        · replace h := ite_f Bool.false_ne_true h
          try cbv
          refine seq_go ?_
          try cbv
          replace h := bO7_inv h
          obtain ⟨z14, z15, s16, l17, z18, l19, z20, hr, h⟩ := h
          refine call_go rfl rfl ?_
          try cbv
          refine call_pure hM hI (T20 _ hr) rfl ?_
          clear hr
          try cbv
          refine seq_go ?_
          try cbv
          replace h := sliceF_inv M h
          obtain ⟨l21, hb, hz, h⟩ := h
          refine ⟨l21, hb, hz, ?_⟩
          clear hb hz
          try cbv
          replace h := bO7_inv h
          obtain ⟨z22, z23, s24, l25, z26, l27, z28, hr, h⟩ := h
          first | refine .inr (.inl ⟨[], ?_⟩) | refine .inl ⟨[], ?_⟩
          try cbv
          refine call_pure hM hI (T20 _ hr) rfl ?_
          clear hr
          try cbv
          refine drawn ?_ ?_
          · show _ = true
            kernel_rfl
          try cbv
          refine seq_go ?_
          try cbv
          refine seq_join (T := Nat × Bool) (fun t => ⟨[(1, .v (.d (.list false 1 l7))), (2, .v (.d (.int .i64 z8))), (6, .v (.d (.bool false))), (7, .v (.c (.ptr (.loc 768) 0))), (8, .v (.d (.int .u8 z20))), (9, .v (.c (.ptr (.loc 1120) 0))), (10, .v (.d (.int .u8 z28))), (44, .v (.d (.bool t.2)))], [(.loc 768, .cells [.d (.int .u8 z14), .d (.int .i64 z15), .d (.str s16), .d (.list true 6 l17), .d (.int .i64 z18), .d (.list false 1 l19)]), (.loc 1120, .cells [.d (.int .u8 z22), .d (.int .i64 z23), .d (.str s24), .d (.list true 6 l25), .d (.int .i64 z26), .d (.list false 1 l27)])], 1280⟩) (fun t => t.1 ≤ m1 ∧ L5_2 t.1 l7 z8 z14 z15 s16 l17 z18 l19 z20 z22 z23 s24 l25 z26 l27 z28 t.2 = some r1) ?_ ?_
          · try cbv
            refine splitI (fun e => ?_) (fun e => ?_)
            · replace h := ite_t e h
              clear e
              try cbv
              exact join_next (m1, false) [1, 2, 6, 7, 8, 9, 10, 44] [.loc 768, .loc 1120] 1280 ⟨by omega, h⟩ (by cbv)
            · replace h := ite_f e h
              clear e
              try cbv
              exact join_next (m1, true) [1, 2, 6, 7, 8, 9, 10, 44] [.loc 768, .loc 1120] 1280 ⟨by omega, h⟩ (by cbv)
          · clear h
            rintro ⟨m2, b29⟩ ⟨hm2, h⟩
            replace hm2 : m2 ≤ m1 := hm2
            cases m2 with
            | zero =>
              replace h : L5_2 0 l7 z8 z14 z15 s16 l17 z18 l19 z20 z22 z23 s24 l25 z26 l27 z28 b29 = some r1 := h
              rw [L5_2] at h
              cases h
            | succ m2 =>
              replace h : L5_2 (m2 + 1) l7 z8 z14 z15 s16 l17 z18 l19 z20 z22 z23 s24 l25 z26 l27 z28 b29 = some r1 := h
              rw [L5_2] at h
              try cbv
              cases b29
              · replace h := ite_f Bool.false_ne_true h
                try cbv
                refine seq_go ?_
                try cbv
                replace h := fromF_inv M h
                obtain ⟨l30, hb, hz, h⟩ := h
                refine ⟨l30, hb, hz, ?_⟩
                clear hb hz
                try cbv
                replace h := bO7_inv h
                obtain ⟨z31, z32, s33, l34, z35, l36, z37, hr, h⟩ := h
                first | refine .inr (.inl ⟨[], ?_⟩) | refine .inl ⟨[], ?_⟩
                try cbv
                refine call_pure hM hI (T20 _ hr) rfl ?_
                clear hr
                try cbv
                refine drawn ?_ ?_
                · show _ = true
                  kernel_rfl
                try cbv
                refine seq_go ?_
                try cbv
                refine splitI (fun e => ?_) (fun e => ?_)
                · replace h := ite_t e h
                  clear e
                  try cbv
                  replace h := bO1_inv h
                  obtain ⟨b38, hr, h⟩ := h
                  refine call_go rfl rfl ?_
                  try cbv
                  refine call_pure hM hI (T11 _ hr) rfl ?_
                  clear hr
                  try cbv
                  obtain rfl := Option.some.inj h
                  refine fin_go ?_
                  try cbv
                  exact ⟨[], rfl, rfl, trivial, trivial, trivial⟩
                · replace h := ite_f e h
                  clear e
                  try cbv
                  obtain rfl := Option.some.inj h
                  refine fin_go ?_
                  try cbv
                  exact ⟨[], rfl, rfl, trivial, trivial, trivial⟩
              · replace h := ite_t rfl h
                try cbv
                refine seq_go ?_
                try cbv
                refine splitI (fun e => ?_) (fun e => ?_)
                · replace h := ite_t e h
                  clear e
                  try cbv
                  obtain rfl := Option.some.inj h
                  refine fin_go ?_
                  try cbv
                  exact ⟨[], rfl, rfl, trivial, trivial, trivial⟩
                · replace h := ite_f e h
                  clear e
                  try cbv
                  obtain rfl := Option.some.inj h
                  refine fin_go ?_
                  try cbv
                  exact ⟨[], rfl, rfl, trivial, trivial, trivial⟩
        · replace h := ite_t rfl h
          try cbv
          refine seq_go ?_
          try cbv
          obtain rfl := Option.some.inj h
          refine fin_go ?_
          try cbv
          exact ⟨[], rfl, rfl, trivial, trivial, trivial⟩
  · replace h := ite_t rfl h
    try cbv
    refine seq_go ?_
    try cbv
    obtain rfl := Option.some.inj h
    refine fin_go ?_
    try cbv
    exact ⟨[], rfl, rfl, trivial, trivial, trivial⟩
end Go.Proofs.YtagiiaejijihoaaDoor
end

set_option linter.unusedVariables false
noncomputable section
namespace Go.Proofs.YtagiiaejijihoaaDoor
open Go Go.AM
def L6_4 : Nat → (List D) → Int → Int → Int → Bool → Option (Bool)
  | 0, _, _, _, _, _ => none
  | n + 1, l4, z7, z16, z25, b30 =>
    (if b30 = true then (if z16 = (6 : Int) then (if z25 = (6 : Int) then some true else some false) else some false) else (if z16 = (0 : Int) then (if z25 = (0 : Int) then getF l4 z7 fun x31 => ds_t25 x31 fun z32 z33 s34 l35 z36 l37 => (if z32 = (0 : Int) then some false else (if z25 = (0 : Int) then some true else (if z25 = (3 : Int) then some true else some false))) else getF l4 z7 fun x38 => ds_t25 x38 fun z39 z40 s41 l42 z43 l44 => (if z39 = (0 : Int) then (if z25 = (0 : Int) then some true else (if z25 = (3 : Int) then some true else some false)) else some false)) else some false))
def L6_3 : Nat → (List D) → Int → Int → Int → Int → Bool → Option (Bool)
  | 0, _, _, _, _, _, _ => none
  | n + 1, l4, z7, z16, z25, z28, b29 =>
    (if b29 = true then (if z16 = (3 : Int) then (if z25 = (3 : Int) then some true else some false) else some false) else (if z7 < (0 : Int) then L6_4 n l4 z7 z16 z25 true else (if z28 ≤ z7 then L6_4 n l4 z7 z16 z25 true else L6_4 n l4 z7 z16 z25 false)))
def L6_2 : Nat → Int → (List D) → Int → Int → Int → Int → Option (Bool)
  | 0, _, _, _, _, _, _ => none
  | n + 1, z1, l4, z7, z16, z25, z28 =>
    (if z1 = (0 : Int) then L6_3 n l4 z7 z16 z25 z28 true else L6_3 n l4 z7 z16 z25 z28 false)
def L6_1 : Nat → Int → (List D) → Int → Int → Int → Bool → Option (Bool)
  | 0, _, _, _, _, _, _ => none
  | n + 1, z1, l4, z7, z16, z25, b26 =>
    (if b26 = true then lenF l4 fun z27 => L6_2 n z1 l4 z7 z16 z25 z27 else L6_2 n z1 l4 z7 z16 z25 (0 : Int))
def F6 (n : Nat) (z1 : Int) (z2 : Int) (s3 : ByteArray) (l4 : List D) (z5 : Int) (l6 : List D) (z7 : Int) : Option (Bool) :=
  bO1 (F18 n) fun b8 => letB (!b8) fun b9 => (if b9 = true then some false else bO1 (F8 n z1 z2 s3 l4 z5 l6 (0 : Int) (0 : Int) ByteArray.empty ([] : List D) (0 : Int) ([] : List D) ([] : List D)) fun b10 => (if b10 = true then some true else bO1 (F22 n (1 : Int)) fun z11 => bO7 (F19 n z1 z2 s3 l4 z5 l6 ([.int .i64 z7]) (1 : Int) z11 ByteArray.empty ([] : List D) (0 : Int) ([] : List D)) fun z12 z13 s14 z15 z16 l17 l18 => bO7 (F20 n z1 z2 s3 l4 z5 l6 ([.int .i64 z7])) fun z19 z20 s21 l22 z23 l24 z25 => (if z1 = (4 : Int) then L6_1 n z1 l4 z7 z16 z25 true else (if z1 = (5 : Int) then L6_1 n z1 l4 z7 z16 z25 true else L6_1 n z1 l4 z7 z16 z25 false))))
set_option maxRecDepth 100000 in
set_option maxHeartbeats 40000000 in
theorem T6 (n : Nat) : ∀ ⦃z1 : Int⦄ ⦃z2 : Int⦄ ⦃s3 : ByteArray⦄ ⦃l4 : List D⦄ ⦃z5 : Int⦄ ⦃l6 : List D⦄ ⦃z7 : Int⦄ ⦃r1 : Bool⦄, F6 n z1 z2 s3 l4 z5 l6 z7 = some r1 →
    Trip Tryd.prog inv 6 [.d (.agg [.int .u8 z1, .int .i64 z2, .str s3, .list true 6 l4, .int .i64 z5, .list false 1 l6]), .d (.int .i64 z7)] [] (.v (.d (.bool r1))) [] [] := by
  intro z1 z2 s3 l4 z5 l6 z7 r1 h
  unfold F6 at h
  refine Trip.of tab_ok tab_one fol Tryd.func6 rfl (by kernel_rfl) rfl rfl rfl (fun M hM hI => ?_)
  try cbv
  refine seq_go ?_
  try cbv
  refine seq_go ?_
  try cbv
  refine seq_go ?_
  try cbv
  replace h := bO1_inv h
  obtain ⟨b8, hr, h⟩ := h
  refine call_go rfl rfl ?_
  try cbv
  refine call_pure hM hI (T18 _ hr) rfl ?_
  clear hr
  try cbv
  replace h := letB_inv h
  obtain ⟨b9, hz, h⟩ := h
  refine ⟨b9, not_eq' hz, ?_⟩
  clear hz
  try cbv
  cases b9
  · replace h := ite_f Bool.false_ne_true h
    try cbv
    refine seq_go ?_
    try cbv
    refine seq_go ?_
    try cbv
    replace h := bO1_inv h
    obtain ⟨b10, hr, h⟩ := h
    refine call_go rfl rfl ?_
    try cbv
    refine call_pure hM hI (T8 _ hr) rfl ?_
    clear hr
    try cbv
    cases b10
    · replace h := ite_f Bool.false_ne_true h
      try cbv
      refine seq_go ?_
      try cbv
      refine ⟨false, ?_⟩
      try cbv
      refine ⟨true, ?_⟩
      try cbv
      replace h := bO1_inv h
      obtain ⟨z11, hr, h⟩ := h
      first | refine .inr (.inl ⟨[], ?_⟩) | refine .inl ⟨[], ?_⟩
      try cbv
      refine call_pure hM hI (T22 _ hr) rfl ?_
      clear hr
      try cbv
      replace h := bO7_inv h
      obtain ⟨z12, z13, s14, z15, z16, l17, l18, hr, h⟩ := h
      first | refine .inr (.inl ⟨[], ?_⟩) | refine .inl ⟨[], ?_⟩
      try cbv
      refine call_with hM hI [] (T19 _ hr) rfl (by simp) trivial trivial (by simp) ?_
      clear hr
      try cbv
      refine drawn ?_ ?_
      · show _ = true
        kernel_rfl
      try cbv
      refine seq_go ?_
      try cbv
      refine ⟨false, ?_⟩
      try cbv
      refine ⟨true, ?_⟩
      try cbv
      replace h := bO7_inv h
      obtain ⟨z19, z20, s21, l22, z23, l24, z25, hr, h⟩ := h
      refine call_go rfl rfl ?_
      try cbv
      refine call_pure hM hI (T20 _ hr) rfl ?_
      clear hr
      try cbv
      refine seq_go ?_
      try cbv
      refine seq_join (T := Nat × Int) (fun t => ⟨[(1, .v (.d (.int .i64 z7))), (2, .v (.c (.ptr (.loc 0) 0))), (4, .v (.d (.bool false))), (6, .v (.d (.int .u8 z16))), (8, .v (.d (.int .u8 z25))), (9, .v (.d (.int .i64 t.2)))], [(.loc 0, .cells [.d (.int .u8 z1), .d (.int .i64 z2), .d (.str s3), .d (.list true 6 l4), .d (.int .i64 z5), .d (.list false 1 l6)])], 1312⟩) (fun t => t.1 ≤ n ∧ L6_2 t.1 z1 l4 z7 z16 z25 t.2 = some r1) ?_ ?_
      · try cbv
        refine seq_join (T := Nat × Bool) (fun t => ⟨[(1, .v (.d (.int .i64 z7))), (2, .v (.c (.ptr (.loc 0) 0))), (4, .v (.d (.bool false))), (6, .v (.d (.int .u8 z16))), (8, .v (.d (.int .u8 z25))), (9, .v (.d (.int .i64 0))), (37, .v (.d (.bool t.2)))], [(.loc 0, .cells [.d (.int .u8 z1), .d (.int .i64 z2), .d (.str s3), .d (.list true 6 l4), .d (.int .i64 z5), .d (.list false 1 l6)])], 1184⟩) (fun t => t.1 ≤ n ∧ L6_1 t.1 z1 l4 z7 z16 z25 t.2 = some r1) ?_ ?_
        · try cbv
          refine splitI (fun e => ?_) (fun e => ?_)
          · replace h := ite_t e h
            clear e
            try cbv
            exact join_next (n, true) [1, 2, 4, 6, 8, 9, 37] [.loc 0] 1184 ⟨by omega, h⟩ (by cbv)
          · replace h := ite_f e h
            clear e
            try cbv
            refine splitI (fun e => ?_) (fun e => ?_)
            · replace h := ite_t e h
              clear e
              try cbv
              exact join_next (n, true) [1, 2, 4, 6, 8, 9, 37] [.loc 0] 1184 ⟨by omega, h⟩ (by cbv)
            · replace h := ite_f e h
              clear e
              try cbv
              exact join_next (n, false) [1, 2, 4, 6, 8, 9, 37] [.loc 0] 1184 ⟨by omega, h⟩ (by cbv)
        · clear h
          rintro ⟨m1, b26⟩ ⟨hm1, h⟩
          replace hm1 : m1 ≤ n := hm1
          cases m1 with
          | zero =>
            replace h : L6_1 0 z1 l4 z7 z16 z25 b26 = some r1 := h
            rw [L6_1] at h
            cases h
          | succ m1 =>
            replace h : L6_1 (m1 + 1) z1 l4 z7 z16 z25 b26 = some r1 := h
            rw [L6_1] at h
            try cbv
            cases b26
            · replace h := ite_f Bool.false_ne_true h
              try cbv
              exact join_next (m1, (0 : Int)) [1, 2, 4, 6, 8, 9] [.loc 0] 1312 ⟨by omega, h⟩ (by cbv)
            · replace h := ite_t rfl h
              try cbv
              replace h := lenF_inv M h
              obtain ⟨z27, hz, h⟩ := h
              refine ⟨z27, hz, ?_⟩
              clear hz
              try cbv
              exact join_next (m1, z27) [1, 2, 4, 6, 8, 9] [.loc 0] 1312 ⟨by omega, h⟩ (by cbv)
      · clear h
        rintro ⟨m2, z28⟩ ⟨hm2, h⟩
        replace hm2 : m2 ≤ n := hm2
        cases m2 with
        | zero =>
          replace h : L6_2 0 z1 l4 z7 z16 z25 z28 = some r1 := h
          rw [L6_2] at h
          cases h
        | succ m2 =>
          replace h : L6_2 (m2 + 1) z1 l4 z7 z16 z25 z28 = some r1 := h
          rw [L6_2] at h
          try cbv
          refine seq_go ?_
          try cbv
          refine seq_join (T := Nat × Bool) (fun t => ⟨[(1, .v (.d (.int .i64 z7))), (2, .v (.c (.ptr (.loc 0) 0))), (4, .v (.d (.bool false))), (6, .v (.d (.int .u8 z16))), (8, .v (.d (.int .u8 z25))), (9, .v (.d (.int .i64 z28))), (41, .v (.d (.bool t.2)))], [(.loc 0, .cells [.d (.int .u8 z1), .d (.int .i64 z2), .d (.str s3), .d (.list true 6 l4), .d (.int .i64 z5), .d (.list false 1 l6)])], 1440⟩) (fun t => t.1 ≤ m2 ∧ L6_3 t.1 l4 z7 z16 z25 z28 t.2 = some r1) ?_ ?_
          · try cbv
            refine splitI (fun e => ?_) (fun e => ?_)
            · replace h := ite_t e h
              clear e
              try cbv
              exact join_next (m2, true) [1, 2, 4, 6, 8, 9, 41] [.loc 0] 1440 ⟨by omega, h⟩ (by cbv)
            · replace h := ite_f e h
              clear e
              try cbv
              exact join_next (m2, false) [1, 2, 4, 6, 8, 9, 41] [.loc 0] 1440 ⟨by omega, h⟩ (by cbv)
          · clear h
            rintro ⟨m3, b29⟩ ⟨hm3, h⟩
            replace hm3 : m3 ≤ m2 := hm3
            cases m3 with
            | zero =>
              replace h : L6_3 0 l4 z7 z16 z25 z28 b29 = some r1 := h
              rw [L6_3] at h
              cases h
            | succ m3 =>
              replace h : L6_3 (m3 + 1) l4 z7 z16 z25 z28 b29 = some r1 := h
              rw [L6_3] at h
              try cbv
              cases b29
              · replace h := ite_f Bool.false_ne_true h
                try cbv
                refine seq_join (T := Nat × Bool) (fun t => ⟨[(1, .v (.d (.int .i64 z7))), (2, .v (.c (.ptr (.loc 0) 0))), (4, .v (.d (.bool false))), (6, .v (.d (.int .u8 z16))), (8, .v (.d (.int .u8 z25))), (51, .v (.d (.bool t.2)))], [(.loc 0, .cells [.d (.int .u8 z1), .d (.int .i64 z2), .d (.str s3), .d (.list true 6 l4), .d (.int .i64 z5), .d (.list false 1 l6)])], 1696⟩) (fun t => t.1 ≤ m3 ∧ L6_4 t.1 l4 z7 z16 z25 t.2 = some r1) ?_ ?_
                · try cbv
                  refine splitL (fun e => ?_) (fun e => ?_)
                  · replace h := ite_t e h
                    clear e
                    try cbv
                    exact join_next (m3, true) [1, 2, 4, 6, 8, 51] [.loc 0] 1696 ⟨by omega, h⟩ (by cbv)
                  · replace h := ite_f (Int.not_lt.2 e) h
                    clear e
                    try cbv
                    refine splitLe (fun e => ?_) (fun e => ?_)
                    · replace h := ite_t e h
                      clear e
                      try cbv
                      exact join_next (m3, true) [1, 2, 4, 6, 8, 51] [.loc 0] 1696 ⟨by omega, h⟩ (by cbv)
                    · replace h := ite_f (Int.not_le.2 e) h
                      clear e
                      try cbv
                      exact join_next (m3, false) [1, 2, 4, 6, 8, 51] [.loc 0] 1696 ⟨by omega, h⟩ (by cbv)
                · clear h
                  rintro ⟨m4, b30⟩ ⟨hm4, h⟩
                  replace hm4 : m4 ≤ m3 := hm4
                  cases m4 with
                  | zero =>
                    replace h : L6_4 0 l4 z7 z16 z25 b30 = some r1 := h
                    rw [L6_4] at h
                    cases h
                  | succ m4 =>
                    replace h : L6_4 (m4 + 1) l4 z7 z16 z25 b30 = some r1 := h
                    rw [L6_4] at h
                    try cbv
                    cases b30
                    · replace h := ite_f Bool.false_ne_true h
                      try cbv
                      refine seq_go ?_
                      try cbv
                      refine splitI (fun e => ?_) (fun e => ?_)
                      · replace h := ite_t e h
                        clear e
                        try cbv
                        refine splitI (fun e => ?_) (fun e => ?_)
                        · replace h := ite_t e h
                          clear e
                          try cbv
                          replace h := getF_inv h
                          obtain ⟨x31, hx31, h⟩ := h
                          replace h := ds_t25_inv h
                          obtain ⟨z32, z33, s34, l35, z36, l37, rfl, h⟩ := h
                          refine ⟨_, hx31.1, hx31.2, ?_⟩
                          try cbv
                          refine splitI (fun e => ?_) (fun e => ?_)
                          · replace h := ite_t e h
                            clear e
                            try cbv
                            refine ⟨false, rfl, ?_⟩
                            try cbv
                            obtain rfl := Option.some.inj h
                            refine fin_go ?_
                            try cbv
                            exact ⟨[], rfl, rfl, trivial, trivial, trivial⟩
                          · replace h := ite_f e h
                            clear e
                            try cbv
                            refine ⟨true, rfl, ?_⟩
                            try cbv
                            refine splitI (fun e => ?_) (fun e => ?_)
                            · replace h := ite_t e h
                              clear e
                              try cbv
                              obtain rfl := Option.some.inj h
                              refine fin_go ?_
                              try cbv
                              exact ⟨[], rfl, rfl, trivial, trivial, trivial⟩
                            · replace h := ite_f e h
                              clear e
                              try cbv
                              refine splitI (fun e => ?_) (fun e => ?_)
                              · replace h := ite_t e h
                                clear e
                                try cbv
                                obtain rfl := Option.some.inj h
                                refine fin_go ?_
                                try cbv
                                exact ⟨[], rfl, rfl, trivial, trivial, trivial⟩
                              · replace h := ite_f e h
                                clear e
                                try cbv
                                obtain rfl := Option.some.inj h
                                refine fin_go ?_
                                try cbv
                                exact ⟨[], rfl, rfl, trivial, trivial, trivial⟩
                        · replace h := ite_f e h
                          clear e
                          try cbv
                          replace h := getF_inv h
                          obtain ⟨x38, hx38, h⟩ := h
                          replace h := ds_t25_inv h
                          obtain ⟨z39, z40, s41, l42, z43, l44, rfl, h⟩ := h
                          refine ⟨_, hx38.1, hx38.2, ?_⟩
                          try cbv
                          refine splitI (fun e => ?_) (fun e => ?_)
                          · replace h := ite_t e h
                            clear e
                            try cbv
                            refine ⟨true, rfl, ?_⟩
                            try cbv
                            refine splitI (fun e => ?_) (fun e => ?_)
                            · replace h := ite_t e h
                              clear e
                              try cbv
                              obtain rfl := Option.some.inj h
                              refine fin_go ?_
                              try cbv
                              exact ⟨[], rfl, rfl, trivial, trivial, trivial⟩
                            · replace h := ite_f e h
                              clear e
                              try cbv
                              refine splitI (fun e => ?_) (fun e => ?_)
                              · replace h := ite_t e h
                                clear e
                                try cbv
                                obtain rfl := Option.some.inj h
                                refine fin_go ?_
                                try cbv
                                exact ⟨[], rfl, rfl, trivial, trivial, trivial⟩
                              · replace h := ite_f e h
                                clear e
                                try cbv
                                obtain rfl := Option.some.inj h
                                refine fin_go ?_
                                try cbv
                                exact ⟨[], rfl, rfl, trivial, trivial, trivial⟩
                          · replace h := ite_f e h
                            clear e
                            try cbv
                            refine ⟨false, rfl, ?_⟩
                            try cbv
                            obtain rfl := Option.some.inj h
                            refine fin_go ?_
                            try cbv
                            exact ⟨[], rfl, rfl, trivial, trivial, trivial⟩
                      · replace h := ite_f e h
                        clear e
                        try cbv
                        obtain rfl := Option.some.inj h
                        refine fin_go ?_
                        try cbv
                        exact ⟨[], rfl, rfl, trivial, trivial, trivial⟩
                    · replace h := ite_t rfl h
                      try cbv
                      refine seq_go ?_
                      try cbv
                      refine splitI (fun e => ?_) (fun e => ?_)
                      · replace h := ite_t e h
                        clear e
                        try cbv
                        refine splitI (fun e => ?_) (fun e => ?_)
                        · replace h := ite_t e h
                          clear e
                          try cbv
                          obtain rfl := Option.some.inj h
                          refine fin_go ?_
                          try cbv
                          exact ⟨[], rfl, rfl, trivial, trivial, trivial⟩
                        · replace h := ite_f e h
                          clear e
                          try cbv
                          obtain rfl := Option.some.inj h
                          refine fin_go ?_
                          try cbv
                          exact ⟨[], rfl, rfl, trivial, trivial, trivial⟩
                      · replace h := ite_f e h
                        clear e
                        try cbv
                        obtain rfl := Option.some.inj h
                        refine fin_go ?_
                        try cbv
                        exact ⟨[], rfl, rfl, trivial, trivial, trivial⟩
              · replace h := ite_t rfl h
                try cbv
                refine seq_go ?_
                try cbv
                refine splitI (fun e => ?_) (fun e => ?_)
                · replace h := ite_t e h
                  clear e
                  try cbv
                  refine splitI (fun e => ?_) (fun e => ?_)
                  · replace h := ite_t e h
                    clear e
                    try cbv
                    obtain rfl := Option.some.inj h
                    refine fin_go ?_
                    try cbv
                    exact ⟨[], rfl, rfl, trivial, trivial, trivial⟩
                  · replace h := ite_f e h
                    clear e
                    try cbv
                    obtain rfl := Option.some.inj h
                    refine fin_go ?_
                    try cbv
                    exact ⟨[], rfl, rfl, trivial, trivial, trivial⟩
                · replace h := ite_f e h
                  clear e
                  try cbv
                  obtain rfl := Option.some.inj h
                  refine fin_go ?_
                  try cbv
                  exact ⟨[], rfl, rfl, trivial, trivial, trivial⟩
    · replace h := ite_t rfl h
      try cbv
      refine seq_go ?_
      try cbv
      obtain rfl := Option.some.inj h
      refine fin_go ?_
      try cbv
      exact ⟨[], rfl, rfl, trivial, trivial, trivial⟩
  · replace h := ite_t rfl h
    try cbv
    refine seq_go ?_
    try cbv
    obtain rfl := Option.some.inj h
    refine fin_go ?_
    try cbv
    exact ⟨[], rfl, rfl, trivial, trivial, trivial⟩
end Go.Proofs.YtagiiaejijihoaaDoor
end

namespace Go.AM
open Go Go.RowKit Go.ChangeShapes Go.WideShapes

def Shapes (ti : Types) : List TypeId → List D → Prop
  | [], [] => True
  | t :: ts, x :: xs => Shape ti t x.cells ∧ (∀ y, ti t = some y → x.isAgg = rowD y.desc) ∧ Shapes ti ts xs
  | _, _ => False

theorem Shapes.length {ti : Types} : ∀ {ts : List TypeId} {xs : List D}, Shapes ti ts xs → xs.length = ts.length
  | [], [], _ => rfl
  | _ :: _, _ :: _, h => by simp [Shapes.length h.2.2]
  | [], _ :: _, h => h.elim
  | _ :: _, [], h => h.elim

section
variable {H : Type} {enc : TypeId × Value → H} {P : Program} {ti : Types} {T : List TypeId} {w : World}

theorem conv_arg (hti : TIok P ti) (hT : plainB ti T = true) {Z : Zone} (hZ : ∀ b o, ¬ Z b o) {base base' : Nat} {spare : Nat → Bool} {held : Bool} {r : Reach} {t : TypeId} {v : Value} {d : DataW H} {ps : List MemPlace} (ht : t ∈ T)
    (hok : Value.okWide P w r base' t v) (h : DataW.Trod enc P w base spare held t v d ps) : ∃ x : D, Shape ti t x.cells ∧ (∀ y, ti t = some y → x.isAgg = rowD y.desc) ∧ RelD w Z x v := by
  obtain ⟨fuel, h⟩ := h
  obtain ⟨ds, hs, h1, h2, h3⟩ := conv hti hT (Z := Z) hZ fuel t _ _ _ ht h
  have hp := List.all_eq_true.1 hT t ht
  split at hp
  · rename_i y hy
    have hu := (hti t y hy).1
    have single : rowD y.desc = false → v.cells.toList = [v] → ∃ x : D, Shape ti t x.cells ∧ (∀ y, ti t = some y → x.isAgg = rowD y.desc) ∧ RelD w Z x v := by
      intro hr hv
      rw [hv] at h1 h3
      obtain ⟨c, rfl⟩ := List.length_eq_one_iff.1 h1
      have hc := h2 c (by simp)
      have e : c.cells = [c] := by cases c <;> first | rfl | simp [D.isAgg] at hc
      refine ⟨c, by rw [e]; exact hs, fun y' hy' => ?_, h3 0 c v rfl rfl⟩
      rw [hy] at hy'
      obtain rfl : y = y' := by simpa using hy'
      rw [hc, hr]
    split at hp
    · rename_i hd
      rw [hd] at hu
      obtain ⟨b, rfl⟩ := okWide_bool hu hok
      exact single (by rw [hd]; rfl) rfl
    · rename_i k hd
      rw [hd] at hu
      obtain ⟨b, rfl⟩ := okWide_int hu hok
      exact single (by rw [hd]; rfl) rfl
    · rename_i hd
      rw [hd] at hu
      obtain ⟨b, rfl⟩ := okWide_string hu hok
      exact single (by rw [hd]; rfl) rfl
    · rename_i e hd
      rw [hd] at hu
      obtain ⟨a, l, c, rfl⟩ := okWide_slice hu hok
      exact single (by rw [hd]; rfl) rfl
    · rename_i fs hd
      rw [hd] at hu
      obtain ⟨cs, rfl, _⟩ := okWide_struct hu hok
      refine ⟨.agg ds, hs, fun y' hy' => ?_, .agg ds cs (by simpa [Value.cells] using h1.symm) h2 (fun j c u hc hu' => h3 j c u hc (by simpa [Value.cells] using hu'))⟩
      rw [hy] at hy'
      obtain rfl : y = y' := by simpa using hy'
      rw [hd]; rfl
    · simp at hp
  · simp at hp

theorem conv_args (hti : TIok P ti) (hT : plainB ti T = true) {Z : Zone} (hZ : ∀ b o, ¬ Z b o) {base base' : Nat} {spare : Nat → Bool} {held : Bool} {r : Reach} :
    ∀ (ts : List TypeId) (vs : List Value) (ds : List (DataW H)) (ps : List MemPlace), (∀ t ∈ ts, t ∈ T) → DataW.TrodAll enc P w base spare held ts vs ds ps →
      (∀ (j : Nat) t v, ts[j]? = some t → vs[j]? = some v → Value.okWide P w r base' t v) →
      ∃ xs, Shapes ti ts xs ∧ ∀ (j : Nat) x v, xs[j]? = some x → vs[j]? = some v → RelD w Z x v
  | [], vs, ds, ps, _, h, _ => ⟨[], trivial, by simp⟩
  | t :: ts, vs, ds, ps, ht, h, hok => by
    obtain ⟨v, vs1, d, ds1, a, b, rfl, rfl, rfl, h1, h2⟩ := trodAll_cons h
    obtain ⟨x, k1, k2, k3⟩ := conv_arg hti hT hZ (ht t (by simp)) (hok 0 t v rfl rfl) h1
    obtain ⟨xs, k4, k5⟩ := conv_args hti hT hZ ts vs1 ds1 b (fun t ht' => ht t (by simp [ht'])) h2 (fun j t v h1 h2 => hok (j + 1) t v (by simpa using h1) (by simpa using h2))
    refine ⟨x :: xs, ⟨k1, k2, k4⟩, fun j x' v' hx hv => ?_⟩
    match j with
    | 0 => simp at hx hv; subst hx; subst hv; exact k3
    | j + 1 => simp at hx hv; exact k5 j x' v' hx hv

theorem again_all (hl : laidOutB P = true) {W W' : World} (hb : Below W.heap.size W W') : ∀ (ts : List TypeId) (vs : List Value) (ds : List (DataW H)) (ps : List MemPlace),
    (∀ t ∈ ts, P.readableRec t = true ∧ t < P.types.size) → DataW.TrodAll enc P W 0 (fun _ => true) true ts vs ds ps → (∀ x ∈ ps, x.block < W.heap.size) →
    DataW.TrodAll enc P W' 0 (fun b => decide (b < W.heap.size)) true ts vs ds ps
  | [], vs, ds, ps, _, h, _ => by
    obtain ⟨rfl, rfl, rfl⟩ := trodAll_nil h
    exact rfl
  | t :: ts, vs, ds, ps, ht, h, hlt => by
    obtain ⟨v, vs1, d, ds1, a, b, rfl, rfl, rfl, h1, h2⟩ := trodAll_cons h
    have ht1 := ht t (by simp)
    exact ⟨a, b, Below.trod hl ht1.1 ht1.2 h1 hb (fun x hx => hlt x (by simp [hx])), again_all hl hb ts vs1 ds1 b (fun t ht' => ht t (by simp [ht'])) h2 (fun x hx => hlt x (by simp [hx])), rfl⟩

theorem law_calls {I : Inv} (hti : TIok P ti) (hT : plainB ti T = true) {s : ChangeSpec} {fn : Func} {f : FuncId} {ts : List TypeId} {bt : TypeId}
    (hp : fn.params.toList = ts) (hv : s.vars = []) (hr : fn.resultTypes = #[bt]) (hb : P.underlying bt = some .bool) (htT : ∀ t ∈ ts, t ∈ T)
    (hs : ∀ ds : List (DataW H), ds.length = ts.length → (s.fn H ds).results = [.lit (.bool true)] ∧ (s.fn H ds).args = ds ∧ (s.fn H ds).vars = [])
    (hl : laidOutB P = true) (hrec : ∀ t ∈ ts, P.readableRec t = true ∧ t < P.types.size)
    (hc : ∀ xs : List D, Shapes ti ts xs → Trip P I f (xs.map V1.d) [] (.v (.d (.bool true))) [] [])
    {W : World} {base : Nat} {args : Array Value} {ds gs : List (DataW H)} {before : List MemPlace}
    (hI : I.at W fun _ _ => False) (hval : ∀ (j : Nat) t v, fn.params[j]? = some t → args[j]? = some v → Value.okWide P W .any base t v)
    (hW : DataW.Whole enc P fn.params.toList s.vars false W args.toList ds gs before) :
    Calls P f args W fun e W' => ∃ v, e = .returned v ∧ s.post enc P fn false true false false W args v W' := by
  have hW' := hW
  obtain ⟨p, q, hA, hV, rfl, _, _⟩ := hW
  rw [hv] at hV
  obtain ⟨rfl, rfl⟩ : gs = [] ∧ q = [] := by
    cases gs with
    | nil => exact ⟨rfl, hV⟩
    | cons _ _ => exact hV.elim
  rw [hp] at hA
  obtain ⟨hlen, hdl⟩ := trodAll_length hA
  obtain ⟨xs, hsh, hrel⟩ := conv_args hti hT (Z := fun _ _ => False) (fun _ _ h => h) (r := .any) (base' := base) ts args.toList ds p htT hA (fun j t v h1 h2 => hval j t v (by
    rw [← Array.getElem?_toList, hp]; exact h1) (by simpa using h2))
  have hxl := hsh.length
  have hcall := hc xs hsh
  have hheap : ∀ i o, heapOf [] i = some o → False := by
    intro i o h
    cases i <;> simp [heapOf] at h
  have hzone : ∀ (g : Ghost) b o, ¬ zone g (heapOf []) b o := by
    rintro g b o ⟨i, ob, h, _⟩
    exact hheap i ob h
  refine (hcall.calls (w := W) (X := fun _ _ => False) (g := fun _ => undef) (vals := args) (fun _ _ h => h.elim) (hI.mono fun b o hz => hz.elim (hzone _ b o) id) ⟨fun i o h => (hheap i o h).elim, fun i _ _ _ _ h => (hheap i _ h).elim, fun i _ _ _ h => (hheap i _ h).elim⟩ (fun _ => rfl)
    (by simp at hlen; simp; omega) (fun j x v hx hvv => ?_)).mono ?_
  · simp only [List.getElem?_map, Option.map_eq_some_iff] at hx
    obtain ⟨d, hd, rfl⟩ := hx
    exact (hrel j d v hd (by simpa using hvv)).mono (fun b o u hu _ => ⟨hu, fun hz => hz.elim (hzone _ b o) id⟩)
  · rintro e W' ⟨v, g', rfl, hpost⟩
    obtain rfl : v = .bool true := by cases (show RelD _ _ (.bool true) v from hpost.res); rfl
    have hbel : Below W.heap.size W W' := ⟨hpost.frame.os, hpost.frame.tape, hpost.frame.output, hpost.frame.size, fun k hk => hpost.frame.block k hk (fun o => hzone _ k o)⟩
    obtain ⟨s1, s2, s3⟩ := hs (ds ++ []) (by simp [hdl])
    refine ⟨_, rfl, ds, [], p ++ [], [], p, [], hW', ?_, ?_, ?_, hbel.frame _, fun h => by cases h⟩
    · rw [s1, hr]
      exact trodAll_mk1 (shut_bool hb true)
    · rw [s2, hp, List.append_nil]
      exact again_all hl hbel ts args.toList ds p hrec hA (fun x hx => hW'.lt x (by simp [hx]))
    · rw [s3, hv]; rfl
end
end Go.AM
