/- Part of a proof. No condition. (Part 4: AmKE, AmOB, AmSH, AmX, YtjobleemmjjocaaDoorFo, YtjobleemmjjocaaDoorShelf, YtjobleemmjjocaaDoorSh, YtjobleemmjjocaaDoorXDs, YtjobleemmjjocaaDoorX17, YtjobleemmjjocaaDoorX69, YtjobleemmjjocaaDoorX42r0, YtjobleemmjjocaaDoorX96, YtjobleemmjjocaaDoorX73, YtjobleemmjjocaaDoorX57, YtjobleemmjjocaaDoorX89, .) -/
import Derived.KernelRfl
import Derived.Lib.LaidTab
import Derived.Lib.ItoaNum
import Derived.Shelf.Strings.Builder1
import Derived.Shelf.Strings.Builder2
import Derived.Shelf.Strings.OnBuilder
import Derived.Shelf.Strings.BuilderF
import Derived.Shelf.Strings.BuilderK
import Derived.Shelf.Strings.Builder2Cap
import Derived.Shelf.Strconv.Itoa0
import Derived.Shelf.Strconv.Itoa1
import Derived.Shelf.LaysM
import Derived.Shelf.Strconv.Itoa2
import Derived.Shelf.Strconv.Itoa3
import Derived.Shelf.Strconv.Itoa4
import Derived.Shelf.Strings.BuilderCap
import Derived.Shelf.Slices.Turned
import Derived.Shelf.Slices.Equal
import Derived.Ground.Names2Prog
import Derived.Shelf.Slices.Clone
import Derived.Shelf.Slices.Empties2
import Derived.Ground.SlgnProg
import Derived.Shelf.SlicesE.Clone
import Derived.Test.YtjobleemmjjocaaDoorProg
import Derived.Lib.AppendIntMem
import Derived.Carry
import Derived.ChangeSame
import Derived.ChangeOld
import Derived.ChangeCalls
import Derived.WideShapes
import Derived.Test.YtjobleemmjjocaaDoorTenC
set_option linter.unusedVariables false
set_option linter.unusedSimpArgs false
namespace Go.AM
open Go Go.RowKit

def cvP (p : Id → Bool) : CV → Bool
  | .ptr i _ => p i
  | .fn _ cap => allB p cap
  | .lst i _ _ _ => p i
  | .sl i _ => p i
  | .map i => p i
  | .ap i _ _ _ _ => p i
  | .ow i => p i
  | .op i _ _ _ => p i
  | .yl i => p i
  | _ => true
def v1P (p : Id → Bool) : V1 → Bool
  | .d _ => true
  | .c x => cvP p x
  | .agg cs => allB (cvP p) cs
def avP (p : Id → Bool) : AV → Bool
  | .u => true
  | .v x => v1P p x
  | .t xs => allB (v1P p) xs
def objP (p : Id → Bool) : AObj → Bool
  | .cells cs => allB (cvP p) cs
  | .tok .. => true
  | .map _ _ es => allB (fun e => v1P p e.2) es
  | .arr cs1 _ _ _ cs2 => match allB (cvP p) cs1 with
    | true => allB (cvP p) cs2
    | false => false
  | .tree _ _ _ _ foc => match foc with
    | some x => allB (cvP p) x.2
    | none => true
  | .gone => true
  | .rnd _ sl => allB (fun x => avP p x.2) sl
  | .rndX _ => true

section
variable {p : Id → Bool} {f e : Id → Id} (hp : ∀ i, p i = true → f (e i) = i)
include hp
theorem ren_cv {c : CV} (h : cvP p c = true) : (c.ren e).ren f = c := by
  cases c <;> simp only [CV.ren, cvP] at h ⊢
  · rw [hp _ h]
  · rw [List.map_map]
    congr 1
    rw [allB_iff] at h
    exact map_same fun i hi => hp _ (h i hi)
  · rw [hp _ h]
  · rw [hp _ h]
  · rw [hp _ h]
  · rw [hp _ h]
  · rw [hp _ h]
  · rw [hp _ h]
  · rw [hp _ h]
theorem ren_cvs {cs : List CV} (h : allB (cvP p) cs = true) : (cs.map (CV.ren e)).map (CV.ren f) = cs := by
  rw [List.map_map]
  rw [allB_iff] at h
  exact map_same fun i hi => ren_cv hp (h i hi)
theorem ren_v1 {c : V1} (h : v1P p c = true) : (c.ren e).ren f = c := by
  cases c <;> simp only [V1.ren, v1P] at h ⊢
  · rw [ren_cv hp h]
  · rw [ren_cvs hp h]
theorem ren_av {c : AV} (h : avP p c = true) : (c.ren e).ren f = c := by
  cases c <;> simp only [AV.ren, avP] at h ⊢
  · rw [ren_v1 hp h]
  · rw [List.map_map]
    congr 1
    rw [allB_iff] at h
    exact map_same fun i hi => ren_v1 hp (h i hi)
theorem ren_obj {c : AObj} (h : objP p c = true) : (c.ren e).ren f = c := by
  cases c <;> simp only [AObj.ren, objP] at h ⊢
  · rw [ren_cvs hp h]
  · rw [List.map_map]
    congr 1
    rw [allB_iff] at h
    refine map_same fun i hi => ?_
    show (i.1, (i.2.ren e).ren f) = i
    rw [ren_v1 hp (h i hi)]
  · split at h
    · rename_i h1
      rw [ren_cvs hp h, ren_cvs hp h1]
    · cases h
  · congr 1
    split at h
    · show some (_, List.map (CV.ren f) (List.map (CV.ren e) _)) = _
      rw [ren_cvs hp h]
    · rfl
  · rw [List.map_map]
    congr 1
    rw [allB_iff] at h
    refine map_same fun i hi => ?_
    show (i.1, (i.2.ren e).ren f) = i
    rw [ren_av hp (h i hi)]
end

theorem weak_ren {σ σ' : St} (r : Id → Id) (hext : ∀ j, r (.ext j) = .ext j) (hbig : ∀ n, σ'.next ≤ n → ∃ N, σ.next ≤ N ∧ r (.loc n) = .loc N)
    (hs : ∀ t, getS σ'.slots t = .u ∨ getS σ.slots t = (getS σ'.slots t).ren r) (hh : ∀ i o, getH σ'.heap i = some o → getH σ.heap (r i) = some (o.ren r))
    (hinj : ∀ i j o o', getH σ'.heap i = some o → getH σ'.heap j = some o' → r i = r j → i = j) (hlow : ∀ n, σ'.next ≤ n → getH σ'.heap (.loc n) = none) : Weak σ σ' := by
  rintro C a w ⟨g, R⟩
  let g' : Ghost := fun i => g (r i)
  have hz : ∀ b o, zone g' (getH σ'.heap) b o → zone g (getH σ.heap) b o := by
    rintro b o ⟨i, ob, hi, h1⟩
    exact ⟨r i, _, hh i ob hi, zone1_ren.2 h1⟩
  have hzz : ∀ b o, zor (zone g' (getH σ'.heap)) C.X b o → zor (zone g (getH σ.heap)) C.X b o := fun b o hx => hx.imp (hz b o) id
  have ht : ∀ i n sz e, getH σ'.heap i = some (.tok n sz e) → getH σ.heap (r i) = some (.tok n sz e) := fun i n sz e hi => hh i _ hi
  have hw : ∀ i, isLive (getH σ'.heap i) = true → isLive (getH σ.heap (r i)) = true := by
    intro i hi
    cases hc : getH σ'.heap i with
    | none => rw [hc] at hi; cases hi
    | some o =>
      rw [hh i o hc]
      rw [hc] at hi
      exact isLive_ren.trans hi
  refine ⟨g', R.size, R.defers, fun t => ?_, ⟨fun i o hi => RelObj.pull (r := r) (g' := g') hzz (fun _ => rfl) ht hw (R.heap.objs _ _ (hh i o hi)), fun i j oi oj b hi hj bi bj => ?_, fun i oi b o hi bi => R.heap.apart _ _ b o (hh i oi hi) (Obk_ren.2 bi)⟩, R.frame, fun j => ?_,
    fun j ob b o hj hz' => R.within _ _ b o (hh j ob hj) (zone1_ren.2 hz'), R.xs, fun n hn => ⟨?_, hlow n hn⟩⟩
  · rcases hs t with e | e
    · rw [e]; trivial
    · have := R.slots t
      rw [e] at this
      exact RelAV.pull (r := r) hzz (fun _ => rfl) ht hw this
  · exact hinj i j oi oj hi hj (R.heap.sep _ _ _ _ b (hh i oi hi) (hh j oj hj) (Obk_ren.2 bi) (Obk_ren.2 bj))
  · show gsame (C.g0 (.ext j)) (g (r (.ext j)))
    rw [hext]
    exact R.ext j
  · obtain ⟨N, hN, e⟩ := hbig n hn
    show g (r (.loc n)) = undef
    rw [e]
    exact (R.free N hN).1

def fstOf : List (Nat × Nat) → Nat → Option Nat
  | [], _ => none
  | (a, b) :: l, k => match Nat.beq a k with
    | true => some b
    | false => fstOf l k
def sndOf : List (Nat × Nat) → Nat → Option Nat
  | [], _ => none
  | (a, b) :: l, k => match Nat.beq b k with
    | true => some a
    | false => sndOf l k
def invF (l : List (Nat × Nat)) : Id → Id
  | .ext j => .ext j
  | .loc k => match fstOf l k with
    | some m => .loc m
    | none => .loc k
def backF (l : List (Nat × Nat)) : Id → Id
  | .ext j => .ext j
  | .loc k => match sndOf l k with
    | some m => .loc m
    | none => .loc k
def okId (l : List (Nat × Nat)) (n : Nat) (i : Id) : Bool :=
  match Id.beq (backF l (invF l i)) i with
  | true => idB n (invF l i)
  | false => false
def renS (l : List (Nat × Nat)) : List (Nat × AV) → List (Nat × AV)
  | [] => []
  | (t, x) :: r => (t, x.ren (invF l)) :: renS l r
def renH (l : List (Nat × Nat)) : List (Id × AObj) → List (Id × AObj)
  | [] => []
  | (i, x) :: r => (invF l i, x.ren (invF l)) :: renH l r
def keepR (ks : List Nat) (is : List Id) (n : Nat) (l : List (Nat × Nat)) (σ : St) (K : St → Prop) : Prop :=
  match keepH σ.heap is with
  | none => False
  | some hp => req (allB (fun x : Nat × AV => avP (okId l n) x.2) (keepS σ.slots ks)) <| req (allB (fun x : Id × AObj => match okId l n x.1 with | true => objP (okId l n) x.2 | false => false) hp) <|
      K ⟨renS l (keepS σ.slots ks), renH l hp, n⟩

theorem renS_get {l : List (Nat × Nat)} {s : List (Nat × AV)} (t : Nat) : getS (renS l s) t = (getS s t).ren (invF l) := by
  induction s with
  | nil => rfl
  | cons x s ih =>
    obtain ⟨k, v⟩ := x
    show getS ((k, v.ren (invF l)) :: renS l s) t = _
    rw [getS_cons, getS_cons]
    simp only []
    split
    · rfl
    · exact ih
theorem renH_get {l : List (Nat × Nat)} {p : Id → Bool} {f : Id → Id} (hp : ∀ i, p i = true → f (invF l i) = i) : ∀ {s : List (Id × AObj)}, (∀ x ∈ s, p x.1 = true) → ∀ {i : Id} {o : AObj}, getH (renH l s) i = some o → p (f i) = true ∧ invF l (f i) = i ∧ ∃ o', getH s (f i) = some o' ∧ o = o'.ren (invF l)
  | [], _, i, o, h => by simp [renH, getH] at h
  | (k, v) :: s, hs, i, o, h => by
    have hk := hs (k, v) (by simp)
    rw [show renH l ((k, v) :: s) = (invF l k, v.ren (invF l)) :: renH l s from rfl, getH_cons] at h
    simp only [updO] at h
    by_cases e : i = invF l k
    · rw [if_pos e] at h
      simp at h
      have hf : f i = k := by rw [e]; exact hp k hk
      rw [hf]
      exact ⟨hk, e.symm, v, by rw [getH_cons]; simp [updO], h.symm⟩
    · rw [if_neg e] at h
      obtain ⟨h1, h2, o', h3, h4⟩ := renH_get hp (fun x hx => hs x (List.mem_cons_of_mem _ hx)) h
      refine ⟨h1, h2, o', ?_, h4⟩
      rw [getH_cons]
      simp only [updO]
      rw [if_neg]
      · exact h3
      · rintro rfl
        exact e h2.symm
theorem getH_all {q : Id × AObj → Bool} {l : List (Id × AObj)} (h : allB q l = true) {i : Id} {o : AObj} (hi : getH l i = some o) : q (i, o) = true := by
  induction l with
  | nil => simp [getH] at hi
  | cons x l ih =>
    obtain ⟨k, v⟩ := x
    rw [allB_iff] at h
    rw [getH_cons] at hi
    simp only [updO] at hi
    split at hi
    · rename_i e
      cases hi
      rw [e]
      exact h _ (List.mem_cons_self ..)
    · exact ih (allB_iff.2 fun x hx => h x (by simp [hx])) hi

theorem keepR_weak {ks : List Nat} {is : List Id} {n : Nat} {l : List (Nat × Nat)} {σ : St} {K : St → Prop} (h : keepR ks is n l σ K) : ∃ σ', Weak σ σ' ∧ K σ' := by
  unfold keepR at h
  split at h
  · exact h.elim
  · rename_i hp hhp
    obtain ⟨h1, h⟩ := req_iff.1 h
    obtain ⟨h2, h⟩ := req_iff.1 h
    let N := max σ.next n
    let f : Id → Id := fun i => if idB n i = true then backF l i else .loc N
    have hpf : ∀ i, okId l n i = true → f (invF l i) = i := by
      intro i hi
      unfold okId at hi
      split at hi
      · rename_i hb
        show (if idB n (invF l i) = true then _ else _) = i
        rw [if_pos hi]
        exact Id.beq_iff.1 hb
      · cases hi
    have hk2 : ∀ x ∈ hp, okId l n x.1 = true ∧ objP (okId l n) x.2 = true := by
      intro x hx
      have := allB_iff.1 h2 x hx
      split at this
      · rename_i hb; exact ⟨hb, this⟩
      · cases this
    have hnew : ∀ i o, getH (renH l hp) i = some o → okId l n (f i) = true ∧ invF l (f i) = i ∧ ∃ o', getH hp (f i) = some o' ∧ o = o'.ren (invF l) := fun i o hi => renH_get hpf (fun x hx => (hk2 x hx).1) hi
    refine ⟨_, weak_ren f (fun j => by show (if idB n (.ext j) = true then _ else _) = _; simp [idB, backF]) (fun m hm => ⟨N, Nat.le_max_left _ _, ?_⟩) (fun t => ?_) (fun i o hi => ?_) (fun i j o o' hi hj e => ?_) (fun m hm => ?_), h⟩
    · have hm : n ≤ m := hm
      have : idB n (.loc m) = false := by
        cases hb : idB n (.loc m) with
        | false => rfl
        | true => simp [idB] at hb; omega
      show (if idB n (.loc m) = true then _ else _) = _
      rw [this]; rfl
    · rw [renS_get]
      rcases keepS_get (l := σ.slots) (ks := ks) t with e | e
      · rw [e]; exact .inl rfl
      · right
        rw [← e]
        exact (ren_av hpf (getS_all (p := avP (okId l n)) rfl h1 t)).symm
    · obtain ⟨p1, p2, o', p3, rfl⟩ := hnew i o hi
      have hq := getH_all (q := fun x => objP (okId l n) x.2) (allB_iff.2 fun x hx => (hk2 x hx).2) p3
      rw [ren_obj hpf hq]
      exact (keepH_get hhp _ _ p3).1
    · obtain ⟨_, p2, _⟩ := hnew i o hi
      obtain ⟨_, q2, _⟩ := hnew j o' hj
      rw [← p2, ← q2, e]
    · cases hc : getH (renH l hp) (.loc m) with
      | none => rfl
      | some o =>
        obtain ⟨p1, p2, _⟩ := hnew _ o hc
        have hm : n ≤ m := hm
        unfold okId at p1
        split at p1
        · rw [p2] at p1
          simp [idB] at p1
          omega
        · cases p1
end Go.AM

namespace Go.AM
open Go Go.RowKit

theorem loop_invG {M : Mach} {ex : St → (AExit → St → Prop) → Prop} {σ : St} {K : AExit → St → Prop} (gs : List Gh) (l : List (Nat × Nat)) (ks : List Nat) (is : List Id) (nx : Nat) {T : Type} (S : T → St) (I : T → Prop) (m : T → Nat) (t0 : T)
    (hI : I t0) (h0 : gh gs σ fun σ => keepR ks is nx l σ (· = S t0))
    (hr : ∀ t, I t → ex (S t) fun e σ2 => match e with
      | .normal => ∃ n' σ3, n' < m t ∧ Weak σ2 σ3 ∧ ∃ t', I t' ∧ n' = m t' ∧ σ3 = S t'
      | .exit id => K (.exit id) σ2
      | .ret => K .ret σ2) : M.lock fun _ => loopP ex σ K ∨ ∃ n, unrollP ex K n σ := by
  refine (M.lock_iff _).2 <| .inl ⟨fun n σ => ∃ t, I t ∧ n = m t ∧ σ = S t, m t0, ?_, ?_⟩
  · obtain ⟨σ1, hw1, h1⟩ := gh_weak h0
    obtain ⟨σ', hw, e⟩ := keepR_weak h1
    exact ⟨σ', Weak.trans hw1 hw, t0, hI, rfl, e⟩
  · rintro n σ1 ⟨t, h1, rfl, rfl⟩
    exact hr t h1
theorem loop_nextG {T : Type} {m : T → Nat} {I : T → Prop} {S : T → St} {σ2 : St} {k : Nat} (t' : T) (gs : List Gh) (l : List (Nat × Nat)) (ks : List Nat) (is : List Id) (nx : Nat) (hI : I t') (hm : m t' < k)
    (hk : gh gs σ2 fun σ => keepR ks is nx l σ (· = S t')) : ∃ n' σ3, n' < k ∧ Weak σ2 σ3 ∧ ∃ t', I t' ∧ n' = m t' ∧ σ3 = S t' := by
  obtain ⟨σ1, hw1, h1⟩ := gh_weak hk
  obtain ⟨σ', hw, e⟩ := keepR_weak h1
  exact ⟨m t', σ', hm, Weak.trans hw1 hw, t', hI, rfl, e⟩

section
variable {w : World} {Z Z' X : Zone} {g g' : Ghost} {h h' : Heap}

end

end Go.AM

namespace Go.AM
open Go Go.RowKit

theorem Trip.ofCalls {P : Program} {I : Inv} {f : FuncId} {xs : List D} {res : V1} (hf : ∃ fn c, P.funcs[f]? = some fn ∧ fn.body = some c ∧ (fn.name == "runtime.NumGoroutine") = false)
    (h : ∀ (w : World) (Z : Zone) (vals : Array Value), I.rel w → vals.size = xs.length → (∀ (j : Nat) x v, xs[j]? = some x → vals[j]? = some v → RelD w Z x v) →
      Calls P f vals w fun e w' => ∃ v, e = .returned v ∧ ApartW (fun _ => False) w w' ∧ ∀ Z' g' h', RelV1 w' Z' g' h' res v) : Trip P I f (xs.map V1.d) [] (.v res) [] [] := by
  refine Trip.mk' hf fun w X g vals hX hI RH hg hsz hargs => ?_
  have none : ∀ {i o}, heapOf [] i = some o → False := by
    intro i o h
    cases i <;> simp [heapOf] at h
  have none2 : ∀ {i o}, heapOf2 [] [] i = some o → False := by
    intro i o h
    cases i <;> simp [heapOf2] at h
  refine (h w (zor (zone g (heapOf [])) X) vals hI.1 (by simpa using hsz) (fun j x v hx hv => hargs j (.d x) v (by simp [hx]) hv)).mono ?_
  rintro e w' ⟨v, rfl, A, hr⟩
  refine ⟨v, g, rfl, ⟨⟨fun i o hi => (none2 hi).elim, fun i j oi oj b hi => (none2 hi).elim, fun i oi b o hi => (none2 hi).elim⟩, hr _ _ _, ?_, fun j => .refl _, fun i ob b o hi => (none2 hi).elim, fun k _ => hg k⟩⟩
  exact ⟨A.os, A.tape, A.output, A.size, fun b hb _ => A.block b hb id, fun b o u hu _ => A.cell hu id⟩

theorem below_apart {w w' : World} (h : Below w.heap.size w w') : ApartW (fun _ => False) w w' := ⟨h.os, h.tape, h.output, h.size, fun b hb _ => h.block b hb⟩
end Go.AM

namespace Go.AM
open Go Go.RowKit

section
variable {α β γ : Type}
def bS (x : Option (α ⊕ β)) (k1 : α → Option γ) (k2 : β → Option γ) : Option γ :=
  match x with
  | some (.inl a) => k1 a
  | some (.inr b) => k2 b
  | none => none
theorem bS_inv {x : Option (α ⊕ β)} {k1 : α → Option γ} {k2 : β → Option γ} {r : γ} (h : bS x k1 k2 = some r) : (∃ a, x = some (.inl a) ∧ k1 a = some r) ∨ ∃ b, x = some (.inr b) ∧ k2 b = some r := by
  unfold bS at h
  split at h
  · exact .inl ⟨_, rfl, h⟩
  · exact .inr ⟨_, rfl, h⟩
  · cases h
end

section
variable {γ : Type}
def letB (b : Bool) (k : Bool → Option γ) : Option γ := k b
theorem letB_inv {b : Bool} {k : Bool → Option γ} {r : γ} (h : letB b k = some r) : ∃ y, b = y ∧ k y = some r := ⟨b, rfl, h⟩
end
def cL : Code → Code
  | .seq a _ => a
  | .cond _ a _ => a
  | .block _ b => b
  | .loop b => b
  | .rangeFunc _ _ a _ => a
  | c => c
def cR : Code → Code
  | .seq _ b => b
  | .cond _ _ b => b
  | .rangeFunc _ _ _ b => b
  | c => c
def cP : Code → Array Tmp
  | .rangeFunc _ p _ _ => p
  | _ => #[]
def bodyOf (fn : Func) : Code :=
  match fn.body with
  | some c => c
  | none => .skip

def slOK (s : Slots) : List (Nat × AV) → Prop
  | [] => True
  | (t, v) :: r => s t = v ∧ slOK s r
theorem slOK_get {s : Slots} : ∀ {sl : List (Nat × AV)}, slOK s sl → ∀ t, getS sl t = .u ∨ getS sl t = s t
  | [], _, _ => .inl rfl
  | (k, v) :: r, h, t => by
    show (match Nat.beq k t with | true => v | false => getS r t) = .u ∨ (match Nat.beq k t with | true => v | false => getS r t) = s t
    cases e : Nat.beq k t with
    | true => exact .inr (by rw [← Nat.eq_of_beq_eq_true e]; exact h.1.symm)
    | false => exact slOK_get h.2 t

theorem eqv_eq {a b q : Bool} (h : (a == b) = q) : eqvB a b = q := (eqvB_eq a b).trans h
theorem eqv_ne {a b q : Bool} (h : (!(a == b)) = q) : notB (eqvB a b) = q := by rw [eqvB_eq, notB_eq]; exact h
theorem not_eq' {a q : Bool} (h : (!a) = q) : notB a = q := by rw [notB_eq]; exact h

theorem seq_go {M : Mach} {ea eb : St → (AExit → St → Prop) → Prop} {σ : St} {K : AExit → St → Prop} (h : ea σ fun e σ' => match e with
    | .normal => eb σ' K
    | .exit id => K (.exit id) σ'
    | .ret => K .ret σ') : M.lock fun _ => seqP ea eb σ K := (M.lock_iff _).2 (.inl h)
theorem seq_join {M : Mach} {ea eb : St → (AExit → St → Prop) → Prop} {σ : St} {K : AExit → St → Prop} {T : Type} (S : T → St) (I : T → Prop)
    (ha : ea σ fun e σ' => match e with
      | .normal => ∃ σ'', Weak σ' σ'' ∧ ∃ t, I t ∧ σ'' = S t
      | .exit id => K (.exit id) σ'
      | .ret => K .ret σ') (hb : ∀ t, I t → eb (S t) K) : M.lock fun _ => seqP ea eb σ K := by
  refine (M.lock_iff _).2 (.inr ⟨fun σ => ∃ t, I t ∧ σ = S t, ha, ?_⟩)
  rintro σ2 ⟨t, hi, rfl⟩
  exact hb t hi
theorem join_nextG {T : Type} {I : T → Prop} {S : T → St} {σ2 : St} (t' : T) (gs : List Gh) (l : List (Nat × Nat)) (ks : List Nat) (is : List Id) (nx : Nat) (hI : I t') (hk : gh gs σ2 fun σ => keepR ks is nx l σ (· = S t')) :
    ∃ σ'', Weak σ2 σ'' ∧ ∃ t, I t ∧ σ'' = S t := by
  obtain ⟨σ1, hw1, h1⟩ := gh_weak hk
  obtain ⟨σ', hw, e⟩ := keepR_weak h1
  exact ⟨σ', Weak.trans hw1 hw, t', hI, e⟩
theorem join_next {T : Type} {I : T → Prop} {S : T → St} {σ2 : St} (t' : T) (ks : List Nat) (is : List Id) (nx : Nat) (hI : I t') (hk : keep ks is nx σ2 (· = S t')) :
    ∃ σ'', Weak σ2 σ'' ∧ ∃ t, I t ∧ σ'' = S t := by
  obtain ⟨σ', hw, e⟩ := keep_weak hk
  exact ⟨σ', hw, t', hI, e⟩

section
variable {M : Mach} {P : Program} {I : Inv}

theorem RoundK.of' {ti : Types} (hti : TIok P ti) (h1 : TIone ti) (hm : P.follows .mixedOrders = true) {r : RF} {sl : List (Nat × AV)} {args : List V1} {pre : List AObj} {Q : Jump → List AObj → List AObj → Prop} {nt : Nat} {ps : List Tmp} {ca cb : Code}
    (hnt : r.nt = nt) (hpl : r.params.toList = ps) (ha : r.assign = ca) (hb : r.body = cb) (hlen : args.length = ps.length) (hps : allB (fun p => Nat.blt p nt) ps = true)
    (hx : ∀ M : Mach, M.P = P → M.I = I → exec M ti nt (execDraw ti M nt) ca ⟨putPs ps args sl, extsOf pre 0, 0⟩ fun e σ => match e with
      | .normal => exec M ti nt (execDraw ti M nt) cb σ fun e σ => ∃ post new, Q (jumpOf e) post new ∧ FinR σ post new
      | _ => False) : RoundK P I r sl args pre Q := by
  subst hnt
  subst hpl
  subst ha
  subst hb
  exact RoundK.intro (fun M nt => execDraw ti M nt) hti h1 (draw_P hti h1 hm) (by simpa using hlen) hps hx
theorem finQ_go {Q : AV → List AObj → List AObj → Prop} {ti : Types} {rs : List ResultVar} {σ : St} {res : AV} {post new : List AObj} (hQ : Q res post new)
    (h : withRes ti σ rs fun xs => ∃ nm : List Id, nodupB nm = true ∧ mkRes xs = res.ren (renN nm σ.next) ∧ postOK (getH σ.heap) (renN nm σ.next) post 0 ∧ newOK (getH σ.heap) (renN nm σ.next) new nm ∧ handOK post nm) :
    ∃ r p n, Q r p n ∧ Fin' ti rs σ r p n := ⟨_, _, _, hQ, [], h⟩

theorem yl_with {A : Prop} {ti : Types} {o : Oper} {c : Call} {f : Operand} {fresh : Nat} {σ : St} {K : St → Prop} {i : Id} {r : Unit → RF} {sl sl0 : List (Nat × AV)} {xs targs : List V1} {pre post new : List AObj} {j : Jump}
    (hP : M.P = P) (hI : M.I = I) (m : List Id) (ho : o.op = .call c) (hc : c.callee = .value f) (hf : opd ti (getS σ.slots) 0 f = .v (.c (.yl i))) (hr : getH σ.heap i = some (.rnd r sl))
    (hR : RoundK P I (r ()) sl0 targs pre fun j' p n => j' = j ∧ p = post ∧ n = new) (hxs : vals1 (opsArgs ti (getS σ.slots) c.args.toList c.argTypes.toList) = some xs)
    (he : xs = targs.map (V1.ren (renM (m ++ [i]) fresh))) (hsl : sl = renSl (renM (m ++ [i]) fresh) sl0) (hm : (m ++ [i]).Nodup) (hpre : preOK (getH σ.heap) (renM (m ++ [i]) fresh) m pre) (hkd : allKinds pre post) (hn : new.length ≤ 31)
    (hk : K ⟨putS σ.slots o.dst (.v (.d (.bool j.isNone))), setW σ.heap (wrM (m ++ [i]) (renM (m ++ [i]) fresh) (post ++ [putRec j r sl0]) ++ wrNew fresh (renM (m ++ [i]) fresh) 0 new), fresh⟩) :
    M.lock fun _ => A ∨ callK M ti o fresh σ K := by
  refine call_in ?_
  unfold callK
  rw [ho]
  simp only []
  rw [hc]
  simp only []
  refine ⟨⟨σ.slots, σ.heap, fresh⟩, Weak.refl _, rfl, ?_⟩
  simp only [hf]
  unfold withArgs
  rw [hxs]
  simp only [hr]
  refine ⟨m, targs, pre, sl0, _, hP ▸ hI ▸ hR, he, hsl, (preOK_get hpre).1, hm, (preOK_get hpre).2, ?_⟩
  rintro j' post' new' ⟨rfl, rfl, rfl⟩
  exact ⟨⟨hkd, hn⟩, hk⟩

def callFV (M : Mach) (ti : Types) (o : Oper) (c : Call) (f : Operand) (fresh : Nat) (σ : St) (K : St → Prop) : Prop :=
  match opd ti (getS σ.slots) 0 f with
  | .v (.c (.fn n cap)) => withArgs (opsArgs ti (getS σ.slots) c.args.toList c.argTypes.toList) fun xs => callFn M o.dst fresh σ n (xs ++ cap.map fun i => V1.c (.ptr i 0)) K
  | _ => False
theorem call_gs {A : Prop} {ti : Types} {o : Oper} {c : Call} {f : Operand} {fresh : Nat} {σ : St} {K : St → Prop} (gs : List Gh) (ho : o.op = .call c) (hc : c.callee = .value f)
    (hk : gh gs ⟨σ.slots, σ.heap, fresh⟩ fun σ' => σ'.next = fresh ∧ M.lock fun _ => callFV M ti o c f fresh σ' K) : M.lock fun _ => A ∨ callK M ti o fresh σ K := by
  refine call_in ?_
  obtain ⟨σ', hw, hn, hk⟩ := gh_weak hk
  have hk := (M.lock_iff _).1 hk
  unfold callK
  rw [ho]
  simp only []
  rw [hc]
  simp only []
  refine ⟨σ', hw, hn, ?_⟩
  unfold callFV at hk
  split at hk
  · rename_i n cap h
    rw [h]
    exact hk
  · exact hk.elim
theorem callfv_with {ti : Types} {o : Oper} {c : Call} {f : Operand} {fresh : Nat} {σ : St} {K : St → Prop} {n : FuncId} {cap : List Id} {xs targs : List V1} {pre post new : List AObj} {res : AV} (hP : M.P = P) (hI : M.I = I) (m : List Id)
    (hf : opd ti (getS σ.slots) 0 f = .v (.c (.fn n cap))) (hxs : vals1 (opsArgs ti (getS σ.slots) c.args.toList c.argTypes.toList) = some xs) (ht : Trip P I n targs pre res post new)
    (he : (xs ++ cap.map fun i => V1.c (.ptr i 0)) = targs.map (V1.ren (renM m fresh))) (hm : m.Nodup) (hpre : preOK (getH σ.heap) (renM m fresh) m pre) (hkd : allKinds pre post) (hn : new.length ≤ 31)
    (hk : K ⟨putS σ.slots o.dst (res.ren (renM m fresh)), setW σ.heap (wrM m (renM m fresh) post ++ wrNew fresh (renM m fresh) 0 new), σ.next⟩) : M.lock fun _ => callFV M ti o c f fresh σ K := by
  refine (M.lock_iff _).2 ?_
  unfold callFV
  rw [hf]
  simp only []
  unfold withArgs
  rw [hxs]
  refine ⟨m, targs, pre, _, hP ▸ hI ▸ ht, he, (preOK_get hpre).1, hm, (preOK_get hpre).2, ?_⟩
  rintro res' post' new' ⟨rfl, rfl, rfl⟩
  exact ⟨⟨hkd, hn⟩, hk⟩
theorem op_pl {ti : Types} {o : Oper} {fresh : Nat} {σ : St} {K : St → Prop} (hk : plOp M ti o fresh σ K) : M.lock fun _ => plOp M ti o fresh σ K ∨ ghOp M ti o fresh σ K := (M.lock_iff _).2 (.inl hk)
theorem range_with {ti : Types} {nt : Nat} {g : Operand} {ps : Array Tmp} {assign body : Code} {σ : St} {K : AExit → St → Prop} {n : FuncId} {cap : List Id} {targs : List V1} {pre post new : List AObj} {res : AV}
    (hP : M.P = P) (hI : M.I = I) (m : List Id) (sl : List (Nat × AV)) (hg : opd ti (getS σ.slots) 0 g = .v (.c (.fn n cap))) (hsl : slOK (getS σ.slots) sl)
    (ht : Trip P I n targs pre res post new) (he : (V1.c (.yl (.loc σ.next)) :: cap.map fun i => V1.c (.ptr i 0)) = targs.map (V1.ren (renM m (σ.next + 32)))) (hm : m.Nodup)
    (hpre : preOK (getH (setH σ.heap (.loc σ.next) (.rnd (fun _ => ⟨ps, assign, body, nt⟩) sl))) (renM m (σ.next + 32)) m pre) (hkd : allKinds pre post) (hn : new.length ≤ 31)
    (hk : match getH (setW (setH σ.heap (.loc σ.next) (.rnd (fun _ => ⟨ps, assign, body, nt⟩) sl)) (wrM m (renM m (σ.next + 32)) post ++ wrNew (σ.next + 32) (renM m (σ.next + 32)) 0 new)) (.loc σ.next) with
      | some (.rnd _ _) => K .normal ⟨σ.slots, setH (setW (setH σ.heap (.loc σ.next) (.rnd (fun _ => ⟨ps, assign, body, nt⟩) sl)) (wrM m (renM m (σ.next + 32)) post ++ wrNew (σ.next + 32) (renM m (σ.next + 32)) 0 new)) (.loc σ.next) .gone, σ.next + 64⟩
      | some (.rndX j) => (match j with
        | none => K .ret ⟨σ.slots, setH (setW (setH σ.heap (.loc σ.next) (.rnd (fun _ => ⟨ps, assign, body, nt⟩) sl)) (wrM m (renM m (σ.next + 32)) post ++ wrNew (σ.next + 32) (renM m (σ.next + 32)) 0 new)) (.loc σ.next) .gone, σ.next + 64⟩
        | some id => K (.exit id) ⟨σ.slots, setH (setW (setH σ.heap (.loc σ.next) (.rnd (fun _ => ⟨ps, assign, body, nt⟩) sl)) (wrM m (renM m (σ.next + 32)) post ++ wrNew (σ.next + 32) (renM m (σ.next + 32)) 0 new)) (.loc σ.next) .gone, σ.next + 64⟩)
      | _ => False) :
    M.lock fun _ => rangeP M ti nt g ps assign body σ K := by
  refine (M.lock_iff _).2 ⟨σ, Weak.refl _, ?_⟩
  rw [hg]
  refine ⟨sl, slOK_get hsl, m, targs, pre, _, hP ▸ hI ▸ ht, he, (preOK_get hpre).1, hm, (preOK_get hpre).2, ?_⟩
  rintro res' post' new' ⟨rfl, rfl, rfl⟩
  exact ⟨⟨hkd, hn⟩, hk⟩
end
end Go.AM

namespace Go.Proofs.YtjobleemmjjocaaDoor
open Go Go.AM
theorem fol : Tryd.prog.follows .mixedOrders = true := by kernel_rfl
theorem var_same {P : Program} {name : String} {g : Nat} (hg : P.globalNamed name = some g) {w w' : World} (h : w'.heap[g]? = w.heap[g]?) : w'.var? P name = w.var? P name := by
  unfold World.var?
  rw [hg]
  simp only [Option.bind_some, h]
theorem pow10_no : ∃ g, Tryd.prog.globalNamed "internal/strconv.uint64pow10" = some g := ⟨0, by kernel_rfl⟩
def inv : Inv := ⟨fun b => Tryd.prog.globalNamed "internal/strconv.uint64pow10" = some b, fun w => Lib.TabIs Tryd.prog w "internal/strconv.uint64pow10" .u64 Lib.pow10Tab, fun h hr => by
  obtain ⟨g, hg⟩ := pow10_no
  unfold Lib.TabIs at hr ⊢
  rw [var_same hg (h g hg)]
  exact hr⟩
end Go.Proofs.YtjobleemmjjocaaDoor

namespace Go.Proofs
open Go.Shelf
def Tryd.laysM171_ren : Go.Shelf.Ren := ⟨fun | 171 => 44 | 243 => 70 | 246 => 82 | 283 => 90 | 284 => 91 | 285 => 92 | 286 => 93 | 129 => 98 | 317 => 97 | 318 => 99 | 319 => 100 | 320 => 101 | 337 => 104 | 338 => 105 | n => n, fun | 3 => 3 | 9 => 9 | 2 => 2 | 4 => 4 | 171 => 130 | 0 => 0 | 53 => 35 | 37 => 107 | 5 => 5 | 173 => 133 | 212 => 138 | 51 => 139 | 20 => 20 | 213 => 140 | 46 => 141 | 232 => 147 | 233 => 148 | n => n, fun | 17 => 0 | 18 => 2 | 19 => 3 | n => n⟩
theorem Tryd.laysM171 : Go.Proofs.LaysM.n171 Tryd.prog Tryd.laysM171_ren := {
  mixed := by kernel_rfl
  f129 := Tryd.func98.trans (congrArg some (by kernel_rfl))
  f171 := Tryd.func44.trans (congrArg some (by kernel_rfl))
  f243 := Tryd.func70.trans (congrArg some (by kernel_rfl))
  f246 := Tryd.func82.trans (congrArg some (by kernel_rfl))
  f283 := Tryd.func90.trans (congrArg some (by kernel_rfl))
  f284 := Tryd.func91.trans (congrArg some (by kernel_rfl))
  f285 := Tryd.func92.trans (congrArg some (by kernel_rfl))
  f286 := Tryd.func93.trans (congrArg some (by kernel_rfl))
  f317 := Tryd.func97.trans (congrArg some (by kernel_rfl))
  f318 := Tryd.func99.trans (congrArg some (by kernel_rfl))
  f319 := Tryd.func100.trans (congrArg some (by kernel_rfl))
  f320 := Tryd.func101.trans (congrArg some (by kernel_rfl))
  f337 := Tryd.func104.trans (congrArg some (by kernel_rfl))
  f338 := Tryd.func105.trans (congrArg some (by kernel_rfl))
  t0 := Tryd.underlying0
  a0 := Tryd.isAgg0
  z0 := Tryd.sizeOf0
  v0 := Tryd.zeroValue0
  t2 := Tryd.underlying2
  a2 := Tryd.isAgg2
  z2 := Tryd.sizeOf2
  v2 := Tryd.zeroValue2
  t3 := Tryd.underlying3
  a3 := Tryd.isAgg3
  z3 := Tryd.sizeOf3
  v3 := Tryd.zeroValue3
  t4 := Tryd.underlying4
  a4 := Tryd.isAgg4
  z4 := Tryd.sizeOf4
  v4 := Tryd.zeroValue4
  t5 := Tryd.underlying5
  a5 := Tryd.isAgg5
  z5 := Tryd.sizeOf5
  v5 := Tryd.zeroValue5
  t9 := Tryd.underlying9
  a9 := Tryd.isAgg9
  z9 := Tryd.sizeOf9
  v9 := Tryd.zeroValue9
  t20 := Tryd.underlying20
  a20 := Tryd.isAgg20
  z20 := Tryd.sizeOf20
  v20 := Tryd.zeroValue20
  t37 := Tryd.underlying107
  a37 := Tryd.isAgg107
  z37 := Tryd.sizeOf107
  v37 := Tryd.zeroValue107
  t46 := Tryd.underlying141
  a46 := Tryd.isAgg141
  z46 := Tryd.sizeOf141
  v46 := Tryd.zeroValue141
  t51 := Tryd.underlying139
  a51 := Tryd.isAgg139
  z51 := Tryd.sizeOf139
  v51 := Tryd.zeroValue139
  t53 := Tryd.underlying35
  a53 := Tryd.isAgg35
  z53 := Tryd.sizeOf35
  v53 := Tryd.zeroValue35
  t171 := Tryd.underlying130
  a171 := Tryd.isAgg130
  z171 := Tryd.sizeOf130
  v171 := Tryd.zeroValue130
  t173 := Tryd.underlying133
  a173 := Tryd.isAgg133
  z173 := Tryd.sizeOf133
  v173 := Tryd.zeroValue133
  t212 := Tryd.underlying138
  a212 := Tryd.isAgg138
  z212 := Tryd.sizeOf138
  v212 := Tryd.zeroValue138
  t213 := Tryd.underlying140
  a213 := Tryd.isAgg140
  z213 := Tryd.sizeOf140
  t232 := Tryd.underlying147
  a232 := Tryd.isAgg147
  z232 := Tryd.sizeOf147
  v232 := Tryd.zeroValue147
  t233 := Tryd.underlying148
  a233 := Tryd.isAgg148
  z233 := Tryd.sizeOf148
  v233 := Tryd.zeroValue148
  g17 := by kernel_rfl
  g18 := by kernel_rfl
  g19 := by kernel_rfl
  i0 := by kernel_rfl
  i2 := by kernel_rfl
  i3 := by kernel_rfl
  i4 := by kernel_rfl
  i5 := by kernel_rfl
  i9 := by kernel_rfl
  i20 := by kernel_rfl
  i37 := by kernel_rfl
  i46 := by kernel_rfl
  i51 := by kernel_rfl
  i53 := by kernel_rfl
  i171 := by kernel_rfl
  i173 := by kernel_rfl
  i212 := by kernel_rfl
  i232 := by kernel_rfl
  i233 := by kernel_rfl
  m17 := by kernel_rfl
  m18 := by kernel_rfl
  m19 := by kernel_rfl }
open Go.RowKit Go.Sort Go.Lib in
theorem Tryd.strconv_Itoa (n : Int) (h0 : -9223372036854775808 ≤ n) (h1 : n ≤ 9223372036854775807) (w : World) (htab : Lib.TabIs Tryd.prog w "internal/strconv.uint64pow10" .u64 Lib.pow10Tab) :
    Calls Tryd.prog 44 #[.int .i64 n] w fun e w' => e = .returned (.string ⟨(Lib.itoa n).toArray⟩) ∧ ∃ k os, w' = grow (w.drewN k) os := Any.strconv_Itoa Tryd.laysM171 n h0 h1 w htab
end Go.Proofs

set_option linter.unusedVariables false
namespace Go.Proofs.YtjobleemmjjocaaDoor
open Go Go.AM

theorem two {vals : Array Value} (h : vals.size = 2) : ∃ v u, vals = #[v, u] :=
  ⟨vals[0], vals[1], by
    apply Array.ext
    · simpa using h
    · intro i h1 h2
      match i, h2 with
      | 0, _ => rfl
      | 1, _ => rfl⟩
def itoaB (z : Int) : ByteArray := ⟨(Lib.itoa z).toArray⟩
def F44 (n : Nat) (z : Int) : Option ByteArray := if -9223372036854775808 ≤ z ∧ z ≤ 9223372036854775807 then some (itoaB z) else none
theorem T44 (n : Nat) : ∀ ⦃z : Int⦄ ⦃r1 : ByteArray⦄, F44 n z = some r1 → Trip Tryd.prog inv 44 [.d (.int .i64 z)] [] (.v (.d (.str r1))) [] [] := by
  intro z r1 h
  unfold F44 at h
  split at h
  · rename_i hz
    cases h
    refine Trip.ofCalls (xs := [.int .i64 z]) ⟨_, _, Tryd.func44, rfl, by kernel_rfl⟩ fun w Z vals hr hsz hv => ?_
    obtain ⟨v, rfl⟩ : ∃ v, vals = #[v] := Array.size_eq_one_iff.1 hsz
    cases hv 0 _ _ rfl rfl
    refine (Tryd.strconv_Itoa z hz.1 hz.2 w hr).mono ?_
    rintro e w' ⟨rfl, k, os, rfl⟩
    exact ⟨_, rfl, below_apart (Lib.below_grow _ w (Nat.le_refl _) k os), fun _ _ _ => .str _⟩
  · cases h
end Go.Proofs.YtjobleemmjjocaaDoor

set_option linter.unusedVariables false
noncomputable section
namespace Go.Proofs.YtjobleemmjjocaaDoor
open Go Go.AM
def ds_t32 {γ : Type} (x : D) (k : Int → Int → Int → List D → Option γ) : Option γ := match x with | .agg [.int .u8 a0, .int .i64 a1, .int .i64 a2, .list false 1 a3] => k a0 a1 a2 a3 | _ => none
theorem ds_t32_inv {γ : Type} {x : D} {k : Int → Int → Int → List D → Option γ} {r : γ} (h : ds_t32 x k = some r) : ∃ a0 a1 a2 a3, x = .agg [.int .u8 a0, .int .i64 a1, .int .i64 a2, .list false 1 a3] ∧ k a0 a1 a2 a3 = some r := by
  unfold ds_t32 at h
  split at h
  · exact ⟨_, _, _, _, rfl, h⟩
  · cases h
def ds_bool {γ : Type} (x : D) (k : Bool → Option γ) : Option γ := match x with | .bool a0 => k a0 | _ => none
theorem ds_bool_inv {γ : Type} {x : D} {k : Bool → Option γ} {r : γ} (h : ds_bool x k = some r) : ∃ a0, x = .bool a0 ∧ k a0 = some r := by
  unfold ds_bool at h
  split at h
  · exact ⟨_, rfl, h⟩
  · cases h
def ds_i64 {γ : Type} (x : D) (k : Int → Option γ) : Option γ := match x with | .int .i64 a0 => k a0 | _ => none
theorem ds_i64_inv {γ : Type} {x : D} {k : Int → Option γ} {r : γ} (h : ds_i64 x k = some r) : ∃ a0, x = .int .i64 a0 ∧ k a0 = some r := by
  unfold ds_i64 at h
  split at h
  · exact ⟨_, rfl, h⟩
  · cases h
def rf42_0 : Unit → RF := fun _ => ⟨cP (cL (cR (cL (cR (cR (bodyOf Tryd.f42)))))), cL (cL (cR (cL (cR (cR (bodyOf Tryd.f42)))))), cR (cL (cR (cL (cR (cR (bodyOf Tryd.f42)))))), 19⟩
def k__ : ByteArray := ⟨#[63]⟩
def k_read : ByteArray := ⟨#[114, 101, 97, 100]⟩
def k_write : ByteArray := ⟨#[119, 114, 105, 116, 101]⟩
def k_free : ByteArray := ⟨#[102, 114, 101, 101]⟩
def k_atomic : ByteArray := ⟨#[97, 116, 111, 109, 105, 99]⟩
def k_acquire : ByteArray := ⟨#[97, 99, 113, 117, 105, 114, 101]⟩
def k_release : ByteArray := ⟨#[114, 101, 108, 101, 97, 115, 101]⟩
def k_spawn : ByteArray := ⟨#[115, 112, 97, 119, 110]⟩
def k_join : ByteArray := ⟨#[106, 111, 105, 110]⟩
def k_end : ByteArray := ⟨#[101, 110, 100]⟩
def ds_w3 {γ : Type} (x : D) (k : ByteArray → Option γ) : Option γ := match x with | .agg [.str a0] => k a0 | _ => none
theorem ds_w3_inv {γ : Type} {x : D} {k : ByteArray → Option γ} {r : γ} (h : ds_w3 x k = some r) : ∃ a0, x = .agg [.str a0] ∧ k a0 = some r := by
  unfold ds_w3 at h
  split at h
  · exact ⟨_, rfl, h⟩
  · cases h
def k___1 : ByteArray := ⟨#[32]⟩
def k___2 : ByteArray := ⟨#[46]⟩
def k_1_write_5_0 : ByteArray := ⟨#[49, 32, 119, 114, 105, 116, 101, 32, 53, 46, 48]⟩
end Go.Proofs.YtjobleemmjjocaaDoor
end

set_option linter.unusedVariables false
noncomputable section
namespace Go.Proofs.YtjobleemmjjocaaDoor
open Go Go.AM
mutual
def L17_2 : Nat → (List D) → Int → Option (Bool)
  | 0, _, _ => none
  | n + 1, l1, z4 =>
    lenF l1 fun z5 => (if z4 < z5 then L17_3 n l1 z4 true else L17_3 n l1 z4 false)
def L17_3 : Nat → (List D) → Int → Bool → Option (Bool)
  | 0, _, _, _ => none
  | n + 1, l1, z4, b6 =>
    (if b6 = true then getF l1 z4 fun x7 => ds_t32 x7 fun z8 z9 z10 l11 => lenF l11 fun z12 => (if (100 : Int) < z12 then L17_4 n l1 z4 true else L17_4 n l1 z4 false) else some false)
def L17_4 : Nat → (List D) → Int → Bool → Option (Bool)
  | 0, _, _, _ => none
  | n + 1, l1, z4, b13 =>
    (if b13 = true then some true else letF (IntKind.wrap .i64 (z4 + 1)) fun z14 => L17_2 n l1 z14)
end
def L17_1 : Nat → (List D) → Bool → Option (Bool)
  | 0, _, _ => none
  | n + 1, l1, b3 =>
    (if b3 = true then some true else L17_2 n l1 (0 : Int))
def F17 (n : Nat) (l1 : List D) : Option (Bool) :=
  lenF l1 fun z2 => (if (2000 : Int) < z2 then L17_1 n l1 true else L17_1 n l1 false)
set_option maxRecDepth 100000 in
set_option maxHeartbeats 40000000 in
theorem T17 (n : Nat) : ∀ ⦃l1 : List D⦄ ⦃r1 : Bool⦄, F17 n l1 = some r1 →
    Trip Tryd.prog inv 17 [.d (.list true 4 l1)] [] (.v (.d (.bool r1))) [] [] := by
  intro l1 r1 h
  unfold F17 at h
  refine Trip.of tab_ok tab_one fol Tryd.func17 rfl (by kernel_rfl) rfl rfl rfl (fun M hM hI => ?_)
  try cbv
  refine seq_go ?_
  try cbv
  refine seq_go ?_
  try cbv
  refine seq_join (T := Nat × Bool) (fun t => ⟨[(0, .v (.d (.list true 4 l1))), (2, .v (.d (.bool false))), (6, .v (.d (.bool t.2)))], [], 128⟩) (fun t => t.1 ≤ n ∧ L17_1 t.1 l1 t.2 = some r1) ?_ ?_
  · try cbv
    replace h := lenF_inv M h
    obtain ⟨z2, hz, h⟩ := h
    refine ⟨z2, hz, ?_⟩
    clear hz
    try cbv
    refine splitL (fun e => ?_) (fun e => ?_)
    · replace h := ite_t e h
      clear e
      try cbv
      exact join_next (n, true) [0, 2, 6] [] 128 ⟨by omega, h⟩ (by cbv)
    · replace h := ite_f (Int.not_lt.2 e) h
      clear e
      try cbv
      exact join_next (n, false) [0, 2, 6] [] 128 ⟨by omega, h⟩ (by cbv)
  · clear h
    rintro ⟨m1, b3⟩ ⟨hm1, h⟩
    replace hm1 : m1 ≤ n := hm1
    cases m1 with
    | zero =>
      replace h : L17_1 0 l1 b3 = some r1 := h
      rw [L17_1] at h
      cases h
    | succ m1 =>
      replace h : L17_1 (m1 + 1) l1 b3 = some r1 := h
      rw [L17_1] at h
      try cbv
      cases b3
      · replace h := ite_f Bool.false_ne_true h
        try cbv
        refine seq_go ?_
        try cbv
        refine seq_go ?_
        try cbv
        refine loop_inv (T := Nat × Int) [0, 2, 3] [] 160 (fun t => ⟨[(0, .v (.d (.list true 4 l1))), (2, .v (.d (.bool false))), (3, .v (.d (.int .i64 t.2)))], [], 160⟩)
          (fun t => t.1 ≤ m1 ∧ L17_2 t.1 l1 t.2 = some r1) (fun t => t.1) (m1, (0 : Int)) ⟨Nat.le_refl _, h⟩ (by cbv) ?_
        clear h
        rintro ⟨m2, z4⟩ ⟨hm2, h⟩
        replace hm2 : m2 ≤ m1 := hm2
        cases m2 with
        | zero =>
          replace h : L17_2 0 l1 z4 = some r1 := h
          rw [L17_2] at h
          cases h
        | succ m2 =>
          replace h : L17_2 (m2 + 1) l1 z4 = some r1 := h
          rw [L17_2] at h
          try cbv
          refine seq_go ?_
          try cbv
          refine seq_join (T := Nat × Bool) (fun t => ⟨[(0, .v (.d (.list true 4 l1))), (2, .v (.d (.bool false))), (3, .v (.d (.int .i64 z4))), (10, .v (.d (.bool t.2)))], [], 288⟩) (fun t => t.1 ≤ m2 ∧ L17_3 t.1 l1 z4 t.2 = some r1) ?_ ?_
          · try cbv
            replace h := lenF_inv M h
            obtain ⟨z5, hz, h⟩ := h
            refine ⟨z5, hz, ?_⟩
            clear hz
            try cbv
            refine splitL (fun e => ?_) (fun e => ?_)
            · replace h := ite_t e h
              clear e
              try cbv
              exact join_next (m2, true) [0, 2, 3, 10] [] 288 ⟨by omega, h⟩ (by cbv)
            · replace h := ite_f (Int.not_lt.2 e) h
              clear e
              try cbv
              exact join_next (m2, false) [0, 2, 3, 10] [] 288 ⟨by omega, h⟩ (by cbv)
          · clear h
            rintro ⟨m3, b6⟩ ⟨hm3, h⟩
            replace hm3 : m3 ≤ m2 := hm3
            cases m3 with
            | zero =>
              replace h : L17_3 0 l1 z4 b6 = some r1 := h
              rw [L17_3] at h
              cases h
            | succ m3 =>
              replace h : L17_3 (m3 + 1) l1 z4 b6 = some r1 := h
              rw [L17_3] at h
              try cbv
              cases b6
              · replace h := ite_f Bool.false_ne_true h
                try cbv
                refine seq_go ?_
                try cbv
                obtain rfl := Option.some.inj h
                refine fin_go ?_
                try cbv
                exact ⟨[], rfl, rfl, trivial, trivial, trivial⟩
              · replace h := ite_t rfl h
                try cbv
                refine seq_go ?_
                try cbv
                refine seq_join (T := Nat × Bool) (fun t => ⟨[(0, .v (.d (.list true 4 l1))), (2, .v (.d (.bool false))), (3, .v (.d (.int .i64 z4))), (19, .v (.d (.bool t.2)))], [], 512⟩) (fun t => t.1 ≤ m3 ∧ L17_4 t.1 l1 z4 t.2 = some r1) ?_ ?_
                · try cbv
                  replace h := getF_inv h
                  obtain ⟨x7, ⟨hx0, hx⟩, h⟩ := h
                  refine ⟨x7, hx0, hx, ?_⟩
                  clear hx0 hx
                  replace h := ds_t32_inv h
                  obtain ⟨z8, z9, z10, l11, rfl, h⟩ := h
                  try cbv
                  replace h := lenF_inv M h
                  obtain ⟨z12, hz, h⟩ := h
                  refine ⟨z12, hz, ?_⟩
                  clear hz
                  try cbv
                  refine splitL (fun e => ?_) (fun e => ?_)
                  · replace h := ite_t e h
                    clear e
                    try cbv
                    exact join_next (m3, true) [0, 2, 3, 19] [] 512 ⟨by omega, h⟩ (by cbv)
                  · replace h := ite_f (Int.not_lt.2 e) h
                    clear e
                    try cbv
                    exact join_next (m3, false) [0, 2, 3, 19] [] 512 ⟨by omega, h⟩ (by cbv)
                · clear h
                  rintro ⟨m4, b13⟩ ⟨hm4, h⟩
                  replace hm4 : m4 ≤ m3 := hm4
                  cases m4 with
                  | zero =>
                    replace h : L17_4 0 l1 z4 b13 = some r1 := h
                    rw [L17_4] at h
                    cases h
                  | succ m4 =>
                    replace h : L17_4 (m4 + 1) l1 z4 b13 = some r1 := h
                    rw [L17_4] at h
                    try cbv
                    cases b13
                    · replace h := ite_f Bool.false_ne_true h
                      try cbv
                      replace h := letF_inv h
                      obtain ⟨z14, hz, h⟩ := h
                      refine ⟨z14, hz, ?_⟩
                      clear hz
                      try cbv
                      exact loop_next (m4, z14) [0, 2, 3] [] 160 ⟨by omega, h⟩ (Nat.lt_succ_of_le (by omega)) (by cbv)
                    · replace h := ite_t rfl h
                      try cbv
                      refine seq_go ?_
                      try cbv
                      obtain rfl := Option.some.inj h
                      refine fin_go ?_
                      try cbv
                      exact ⟨[], rfl, rfl, trivial, trivial, trivial⟩
      · replace h := ite_t rfl h
        try cbv
        refine seq_go ?_
        try cbv
        obtain rfl := Option.some.inj h
        refine fin_go ?_
        try cbv
        exact ⟨[], rfl, rfl, trivial, trivial, trivial⟩
end Go.Proofs.YtjobleemmjjocaaDoor
end

set_option linter.unusedVariables false
noncomputable section
namespace Go.Proofs.YtjobleemmjjocaaDoor
open Go Go.AM
def F69 (n : Nat) (l1 : List D) (l2 : List D) : Option (List D × List D) :=
  some (l2, l1)
set_option maxRecDepth 100000 in
set_option maxHeartbeats 40000000 in
theorem T69 (n : Nat) : ∀ ⦃l1 : List D⦄ ⦃l2 : List D⦄ ⦃r1 : List D⦄ ⦃r2 : List D⦄, F69 n l1 l2 = some (r1, r2) →
    Trip Tryd.prog inv 69 [.c (.ptr (.ext 0) 0), .d (.list true 4 l1)] [.cells [.ow (.ext 1)], .tree .row false 1 l2 none] (.v (.c (.fn 80 [.loc 0, .loc 1]))) [.cells [.ow (.ext 1)], .tree .row false 1 r1 none] [.cells [.d (.list true 4 r2)], .cells [.ptr (.ext 0) 0]] := by
  intro l1 l2 r1 r2 h
  unfold F69 at h
  refine Trip.of tab_ok tab_one fol Tryd.func69 rfl (by kernel_rfl) rfl rfl rfl (fun M hM hI => ?_)
  try cbv
  refine seq_go ?_
  try cbv
  refine seq_go ?_
  try cbv
  obtain ⟨rfl, rfl⟩ := inj2 h
  refine fin_go ?_
  try cbv
  exact ⟨[.loc 32, .loc 0], rfl, rfl, ⟨rfl, ⟨rfl, trivial⟩⟩, ⟨rfl, ⟨rfl, trivial⟩⟩, trivial⟩
end Go.Proofs.YtjobleemmjjocaaDoor
end

set_option linter.unusedVariables false
noncomputable section
namespace Go.Proofs.YtjobleemmjjocaaDoor
open Go Go.AM
def F42r0 (n : Nat) (z1 : Int) (z2 : Int) (z3 : Int) : Option (Int) :=
  some z1
set_option maxRecDepth 100000 in
set_option maxHeartbeats 40000000 in
theorem T42r0 (n : Nat) : ∀ ⦃z1 : Int⦄ ⦃z2 : Int⦄ ⦃z3 : Int⦄ ⦃r1 : Int⦄, F42r0 n z1 z2 z3 = some r1 →
    RoundK Tryd.prog inv (rf42_0 ()) [(2, .v (.c (.ptr (.ext 0) 0))), (3, .v (.c (.ptr (.ext 1) 0)))] [.d (.int .i64 z1)] [.cells [.d (.int .i64 z2)], .cells [.d (.int .i64 z3)]] fun j p n => j = (some none) ∧ p = [.cells [.d (.int .i64 r1)], .cells [.d (.int .i64 0)]] ∧ n = [] := by
  intro z1 z2 z3 r1 h
  unfold F42r0 at h
  refine RoundK.of' tab_ok tab_one fol rfl rfl rfl rfl rfl (by kernel_rfl) (fun M hM hI => ?_)
  try cbv
  refine seq_go ?_
  try cbv
  obtain rfl := Option.some.inj h
  refine ⟨_, _, ⟨rfl, rfl, rfl⟩, [], ?_⟩
  try cbv
  exact ⟨[], rfl, ⟨rfl, ⟨rfl, trivial⟩⟩, trivial, trivial⟩
end Go.Proofs.YtjobleemmjjocaaDoor
end

set_option linter.unusedVariables false
noncomputable section
namespace Go.Proofs.YtjobleemmjjocaaDoor
open Go Go.AM
def F96 (n : Nat) (z1 : Int) : Option (Bool) :=
  (if z1 < (-1 : Int) then some true else some false)
set_option maxRecDepth 100000 in
set_option maxHeartbeats 40000000 in
theorem T96 (n : Nat) : ∀ ⦃z1 : Int⦄ ⦃r1 : Bool⦄, F96 n z1 = some r1 →
    Trip Tryd.prog inv 96 [.d (.int .i64 z1)] [] (.v (.d (.bool r1))) [] [] := by
  intro z1 r1 h
  unfold F96 at h
  refine Trip.of tab_ok tab_one fol Tryd.func96 rfl (by kernel_rfl) rfl rfl rfl (fun M hM hI => ?_)
  try cbv
  refine seq_go ?_
  try cbv
  refine seq_go ?_
  try cbv
  refine splitL (fun e => ?_) (fun e => ?_)
  · replace h := ite_t e h
    clear e
    try cbv
    obtain rfl := Option.some.inj h
    refine fin_go ?_
    try cbv
    exact ⟨[], rfl, rfl, trivial, trivial, trivial⟩
  · replace h := ite_f (Int.not_lt.2 e) h
    clear e
    try cbv
    obtain rfl := Option.some.inj h
    refine fin_go ?_
    try cbv
    exact ⟨[], rfl, rfl, trivial, trivial, trivial⟩
end Go.Proofs.YtjobleemmjjocaaDoor
end

set_option linter.unusedVariables false
noncomputable section
namespace Go.Proofs.YtjobleemmjjocaaDoor
open Go Go.AM
mutual
def L73_1 : Nat → (List D) → Int → Int → Option (Int)
  | 0, _, _, _ => none
  | n + 1, l1, z2, z3 =>
    (if z3 < z2 then L73_2 n l1 z2 z3 true else L73_2 n l1 z2 z3 false)
def L73_2 : Nat → (List D) → Int → Int → Bool → Option (Int)
  | 0, _, _, _, _ => none
  | n + 1, l1, z2, z3, b4 =>
    (if b4 = true then getF l1 z3 fun x5 => ds_i64 x5 fun z6 => bO1 (F96 n z6) fun b7 => (if b7 = true then some z3 else letF (IntKind.wrap .i64 (z3 + 1)) fun z8 => L73_1 n l1 z2 z8) else some (-1 : Int))
end
def F73 (n : Nat) (l1 : List D) : Option (Int) :=
  lenF l1 fun z2 => L73_1 n l1 z2 (0 : Int)
set_option maxRecDepth 100000 in
set_option maxHeartbeats 40000000 in
theorem T73 (n : Nat) : ∀ ⦃l1 : List D⦄ ⦃r1 : Int⦄, F73 n l1 = some r1 →
    Trip Tryd.prog inv 73 [.d (.list false 1 l1), .c (.fn 96 [])] [] (.v (.d (.int .i64 r1))) [] [] := by
  intro l1 r1 h
  unfold F73 at h
  refine Trip.of tab_ok tab_one fol Tryd.func73 rfl (by kernel_rfl) rfl rfl rfl (fun M hM hI => ?_)
  try cbv
  refine seq_go ?_
  try cbv
  refine seq_go ?_
  try cbv
  refine seq_go ?_
  try cbv
  replace h := lenF_inv M h
  obtain ⟨z2, hz, h⟩ := h
  refine ⟨z2, hz, ?_⟩
  clear hz
  try cbv
  refine loop_inv (T := Nat × Int) [0, 1, 4, 7, 8] [] 128 (fun t => ⟨[(0, .v (.d (.list false 1 l1))), (1, .v (.c (.fn 96 []))), (4, .v (.d (.int .i64 0))), (7, .v (.d (.int .i64 z2))), (8, .v (.d (.int .i64 t.2)))], [], 128⟩)
    (fun t => t.1 ≤ n ∧ L73_1 t.1 l1 z2 t.2 = some r1) (fun t => t.1) (n, (0 : Int)) ⟨Nat.le_refl _, h⟩ (by cbv) ?_
  clear h
  rintro ⟨m1, z3⟩ ⟨hm1, h⟩
  replace hm1 : m1 ≤ n := hm1
  cases m1 with
  | zero =>
    replace h : L73_1 0 l1 z2 z3 = some r1 := h
    rw [L73_1] at h
    cases h
  | succ m1 =>
    replace h : L73_1 (m1 + 1) l1 z2 z3 = some r1 := h
    rw [L73_1] at h
    try cbv
    refine seq_join (T := Nat × Bool) (fun t => ⟨[(0, .v (.d (.list false 1 l1))), (1, .v (.c (.fn 96 []))), (4, .v (.d (.int .i64 0))), (7, .v (.d (.int .i64 z2))), (8, .v (.d (.int .i64 z3))), (9, .v (.d (.bool t.2)))], [], 160⟩) (fun t => t.1 ≤ m1 ∧ L73_2 t.1 l1 z2 z3 t.2 = some r1) ?_ ?_
    · try cbv
      refine splitL (fun e => ?_) (fun e => ?_)
      · replace h := ite_t e h
        clear e
        try cbv
        exact join_next (m1, true) [0, 1, 4, 7, 8, 9] [] 160 ⟨by omega, h⟩ (by cbv)
      · replace h := ite_f (Int.not_lt.2 e) h
        clear e
        try cbv
        exact join_next (m1, false) [0, 1, 4, 7, 8, 9] [] 160 ⟨by omega, h⟩ (by cbv)
    · clear h
      rintro ⟨m2, b4⟩ ⟨hm2, h⟩
      replace hm2 : m2 ≤ m1 := hm2
      cases m2 with
      | zero =>
        replace h : L73_2 0 l1 z2 z3 b4 = some r1 := h
        rw [L73_2] at h
        cases h
      | succ m2 =>
        replace h : L73_2 (m2 + 1) l1 z2 z3 b4 = some r1 := h
        rw [L73_2] at h
        try cbv
        refine seq_go ?_
        try cbv
        cases b4
        · replace h := ite_f Bool.false_ne_true h
          try cbv
          refine seq_go ?_
          try cbv
          obtain rfl := Option.some.inj h
          refine fin_go ?_
          try cbv
          exact ⟨[], rfl, rfl, trivial, trivial, trivial⟩
        · replace h := ite_t rfl h
          try cbv
          refine seq_go ?_
          try cbv
          refine seq_go ?_
          try cbv
          refine seq_go ?_
          try cbv
          replace h := getF_inv h
          obtain ⟨x5, ⟨hx0, hx⟩, h⟩ := h
          refine ⟨x5, hx0, hx, ?_⟩
          clear hx0 hx
          replace h := ds_i64_inv h
          obtain ⟨z6, rfl, h⟩ := h
          try cbv
          replace h := bO1_inv h
          obtain ⟨b7, hr, h⟩ := h
          refine call_go rfl rfl ?_
          try cbv
          refine call_pure hM hI (T96 _ hr) rfl ?_
          clear hr
          try cbv
          cases b7
          · replace h := ite_f Bool.false_ne_true h
            try cbv
            replace h := letF_inv h
            obtain ⟨z8, hz, h⟩ := h
            refine ⟨z8, hz, ?_⟩
            clear hz
            try cbv
            exact loop_next (m2, z8) [0, 1, 4, 7, 8] [] 128 ⟨by omega, h⟩ (Nat.lt_succ_of_le (by omega)) (by cbv)
          · replace h := ite_t rfl h
            try cbv
            refine seq_go ?_
            try cbv
            obtain rfl := Option.some.inj h
            refine fin_go ?_
            try cbv
            exact ⟨[], rfl, rfl, trivial, trivial, trivial⟩
end Go.Proofs.YtjobleemmjjocaaDoor
end

set_option linter.unusedVariables false
noncomputable section
namespace Go.Proofs.YtjobleemmjjocaaDoor
open Go Go.AM
def F57 (n : Nat) (l1 : List D) : Option (Bool) :=
  bO1 (F73 n l1) fun z2 => (if (0 : Int) ≤ z2 then some true else some false)
set_option maxRecDepth 100000 in
set_option maxHeartbeats 40000000 in
theorem T57 (n : Nat) : ∀ ⦃l1 : List D⦄ ⦃r1 : Bool⦄, F57 n l1 = some r1 →
    Trip Tryd.prog inv 57 [.d (.list false 1 l1), .c (.fn 96 [])] [] (.v (.d (.bool r1))) [] [] := by
  intro l1 r1 h
  unfold F57 at h
  refine Trip.of tab_ok tab_one fol Tryd.func57 rfl (by kernel_rfl) rfl rfl rfl (fun M hM hI => ?_)
  try cbv
  refine seq_go ?_
  try cbv
  refine seq_go ?_
  try cbv
  replace h := bO1_inv h
  obtain ⟨z2, hr, h⟩ := h
  refine call_go rfl rfl ?_
  try cbv
  refine call_pure hM hI (T73 _ hr) rfl ?_
  clear hr
  try cbv
  refine splitLe (fun e => ?_) (fun e => ?_)
  · replace h := ite_t e h
    clear e
    try cbv
    obtain rfl := Option.some.inj h
    refine fin_go ?_
    try cbv
    exact ⟨[], rfl, rfl, trivial, trivial, trivial⟩
  · replace h := ite_f (Int.not_le.2 e) h
    clear e
    try cbv
    obtain rfl := Option.some.inj h
    refine fin_go ?_
    try cbv
    exact ⟨[], rfl, rfl, trivial, trivial, trivial⟩
end Go.Proofs.YtjobleemmjjocaaDoor
end

set_option linter.unusedVariables false
noncomputable section
namespace Go.Proofs.YtjobleemmjjocaaDoor
open Go Go.AM
def F89 (n : Nat) (l1 : List D) : Option (Bool) :=
  lenF l1 fun z2 => (if z2 ≤ (40 : Int) then bO1 (F57 n l1) fun b3 => letB (!b3) fun b4 => some b4 else some false)
set_option maxRecDepth 100000 in
set_option maxHeartbeats 40000000 in
theorem T89 (n : Nat) : ∀ ⦃l1 : List D⦄ ⦃r1 : Bool⦄, F89 n l1 = some r1 →
    Trip Tryd.prog inv 89 [.d (.list false 1 l1)] [] (.v (.d (.bool r1))) [] [] := by
  intro l1 r1 h
  unfold F89 at h
  refine Trip.of tab_ok tab_one fol Tryd.func89 rfl (by kernel_rfl) rfl rfl rfl (fun M hM hI => ?_)
  try cbv
  refine seq_go ?_
  try cbv
  refine seq_go ?_
  try cbv
  replace h := lenF_inv M h
  obtain ⟨z2, hz, h⟩ := h
  refine ⟨z2, hz, ?_⟩
  clear hz
  try cbv
  refine splitLe (fun e => ?_) (fun e => ?_)
  · replace h := ite_t e h
    clear e
    try cbv
    replace h := bO1_inv h
    obtain ⟨b3, hr, h⟩ := h
    refine call_go rfl rfl ?_
    try cbv
    refine call_pure hM hI (T57 _ hr) rfl ?_
    clear hr
    try cbv
    replace h := letB_inv h
    obtain ⟨b4, hz, h⟩ := h
    refine ⟨b4, not_eq' hz, ?_⟩
    clear hz
    try cbv
    obtain rfl := Option.some.inj h
    refine fin_go ?_
    try cbv
    exact ⟨[], rfl, rfl, trivial, trivial, trivial⟩
  · replace h := ite_f (Int.not_le.2 e) h
    clear e
    try cbv
    obtain rfl := Option.some.inj h
    refine fin_go ?_
    try cbv
    exact ⟨[], rfl, rfl, trivial, trivial, trivial⟩
end Go.Proofs.YtjobleemmjjocaaDoor
end

set_option linter.unusedVariables false
noncomputable section
namespace Go.Proofs.YtjobleemmjjocaaDoor
open Go Go.AM
def L81_11 : Nat → Int → (List D) → (List D) → Option (((Bool × List D) ⊕ (List D)))
  | 0, _, _, _ => none
  | n + 1, z3, l4, l5 =>
    (if (0 : Int) ≤ z3 then lenF l4 fun z20 => (if z20 = (0 : Int) then some (.inl (true, l5)) else some (.inl (false, l5))) else some (.inl (false, l5)))
def L81_12 : Nat → (List D) → Bool → Option (((Bool × List D) ⊕ (List D)))
  | 0, _, _ => none
  | n + 1, l5, b23 =>
    (if b23 = true then needF (scalB ([.bool false]) = true) (appF 1 l5 ([.bool false]) fun l24 => some (.inr l24)) else some (.inl (false, l5)))
def L81_13 : Nat → Int → (List D) → Bool → Option (((Bool × List D) ⊕ (List D)))
  | 0, _, _, _ => none
  | n + 1, z2, l5, b30 =>
    needF (0 ≤ z2 ∧ z2.toNat < l5.length) (getN l5 (z2.toNat) fun x31 => ds_bool x31 fun b32 => setF l5 (z2.toNat) (.bool b30) fun l33 => some (.inl (b30, l33)))
def L81_10 : Nat → Int → Int → (List D) → (List D) → Bool → Option (((Bool × List D) ⊕ (List D)))
  | 0, _, _, _, _, _ => none
  | n + 1, z2, z3, l4, l5, b18 =>
    (if b18 = true then (if z3 = (0 : Int) then lenF l4 fun z29 => (if z29 = (0 : Int) then L81_13 n z2 l5 true else L81_13 n z2 l5 false) else L81_13 n z2 l5 false) else some (.inl (false, l5)))
def L81_9 : Nat → Int → Int → Int → (List D) → (List D) → Bool → Option (((Bool × List D) ⊕ (List D)))
  | 0, _, _, _, _, _, _ => none
  | n + 1, z1, z2, z3, l4, l5, b17 =>
    (if b17 = true then (if (0 : Int) ≤ z3 then lenF l5 fun z25 => (if z3 < z25 then needF (0 ≤ z3 ∧ z3.toNat < l5.length) (getN l5 (z3.toNat) fun x26 => ds_bool x26 fun b27 => (if b27 = true then lenF l4 fun z28 => (if z28 = (0 : Int) then some (.inl (true, l5)) else some (.inl (false, l5))) else some (.inl (false, l5)))) else some (.inl (false, l5))) else some (.inl (false, l5))) else (if z1 = (9 : Int) then L81_10 n z2 z3 l4 l5 true else L81_10 n z2 z3 l4 l5 false))
def L81_8 : Nat → Int → Int → Int → (List D) → (List D) → Bool → Option (((Bool × List D) ⊕ (List D)))
  | 0, _, _, _, _, _, _ => none
  | n + 1, z1, z2, z3, l4, l5, b16 =>
    (if b16 = true then lenF l5 fun z21 => (if z3 = z21 then (if z3 < (65536 : Int) then lenF l4 fun z22 => (if z22 = (0 : Int) then L81_12 n l5 true else L81_12 n l5 false) else L81_12 n l5 false) else L81_12 n l5 false) else (if z1 = (8 : Int) then L81_9 n z1 z2 z3 l4 l5 true else L81_9 n z1 z2 z3 l4 l5 false))
def L81_7 : Nat → Int → Int → Int → (List D) → (List D) → Bool → Option (((Bool × List D) ⊕ (List D)))
  | 0, _, _, _, _, _, _ => none
  | n + 1, z1, z2, z3, l4, l5, b15 =>
    (if b15 = true then L81_11 n z3 l4 l5 else (if z1 = (7 : Int) then L81_8 n z1 z2 z3 l4 l5 true else L81_8 n z1 z2 z3 l4 l5 false))
def L81_6 : Nat → Int → Int → Int → (List D) → (List D) → Bool → Option (((Bool × List D) ⊕ (List D)))
  | 0, _, _, _, _, _, _ => none
  | n + 1, z1, z2, z3, l4, l5, b14 =>
    (if b14 = true then L81_7 n z1 z2 z3 l4 l5 true else (if z1 = (6 : Int) then L81_7 n z1 z2 z3 l4 l5 true else L81_7 n z1 z2 z3 l4 l5 false))
def L81_5 : Nat → Int → Int → Int → (List D) → (List D) → Bool → Option (((Bool × List D) ⊕ (List D)))
  | 0, _, _, _, _, _, _ => none
  | n + 1, z1, z2, z3, l4, l5, b13 =>
    (if b13 = true then L81_11 n z3 l4 l5 else (if z1 = (5 : Int) then L81_6 n z1 z2 z3 l4 l5 true else L81_6 n z1 z2 z3 l4 l5 false))
def L81_4 : Nat → Int → Int → Int → (List D) → (List D) → Bool → Option (((Bool × List D) ⊕ (List D)))
  | 0, _, _, _, _, _, _ => none
  | n + 1, z1, z2, z3, l4, l5, b12 =>
    (if b12 = true then (if (0 : Int) ≤ z3 then bO1 (F89 n l4) fun b19 => some (.inl (b19, l5)) else some (.inl (false, l5))) else (if z1 = (3 : Int) then L81_5 n z1 z2 z3 l4 l5 true else L81_5 n z1 z2 z3 l4 l5 false))
def L81_3 : Nat → Int → Int → Int → (List D) → (List D) → Bool → Option (((Bool × List D) ⊕ (List D)))
  | 0, _, _, _, _, _, _ => none
  | n + 1, z1, z2, z3, l4, l5, b11 =>
    (if b11 = true then L81_4 n z1 z2 z3 l4 l5 true else (if z1 = (4 : Int) then L81_4 n z1 z2 z3 l4 l5 true else L81_4 n z1 z2 z3 l4 l5 false))
def L81_2 : Nat → Int → Int → Int → (List D) → (List D) → Bool → Option (((Bool × List D) ⊕ (List D)))
  | 0, _, _, _, _, _, _ => none
  | n + 1, z1, z2, z3, l4, l5, b10 =>
    (if b10 = true then L81_4 n z1 z2 z3 l4 l5 true else (if z1 = (2 : Int) then L81_3 n z1 z2 z3 l4 l5 true else L81_3 n z1 z2 z3 l4 l5 false))
def L81_1 : Nat → Int → Int → Int → (List D) → (List D) → Bool → Option (((Bool × List D) ⊕ (List D)))
  | 0, _, _, _, _, _, _ => none
  | n + 1, z1, z2, z3, l4, l5, b9 =>
    (if b9 = true then some (.inl (false, l5)) else (if z1 = (1 : Int) then L81_2 n z1 z2 z3 l4 l5 true else L81_2 n z1 z2 z3 l4 l5 false))
def F81 (n : Nat) (z1 : Int) (z2 : Int) (z3 : Int) (l4 : List D) (l5 : List D) : Option (((Bool × List D) ⊕ (List D))) :=
  (if z2 < (0 : Int) then L81_1 n z1 z2 z3 l4 l5 true else lenF l5 fun z6 => (if z6 ≤ z2 then L81_1 n z1 z2 z3 l4 l5 true else needF (0 ≤ z2 ∧ z2.toNat < l5.length) (getN l5 (z2.toNat) fun x7 => ds_bool x7 fun b8 => L81_1 n z1 z2 z3 l4 l5 b8)))
set_option maxRecDepth 100000 in
set_option maxHeartbeats 40000000 in
theorem T81 (n : Nat) : ∀ ⦃z1 : Int⦄ ⦃z2 : Int⦄ ⦃z3 : Int⦄ ⦃l4 : List D⦄ ⦃l5 : List D⦄ ⦃r : ((Bool × List D) ⊕ (List D))⦄, F81 n z1 z2 z3 l4 l5 = some r → ∀ Q : AV → List AObj → List AObj → Prop, (match r with | .inl (r1, r2) => Q (.v (.d (.bool r1))) [.cells [.ow (.ext 1)], .tree .row false 1 r2 none] [] | .inr r1 => Q (.v (.d (.bool true))) [.cells [.ow (.loc 0)], .gone] [.tree .row false 1 r1 none]) →
    TripK Tryd.prog inv 81 [.c (.ptr (.ext 0) 0), .d (.agg [.int .u8 z1, .int .i64 z2, .int .i64 z3, .list false 1 l4])] [.cells [.ow (.ext 1)], .tree .row false 1 l5 none] Q := by
  intro z1 z2 z3 l4 l5 r h Q hQ
  unfold F81 at h
  refine TripK.of tab_ok tab_one fol Tryd.func81 rfl (by kernel_rfl) rfl rfl rfl (fun M hM hI => ?_)
  try cbv
  refine seq_go ?_
  try cbv
  refine seq_go ?_
  try cbv
  refine seq_join (T := Nat × Bool) (fun t => ⟨[(0, .v (.c (.ptr (.ext 0) 0))), (3, .v (.c (.ptr (.loc 0) 0))), (4, .v (.d (.bool false))), (29, .v (.d (.bool t.2)))], [(.ext 0, .cells [.ow (.ext 1)]), (.ext 1, .tree .row false 1 l5 none), (.loc 0, .cells [.d (.int .u8 z1), .d (.int .i64 z2), .d (.int .i64 z3), .d (.list false 1 l4)])], 800⟩) (fun t => t.1 ≤ n ∧ L81_1 t.1 z1 z2 z3 l4 l5 t.2 = some r) ?_ ?_
  · try cbv
    refine splitL (fun e => ?_) (fun e => ?_)
    · replace h := ite_t e h
      clear e
      try cbv
      refine drawn ?_ ?_
      · show _ = true
        kernel_rfl
      try cbv
      exact join_next (n, true) [0, 3, 4, 29] [.ext 0, .ext 1, .loc 0] 800 ⟨by omega, h⟩ (by cbv)
    · replace h := ite_f (Int.not_lt.2 e) h
      clear e
      try cbv
      replace h := lenF_inv M h
      obtain ⟨z6, hz, h⟩ := h
      refine ⟨false, ?_⟩
      try cbv
      refine ⟨z6, hz, ?_⟩
      clear hz
      try cbv
      refine splitLe (fun e => ?_) (fun e => ?_)
      · replace h := ite_t e h
        clear e
        try cbv
        refine drawn ?_ ?_
        · show _ = true
          kernel_rfl
        try cbv
        exact join_next (n, true) [0, 3, 4, 29] [.ext 0, .ext 1, .loc 0] 800 ⟨by omega, h⟩ (by cbv)
      · replace h := ite_f (Int.not_le.2 e) h
        clear e
        try cbv
        replace h := needF_inv h
        obtain ⟨hn, h⟩ := h
        refine ⟨(M.lock_iff _).2 hn, ?_⟩
        clear hn
        try cbv
        refine ⟨[], ?_⟩
        try cbv
        replace h := getN_inv h
        obtain ⟨x7, hx, h⟩ := h
        replace h := ds_bool_inv h
        obtain ⟨b8, rfl, h⟩ := h
        refine ⟨_, hx, ?_⟩
        clear hx
        try cbv
        refine ⟨true, ?_⟩
        try cbv
        refine drawn ?_ ?_
        · show _ = true
          kernel_rfl
        try cbv
        exact join_next (n, b8) [0, 3, 4, 29] [.ext 0, .ext 1, .loc 0] 800 ⟨by omega, h⟩ (by cbv)
  · clear h
    rintro ⟨m1, b9⟩ ⟨hm1, h⟩
    replace hm1 : m1 ≤ n := hm1
    cases m1 with
    | zero =>
      replace h : L81_1 0 z1 z2 z3 l4 l5 b9 = some r := h
      rw [L81_1] at h
      cases h
    | succ m1 =>
      replace h : L81_1 (m1 + 1) z1 z2 z3 l4 l5 b9 = some r := h
      rw [L81_1] at h
      try cbv
      cases b9
      · replace h := ite_f Bool.false_ne_true h
        try cbv
        refine seq_go ?_
        try cbv
        refine seq_go ?_
        try cbv
        refine seq_go ?_
        try cbv
        refine seq_go ?_
        try cbv
        refine seq_go ?_
        try cbv
        refine seq_join (T := Nat × Unit) (fun t => ⟨[(0, .v (.c (.ptr (.ext 0) 0))), (3, .v (.c (.ptr (.loc 0) 0))), (4, .v (.d (.bool false)))], [(.ext 0, .cells [.ow (.ext 1)]), (.ext 1, .tree .row false 1 l5 none), (.loc 0, .cells [.d (.int .u8 z1), .d (.int .i64 z2), .d (.int .i64 z3), .d (.list false 1 l4)])], 1248⟩) (fun t => t.1 ≤ m1 ∧ L81_11 t.1 z3 l4 l5 = some r) ?_ ?_
        · try cbv
          refine seq_go ?_
          try cbv
          refine seq_go ?_
          try cbv
          refine seq_go ?_
          try cbv
          refine seq_join (T := Nat × Bool) (fun t => ⟨[(0, .v (.c (.ptr (.ext 0) 0))), (3, .v (.c (.ptr (.loc 0) 0))), (4, .v (.d (.bool false))), (31, .v (.d (.int .u8 z1))), (32, .v (.d (.bool t.2)))], [(.ext 0, .cells [.ow (.ext 1)]), (.ext 1, .tree .row false 1 l5 none), (.loc 0, .cells [.d (.int .u8 z1), .d (.int .i64 z2), .d (.int .i64 z3), .d (.list false 1 l4)])], 1056⟩) (fun t => t.1 ≤ m1 ∧ L81_4 t.1 z1 z2 z3 l4 l5 t.2 = some r) ?_ ?_
          · try cbv
            refine seq_join (T := Nat × Bool) (fun t => ⟨[(0, .v (.c (.ptr (.ext 0) 0))), (3, .v (.c (.ptr (.loc 0) 0))), (4, .v (.d (.bool false))), (31, .v (.d (.int .u8 z1))), (32, .v (.d (.bool t.2)))], [(.ext 0, .cells [.ow (.ext 1)]), (.ext 1, .tree .row false 1 l5 none), (.loc 0, .cells [.d (.int .u8 z1), .d (.int .i64 z2), .d (.int .i64 z3), .d (.list false 1 l4)])], 928⟩) (fun t => t.1 ≤ m1 ∧ L81_2 t.1 z1 z2 z3 l4 l5 t.2 = some r) ?_ ?_
            · try cbv
              refine splitI (fun e => ?_) (fun e => ?_)
              · replace h := ite_t e h
                clear e
                try cbv
                exact join_next (m1, true) [0, 3, 4, 31, 32] [.ext 0, .ext 1, .loc 0] 928 ⟨by omega, h⟩ (by cbv)
              · replace h := ite_f e h
                clear e
                try cbv
                exact join_next (m1, false) [0, 3, 4, 31, 32] [.ext 0, .ext 1, .loc 0] 928 ⟨by omega, h⟩ (by cbv)
            · clear h
              rintro ⟨m2, b10⟩ ⟨hm2, h⟩
              replace hm2 : m2 ≤ m1 := hm2
              cases m2 with
              | zero =>
                replace h : L81_2 0 z1 z2 z3 l4 l5 b10 = some r := h
                rw [L81_2] at h
                cases h
              | succ m2 =>
                replace h : L81_2 (m2 + 1) z1 z2 z3 l4 l5 b10 = some r := h
                rw [L81_2] at h
                try cbv
                cases b10
                · replace h := ite_f Bool.false_ne_true h
                  try cbv
                  refine seq_join (T := Nat × Bool) (fun t => ⟨[(0, .v (.c (.ptr (.ext 0) 0))), (3, .v (.c (.ptr (.loc 0) 0))), (4, .v (.d (.bool false))), (31, .v (.d (.int .u8 z1))), (32, .v (.d (.bool t.2)))], [(.ext 0, .cells [.ow (.ext 1)]), (.ext 1, .tree .row false 1 l5 none), (.loc 0, .cells [.d (.int .u8 z1), .d (.int .i64 z2), .d (.int .i64 z3), .d (.list false 1 l4)])], 992⟩) (fun t => t.1 ≤ m2 ∧ L81_3 t.1 z1 z2 z3 l4 l5 t.2 = some r) ?_ ?_
                  · try cbv
                    refine splitI (fun e => ?_) (fun e => ?_)
                    · replace h := ite_t e h
                      clear e
                      try cbv
                      exact join_next (m2, true) [0, 3, 4, 31, 32] [.ext 0, .ext 1, .loc 0] 992 ⟨by omega, h⟩ (by cbv)
                    · replace h := ite_f e h
                      clear e
                      try cbv
                      exact join_next (m2, false) [0, 3, 4, 31, 32] [.ext 0, .ext 1, .loc 0] 992 ⟨by omega, h⟩ (by cbv)
                  · clear h
                    rintro ⟨m3, b11⟩ ⟨hm3, h⟩
                    replace hm3 : m3 ≤ m2 := hm3
                    cases m3 with
                    | zero =>
                      replace h : L81_3 0 z1 z2 z3 l4 l5 b11 = some r := h
                      rw [L81_3] at h
                      cases h
                    | succ m3 =>
                      replace h : L81_3 (m3 + 1) z1 z2 z3 l4 l5 b11 = some r := h
                      rw [L81_3] at h
                      try cbv
                      cases b11
                      · replace h := ite_f Bool.false_ne_true h
                        try cbv
                        refine splitI (fun e => ?_) (fun e => ?_)
                        · replace h := ite_t e h
                          clear e
                          try cbv
                          exact join_next (m3, true) [0, 3, 4, 31, 32] [.ext 0, .ext 1, .loc 0] 1056 ⟨by omega, h⟩ (by cbv)
                        · replace h := ite_f e h
                          clear e
                          try cbv
                          exact join_next (m3, false) [0, 3, 4, 31, 32] [.ext 0, .ext 1, .loc 0] 1056 ⟨by omega, h⟩ (by cbv)
                      · replace h := ite_t rfl h
                        try cbv
                        exact join_next (m3, true) [0, 3, 4, 31, 32] [.ext 0, .ext 1, .loc 0] 1056 ⟨by omega, h⟩ (by cbv)
                · replace h := ite_t rfl h
                  try cbv
                  exact join_next (m2, true) [0, 3, 4, 31, 32] [.ext 0, .ext 1, .loc 0] 1056 ⟨by omega, h⟩ (by cbv)
          · clear h
            rintro ⟨m4, b12⟩ ⟨hm4, h⟩
            replace hm4 : m4 ≤ m1 := hm4
            cases m4 with
            | zero =>
              replace h : L81_4 0 z1 z2 z3 l4 l5 b12 = some r := h
              rw [L81_4] at h
              cases h
            | succ m4 =>
              replace h : L81_4 (m4 + 1) z1 z2 z3 l4 l5 b12 = some r := h
              rw [L81_4] at h
              try cbv
              cases b12
              · replace h := ite_f Bool.false_ne_true h
                try cbv
                refine seq_go ?_
                try cbv
                refine seq_join (T := Nat × Bool) (fun t => ⟨[(0, .v (.c (.ptr (.ext 0) 0))), (3, .v (.c (.ptr (.loc 0) 0))), (4, .v (.d (.bool false))), (31, .v (.d (.int .u8 z1))), (36, .v (.d (.bool t.2)))], [(.ext 0, .cells [.ow (.ext 1)]), (.ext 1, .tree .row false 1 l5 none), (.loc 0, .cells [.d (.int .u8 z1), .d (.int .i64 z2), .d (.int .i64 z3), .d (.list false 1 l4)])], 1120⟩) (fun t => t.1 ≤ m4 ∧ L81_5 t.1 z1 z2 z3 l4 l5 t.2 = some r) ?_ ?_
                · try cbv
                  refine splitI (fun e => ?_) (fun e => ?_)
                  · replace h := ite_t e h
                    clear e
                    try cbv
                    exact join_next (m4, true) [0, 3, 4, 31, 36] [.ext 0, .ext 1, .loc 0] 1120 ⟨by omega, h⟩ (by cbv)
                  · replace h := ite_f e h
                    clear e
                    try cbv
                    exact join_next (m4, false) [0, 3, 4, 31, 36] [.ext 0, .ext 1, .loc 0] 1120 ⟨by omega, h⟩ (by cbv)
                · clear h
                  rintro ⟨m5, b13⟩ ⟨hm5, h⟩
                  replace hm5 : m5 ≤ m4 := hm5
                  cases m5 with
                  | zero =>
                    replace h : L81_5 0 z1 z2 z3 l4 l5 b13 = some r := h
                    rw [L81_5] at h
                    cases h
                  | succ m5 =>
                    replace h : L81_5 (m5 + 1) z1 z2 z3 l4 l5 b13 = some r := h
                    rw [L81_5] at h
                    try cbv
                    cases b13
                    · replace h := ite_f Bool.false_ne_true h
                      try cbv
                      refine seq_go ?_
                      try cbv
                      refine seq_join (T := Nat × Bool) (fun t => ⟨[(0, .v (.c (.ptr (.ext 0) 0))), (3, .v (.c (.ptr (.loc 0) 0))), (4, .v (.d (.bool false))), (31, .v (.d (.int .u8 z1))), (38, .v (.d (.bool t.2)))], [(.ext 0, .cells [.ow (.ext 1)]), (.ext 1, .tree .row false 1 l5 none), (.loc 0, .cells [.d (.int .u8 z1), .d (.int .i64 z2), .d (.int .i64 z3), .d (.list false 1 l4)])], 1248⟩) (fun t => t.1 ≤ m5 ∧ L81_7 t.1 z1 z2 z3 l4 l5 t.2 = some r) ?_ ?_
                      · try cbv
                        refine seq_join (T := Nat × Bool) (fun t => ⟨[(0, .v (.c (.ptr (.ext 0) 0))), (3, .v (.c (.ptr (.loc 0) 0))), (4, .v (.d (.bool false))), (31, .v (.d (.int .u8 z1))), (38, .v (.d (.bool t.2)))], [(.ext 0, .cells [.ow (.ext 1)]), (.ext 1, .tree .row false 1 l5 none), (.loc 0, .cells [.d (.int .u8 z1), .d (.int .i64 z2), .d (.int .i64 z3), .d (.list false 1 l4)])], 1184⟩) (fun t => t.1 ≤ m5 ∧ L81_6 t.1 z1 z2 z3 l4 l5 t.2 = some r) ?_ ?_
                        · try cbv
                          refine splitI (fun e => ?_) (fun e => ?_)
                          · replace h := ite_t e h
                            clear e
                            try cbv
                            exact join_next (m5, true) [0, 3, 4, 31, 38] [.ext 0, .ext 1, .loc 0] 1184 ⟨by omega, h⟩ (by cbv)
                          · replace h := ite_f e h
                            clear e
                            try cbv
                            exact join_next (m5, false) [0, 3, 4, 31, 38] [.ext 0, .ext 1, .loc 0] 1184 ⟨by omega, h⟩ (by cbv)
                        · clear h
                          rintro ⟨m6, b14⟩ ⟨hm6, h⟩
                          replace hm6 : m6 ≤ m5 := hm6
                          cases m6 with
                          | zero =>
                            replace h : L81_6 0 z1 z2 z3 l4 l5 b14 = some r := h
                            rw [L81_6] at h
                            cases h
                          | succ m6 =>
                            replace h : L81_6 (m6 + 1) z1 z2 z3 l4 l5 b14 = some r := h
                            rw [L81_6] at h
                            try cbv
                            cases b14
                            · replace h := ite_f Bool.false_ne_true h
                              try cbv
                              refine splitI (fun e => ?_) (fun e => ?_)
                              · replace h := ite_t e h
                                clear e
                                try cbv
                                exact join_next (m6, true) [0, 3, 4, 31, 38] [.ext 0, .ext 1, .loc 0] 1248 ⟨by omega, h⟩ (by cbv)
                              · replace h := ite_f e h
                                clear e
                                try cbv
                                exact join_next (m6, false) [0, 3, 4, 31, 38] [.ext 0, .ext 1, .loc 0] 1248 ⟨by omega, h⟩ (by cbv)
                            · replace h := ite_t rfl h
                              try cbv
                              exact join_next (m6, true) [0, 3, 4, 31, 38] [.ext 0, .ext 1, .loc 0] 1248 ⟨by omega, h⟩ (by cbv)
                      · clear h
                        rintro ⟨m7, b15⟩ ⟨hm7, h⟩
                        replace hm7 : m7 ≤ m5 := hm7
                        cases m7 with
                        | zero =>
                          replace h : L81_7 0 z1 z2 z3 l4 l5 b15 = some r := h
                          rw [L81_7] at h
                          cases h
                        | succ m7 =>
                          replace h : L81_7 (m7 + 1) z1 z2 z3 l4 l5 b15 = some r := h
                          rw [L81_7] at h
                          try cbv
                          cases b15
                          · replace h := ite_f Bool.false_ne_true h
                            try cbv
                            refine seq_go ?_
                            try cbv
                            refine seq_join (T := Nat × Bool) (fun t => ⟨[(0, .v (.c (.ptr (.ext 0) 0))), (3, .v (.c (.ptr (.loc 0) 0))), (4, .v (.d (.bool false))), (31, .v (.d (.int .u8 z1))), (41, .v (.d (.bool t.2)))], [(.ext 0, .cells [.ow (.ext 1)]), (.ext 1, .tree .row false 1 l5 none), (.loc 0, .cells [.d (.int .u8 z1), .d (.int .i64 z2), .d (.int .i64 z3), .d (.list false 1 l4)])], 1312⟩) (fun t => t.1 ≤ m7 ∧ L81_8 t.1 z1 z2 z3 l4 l5 t.2 = some r) ?_ ?_
                            · try cbv
                              refine splitI (fun e => ?_) (fun e => ?_)
                              · replace h := ite_t e h
                                clear e
                                try cbv
                                exact join_next (m7, true) [0, 3, 4, 31, 41] [.ext 0, .ext 1, .loc 0] 1312 ⟨by omega, h⟩ (by cbv)
                              · replace h := ite_f e h
                                clear e
                                try cbv
                                exact join_next (m7, false) [0, 3, 4, 31, 41] [.ext 0, .ext 1, .loc 0] 1312 ⟨by omega, h⟩ (by cbv)
                            · clear h
                              rintro ⟨m8, b16⟩ ⟨hm8, h⟩
                              replace hm8 : m8 ≤ m7 := hm8
                              cases m8 with
                              | zero =>
                                replace h : L81_8 0 z1 z2 z3 l4 l5 b16 = some r := h
                                rw [L81_8] at h
                                cases h
                              | succ m8 =>
                                replace h : L81_8 (m8 + 1) z1 z2 z3 l4 l5 b16 = some r := h
                                rw [L81_8] at h
                                try cbv
                                cases b16
                                · replace h := ite_f Bool.false_ne_true h
                                  try cbv
                                  refine seq_go ?_
                                  try cbv
                                  refine seq_join (T := Nat × Bool) (fun t => ⟨[(0, .v (.c (.ptr (.ext 0) 0))), (3, .v (.c (.ptr (.loc 0) 0))), (4, .v (.d (.bool false))), (31, .v (.d (.int .u8 z1))), (43, .v (.d (.bool t.2)))], [(.ext 0, .cells [.ow (.ext 1)]), (.ext 1, .tree .row false 1 l5 none), (.loc 0, .cells [.d (.int .u8 z1), .d (.int .i64 z2), .d (.int .i64 z3), .d (.list false 1 l4)])], 1376⟩) (fun t => t.1 ≤ m8 ∧ L81_9 t.1 z1 z2 z3 l4 l5 t.2 = some r) ?_ ?_
                                  · try cbv
                                    refine splitI (fun e => ?_) (fun e => ?_)
                                    · replace h := ite_t e h
                                      clear e
                                      try cbv
                                      exact join_next (m8, true) [0, 3, 4, 31, 43] [.ext 0, .ext 1, .loc 0] 1376 ⟨by omega, h⟩ (by cbv)
                                    · replace h := ite_f e h
                                      clear e
                                      try cbv
                                      exact join_next (m8, false) [0, 3, 4, 31, 43] [.ext 0, .ext 1, .loc 0] 1376 ⟨by omega, h⟩ (by cbv)
                                  · clear h
                                    rintro ⟨m9, b17⟩ ⟨hm9, h⟩
                                    replace hm9 : m9 ≤ m8 := hm9
                                    cases m9 with
                                    | zero =>
                                      replace h : L81_9 0 z1 z2 z3 l4 l5 b17 = some r := h
                                      rw [L81_9] at h
                                      cases h
                                    | succ m9 =>
                                      replace h : L81_9 (m9 + 1) z1 z2 z3 l4 l5 b17 = some r := h
                                      rw [L81_9] at h
                                      try cbv
                                      cases b17
                                      · replace h := ite_f Bool.false_ne_true h
                                        try cbv
                                        refine seq_join (T := Nat × Bool) (fun t => ⟨[(0, .v (.c (.ptr (.ext 0) 0))), (3, .v (.c (.ptr (.loc 0) 0))), (4, .v (.d (.bool false))), (45, .v (.d (.bool t.2)))], [(.ext 0, .cells [.ow (.ext 1)]), (.ext 1, .tree .row false 1 l5 none), (.loc 0, .cells [.d (.int .u8 z1), .d (.int .i64 z2), .d (.int .i64 z3), .d (.list false 1 l4)])], 1440⟩) (fun t => t.1 ≤ m9 ∧ L81_10 t.1 z2 z3 l4 l5 t.2 = some r) ?_ ?_
                                        · try cbv
                                          refine splitI (fun e => ?_) (fun e => ?_)
                                          · replace h := ite_t e h
                                            clear e
                                            try cbv
                                            exact join_next (m9, true) [0, 3, 4, 45] [.ext 0, .ext 1, .loc 0] 1440 ⟨by omega, h⟩ (by cbv)
                                          · replace h := ite_f e h
                                            clear e
                                            try cbv
                                            exact join_next (m9, false) [0, 3, 4, 45] [.ext 0, .ext 1, .loc 0] 1440 ⟨by omega, h⟩ (by cbv)
                                        · clear h
                                          rintro ⟨m10, b18⟩ ⟨hm10, h⟩
                                          replace hm10 : m10 ≤ m9 := hm10
                                          cases m10 with
                                          | zero =>
                                            replace h : L81_10 0 z2 z3 l4 l5 b18 = some r := h
                                            rw [L81_10] at h
                                            cases h
                                          | succ m10 =>
                                            replace h : L81_10 (m10 + 1) z2 z3 l4 l5 b18 = some r := h
                                            rw [L81_10] at h
                                            try cbv
                                            cases b18
                                            · replace h := ite_f Bool.false_ne_true h
                                              try cbv
                                              refine seq_go ?_
                                              try cbv
                                              obtain rfl := Option.some.inj h
                                              refine finQ_go hQ ?_
                                              try cbv
                                              exact ⟨[], rfl, rfl, ⟨rfl, ⟨rfl, trivial⟩⟩, trivial, trivial⟩
                                            · replace h := ite_t rfl h
                                              try cbv
                                              refine seq_go ?_
                                              try cbv
                                              refine seq_join (T := Nat × Bool) (fun t => ⟨[(0, .v (.c (.ptr (.ext 0) 0))), (3, .v (.c (.ptr (.loc 0) 0))), (4, .v (.d (.bool false))), (6, .v (.d (.bool t.2)))], [(.ext 0, .cells [.ow (.ext 1)]), (.ext 1, .tree .row false 1 l5 none), (.loc 0, .cells [.d (.int .u8 z1), .d (.int .i64 z2), .d (.int .i64 z3), .d (.list false 1 l4)])], 1760⟩) (fun t => t.1 ≤ m10 ∧ L81_13 t.1 z2 l5 t.2 = some r) ?_ ?_
                                              · try cbv
                                                refine splitI (fun e => ?_) (fun e => ?_)
                                                · replace h := ite_t e h
                                                  clear e
                                                  try cbv
                                                  replace h := lenF_inv M h
                                                  obtain ⟨z29, hz, h⟩ := h
                                                  refine ⟨z29, hz, ?_⟩
                                                  clear hz
                                                  try cbv
                                                  refine splitI (fun e => ?_) (fun e => ?_)
                                                  · replace h := ite_t e h
                                                    clear e
                                                    try cbv
                                                    exact join_next (m10, true) [0, 3, 4, 6] [.ext 0, .ext 1, .loc 0] 1760 ⟨by omega, h⟩ (by cbv)
                                                  · replace h := ite_f e h
                                                    clear e
                                                    try cbv
                                                    exact join_next (m10, false) [0, 3, 4, 6] [.ext 0, .ext 1, .loc 0] 1760 ⟨by omega, h⟩ (by cbv)
                                                · replace h := ite_f e h
                                                  clear e
                                                  try cbv
                                                  exact join_next (m10, false) [0, 3, 4, 6] [.ext 0, .ext 1, .loc 0] 1760 ⟨by omega, h⟩ (by cbv)
                                              · clear h
                                                rintro ⟨m13, b30⟩ ⟨hm13, h⟩
                                                replace hm13 : m13 ≤ m10 := hm13
                                                cases m13 with
                                                | zero =>
                                                  replace h : L81_13 0 z2 l5 b30 = some r := h
                                                  rw [L81_13] at h
                                                  cases h
                                                | succ m13 =>
                                                  replace h : L81_13 (m13 + 1) z2 l5 b30 = some r := h
                                                  rw [L81_13] at h
                                                  try cbv
                                                  refine seq_go ?_
                                                  try cbv
                                                  replace h := needF_inv h
                                                  obtain ⟨hn, h⟩ := h
                                                  refine ⟨(M.lock_iff _).2 hn, ?_⟩
                                                  clear hn
                                                  try cbv
                                                  refine ⟨[], ?_⟩
                                                  try cbv
                                                  replace h := getN_inv h
                                                  obtain ⟨x31, hx, h⟩ := h
                                                  replace h := ds_bool_inv h
                                                  obtain ⟨b32, rfl, h⟩ := h
                                                  refine ⟨_, hx, ?_⟩
                                                  clear hx
                                                  try cbv
                                                  refine drawn ?_ ?_
                                                  · show _ = true
                                                    kernel_rfl
                                                  try cbv
                                                  refine seq_go ?_
                                                  try cbv
                                                  replace h := setF_inv h
                                                  obtain ⟨l33, hl33, h⟩ := h
                                                  obtain rfl := Option.some.inj h
                                                  refine ⟨_, _, _, hQ, [.close (.ext 1)], ?_⟩
                                                  try cbv
                                                  refine ⟨l33, hl33, ?_⟩
                                                  clear hl33
                                                  try cbv
                                                  exact ⟨[], rfl, rfl, ⟨rfl, ⟨rfl, trivial⟩⟩, trivial, trivial⟩
                                      · replace h := ite_t rfl h
                                        try cbv
                                        refine seq_go ?_
                                        try cbv
                                        refine seq_go ?_
                                        try cbv
                                        refine splitLe (fun e => ?_) (fun e => ?_)
                                        · replace h := ite_t e h
                                          clear e
                                          try cbv
                                          replace h := lenF_inv M h
                                          obtain ⟨z25, hz, h⟩ := h
                                          refine ⟨false, ?_⟩
                                          try cbv
                                          refine ⟨z25, hz, ?_⟩
                                          clear hz
                                          try cbv
                                          refine splitL (fun e => ?_) (fun e => ?_)
                                          · replace h := ite_t e h
                                            clear e
                                            try cbv
                                            replace h := needF_inv h
                                            obtain ⟨hn, h⟩ := h
                                            refine ⟨(M.lock_iff _).2 hn, ?_⟩
                                            clear hn
                                            try cbv
                                            refine ⟨[], ?_⟩
                                            try cbv
                                            replace h := getN_inv h
                                            obtain ⟨x26, hx, h⟩ := h
                                            replace h := ds_bool_inv h
                                            obtain ⟨b27, rfl, h⟩ := h
                                            refine ⟨_, hx, ?_⟩
                                            clear hx
                                            try cbv
                                            refine ⟨true, ?_⟩
                                            try cbv
                                            cases b27
                                            · replace h := ite_f Bool.false_ne_true h
                                              try cbv
                                              refine drawn ?_ ?_
                                              · show _ = true
                                                kernel_rfl
                                              try cbv
                                              obtain rfl := Option.some.inj h
                                              refine finQ_go hQ ?_
                                              try cbv
                                              exact ⟨[], rfl, rfl, ⟨rfl, ⟨rfl, trivial⟩⟩, trivial, trivial⟩
                                            · replace h := ite_t rfl h
                                              try cbv
                                              replace h := lenF_inv M h
                                              obtain ⟨z28, hz, h⟩ := h
                                              refine ⟨z28, hz, ?_⟩
                                              clear hz
                                              try cbv
                                              refine splitI (fun e => ?_) (fun e => ?_)
                                              · replace h := ite_t e h
                                                clear e
                                                try cbv
                                                refine drawn ?_ ?_
                                                · show _ = true
                                                  kernel_rfl
                                                try cbv
                                                obtain rfl := Option.some.inj h
                                                refine finQ_go hQ ?_
                                                try cbv
                                                exact ⟨[], rfl, rfl, ⟨rfl, ⟨rfl, trivial⟩⟩, trivial, trivial⟩
                                              · replace h := ite_f e h
                                                clear e
                                                try cbv
                                                refine drawn ?_ ?_
                                                · show _ = true
                                                  kernel_rfl
                                                try cbv
                                                obtain rfl := Option.some.inj h
                                                refine finQ_go hQ ?_
                                                try cbv
                                                exact ⟨[], rfl, rfl, ⟨rfl, ⟨rfl, trivial⟩⟩, trivial, trivial⟩
                                          · replace h := ite_f (Int.not_lt.2 e) h
                                            clear e
                                            try cbv
                                            refine drawn ?_ ?_
                                            · show _ = true
                                              kernel_rfl
                                            try cbv
                                            obtain rfl := Option.some.inj h
                                            refine finQ_go hQ ?_
                                            try cbv
                                            exact ⟨[], rfl, rfl, ⟨rfl, ⟨rfl, trivial⟩⟩, trivial, trivial⟩
                                        · replace h := ite_f (Int.not_le.2 e) h
                                          clear e
                                          try cbv
                                          refine drawn ?_ ?_
                                          · show _ = true
                                            kernel_rfl
                                          try cbv
                                          obtain rfl := Option.some.inj h
                                          refine finQ_go hQ ?_
                                          try cbv
                                          exact ⟨[], rfl, rfl, ⟨rfl, ⟨rfl, trivial⟩⟩, trivial, trivial⟩
                                · replace h := ite_t rfl h
                                  try cbv
                                  refine seq_go ?_
                                  try cbv
                                  refine seq_join (T := Nat × Bool) (fun t => ⟨[(0, .v (.c (.ptr (.ext 0) 0))), (3, .v (.c (.ptr (.loc 0) 0))), (4, .v (.d (.bool false))), (5, .v (.d (.bool t.2)))], [(.ext 0, .cells [.ow (.ext 1)]), (.ext 1, .tree .row false 1 l5 none), (.loc 0, .cells [.d (.int .u8 z1), .d (.int .i64 z2), .d (.int .i64 z3), .d (.list false 1 l4)])], 1952⟩) (fun t => t.1 ≤ m8 ∧ L81_12 t.1 l5 t.2 = some r) ?_ ?_
                                  · try cbv
                                    replace h := lenF_inv M h
                                    obtain ⟨z21, hz, h⟩ := h
                                    refine ⟨false, ?_⟩
                                    try cbv
                                    refine ⟨z21, hz, ?_⟩
                                    clear hz
                                    try cbv
                                    refine splitI (fun e => ?_) (fun e => ?_)
                                    · replace h := ite_t e h
                                      clear e
                                      try cbv
                                      refine splitL (fun e => ?_) (fun e => ?_)
                                      · replace h := ite_t e h
                                        clear e
                                        try cbv
                                        replace h := lenF_inv M h
                                        obtain ⟨z22, hz, h⟩ := h
                                        refine ⟨z22, hz, ?_⟩
                                        clear hz
                                        try cbv
                                        refine splitI (fun e => ?_) (fun e => ?_)
                                        · replace h := ite_t e h
                                          clear e
                                          try cbv
                                          refine drawn ?_ ?_
                                          · show _ = true
                                            kernel_rfl
                                          try cbv
                                          exact join_next (m8, true) [0, 3, 4, 5] [.ext 0, .ext 1, .loc 0] 1952 ⟨by omega, h⟩ (by cbv)
                                        · replace h := ite_f e h
                                          clear e
                                          try cbv
                                          refine drawn ?_ ?_
                                          · show _ = true
                                            kernel_rfl
                                          try cbv
                                          exact join_next (m8, false) [0, 3, 4, 5] [.ext 0, .ext 1, .loc 0] 1952 ⟨by omega, h⟩ (by cbv)
                                      · replace h := ite_f (Int.not_lt.2 e) h
                                        clear e
                                        try cbv
                                        refine drawn ?_ ?_
                                        · show _ = true
                                          kernel_rfl
                                        try cbv
                                        exact join_next (m8, false) [0, 3, 4, 5] [.ext 0, .ext 1, .loc 0] 1952 ⟨by omega, h⟩ (by cbv)
                                    · replace h := ite_f e h
                                      clear e
                                      try cbv
                                      refine drawn ?_ ?_
                                      · show _ = true
                                        kernel_rfl
                                      try cbv
                                      exact join_next (m8, false) [0, 3, 4, 5] [.ext 0, .ext 1, .loc 0] 1952 ⟨by omega, h⟩ (by cbv)
                                  · clear h
                                    rintro ⟨m12, b23⟩ ⟨hm12, h⟩
                                    replace hm12 : m12 ≤ m8 := hm12
                                    cases m12 with
                                    | zero =>
                                      replace h : L81_12 0 l5 b23 = some r := h
                                      rw [L81_12] at h
                                      cases h
                                    | succ m12 =>
                                      replace h : L81_12 (m12 + 1) l5 b23 = some r := h
                                      rw [L81_12] at h
                                      try cbv
                                      refine seq_go ?_
                                      try cbv
                                      refine seq_go ?_
                                      try cbv
                                      cases b23
                                      · replace h := ite_f Bool.false_ne_true h
                                        try cbv
                                        refine seq_go ?_
                                        try cbv
                                        obtain rfl := Option.some.inj h
                                        refine finQ_go hQ ?_
                                        try cbv
                                        exact ⟨[], rfl, rfl, ⟨rfl, ⟨rfl, trivial⟩⟩, trivial, trivial⟩
                                      · replace h := ite_t rfl h
                                        try cbv
                                        refine ⟨false, ?_⟩
                                        try cbv
                                        refine ⟨true, ?_⟩
                                        try cbv
                                        refine op_pl ?_
                                        try cbv
                                        refine ⟨true, ?_⟩
                                        try cbv
                                        refine ⟨true, ?_⟩
                                        try cbv
                                        refine ⟨[], ?_⟩
                                        try cbv
                                        replace h := needF_inv h
                                        obtain ⟨hs, h⟩ := h
                                        replace h := appF_inv h
                                        obtain ⟨l24, hb, hz, h⟩ := h
                                        refine ⟨scalB_iff.1 hs, (M.lock_iff _).2 hb, l24, hz, ?_⟩
                                        clear hs hb hz
                                        try cbv
                                        refine seq_go ?_
                                        try cbv
                                        obtain rfl := Option.some.inj h
                                        refine finQ_go hQ ?_
                                        try cbv
                                        exact ⟨[.loc 2176], rfl, rfl, ⟨rfl, trivial⟩, ⟨rfl, trivial⟩, trivial⟩
                          · replace h := ite_t rfl h
                            try cbv
                            exact join_next (m7, ()) [0, 3, 4] [.ext 0, .ext 1, .loc 0] 1248 ⟨by omega, h⟩ (by cbv)
                    · replace h := ite_t rfl h
                      try cbv
                      exact join_next (m5, ()) [0, 3, 4] [.ext 0, .ext 1, .loc 0] 1248 ⟨by omega, h⟩ (by cbv)
              · replace h := ite_t rfl h
                try cbv
                refine seq_go ?_
                try cbv
                refine seq_go ?_
                try cbv
                refine splitLe (fun e => ?_) (fun e => ?_)
                · replace h := ite_t e h
                  clear e
                  try cbv
                  replace h := bO1_inv h
                  obtain ⟨b19, hr, h⟩ := h
                  refine call_go rfl rfl ?_
                  try cbv
                  refine call_pure hM hI (T89 _ hr) rfl ?_
                  clear hr
                  try cbv
                  obtain rfl := Option.some.inj h
                  refine finQ_go hQ ?_
                  try cbv
                  exact ⟨[], rfl, rfl, ⟨rfl, ⟨rfl, trivial⟩⟩, trivial, trivial⟩
                · replace h := ite_f (Int.not_le.2 e) h
                  clear e
                  try cbv
                  obtain rfl := Option.some.inj h
                  refine finQ_go hQ ?_
                  try cbv
                  exact ⟨[], rfl, rfl, ⟨rfl, ⟨rfl, trivial⟩⟩, trivial, trivial⟩
        · clear h
          rintro ⟨m11, _⟩ ⟨hm11, h⟩
          replace hm11 : m11 ≤ m1 := hm11
          cases m11 with
          | zero =>
            replace h : L81_11 0 z3 l4 l5 = some r := h
            rw [L81_11] at h
            cases h
          | succ m11 =>
            replace h : L81_11 (m11 + 1) z3 l4 l5 = some r := h
            rw [L81_11] at h
            try cbv
            refine seq_go ?_
            try cbv
            refine seq_go ?_
            try cbv
            refine splitLe (fun e => ?_) (fun e => ?_)
            · replace h := ite_t e h
              clear e
              try cbv
              replace h := lenF_inv M h
              obtain ⟨z20, hz, h⟩ := h
              refine ⟨z20, hz, ?_⟩
              clear hz
              try cbv
              refine splitI (fun e => ?_) (fun e => ?_)
              · replace h := ite_t e h
                clear e
                try cbv
                obtain rfl := Option.some.inj h
                refine finQ_go hQ ?_
                try cbv
                exact ⟨[], rfl, rfl, ⟨rfl, ⟨rfl, trivial⟩⟩, trivial, trivial⟩
              · replace h := ite_f e h
                clear e
                try cbv
                obtain rfl := Option.some.inj h
                refine finQ_go hQ ?_
                try cbv
                exact ⟨[], rfl, rfl, ⟨rfl, ⟨rfl, trivial⟩⟩, trivial, trivial⟩
            · replace h := ite_f (Int.not_le.2 e) h
              clear e
              try cbv
              obtain rfl := Option.some.inj h
              refine finQ_go hQ ?_
              try cbv
              exact ⟨[], rfl, rfl, ⟨rfl, ⟨rfl, trivial⟩⟩, trivial, trivial⟩
      · replace h := ite_t rfl h
        try cbv
        refine seq_go ?_
        try cbv
        obtain rfl := Option.some.inj h
        refine finQ_go hQ ?_
        try cbv
        exact ⟨[], rfl, rfl, ⟨rfl, ⟨rfl, trivial⟩⟩, trivial, trivial⟩
end Go.Proofs.YtjobleemmjjocaaDoor
end

set_option linter.unusedVariables false
noncomputable section
namespace Go.Proofs.YtjobleemmjjocaaDoor
open Go Go.AM
mutual
def L80_1 : Nat → Int → Int → (List D) → Int → Int → (List D) → Option (((Int × Int × List D × List D) ⊕ (Int × List D × List D)))
  | 0, _, _, _, _, _, _ => none
  | n + 1, z1, z2, l3, z5, z6, l7 =>
    (if z6 < z5 then L80_2 n z1 z2 l3 z5 z6 l7 true else L80_2 n z1 z2 l3 z5 z6 l7 false)
def L80_2 : Nat → Int → Int → (List D) → Int → Int → (List D) → Bool → Option (((Int × Int × List D × List D) ⊕ (Int × List D × List D)))
  | 0, _, _, _, _, _, _, _ => none
  | n + 1, z1, z2, l3, z5, z6, l7, b8 =>
    (if b8 = true then getF l3 z6 fun x9 => ds_t32 x9 fun z10 z11 z12 l13 => (if (65536 : Int) ≤ z6 then bO1 (F42r0 n z6 z1 z2) fun z14 => some (.inr (z14, l3, l7)) else bS (F81 n z10 z11 z12 l13 l7) (fun p20 => bO2 (some p20) fun b15 l16 => letB (!b15) fun b17 => (if b17 = true then bO1 (F42r0 n z6 z1 z2) fun z18 => some (.inr (z18, l3, l16)) else letF (IntKind.wrap .i64 (z6 + 1)) fun z22 => L80_1 n z1 z2 l3 z5 z22 l16)) (fun l19 => letF (IntKind.wrap .i64 (z6 + 1)) fun z23 => L80_1 n z1 z2 l3 z5 z23 l19)) else some (.inl (z1, z2, l3, l7)))
end
def F80 (n : Nat) (z1 : Int) (z2 : Int) (l3 : List D) (l4 : List D) : Option (((Int × Int × List D × List D) ⊕ (Int × List D × List D))) :=
  lenF l3 fun z5 => L80_1 n z1 z2 l3 z5 (0 : Int) l4
set_option maxRecDepth 100000 in
set_option maxHeartbeats 40000000 in
theorem T80 (n : Nat) : ∀ ⦃z1 : Int⦄ ⦃z2 : Int⦄ ⦃l3 : List D⦄ ⦃l4 : List D⦄ ⦃r : ((Int × Int × List D × List D) ⊕ (Int × List D × List D))⦄, F80 n z1 z2 l3 l4 = some r → ∀ Q : AV → List AObj → List AObj → Prop, (match r with | .inl (r1, r2, r3, r4) => Q (.t []) [.rnd rf42_0 [(2, .v (.c (.ptr (.ext 1) 0))), (3, .v (.c (.ptr (.ext 2) 0)))], .cells [.d (.int .i64 r1)], .cells [.d (.int .i64 r2)], .cells [.d (.list true 4 r3)], .cells [.ptr (.ext 5) 0], .cells [.ow (.loc 0)], .gone] [.tree .row false 1 r4 none] | .inr (r1, r2, r3) => Q (.t []) [.rndX none, .cells [.d (.int .i64 r1)], .cells [.d (.int .i64 0)], .cells [.d (.list true 4 r2)], .cells [.ptr (.ext 5) 0], .cells [.ow (.loc 0)], .gone] [.tree .row false 1 r3 none]) →
    TripK Tryd.prog inv 80 [.c (.yl (.ext 0)), .c (.ptr (.ext 3) 0), .c (.ptr (.ext 4) 0)] [.rnd rf42_0 [(2, .v (.c (.ptr (.ext 1) 0))), (3, .v (.c (.ptr (.ext 2) 0)))], .cells [.d (.int .i64 z1)], .cells [.d (.int .i64 z2)], .cells [.d (.list true 4 l3)], .cells [.ptr (.ext 5) 0], .cells [.ow (.ext 6)], .tree .row false 1 l4 none] Q := by
  intro z1 z2 l3 l4 r h Q hQ
  unfold F80 at h
  refine TripK.of tab_ok tab_one fol Tryd.func80 rfl (by kernel_rfl) rfl rfl rfl (fun M hM hI => ?_)
  try cbv
  refine seq_go ?_
  try cbv
  replace h := lenF_inv M h
  obtain ⟨z5, hz, h⟩ := h
  refine ⟨z5, hz, ?_⟩
  clear hz
  try cbv
  refine loop_invG (T := Nat × Int × List D) [.move (.ext 6)] [] [0, 2, 6, 7, 8] [.ext 0, .ext 1, .ext 2, .ext 3, .ext 4, .ext 5, .ext 6, .loc 96] 128 (fun t => ⟨[(0, .v (.c (.yl (.ext 0)))), (2, .v (.c (.ptr (.ext 4) 0))), (6, .v (.d (.list true 4 l3))), (7, .v (.d (.int .i64 z5))), (8, .v (.d (.int .i64 t.2.1)))], [(.ext 0, .rnd rf42_0 [(2, .v (.c (.ptr (.ext 1) 0))), (3, .v (.c (.ptr (.ext 2) 0)))]), (.ext 1, .cells [.d (.int .i64 z1)]), (.ext 2, .cells [.d (.int .i64 z2)]), (.ext 3, .cells [.d (.list true 4 l3)]), (.ext 4, .cells [.ptr (.ext 5) 0]), (.ext 5, .cells [.ow (.loc 96)]), (.ext 6, .gone), (.loc 96, .tree .row false 1 t.2.2 none)], 128⟩)
    (fun t => t.1 ≤ n ∧ L80_1 t.1 z1 z2 l3 z5 t.2.1 t.2.2 = some r) (fun t => t.1) (n, ((0 : Int), l4)) ⟨Nat.le_refl _, h⟩ (by cbv) ?_
  clear h
  rintro ⟨m1, z6, l7⟩ ⟨hm1, h⟩
  replace hm1 : m1 ≤ n := hm1
  cases m1 with
  | zero =>
    replace h : L80_1 0 z1 z2 l3 z5 z6 l7 = some r := h
    rw [L80_1] at h
    cases h
  | succ m1 =>
    replace h : L80_1 (m1 + 1) z1 z2 l3 z5 z6 l7 = some r := h
    rw [L80_1] at h
    try cbv
    refine seq_join (T := Nat × Bool) (fun t => ⟨[(0, .v (.c (.yl (.ext 0)))), (2, .v (.c (.ptr (.ext 4) 0))), (6, .v (.d (.list true 4 l3))), (7, .v (.d (.int .i64 z5))), (8, .v (.d (.int .i64 z6))), (9, .v (.d (.bool t.2)))], [(.ext 0, .rnd rf42_0 [(2, .v (.c (.ptr (.ext 1) 0))), (3, .v (.c (.ptr (.ext 2) 0)))]), (.ext 1, .cells [.d (.int .i64 z1)]), (.ext 2, .cells [.d (.int .i64 z2)]), (.ext 3, .cells [.d (.list true 4 l3)]), (.ext 4, .cells [.ptr (.ext 5) 0]), (.ext 5, .cells [.ow (.loc 96)]), (.ext 6, .gone), (.loc 96, .tree .row false 1 l7 none)], 160⟩) (fun t => t.1 ≤ m1 ∧ L80_2 t.1 z1 z2 l3 z5 z6 l7 t.2 = some r) ?_ ?_
    · try cbv
      refine splitL (fun e => ?_) (fun e => ?_)
      · replace h := ite_t e h
        clear e
        try cbv
        exact join_next (m1, true) [0, 2, 6, 7, 8, 9] [.ext 0, .ext 1, .ext 2, .ext 3, .ext 4, .ext 5, .ext 6, .loc 96] 160 ⟨by omega, h⟩ (by cbv)
      · replace h := ite_f (Int.not_lt.2 e) h
        clear e
        try cbv
        exact join_next (m1, false) [0, 2, 6, 7, 8, 9] [.ext 0, .ext 1, .ext 2, .ext 3, .ext 4, .ext 5, .ext 6, .loc 96] 160 ⟨by omega, h⟩ (by cbv)
    · clear h
      rintro ⟨m2, b8⟩ ⟨hm2, h⟩
      replace hm2 : m2 ≤ m1 := hm2
      cases m2 with
      | zero =>
        replace h : L80_2 0 z1 z2 l3 z5 z6 l7 b8 = some r := h
        rw [L80_2] at h
        cases h
      | succ m2 =>
        replace h : L80_2 (m2 + 1) z1 z2 l3 z5 z6 l7 b8 = some r := h
        rw [L80_2] at h
        try cbv
        refine seq_go ?_
        try cbv
        cases b8
        · replace h := ite_f Bool.false_ne_true h
          try cbv
          obtain rfl := Option.some.inj h
          refine finQ_go hQ ?_
          try cbv
          exact ⟨[.loc 96], rfl, rfl, ⟨rfl, ⟨rfl, ⟨rfl, ⟨rfl, ⟨rfl, ⟨rfl, trivial⟩⟩⟩⟩⟩⟩, ⟨rfl, trivial⟩, trivial⟩
        · replace h := ite_t rfl h
          try cbv
          refine seq_go ?_
          try cbv
          refine seq_go ?_
          try cbv
          replace h := getF_inv h
          obtain ⟨x9, ⟨hx0, hx⟩, h⟩ := h
          refine ⟨x9, hx0, hx, ?_⟩
          clear hx0 hx
          replace h := ds_t32_inv h
          obtain ⟨z10, z11, z12, l13, rfl, h⟩ := h
          try cbv
          refine seq_go ?_
          try cbv
          refine splitLe (fun e => ?_) (fun e => ?_)
          · replace h := ite_t e h
            clear e
            try cbv
            replace h := bO1_inv h
            obtain ⟨z14, hr, h⟩ := h
            refine yl_with hM hI [.ext 1, .ext 2] (sl0 := [(2, .v (.c (.ptr (.ext 0) 0))), (3, .v (.c (.ptr (.ext 1) 0)))]) rfl rfl rfl rfl (T42r0 _ hr) rfl rfl rfl (by simp) ⟨rfl, ⟨rfl, trivial⟩⟩ ⟨trivial, ⟨trivial, trivial⟩⟩ (by simp) ?_
            clear hr
            try cbv
            refine ⟨true, rfl, ?_⟩
            try cbv
            obtain rfl := Option.some.inj h
            refine finQ_go hQ ?_
            try cbv
            exact ⟨[.loc 96], rfl, rfl, ⟨rfl, ⟨rfl, ⟨rfl, ⟨rfl, ⟨rfl, ⟨rfl, trivial⟩⟩⟩⟩⟩⟩, ⟨rfl, trivial⟩, trivial⟩
          · replace h := ite_f (Int.not_le.2 e) h
            clear e
            try cbv
            replace h := bS_inv h
            rcases h with ⟨p20, hr, h⟩ | ⟨l19, hr, h⟩
            · replace h := bO2_inv h
              obtain ⟨b15, l16, hp, h⟩ := h
              obtain rfl := Option.some.inj hp
              clear hp
              refine call_go rfl rfl ?_
              try cbv
              refine call_with hM hI [.ext 5, .loc 96] (T81 _ hr (fun r p n => r = .v (.d (.bool b15)) ∧ p = [.cells [.ow (.ext 1)], .tree .row false 1 l16 none] ∧ n = []) ⟨rfl, rfl, rfl⟩ : Trip _ _ _ _ _ (.v (.d (.bool b15))) [.cells [.ow (.ext 1)], .tree .row false 1 l16 none] []) rfl (by simp) ⟨rfl, ⟨rfl, trivial⟩⟩ ⟨trivial, ⟨trivial, trivial⟩⟩ (by simp) ?_
              clear hr
              try cbv
              replace h := letB_inv h
              obtain ⟨b17, hz, h⟩ := h
              refine ⟨b17, not_eq' hz, ?_⟩
              clear hz
              try cbv
              cases b17
              · replace h := ite_f Bool.false_ne_true h
                try cbv
                replace h := letF_inv h
                obtain ⟨z22, hz, h⟩ := h
                refine ⟨z22, hz, ?_⟩
                clear hz
                try cbv
                refine loop_nextG (m2, (z22, l16)) [] [] [0, 2, 6, 7, 8] [.ext 0, .ext 1, .ext 2, .ext 3, .ext 4, .ext 5, .ext 6, .loc 96] 128 ⟨by omega, h⟩ (Nat.lt_succ_of_le (by omega)) ?_
                try cbv
              · replace h := ite_t rfl h
                try cbv
                replace h := bO1_inv h
                obtain ⟨z18, hr, h⟩ := h
                refine yl_with hM hI [.ext 1, .ext 2] (sl0 := [(2, .v (.c (.ptr (.ext 0) 0))), (3, .v (.c (.ptr (.ext 1) 0)))]) rfl rfl rfl rfl (T42r0 _ hr) rfl rfl rfl (by simp) ⟨rfl, ⟨rfl, trivial⟩⟩ ⟨trivial, ⟨trivial, trivial⟩⟩ (by simp) ?_
                clear hr
                try cbv
                refine ⟨true, rfl, ?_⟩
                try cbv
                obtain rfl := Option.some.inj h
                refine finQ_go hQ ?_
                try cbv
                exact ⟨[.loc 96], rfl, rfl, ⟨rfl, ⟨rfl, ⟨rfl, ⟨rfl, ⟨rfl, ⟨rfl, trivial⟩⟩⟩⟩⟩⟩, ⟨rfl, trivial⟩, trivial⟩
            · refine call_go rfl rfl ?_
              try cbv
              refine call_with hM hI [.ext 5, .loc 96] (T81 _ hr (fun r p n => r = .v (.d (.bool true)) ∧ p = [.cells [.ow (.loc 0)], .gone] ∧ n = [.tree .row false 1 l19 none]) ⟨rfl, rfl, rfl⟩ : Trip _ _ _ _ _ (.v (.d (.bool true))) [.cells [.ow (.loc 0)], .gone] [.tree .row false 1 l19 none]) rfl (by simp) ⟨rfl, ⟨rfl, trivial⟩⟩ ⟨trivial, ⟨trivial, trivial⟩⟩ (by simp) ?_
              clear hr
              try cbv
              refine ⟨false, rfl, ?_⟩
              try cbv
              replace h := letF_inv h
              obtain ⟨z23, hz, h⟩ := h
              refine ⟨z23, hz, ?_⟩
              clear hz
              try cbv
              refine loop_nextG (m2, (z23, l19)) [] [(512, 96)] [0, 2, 6, 7, 8] [.ext 0, .ext 1, .ext 2, .ext 3, .ext 4, .ext 5, .ext 6, .loc 512] 128 ⟨by omega, h⟩ (Nat.lt_succ_of_le (by omega)) ?_
              try cbv
end Go.Proofs.YtjobleemmjjocaaDoor
end

set_option linter.unusedVariables false
noncomputable section
namespace Go.Proofs.YtjobleemmjjocaaDoor
open Go Go.AM
def F42 (n : Nat) (l1 : List D) : Option (Int × Int) :=
  letL [.bool false] fun l2 => bO2 (F69 n l1 l2) fun l3 l4 => bS (F80 n (0 : Int) (0 : Int) l4 l3) (fun p12 => bO4 (some p12) fun z5 z6 l7 l8 => lenF l8 fun z14 => some ((-1 : Int), z14)) (fun p13 => bO3 (some p13) fun z9 l10 l11 => some (z9, (0 : Int)))
set_option maxRecDepth 100000 in
set_option maxHeartbeats 40000000 in
theorem T42 (n : Nat) : ∀ ⦃l1 : List D⦄ ⦃r1 : Int⦄ ⦃r2 : Int⦄, F42 n l1 = some (r1, r2) →
    Trip Tryd.prog inv 42 [.d (.list true 4 l1)] [] (.t [.d (.int .i64 r1), .d (.int .i64 r2)]) [] [] := by
  intro l1 r1 r2 h
  unfold F42 at h
  refine Trip.of tab_ok tab_one fol Tryd.func42 rfl (by kernel_rfl) rfl rfl rfl (fun M hM hI => ?_)
  try cbv
  refine seq_go ?_
  try cbv
  refine seq_go ?_
  try cbv
  refine ⟨true, ?_⟩
  try cbv
  refine ⟨[], ?_⟩
  try cbv
  replace h := letL_inv h
  obtain ⟨l2, hz, h⟩ := h
  refine ⟨l2, hz, ?_⟩
  clear hz
  try cbv
  refine seq_go ?_
  try cbv
  refine seq_go ?_
  try cbv
  replace h := bO2_inv h
  obtain ⟨l3, l4, hr, h⟩ := h
  refine call_go rfl rfl ?_
  try cbv
  refine call_with hM hI [.loc 128, .loc 64] (T69 _ hr) rfl (by simp) ⟨rfl, ⟨rfl, trivial⟩⟩ ⟨trivial, ⟨trivial, trivial⟩⟩ (by simp) ?_
  clear hr
  try cbv
  replace h := bS_inv h
  rcases h with ⟨p12, hr, h⟩ | ⟨p13, hr, h⟩
  · replace h := bO4_inv h
    obtain ⟨z5, z6, l7, l8, hp, h⟩ := h
    obtain rfl := Option.some.inj hp
    clear hp
    refine range_with hM hI [.loc 288, .loc 0, .loc 32, .loc 256, .loc 257, .loc 128, .loc 64] [(2, .v (.c (.ptr (.loc 0) 0))), (3, .v (.c (.ptr (.loc 32) 0)))] rfl ⟨rfl, ⟨rfl, trivial⟩⟩ (T80 _ hr (fun r p n => r = .t [] ∧ p = [.rnd rf42_0 [(2, .v (.c (.ptr (.ext 1) 0))), (3, .v (.c (.ptr (.ext 2) 0)))], .cells [.d (.int .i64 z5)], .cells [.d (.int .i64 z6)], .cells [.d (.list true 4 l7)], .cells [.ptr (.ext 5) 0], .cells [.ow (.loc 0)], .gone] ∧ n = [.tree .row false 1 l8 none]) ⟨rfl, rfl, rfl⟩ : Trip _ _ _ _ _ (.t []) [.rnd rf42_0 [(2, .v (.c (.ptr (.ext 1) 0))), (3, .v (.c (.ptr (.ext 2) 0)))], .cells [.d (.int .i64 z5)], .cells [.d (.int .i64 z6)], .cells [.d (.list true 4 l7)], .cells [.ptr (.ext 5) 0], .cells [.ow (.loc 0)], .gone] [.tree .row false 1 l8 none]) rfl (by simp) ⟨rfl, ⟨rfl, ⟨rfl, ⟨rfl, ⟨rfl, ⟨rfl, ⟨rfl, trivial⟩⟩⟩⟩⟩⟩⟩ ⟨trivial, ⟨trivial, ⟨trivial, ⟨trivial, ⟨trivial, ⟨trivial, ⟨trivial, trivial⟩⟩⟩⟩⟩⟩⟩ (by simp) ?_
    clear hr
    try cbv
    refine seq_go ?_
    try cbv
    replace h := lenF_inv M h
    obtain ⟨z14, hz, h⟩ := h
    refine ⟨false, ?_⟩
    try cbv
    refine ⟨z14, hz, ?_⟩
    clear hz
    try cbv
    refine drawn ?_ ?_
    · show _ = true
      kernel_rfl
    try cbv
    obtain ⟨rfl, rfl⟩ := inj2 h
    refine fin_go ?_
    try cbv
    exact ⟨[], rfl, rfl, trivial, trivial, trivial⟩
  · replace h := bO3_inv h
    obtain ⟨z9, l10, l11, hp, h⟩ := h
    obtain rfl := Option.some.inj hp
    clear hp
    refine range_with hM hI [.loc 288, .loc 0, .loc 32, .loc 256, .loc 257, .loc 128, .loc 64] [(2, .v (.c (.ptr (.loc 0) 0))), (3, .v (.c (.ptr (.loc 32) 0)))] rfl ⟨rfl, ⟨rfl, trivial⟩⟩ (T80 _ hr (fun r p n => r = .t [] ∧ p = [.rndX none, .cells [.d (.int .i64 z9)], .cells [.d (.int .i64 0)], .cells [.d (.list true 4 l10)], .cells [.ptr (.ext 5) 0], .cells [.ow (.loc 0)], .gone] ∧ n = [.tree .row false 1 l11 none]) ⟨rfl, rfl, rfl⟩ : Trip _ _ _ _ _ (.t []) [.rndX none, .cells [.d (.int .i64 z9)], .cells [.d (.int .i64 0)], .cells [.d (.list true 4 l10)], .cells [.ptr (.ext 5) 0], .cells [.ow (.loc 0)], .gone] [.tree .row false 1 l11 none]) rfl (by simp) ⟨rfl, ⟨rfl, ⟨rfl, ⟨rfl, ⟨rfl, ⟨rfl, ⟨rfl, trivial⟩⟩⟩⟩⟩⟩⟩ ⟨trivial, ⟨trivial, ⟨trivial, ⟨trivial, ⟨trivial, ⟨trivial, ⟨trivial, trivial⟩⟩⟩⟩⟩⟩⟩ (by simp) ?_
    clear hr
    try cbv
    obtain ⟨rfl, rfl⟩ := inj2 h
    refine fin_go ?_
    try cbv
    exact ⟨[], rfl, rfl, trivial, trivial, trivial⟩
end Go.Proofs.YtjobleemmjjocaaDoor
end

set_option linter.unusedVariables false
noncomputable section
namespace Go.Proofs.YtjobleemmjjocaaDoor
open Go Go.AM
def F19 (n : Nat) (l1 : List D) : Option (Int) :=
  bO2 (F42 n l1) fun z2 z3 => some z2
set_option maxRecDepth 100000 in
set_option maxHeartbeats 40000000 in
theorem T19 (n : Nat) : ∀ ⦃l1 : List D⦄ ⦃r1 : Int⦄, F19 n l1 = some r1 →
    Trip Tryd.prog inv 19 [.d (.list true 4 l1)] [] (.v (.d (.int .i64 r1))) [] [] := by
  intro l1 r1 h
  unfold F19 at h
  refine Trip.of tab_ok tab_one fol Tryd.func19 rfl (by kernel_rfl) rfl rfl rfl (fun M hM hI => ?_)
  try cbv
  refine seq_go ?_
  try cbv
  refine seq_go ?_
  try cbv
  replace h := bO2_inv h
  obtain ⟨z2, z3, hr, h⟩ := h
  refine call_go rfl rfl ?_
  try cbv
  refine call_pure hM hI (T42 _ hr) rfl ?_
  clear hr
  try cbv
  refine seq_go ?_
  try cbv
  obtain rfl := Option.some.inj h
  refine fin_go ?_
  try cbv
  exact ⟨[], rfl, rfl, trivial, trivial, trivial⟩
end Go.Proofs.YtjobleemmjjocaaDoor
end

set_option linter.unusedVariables false
noncomputable section
namespace Go.Proofs.YtjobleemmjjocaaDoor
open Go Go.AM
def F20 (n : Nat) (l1 : List D) : Option (Int) :=
  bO2 (F42 n l1) fun z2 z3 => some z3
set_option maxRecDepth 100000 in
set_option maxHeartbeats 40000000 in
theorem T20 (n : Nat) : ∀ ⦃l1 : List D⦄ ⦃r1 : Int⦄, F20 n l1 = some r1 →
    Trip Tryd.prog inv 20 [.d (.list true 4 l1)] [] (.v (.d (.int .i64 r1))) [] [] := by
  intro l1 r1 h
  unfold F20 at h
  refine Trip.of tab_ok tab_one fol Tryd.func20 rfl (by kernel_rfl) rfl rfl rfl (fun M hM hI => ?_)
  try cbv
  refine seq_go ?_
  try cbv
  refine seq_go ?_
  try cbv
  replace h := bO2_inv h
  obtain ⟨z2, z3, hr, h⟩ := h
  refine call_go rfl rfl ?_
  try cbv
  refine call_pure hM hI (T42 _ hr) rfl ?_
  clear hr
  try cbv
  refine seq_go ?_
  try cbv
  obtain rfl := Option.some.inj h
  refine fin_go ?_
  try cbv
  exact ⟨[], rfl, rfl, trivial, trivial, trivial⟩
end Go.Proofs.YtjobleemmjjocaaDoor
end

set_option linter.unusedVariables false
noncomputable section
namespace Go.Proofs.YtjobleemmjjocaaDoor
open Go Go.AM
def L21_1 : Nat → Bool → Option (Int)
  | 0, _ => none
  | n + 1, b3 =>
    (if b3 = true then some (250 : Int) else some (0 : Int))
def F21 (n : Nat) (l1 : List D) : Option (Int) :=
  bO1 (F19 n l1) fun z2 => (if (0 : Int) ≤ z2 then L21_1 n true else L21_1 n false)
set_option maxRecDepth 100000 in
set_option maxHeartbeats 40000000 in
theorem T21 (n : Nat) : ∀ ⦃l1 : List D⦄ ⦃r1 : Int⦄, F21 n l1 = some r1 →
    Trip Tryd.prog inv 21 [.d (.list true 4 l1)] [] (.v (.d (.int .i64 r1))) [] [] := by
  intro l1 r1 h
  unfold F21 at h
  refine Trip.of tab_ok tab_one fol Tryd.func21 rfl (by kernel_rfl) rfl rfl rfl (fun M hM hI => ?_)
  try cbv
  refine seq_go ?_
  try cbv
  refine seq_go ?_
  try cbv
  refine seq_join (T := Nat × Bool) (fun t => ⟨[(2, .v (.d (.int .i64 0))), (5, .v (.d (.bool t.2)))], [], 128⟩) (fun t => t.1 ≤ n ∧ L21_1 t.1 t.2 = some r1) ?_ ?_
  · try cbv
    replace h := bO1_inv h
    obtain ⟨z2, hr, h⟩ := h
    refine call_go rfl rfl ?_
    try cbv
    refine call_pure hM hI (T19 _ hr) rfl ?_
    clear hr
    try cbv
    refine splitLe (fun e => ?_) (fun e => ?_)
    · replace h := ite_t e h
      clear e
      try cbv
      exact join_next (n, true) [2, 5] [] 128 ⟨by omega, h⟩ (by cbv)
    · replace h := ite_f (Int.not_le.2 e) h
      clear e
      try cbv
      exact join_next (n, false) [2, 5] [] 128 ⟨by omega, h⟩ (by cbv)
  · clear h
    rintro ⟨m1, b3⟩ ⟨hm1, h⟩
    replace hm1 : m1 ≤ n := hm1
    cases m1 with
    | zero =>
      replace h : L21_1 0 b3 = some r1 := h
      rw [L21_1] at h
      cases h
    | succ m1 =>
      replace h : L21_1 (m1 + 1) b3 = some r1 := h
      rw [L21_1] at h
      try cbv
      cases b3
      · replace h := ite_f Bool.false_ne_true h
        try cbv
        refine seq_go ?_
        try cbv
        obtain rfl := Option.some.inj h
        refine fin_go ?_
        try cbv
        exact ⟨[], rfl, rfl, trivial, trivial, trivial⟩
      · replace h := ite_t rfl h
        try cbv
        refine seq_go ?_
        try cbv
        obtain rfl := Option.some.inj h
        refine fin_go ?_
        try cbv
        exact ⟨[], rfl, rfl, trivial, trivial, trivial⟩
end Go.Proofs.YtjobleemmjjocaaDoor
end

set_option linter.unusedVariables false
noncomputable section
namespace Go.Proofs.YtjobleemmjjocaaDoor
open Go Go.AM
def F43 (n : Nat) : Option (Unit) :=
  some ()
set_option maxRecDepth 100000 in
set_option maxHeartbeats 40000000 in
theorem T43 (n : Nat) : F43 n = some () →
    Trip Tryd.prog inv 43 [] [] (.v (.d (.agg [.str k__, .str k_read, .str k_write, .str k_free, .str k_atomic, .str k_acquire, .str k_release, .str k_spawn, .str k_join, .str k_end]))) [] [] := by
  intro h
  unfold F43 at h
  refine Trip.of tab_ok tab_one fol Tryd.func43 rfl (by kernel_rfl) rfl rfl rfl (fun M hM hI => ?_)
  try cbv
  refine seq_go ?_
  try cbv
  refine seq_go ?_
  try cbv
  skip
  refine fin_go ?_
  try cbv
  exact ⟨[], rfl, rfl, trivial, trivial, trivial⟩
end Go.Proofs.YtjobleemmjjocaaDoor
end

set_option linter.unusedVariables false
noncomputable section
namespace Go.Proofs.YtjobleemmjjocaaDoor
open Go Go.AM
mutual
def L23_3 : Nat → (List D) → Int → ByteArray → Int → Option (ByteArray)
  | 0, _, _, _, _ => none
  | n + 1, l4, z16, s17, z18 =>
    (if z18 < z16 then L23_4 n l4 z16 s17 z18 true else L23_4 n l4 z16 s17 z18 false)
def L23_4 : Nat → (List D) → Int → ByteArray → Int → Bool → Option (ByteArray)
  | 0, _, _, _, _, _ => none
  | n + 1, l4, z16, s17, z18, b19 =>
    (if b19 = true then getF l4 z18 fun x20 => ds_i64 x20 fun z21 => bO1 (F44 n z21) fun s22 => catF k___2 s22 fun s23 => catF s17 s23 fun s24 => letF (IntKind.wrap .i64 (z18 + 1)) fun z25 => L23_3 n l4 z16 s24 z25 else some s17)
end
def L23_2 : Nat → Int → Int → (List D) → ByteArray → Option (ByteArray)
  | 0, _, _, _, _ => none
  | n + 1, z2, z3, l4, s9 =>
    bO1 (F44 n z2) fun s10 => catF s10 k___1 fun s11 => catF s11 s9 fun s12 => catF s12 k___1 fun s13 => bO1 (F44 n z3) fun s14 => catF s13 s14 fun s15 => lenF l4 fun z16 => L23_3 n l4 z16 s15 (0 : Int)
def L23_1 : Nat → Int → Int → Int → (List D) → Bool → Option (ByteArray)
  | 0, _, _, _, _, _ => none
  | n + 1, z1, z2, z3, l4, b6 =>
    (if b6 = true then needF (0 ≤ z1 ∧ z1 < 10) (getF [.agg [.str k__], .agg [.str k_read], .agg [.str k_write], .agg [.str k_free], .agg [.str k_atomic], .agg [.str k_acquire], .agg [.str k_release], .agg [.str k_spawn], .agg [.str k_join], .agg [.str k_end]] z1 fun x8 => ds_w3 x8 fun s7 => L23_2 n z2 z3 l4 s7) else L23_2 n z2 z3 l4 k__)
def F23 (n : Nat) (z1 : Int) (z2 : Int) (z3 : Int) (l4 : List D) : Option (ByteArray) :=
  bO0 (F43 n) (letF (IntKind.wrap .i64 z1) fun z5 => (if z5 < (10 : Int) then L23_1 n z1 z2 z3 l4 true else L23_1 n z1 z2 z3 l4 false))
set_option maxRecDepth 100000 in
set_option maxHeartbeats 40000000 in
theorem T23 (n : Nat) : ∀ ⦃z1 : Int⦄ ⦃z2 : Int⦄ ⦃z3 : Int⦄ ⦃l4 : List D⦄ ⦃r1 : ByteArray⦄, F23 n z1 z2 z3 l4 = some r1 →
    Trip Tryd.prog inv 23 [.d (.agg [.int .u8 z1, .int .i64 z2, .int .i64 z3, .list false 1 l4])] [] (.v (.d (.str r1))) [] [] := by
  intro z1 z2 z3 l4 r1 h
  unfold F23 at h
  refine Trip.of tab_ok tab_one fol Tryd.func23 rfl (by kernel_rfl) rfl rfl rfl (fun M hM hI => ?_)
  try cbv
  refine seq_go ?_
  try cbv
  refine seq_go ?_
  try cbv
  replace h := bO0_inv h
  obtain ⟨hr, h⟩ := h
  refine call_go rfl rfl ?_
  try cbv
  refine call_pure hM hI (T43 _ hr) rfl ?_
  clear hr
  try cbv
  refine seq_go ?_
  try cbv
  refine seq_join (T := Nat × ByteArray) (fun t => ⟨[(1, .v (.c (.ptr (.loc 0) 0))), (2, .v (.d (.str ByteArray.empty))), (4, .v (.d (.str t.2)))], [(.loc 0, .cells [.d (.int .u8 z1), .d (.int .i64 z2), .d (.int .i64 z3), .d (.list false 1 l4)])], 480⟩) (fun t => t.1 ≤ n ∧ L23_2 t.1 z2 z3 l4 t.2 = some r1) ?_ ?_
  · try cbv
    refine seq_join (T := Nat × Bool) (fun t => ⟨[(1, .v (.c (.ptr (.loc 0) 0))), (2, .v (.d (.str ByteArray.empty))), (3, .v (.c (.ptr (.loc 96) 0))), (4, .v (.d (.str k__))), (12, .v (.d (.bool t.2)))], [(.loc 0, .cells [.d (.int .u8 z1), .d (.int .i64 z2), .d (.int .i64 z3), .d (.list false 1 l4)]), (.loc 96, .cells [.d (.str k__), .d (.str k_read), .d (.str k_write), .d (.str k_free), .d (.str k_atomic), .d (.str k_acquire), .d (.str k_release), .d (.str k_spawn), .d (.str k_join), .d (.str k_end)])], 320⟩) (fun t => t.1 ≤ n ∧ L23_1 t.1 z1 z2 z3 l4 t.2 = some r1) ?_ ?_
    · try cbv
      replace h := letF_inv h
      obtain ⟨z5, hz, h⟩ := h
      refine ⟨z5, hz, ?_⟩
      clear hz
      try cbv
      refine splitL (fun e => ?_) (fun e => ?_)
      · replace h := ite_t e h
        clear e
        try cbv
        exact join_next (n, true) [1, 2, 3, 4, 12] [.loc 0, .loc 96] 320 ⟨by omega, h⟩ (by cbv)
      · replace h := ite_f (Int.not_lt.2 e) h
        clear e
        try cbv
        exact join_next (n, false) [1, 2, 3, 4, 12] [.loc 0, .loc 96] 320 ⟨by omega, h⟩ (by cbv)
    · clear h
      rintro ⟨m1, b6⟩ ⟨hm1, h⟩
      replace hm1 : m1 ≤ n := hm1
      cases m1 with
      | zero =>
        replace h : L23_1 0 z1 z2 z3 l4 b6 = some r1 := h
        rw [L23_1] at h
        cases h
      | succ m1 =>
        replace h : L23_1 (m1 + 1) z1 z2 z3 l4 b6 = some r1 := h
        rw [L23_1] at h
        try cbv
        cases b6
        · replace h := ite_f Bool.false_ne_true h
          try cbv
          exact join_next (m1, k__) [1, 2, 4] [.loc 0] 480 ⟨by omega, h⟩ (by cbv)
        · replace h := ite_t rfl h
          try cbv
          replace h := needF_inv h
          obtain ⟨hn, h⟩ := h
          refine ⟨hn.1, hn.2, false, ?_⟩
          clear hn
          try cbv
          replace h := getF_inv h
          obtain ⟨x8, ⟨hx0, hx⟩, h⟩ := h
          replace h := ds_w3_inv h
          obtain ⟨s7, rfl, h⟩ := h
          refine ⟨10, _, rfl, hx, ?_⟩
          clear hx0 hx
          try cbv
          exact join_next (m1, s7) [1, 2, 4] [.loc 0] 480 ⟨by omega, h⟩ (by cbv)
  · clear h
    rintro ⟨m2, s9⟩ ⟨hm2, h⟩
    replace hm2 : m2 ≤ n := hm2
    cases m2 with
    | zero =>
      replace h : L23_2 0 z2 z3 l4 s9 = some r1 := h
      rw [L23_2] at h
      cases h
    | succ m2 =>
      replace h : L23_2 (m2 + 1) z2 z3 l4 s9 = some r1 := h
      rw [L23_2] at h
      try cbv
      refine seq_go ?_
      try cbv
      replace h := bO1_inv h
      obtain ⟨s10, hr, h⟩ := h
      first | refine .inr ⟨[], ?_⟩ | refine ⟨[], ?_⟩
      try cbv
      refine call_pure hM hI (T44 _ hr) rfl ?_
      clear hr
      try cbv
      replace h := catF_inv h
      obtain ⟨s11, hz, hb, h⟩ := h
      refine ⟨s11, hz, hb, ?_⟩
      clear hb hz
      try cbv
      replace h := catF_inv h
      obtain ⟨s12, hz, hb, h⟩ := h
      refine ⟨s12, hz, hb, ?_⟩
      clear hb hz
      try cbv
      replace h := catF_inv h
      obtain ⟨s13, hz, hb, h⟩ := h
      refine ⟨s13, hz, hb, ?_⟩
      clear hb hz
      try cbv
      replace h := bO1_inv h
      obtain ⟨s14, hr, h⟩ := h
      first | refine .inr ⟨[], ?_⟩ | refine ⟨[], ?_⟩
      try cbv
      refine call_pure hM hI (T44 _ hr) rfl ?_
      clear hr
      try cbv
      replace h := catF_inv h
      obtain ⟨s15, hz, hb, h⟩ := h
      refine ⟨s15, hz, hb, ?_⟩
      clear hb hz
      try cbv
      refine drawn ?_ ?_
      · show _ = true
        kernel_rfl
      try cbv
      refine seq_go ?_
      try cbv
      refine seq_go ?_
      try cbv
      replace h := lenF_inv M h
      obtain ⟨z16, hz, h⟩ := h
      refine ⟨z16, hz, ?_⟩
      clear hz
      try cbv
      refine loop_inv (T := Nat × ByteArray × Int) [2, 5, 29, 30, 31] [] 992 (fun t => ⟨[(2, .v (.d (.str ByteArray.empty))), (5, .v (.d (.str t.2.1))), (29, .v (.d (.list false 1 l4))), (30, .v (.d (.int .i64 z16))), (31, .v (.d (.int .i64 t.2.2)))], [], 992⟩)
        (fun t => t.1 ≤ m2 ∧ L23_3 t.1 l4 z16 t.2.1 t.2.2 = some r1) (fun t => t.1) (m2, (s15, (0 : Int))) ⟨Nat.le_refl _, h⟩ (by cbv) ?_
      clear h
      rintro ⟨m3, s17, z18⟩ ⟨hm3, h⟩
      replace hm3 : m3 ≤ m2 := hm3
      cases m3 with
      | zero =>
        replace h : L23_3 0 l4 z16 s17 z18 = some r1 := h
        rw [L23_3] at h
        cases h
      | succ m3 =>
        replace h : L23_3 (m3 + 1) l4 z16 s17 z18 = some r1 := h
        rw [L23_3] at h
        try cbv
        refine seq_join (T := Nat × Bool) (fun t => ⟨[(2, .v (.d (.str ByteArray.empty))), (5, .v (.d (.str s17))), (29, .v (.d (.list false 1 l4))), (30, .v (.d (.int .i64 z16))), (31, .v (.d (.int .i64 z18))), (32, .v (.d (.bool t.2)))], [], 1024⟩) (fun t => t.1 ≤ m3 ∧ L23_4 t.1 l4 z16 s17 z18 t.2 = some r1) ?_ ?_
        · try cbv
          refine splitL (fun e => ?_) (fun e => ?_)
          · replace h := ite_t e h
            clear e
            try cbv
            exact join_next (m3, true) [2, 5, 29, 30, 31, 32] [] 1024 ⟨by omega, h⟩ (by cbv)
          · replace h := ite_f (Int.not_lt.2 e) h
            clear e
            try cbv
            exact join_next (m3, false) [2, 5, 29, 30, 31, 32] [] 1024 ⟨by omega, h⟩ (by cbv)
        · clear h
          rintro ⟨m4, b19⟩ ⟨hm4, h⟩
          replace hm4 : m4 ≤ m3 := hm4
          cases m4 with
          | zero =>
            replace h : L23_4 0 l4 z16 s17 z18 b19 = some r1 := h
            rw [L23_4] at h
            cases h
          | succ m4 =>
            replace h : L23_4 (m4 + 1) l4 z16 s17 z18 b19 = some r1 := h
            rw [L23_4] at h
            try cbv
            refine seq_go ?_
            try cbv
            cases b19
            · replace h := ite_f Bool.false_ne_true h
              try cbv
              refine seq_go ?_
              try cbv
              obtain rfl := Option.some.inj h
              refine fin_go ?_
              try cbv
              exact ⟨[], rfl, rfl, trivial, trivial, trivial⟩
            · replace h := ite_t rfl h
              try cbv
              refine seq_go ?_
              try cbv
              refine seq_go ?_
              try cbv
              replace h := getF_inv h
              obtain ⟨x20, ⟨hx0, hx⟩, h⟩ := h
              refine ⟨x20, hx0, hx, ?_⟩
              clear hx0 hx
              replace h := ds_i64_inv h
              obtain ⟨z21, rfl, h⟩ := h
              try cbv
              replace h := bO1_inv h
              obtain ⟨s22, hr, h⟩ := h
              refine call_go rfl rfl ?_
              try cbv
              refine call_pure hM hI (T44 _ hr) rfl ?_
              clear hr
              try cbv
              replace h := catF_inv h
              obtain ⟨s23, hz, hb, h⟩ := h
              refine ⟨s23, hz, hb, ?_⟩
              clear hb hz
              try cbv
              replace h := catF_inv h
              obtain ⟨s24, hz, hb, h⟩ := h
              refine ⟨s24, hz, hb, ?_⟩
              clear hb hz
              try cbv
              replace h := letF_inv h
              obtain ⟨z25, hz, h⟩ := h
              refine ⟨z25, hz, ?_⟩
              clear hz
              try cbv
              exact loop_next (m4, (s24, z25)) [2, 5, 29, 30, 31] [] 992 ⟨by omega, h⟩ (Nat.lt_succ_of_le (by omega)) (by cbv)
end Go.Proofs.YtjobleemmjjocaaDoor
end

set_option linter.unusedVariables false
noncomputable section
namespace Go.Proofs.YtjobleemmjjocaaDoor
open Go Go.AM
def F26 (n : Nat) (z1 : Int) (z2 : Int) (z3 : Int) (l4 : List D) : Option (Bool) :=
  (if z1 = (1 : Int) then some true else (if z1 = (2 : Int) then some true else (if z1 = (4 : Int) then some true else (if z1 = (3 : Int) then some true else some false))))
set_option maxRecDepth 100000 in
set_option maxHeartbeats 40000000 in
theorem T26 (n : Nat) : ∀ ⦃z1 : Int⦄ ⦃z2 : Int⦄ ⦃z3 : Int⦄ ⦃l4 : List D⦄ ⦃r1 : Bool⦄, F26 n z1 z2 z3 l4 = some r1 →
    Trip Tryd.prog inv 26 [.d (.agg [.int .u8 z1, .int .i64 z2, .int .i64 z3, .list false 1 l4])] [] (.v (.d (.bool r1))) [] [] := by
  intro z1 z2 z3 l4 r1 h
  unfold F26 at h
  refine Trip.of tab_ok tab_one fol Tryd.func26 rfl (by kernel_rfl) rfl rfl rfl (fun M hM hI => ?_)
  try cbv
  refine seq_go ?_
  try cbv
  refine seq_go ?_
  try cbv
  refine splitI (fun e => ?_) (fun e => ?_)
  · replace h := ite_t e h
    clear e
    try cbv
    obtain rfl := Option.some.inj h
    refine fin_go ?_
    try cbv
    exact ⟨[], rfl, rfl, trivial, trivial, trivial⟩
  · replace h := ite_f e h
    clear e
    try cbv
    refine splitI (fun e => ?_) (fun e => ?_)
    · replace h := ite_t e h
      clear e
      try cbv
      obtain rfl := Option.some.inj h
      refine fin_go ?_
      try cbv
      exact ⟨[], rfl, rfl, trivial, trivial, trivial⟩
    · replace h := ite_f e h
      clear e
      try cbv
      refine splitI (fun e => ?_) (fun e => ?_)
      · replace h := ite_t e h
        clear e
        try cbv
        obtain rfl := Option.some.inj h
        refine fin_go ?_
        try cbv
        exact ⟨[], rfl, rfl, trivial, trivial, trivial⟩
      · replace h := ite_f e h
        clear e
        try cbv
        refine splitI (fun e => ?_) (fun e => ?_)
        · replace h := ite_t e h
          clear e
          try cbv
          obtain rfl := Option.some.inj h
          refine fin_go ?_
          try cbv
          exact ⟨[], rfl, rfl, trivial, trivial, trivial⟩
        · replace h := ite_f e h
          clear e
          try cbv
          obtain rfl := Option.some.inj h
          refine fin_go ?_
          try cbv
          exact ⟨[], rfl, rfl, trivial, trivial, trivial⟩
end Go.Proofs.YtjobleemmjjocaaDoor
end

set_option linter.unusedVariables false
noncomputable section
namespace Go.Proofs.YtjobleemmjjocaaDoor
open Go Go.AM
def L46_1 : Nat → (List D) → Bool → Option (List D)
  | 0, _, _ => none
  | n + 1, l4, b5 =>
    (if b5 = true then some ([] : List D) else some l4)
def F46 (n : Nat) (z1 : Int) (z2 : Int) (z3 : Int) (l4 : List D) : Option (List D) :=
  (if z1 = (3 : Int) then L46_1 n l4 true else L46_1 n l4 false)
set_option maxRecDepth 100000 in
set_option maxHeartbeats 40000000 in
theorem T46 (n : Nat) : ∀ ⦃z1 : Int⦄ ⦃z2 : Int⦄ ⦃z3 : Int⦄ ⦃l4 : List D⦄ ⦃r1 : List D⦄, F46 n z1 z2 z3 l4 = some r1 →
    Trip Tryd.prog inv 46 [.d (.agg [.int .u8 z1, .int .i64 z2, .int .i64 z3, .list false 1 l4])] [] (.v (.d (.list false 1 r1))) [] [] := by
  intro z1 z2 z3 l4 r1 h
  unfold F46 at h
  refine Trip.of tab_ok tab_one fol Tryd.func46 rfl (by kernel_rfl) rfl rfl rfl (fun M hM hI => ?_)
  try cbv
  refine seq_go ?_
  try cbv
  refine seq_go ?_
  try cbv
  refine seq_join (T := Nat × Bool) (fun t => ⟨[(1, .v (.c (.ptr (.loc 0) 0))), (2, .v (.c (.nils false 1))), (5, .v (.d (.bool t.2)))], [(.loc 0, .cells [.d (.int .u8 z1), .d (.int .i64 z2), .d (.int .i64 z3), .d (.list false 1 l4)])], 160⟩) (fun t => t.1 ≤ n ∧ L46_1 t.1 l4 t.2 = some r1) ?_ ?_
  · try cbv
    refine splitI (fun e => ?_) (fun e => ?_)
    · replace h := ite_t e h
      clear e
      try cbv
      exact join_next (n, true) [1, 2, 5] [.loc 0] 160 ⟨by omega, h⟩ (by cbv)
    · replace h := ite_f e h
      clear e
      try cbv
      exact join_next (n, false) [1, 2, 5] [.loc 0] 160 ⟨by omega, h⟩ (by cbv)
  · clear h
    rintro ⟨m1, b5⟩ ⟨hm1, h⟩
    replace hm1 : m1 ≤ n := hm1
    cases m1 with
    | zero =>
      replace h : L46_1 0 l4 b5 = some r1 := h
      rw [L46_1] at h
      cases h
    | succ m1 =>
      replace h : L46_1 (m1 + 1) l4 b5 = some r1 := h
      rw [L46_1] at h
      try cbv
      cases b5
      · replace h := ite_f Bool.false_ne_true h
        try cbv
        refine seq_go ?_
        try cbv
        obtain rfl := Option.some.inj h
        refine fin_go ?_
        try cbv
        exact ⟨[], rfl, rfl, trivial, trivial, trivial⟩
      · replace h := ite_t rfl h
        try cbv
        refine seq_go ?_
        try cbv
        obtain rfl := Option.some.inj h
        refine fin_go ?_
        try cbv
        exact ⟨[], rfl, rfl, trivial, trivial, trivial⟩
end Go.Proofs.YtjobleemmjjocaaDoor
end

set_option linter.unusedVariables false
noncomputable section
namespace Go.Proofs.YtjobleemmjjocaaDoor
open Go Go.AM
def F47 (n : Nat) (z1 : Int) (z2 : Int) (z3 : Int) (l4 : List D) : Option (Bool) :=
  (if z1 = (2 : Int) then some true else (if z1 = (3 : Int) then some true else some false))
set_option maxRecDepth 100000 in
set_option maxHeartbeats 40000000 in
theorem T47 (n : Nat) : ∀ ⦃z1 : Int⦄ ⦃z2 : Int⦄ ⦃z3 : Int⦄ ⦃l4 : List D⦄ ⦃r1 : Bool⦄, F47 n z1 z2 z3 l4 = some r1 →
    Trip Tryd.prog inv 47 [.d (.agg [.int .u8 z1, .int .i64 z2, .int .i64 z3, .list false 1 l4])] [] (.v (.d (.bool r1))) [] [] := by
  intro z1 z2 z3 l4 r1 h
  unfold F47 at h
  refine Trip.of tab_ok tab_one fol Tryd.func47 rfl (by kernel_rfl) rfl rfl rfl (fun M hM hI => ?_)
  try cbv
  refine seq_go ?_
  try cbv
  refine seq_go ?_
  try cbv
  refine splitI (fun e => ?_) (fun e => ?_)
  · replace h := ite_t e h
    clear e
    try cbv
    obtain rfl := Option.some.inj h
    refine fin_go ?_
    try cbv
    exact ⟨[], rfl, rfl, trivial, trivial, trivial⟩
  · replace h := ite_f e h
    clear e
    try cbv
    refine splitI (fun e => ?_) (fun e => ?_)
    · replace h := ite_t e h
      clear e
      try cbv
      obtain rfl := Option.some.inj h
      refine fin_go ?_
      try cbv
      exact ⟨[], rfl, rfl, trivial, trivial, trivial⟩
    · replace h := ite_f e h
      clear e
      try cbv
      obtain rfl := Option.some.inj h
      refine fin_go ?_
      try cbv
      exact ⟨[], rfl, rfl, trivial, trivial, trivial⟩
end Go.Proofs.YtjobleemmjjocaaDoor
end

set_option linter.unusedVariables false
noncomputable section
namespace Go.Proofs.YtjobleemmjjocaaDoor
open Go Go.AM
mutual
def L50_2 : Nat → (List D) → (List D) → Int → Int → Option (Bool)
  | 0, _, _, _, _ => none
  | n + 1, l1, l2, z6, z7 =>
    (if z7 < z6 then L50_3 n l1 l2 z6 z7 true else L50_3 n l1 l2 z6 z7 false)
def L50_3 : Nat → (List D) → (List D) → Int → Int → Bool → Option (Bool)
  | 0, _, _, _, _, _ => none
  | n + 1, l1, l2, z6, z7, b8 =>
    (if b8 = true then getF l1 z7 fun x9 => ds_i64 x9 fun z10 => getF l2 z7 fun x11 => ds_i64 x11 fun z12 => (if z10 = z12 then L50_4 n l1 l2 z6 z7 false else L50_4 n l1 l2 z6 z7 true) else some true)
def L50_4 : Nat → (List D) → (List D) → Int → Int → Bool → Option (Bool)
  | 0, _, _, _, _, _ => none
  | n + 1, l1, l2, z6, z7, b13 =>
    (if b13 = true then some false else letF (IntKind.wrap .i64 (z7 + 1)) fun z14 => L50_2 n l1 l2 z6 z14)
end
def L50_1 : Nat → (List D) → (List D) → Bool → Option (Bool)
  | 0, _, _, _ => none
  | n + 1, l1, l2, b5 =>
    (if b5 = true then some false else lenF l1 fun z6 => L50_2 n l1 l2 z6 (0 : Int))
def F50 (n : Nat) (l1 : List D) (l2 : List D) : Option (Bool) :=
  lenF l1 fun z3 => lenF l2 fun z4 => (if z3 = z4 then L50_1 n l1 l2 false else L50_1 n l1 l2 true)
set_option maxRecDepth 100000 in
set_option maxHeartbeats 40000000 in
theorem T50 (n : Nat) : ∀ ⦃l1 : List D⦄ ⦃l2 : List D⦄ ⦃r1 : Bool⦄, F50 n l1 l2 = some r1 →
    Trip Tryd.prog inv 50 [.d (.list false 1 l1), .d (.list false 1 l2)] [] (.v (.d (.bool r1))) [] [] := by
  intro l1 l2 r1 h
  unfold F50 at h
  refine Trip.of tab_ok tab_one fol Tryd.func50 rfl (by kernel_rfl) rfl rfl rfl (fun M hM hI => ?_)
  try cbv
  refine seq_go ?_
  try cbv
  refine seq_go ?_
  try cbv
  refine seq_join (T := Nat × Bool) (fun t => ⟨[(0, .v (.d (.list false 1 l1))), (1, .v (.d (.list false 1 l2))), (4, .v (.d (.bool false))), (10, .v (.d (.bool t.2)))], [], 192⟩) (fun t => t.1 ≤ n ∧ L50_1 t.1 l1 l2 t.2 = some r1) ?_ ?_
  · try cbv
    replace h := lenF_inv M h
    obtain ⟨z3, hz, h⟩ := h
    refine ⟨z3, hz, ?_⟩
    clear hz
    try cbv
    replace h := lenF_inv M h
    obtain ⟨z4, hz, h⟩ := h
    refine ⟨z4, hz, ?_⟩
    clear hz
    try cbv
    refine splitI (fun e => ?_) (fun e => ?_)
    · replace h := ite_t e h
      clear e
      try cbv
      exact join_next (n, false) [0, 1, 4, 10] [] 192 ⟨by omega, h⟩ (by cbv)
    · replace h := ite_f e h
      clear e
      try cbv
      exact join_next (n, true) [0, 1, 4, 10] [] 192 ⟨by omega, h⟩ (by cbv)
  · clear h
    rintro ⟨m1, b5⟩ ⟨hm1, h⟩
    replace hm1 : m1 ≤ n := hm1
    cases m1 with
    | zero =>
      replace h : L50_1 0 l1 l2 b5 = some r1 := h
      rw [L50_1] at h
      cases h
    | succ m1 =>
      replace h : L50_1 (m1 + 1) l1 l2 b5 = some r1 := h
      rw [L50_1] at h
      try cbv
      cases b5
      · replace h := ite_f Bool.false_ne_true h
        try cbv
        refine seq_go ?_
        try cbv
        refine seq_go ?_
        try cbv
        replace h := lenF_inv M h
        obtain ⟨z6, hz, h⟩ := h
        refine ⟨z6, hz, ?_⟩
        clear hz
        try cbv
        refine loop_inv (T := Nat × Int) [0, 1, 4, 12, 13] [] 288 (fun t => ⟨[(0, .v (.d (.list false 1 l1))), (1, .v (.d (.list false 1 l2))), (4, .v (.d (.bool false))), (12, .v (.d (.int .i64 z6))), (13, .v (.d (.int .i64 t.2)))], [], 288⟩)
          (fun t => t.1 ≤ m1 ∧ L50_2 t.1 l1 l2 z6 t.2 = some r1) (fun t => t.1) (m1, (0 : Int)) ⟨Nat.le_refl _, h⟩ (by cbv) ?_
        clear h
        rintro ⟨m2, z7⟩ ⟨hm2, h⟩
        replace hm2 : m2 ≤ m1 := hm2
        cases m2 with
        | zero =>
          replace h : L50_2 0 l1 l2 z6 z7 = some r1 := h
          rw [L50_2] at h
          cases h
        | succ m2 =>
          replace h : L50_2 (m2 + 1) l1 l2 z6 z7 = some r1 := h
          rw [L50_2] at h
          try cbv
          refine seq_join (T := Nat × Bool) (fun t => ⟨[(0, .v (.d (.list false 1 l1))), (1, .v (.d (.list false 1 l2))), (4, .v (.d (.bool false))), (12, .v (.d (.int .i64 z6))), (13, .v (.d (.int .i64 z7))), (14, .v (.d (.bool t.2)))], [], 320⟩) (fun t => t.1 ≤ m2 ∧ L50_3 t.1 l1 l2 z6 z7 t.2 = some r1) ?_ ?_
          · try cbv
            refine splitL (fun e => ?_) (fun e => ?_)
            · replace h := ite_t e h
              clear e
              try cbv
              exact join_next (m2, true) [0, 1, 4, 12, 13, 14] [] 320 ⟨by omega, h⟩ (by cbv)
            · replace h := ite_f (Int.not_lt.2 e) h
              clear e
              try cbv
              exact join_next (m2, false) [0, 1, 4, 12, 13, 14] [] 320 ⟨by omega, h⟩ (by cbv)
          · clear h
            rintro ⟨m3, b8⟩ ⟨hm3, h⟩
            replace hm3 : m3 ≤ m2 := hm3
            cases m3 with
            | zero =>
              replace h : L50_3 0 l1 l2 z6 z7 b8 = some r1 := h
              rw [L50_3] at h
              cases h
            | succ m3 =>
              replace h : L50_3 (m3 + 1) l1 l2 z6 z7 b8 = some r1 := h
              rw [L50_3] at h
              try cbv
              refine seq_go ?_
              try cbv
              cases b8
              · replace h := ite_f Bool.false_ne_true h
                try cbv
                refine seq_go ?_
                try cbv
                obtain rfl := Option.some.inj h
                refine fin_go ?_
                try cbv
                exact ⟨[], rfl, rfl, trivial, trivial, trivial⟩
              · replace h := ite_t rfl h
                try cbv
                refine seq_go ?_
                try cbv
                refine seq_go ?_
                try cbv
                refine seq_join (T := Nat × Bool) (fun t => ⟨[(0, .v (.d (.list false 1 l1))), (1, .v (.d (.list false 1 l2))), (4, .v (.d (.bool false))), (12, .v (.d (.int .i64 z6))), (13, .v (.d (.int .i64 z7))), (24, .v (.d (.bool t.2)))], [], 672⟩) (fun t => t.1 ≤ m3 ∧ L50_4 t.1 l1 l2 z6 z7 t.2 = some r1) ?_ ?_
                · try cbv
                  replace h := getF_inv h
                  obtain ⟨x9, ⟨hx0, hx⟩, h⟩ := h
                  refine ⟨x9, hx0, hx, ?_⟩
                  clear hx0 hx
                  replace h := ds_i64_inv h
                  obtain ⟨z10, rfl, h⟩ := h
                  try cbv
                  replace h := getF_inv h
                  obtain ⟨x11, ⟨hx0, hx⟩, h⟩ := h
                  refine ⟨x11, hx0, hx, ?_⟩
                  clear hx0 hx
                  replace h := ds_i64_inv h
                  obtain ⟨z12, rfl, h⟩ := h
                  try cbv
                  refine splitI (fun e => ?_) (fun e => ?_)
                  · replace h := ite_t e h
                    clear e
                    try cbv
                    refine drawn ?_ ?_
                    · show _ = true
                      kernel_rfl
                    try cbv
                    exact join_next (m3, false) [0, 1, 4, 12, 13, 24] [] 672 ⟨by omega, h⟩ (by cbv)
                  · replace h := ite_f e h
                    clear e
                    try cbv
                    refine drawn ?_ ?_
                    · show _ = true
                      kernel_rfl
                    try cbv
                    exact join_next (m3, true) [0, 1, 4, 12, 13, 24] [] 672 ⟨by omega, h⟩ (by cbv)
                · clear h
                  rintro ⟨m4, b13⟩ ⟨hm4, h⟩
                  replace hm4 : m4 ≤ m3 := hm4
                  cases m4 with
                  | zero =>
                    replace h : L50_4 0 l1 l2 z6 z7 b13 = some r1 := h
                    rw [L50_4] at h
                    cases h
                  | succ m4 =>
                    replace h : L50_4 (m4 + 1) l1 l2 z6 z7 b13 = some r1 := h
                    rw [L50_4] at h
                    try cbv
                    cases b13
                    · replace h := ite_f Bool.false_ne_true h
                      try cbv
                      replace h := letF_inv h
                      obtain ⟨z14, hz, h⟩ := h
                      refine ⟨z14, hz, ?_⟩
                      clear hz
                      try cbv
                      exact loop_next (m4, z14) [0, 1, 4, 12, 13] [] 288 ⟨by omega, h⟩ (Nat.lt_succ_of_le (by omega)) (by cbv)
                    · replace h := ite_t rfl h
                      try cbv
                      refine seq_go ?_
                      try cbv
                      obtain rfl := Option.some.inj h
                      refine fin_go ?_
                      try cbv
                      exact ⟨[], rfl, rfl, trivial, trivial, trivial⟩
      · replace h := ite_t rfl h
        try cbv
        refine seq_go ?_
        try cbv
        obtain rfl := Option.some.inj h
        refine fin_go ?_
        try cbv
        exact ⟨[], rfl, rfl, trivial, trivial, trivial⟩
end Go.Proofs.YtjobleemmjjocaaDoor
end

set_option linter.unusedVariables false
noncomputable section
namespace Go.Proofs.YtjobleemmjjocaaDoor
open Go Go.AM
def F48 (n : Nat) (l1 : List D) (l2 : List D) : Option (Bool) :=
  lenF l1 fun z3 => lenF l2 fun z4 => (if z3 ≤ z4 then lenF l1 fun z5 => sliceF l2 (0 : Int) z5 fun l6 => bO1 (F50 n l1 l6) fun b7 => some b7 else some false)
set_option maxRecDepth 100000 in
set_option maxHeartbeats 40000000 in
theorem T48 (n : Nat) : ∀ ⦃l1 : List D⦄ ⦃l2 : List D⦄ ⦃r1 : Bool⦄, F48 n l1 l2 = some r1 →
    Trip Tryd.prog inv 48 [.d (.list false 1 l1), .d (.list false 1 l2)] [] (.v (.d (.bool r1))) [] [] := by
  intro l1 l2 r1 h
  unfold F48 at h
  refine Trip.of tab_ok tab_one fol Tryd.func48 rfl (by kernel_rfl) rfl rfl rfl (fun M hM hI => ?_)
  try cbv
  refine seq_go ?_
  try cbv
  refine seq_go ?_
  try cbv
  replace h := lenF_inv M h
  obtain ⟨z3, hz, h⟩ := h
  refine ⟨z3, hz, ?_⟩
  clear hz
  try cbv
  replace h := lenF_inv M h
  obtain ⟨z4, hz, h⟩ := h
  refine ⟨z4, hz, ?_⟩
  clear hz
  try cbv
  refine splitLe (fun e => ?_) (fun e => ?_)
  · replace h := ite_t e h
    clear e
    try cbv
    replace h := lenF_inv M h
    obtain ⟨z5, hz, h⟩ := h
    refine ⟨z5, hz, ?_⟩
    clear hz
    try cbv
    replace h := sliceF_inv M h
    obtain ⟨l6, hb, hz, h⟩ := h
    refine ⟨l6, hb, hz, ?_⟩
    clear hb hz
    try cbv
    replace h := bO1_inv h
    obtain ⟨b7, hr, h⟩ := h
    refine call_go rfl rfl ?_
    try cbv
    refine call_pure hM hI (T50 _ hr) rfl ?_
    clear hr
    try cbv
    obtain rfl := Option.some.inj h
    refine fin_go ?_
    try cbv
    exact ⟨[], rfl, rfl, trivial, trivial, trivial⟩
  · replace h := ite_f (Int.not_le.2 e) h
    clear e
    try cbv
    obtain rfl := Option.some.inj h
    refine fin_go ?_
    try cbv
    exact ⟨[], rfl, rfl, trivial, trivial, trivial⟩
end Go.Proofs.YtjobleemmjjocaaDoor
end

set_option linter.unusedVariables false
noncomputable section
namespace Go.Proofs.YtjobleemmjjocaaDoor
open Go Go.AM
def L25_1 : Nat → Int → Int → Int → (List D) → Int → Int → Int → (List D) → Bool → Option (Bool)
  | 0, _, _, _, _, _, _, _, _, _ => none
  | n + 1, z1, z2, z3, l4, z5, z6, z7, l8, b13 =>
    (if b13 = true then some false else bO1 (F46 n z1 z2 z3 l4) fun l14 => bO1 (F46 n z5 z6 z7 l8) fun l15 => bO1 (F48 n l14 l15) fun b16 => (if b16 = true then bO1 (F47 n z1 z2 z3 l4) fun b17 => (if b17 = true then (if z1 = (4 : Int) then (if z5 = (4 : Int) then some false else some true) else some true) else bO1 (F47 n z5 z6 z7 l8) fun b18 => (if b18 = true then (if z1 = (4 : Int) then (if z5 = (4 : Int) then some false else some true) else some true) else some false)) else bO1 (F48 n l15 l14) fun b19 => (if b19 = true then bO1 (F47 n z1 z2 z3 l4) fun b20 => (if b20 = true then (if z1 = (4 : Int) then (if z5 = (4 : Int) then some false else some true) else some true) else bO1 (F47 n z5 z6 z7 l8) fun b21 => (if b21 = true then (if z1 = (4 : Int) then (if z5 = (4 : Int) then some false else some true) else some true) else some false)) else some false)))
def F25 (n : Nat) (z1 : Int) (z2 : Int) (z3 : Int) (l4 : List D) (z5 : Int) (z6 : Int) (z7 : Int) (l8 : List D) : Option (Bool) :=
  bO1 (F26 n z1 z2 z3 l4) fun b9 => letB (!b9) fun b10 => (if b10 = true then L25_1 n z1 z2 z3 l4 z5 z6 z7 l8 true else bO1 (F26 n z5 z6 z7 l8) fun b11 => letB (!b11) fun b12 => (if b12 = true then L25_1 n z1 z2 z3 l4 z5 z6 z7 l8 true else (if z2 = z6 then L25_1 n z1 z2 z3 l4 z5 z6 z7 l8 true else (if z3 = z7 then L25_1 n z1 z2 z3 l4 z5 z6 z7 l8 false else L25_1 n z1 z2 z3 l4 z5 z6 z7 l8 true))))
set_option maxRecDepth 100000 in
set_option maxHeartbeats 40000000 in
theorem T25 (n : Nat) : ∀ ⦃z1 : Int⦄ ⦃z2 : Int⦄ ⦃z3 : Int⦄ ⦃l4 : List D⦄ ⦃z5 : Int⦄ ⦃z6 : Int⦄ ⦃z7 : Int⦄ ⦃l8 : List D⦄ ⦃r1 : Bool⦄, F25 n z1 z2 z3 l4 z5 z6 z7 l8 = some r1 →
    Trip Tryd.prog inv 25 [.d (.agg [.int .u8 z1, .int .i64 z2, .int .i64 z3, .list false 1 l4]), .d (.agg [.int .u8 z5, .int .i64 z6, .int .i64 z7, .list false 1 l8])] [] (.v (.d (.bool r1))) [] [] := by
  intro z1 z2 z3 l4 z5 z6 z7 l8 r1 h
  unfold F25 at h
  refine Trip.of tab_ok tab_one fol Tryd.func25 rfl (by kernel_rfl) rfl rfl rfl (fun M hM hI => ?_)
  try cbv
  refine seq_go ?_
  try cbv
  refine seq_go ?_
  try cbv
  refine seq_join (T := Nat × Bool) (fun t => ⟨[(2, .v (.c (.ptr (.loc 0) 0))), (3, .v (.c (.ptr (.loc 32) 0))), (4, .v (.d (.bool false))), (29, .v (.d (.bool t.2)))], [(.loc 0, .cells [.d (.int .u8 z1), .d (.int .i64 z2), .d (.int .i64 z3), .d (.list false 1 l4)]), (.loc 32, .cells [.d (.int .u8 z5), .d (.int .i64 z6), .d (.int .i64 z7), .d (.list false 1 l8)])], 800⟩) (fun t => t.1 ≤ n ∧ L25_1 t.1 z1 z2 z3 l4 z5 z6 z7 l8 t.2 = some r1) ?_ ?_
  · try cbv
    replace h := bO1_inv h
    obtain ⟨b9, hr, h⟩ := h
    refine call_go rfl rfl ?_
    try cbv
    refine call_pure hM hI (T26 _ hr) rfl ?_
    clear hr
    try cbv
    replace h := letB_inv h
    obtain ⟨b10, hz, h⟩ := h
    refine ⟨b10, not_eq' hz, ?_⟩
    clear hz
    try cbv
    cases b10
    · replace h := ite_f Bool.false_ne_true h
      try cbv
      replace h := bO1_inv h
      obtain ⟨b11, hr, h⟩ := h
      refine call_go rfl rfl ?_
      try cbv
      refine call_pure hM hI (T26 _ hr) rfl ?_
      clear hr
      try cbv
      replace h := letB_inv h
      obtain ⟨b12, hz, h⟩ := h
      refine ⟨b12, not_eq' hz, ?_⟩
      clear hz
      try cbv
      cases b12
      · replace h := ite_f Bool.false_ne_true h
        try cbv
        refine splitI (fun e => ?_) (fun e => ?_)
        · replace h := ite_t e h
          clear e
          try cbv
          exact join_next (n, true) [2, 3, 4, 29] [.loc 0, .loc 32] 800 ⟨by omega, h⟩ (by cbv)
        · replace h := ite_f e h
          clear e
          try cbv
          refine splitI (fun e => ?_) (fun e => ?_)
          · replace h := ite_t e h
            clear e
            try cbv
            exact join_next (n, false) [2, 3, 4, 29] [.loc 0, .loc 32] 800 ⟨by omega, h⟩ (by cbv)
          · replace h := ite_f e h
            clear e
            try cbv
            exact join_next (n, true) [2, 3, 4, 29] [.loc 0, .loc 32] 800 ⟨by omega, h⟩ (by cbv)
      · replace h := ite_t rfl h
        try cbv
        exact join_next (n, true) [2, 3, 4, 29] [.loc 0, .loc 32] 800 ⟨by omega, h⟩ (by cbv)
    · replace h := ite_t rfl h
      try cbv
      exact join_next (n, true) [2, 3, 4, 29] [.loc 0, .loc 32] 800 ⟨by omega, h⟩ (by cbv)
  · clear h
    rintro ⟨m1, b13⟩ ⟨hm1, h⟩
    replace hm1 : m1 ≤ n := hm1
    cases m1 with
    | zero =>
      replace h : L25_1 0 z1 z2 z3 l4 z5 z6 z7 l8 b13 = some r1 := h
      rw [L25_1] at h
      cases h
    | succ m1 =>
      replace h : L25_1 (m1 + 1) z1 z2 z3 l4 z5 z6 z7 l8 b13 = some r1 := h
      rw [L25_1] at h
      try cbv
      cases b13
      · replace h := ite_f Bool.false_ne_true h
        try cbv
        refine seq_go ?_
        try cbv
        replace h := bO1_inv h
        obtain ⟨l14, hr, h⟩ := h
        first | refine .inr ⟨[], ?_⟩ | refine ⟨[], ?_⟩
        try cbv
        refine call_pure hM hI (T46 _ hr) rfl ?_
        clear hr
        try cbv
        replace h := bO1_inv h
        obtain ⟨l15, hr, h⟩ := h
        first | refine .inr ⟨[], ?_⟩ | refine ⟨[], ?_⟩
        try cbv
        refine call_pure hM hI (T46 _ hr) rfl ?_
        clear hr
        try cbv
        refine drawn ?_ ?_
        · show _ = true
          kernel_rfl
        try cbv
        refine seq_go ?_
        try cbv
        refine seq_go ?_
        try cbv
        replace h := bO1_inv h
        obtain ⟨b16, hr, h⟩ := h
        refine call_go rfl rfl ?_
        try cbv
        refine call_pure hM hI (T48 _ hr) rfl ?_
        clear hr
        try cbv
        cases b16
        · replace h := ite_f Bool.false_ne_true h
          try cbv
          replace h := bO1_inv h
          obtain ⟨b19, hr, h⟩ := h
          refine call_go rfl rfl ?_
          try cbv
          refine call_pure hM hI (T48 _ hr) rfl ?_
          clear hr
          try cbv
          cases b19
          · replace h := ite_f Bool.false_ne_true h
            try cbv
            obtain rfl := Option.some.inj h
            refine fin_go ?_
            try cbv
            exact ⟨[], rfl, rfl, trivial, trivial, trivial⟩
          · replace h := ite_t rfl h
            try cbv
            replace h := bO1_inv h
            obtain ⟨b20, hr, h⟩ := h
            refine call_go rfl rfl ?_
            try cbv
            refine call_pure hM hI (T47 _ hr) rfl ?_
            clear hr
            try cbv
            cases b20
            · replace h := ite_f Bool.false_ne_true h
              try cbv
              replace h := bO1_inv h
              obtain ⟨b21, hr, h⟩ := h
              refine call_go rfl rfl ?_
              try cbv
              refine call_pure hM hI (T47 _ hr) rfl ?_
              clear hr
              try cbv
              cases b21
              · replace h := ite_f Bool.false_ne_true h
                try cbv
                obtain rfl := Option.some.inj h
                refine fin_go ?_
                try cbv
                exact ⟨[], rfl, rfl, trivial, trivial, trivial⟩
              · replace h := ite_t rfl h
                try cbv
                refine splitI (fun e => ?_) (fun e => ?_)
                · replace h := ite_t e h
                  clear e
                  try cbv
                  refine splitI (fun e => ?_) (fun e => ?_)
                  · replace h := ite_t e h
                    clear e
                    try cbv
                    obtain rfl := Option.some.inj h
                    refine fin_go ?_
                    try cbv
                    exact ⟨[], rfl, rfl, trivial, trivial, trivial⟩
                  · replace h := ite_f e h
                    clear e
                    try cbv
                    obtain rfl := Option.some.inj h
                    refine fin_go ?_
                    try cbv
                    exact ⟨[], rfl, rfl, trivial, trivial, trivial⟩
                · replace h := ite_f e h
                  clear e
                  try cbv
                  obtain rfl := Option.some.inj h
                  refine fin_go ?_
                  try cbv
                  exact ⟨[], rfl, rfl, trivial, trivial, trivial⟩
            · replace h := ite_t rfl h
              try cbv
              refine splitI (fun e => ?_) (fun e => ?_)
              · replace h := ite_t e h
                clear e
                try cbv
                refine splitI (fun e => ?_) (fun e => ?_)
                · replace h := ite_t e h
                  clear e
                  try cbv
                  obtain rfl := Option.some.inj h
                  refine fin_go ?_
                  try cbv
                  exact ⟨[], rfl, rfl, trivial, trivial, trivial⟩
                · replace h := ite_f e h
                  clear e
                  try cbv
                  obtain rfl := Option.some.inj h
                  refine fin_go ?_
                  try cbv
                  exact ⟨[], rfl, rfl, trivial, trivial, trivial⟩
              · replace h := ite_f e h
                clear e
                try cbv
                obtain rfl := Option.some.inj h
                refine fin_go ?_
                try cbv
                exact ⟨[], rfl, rfl, trivial, trivial, trivial⟩
        · replace h := ite_t rfl h
          try cbv
          replace h := bO1_inv h
          obtain ⟨b17, hr, h⟩ := h
          refine call_go rfl rfl ?_
          try cbv
          refine call_pure hM hI (T47 _ hr) rfl ?_
          clear hr
          try cbv
          cases b17
          · replace h := ite_f Bool.false_ne_true h
            try cbv
            replace h := bO1_inv h
            obtain ⟨b18, hr, h⟩ := h
            refine call_go rfl rfl ?_
            try cbv
            refine call_pure hM hI (T47 _ hr) rfl ?_
            clear hr
            try cbv
            cases b18
            · replace h := ite_f Bool.false_ne_true h
              try cbv
              obtain rfl := Option.some.inj h
              refine fin_go ?_
              try cbv
              exact ⟨[], rfl, rfl, trivial, trivial, trivial⟩
            · replace h := ite_t rfl h
              try cbv
              refine splitI (fun e => ?_) (fun e => ?_)
              · replace h := ite_t e h
                clear e
                try cbv
                refine splitI (fun e => ?_) (fun e => ?_)
                · replace h := ite_t e h
                  clear e
                  try cbv
                  obtain rfl := Option.some.inj h
                  refine fin_go ?_
                  try cbv
                  exact ⟨[], rfl, rfl, trivial, trivial, trivial⟩
                · replace h := ite_f e h
                  clear e
                  try cbv
                  obtain rfl := Option.some.inj h
                  refine fin_go ?_
                  try cbv
                  exact ⟨[], rfl, rfl, trivial, trivial, trivial⟩
              · replace h := ite_f e h
                clear e
                try cbv
                obtain rfl := Option.some.inj h
                refine fin_go ?_
                try cbv
                exact ⟨[], rfl, rfl, trivial, trivial, trivial⟩
          · replace h := ite_t rfl h
            try cbv
            refine splitI (fun e => ?_) (fun e => ?_)
            · replace h := ite_t e h
              clear e
              try cbv
              refine splitI (fun e => ?_) (fun e => ?_)
              · replace h := ite_t e h
                clear e
                try cbv
                obtain rfl := Option.some.inj h
                refine fin_go ?_
                try cbv
                exact ⟨[], rfl, rfl, trivial, trivial, trivial⟩
              · replace h := ite_f e h
                clear e
                try cbv
                obtain rfl := Option.some.inj h
                refine fin_go ?_
                try cbv
                exact ⟨[], rfl, rfl, trivial, trivial, trivial⟩
            · replace h := ite_f e h
              clear e
              try cbv
              obtain rfl := Option.some.inj h
              refine fin_go ?_
              try cbv
              exact ⟨[], rfl, rfl, trivial, trivial, trivial⟩
      · replace h := ite_t rfl h
        try cbv
        refine seq_go ?_
        try cbv
        obtain rfl := Option.some.inj h
        refine fin_go ?_
        try cbv
        exact ⟨[], rfl, rfl, trivial, trivial, trivial⟩
end Go.Proofs.YtjobleemmjjocaaDoor
end

set_option linter.unusedVariables false
noncomputable section
namespace Go.Proofs.YtjobleemmjjocaaDoor
open Go Go.AM
def F22 (n : Nat) : Option (Bool) :=
  bO1 (F19 n ([.agg [.int .u8 7, .int .i64 0, .int .i64 2, .list false 1 []]])) fun z1 => bO1 (F19 n ([.agg [.int .u8 9, .int .i64 0, .int .i64 0, .list false 1 []], .agg [.int .u8 1, .int .i64 0, .int .i64 1, .list false 1 []]])) fun z2 => bO1 (F19 n ([.agg [.int .u8 8, .int .i64 0, .int .i64 0, .list false 1 []]])) fun z3 => bO1 (F25 n (2 : Int) (0 : Int) (5 : Int) ([.int .i64 0]) (1 : Int) (1 : Int) (5 : Int) ([] : List D)) fun b4 => bO1 (F25 n (4 : Int) (0 : Int) (5 : Int) ([] : List D) (4 : Int) (1 : Int) (5 : Int) ([] : List D)) fun b5 => bO1 (F25 n (3 : Int) (0 : Int) (5 : Int) ([] : List D) (4 : Int) (1 : Int) (5 : Int) ([.int .i64 3])) fun b6 => bO1 (F21 n ([.agg [.int .u8 7, .int .i64 0, .int .i64 1, .list false 1 []], .agg [.int .u8 2, .int .i64 1, .int .i64 5, .list false 1 ([.int .i64 0])], .agg [.int .u8 9, .int .i64 1, .int .i64 0, .list false 1 []], .agg [.int .u8 8, .int .i64 0, .int .i64 1, .list false 1 []], .agg [.int .u8 1, .int .i64 0, .int .i64 5, .list false 1 []]])) fun z7 => (if z7 = (0 : Int) then bO1 (F20 n ([.agg [.int .u8 7, .int .i64 0, .int .i64 1, .list false 1 []], .agg [.int .u8 2, .int .i64 1, .int .i64 5, .list false 1 ([.int .i64 0])], .agg [.int .u8 9, .int .i64 1, .int .i64 0, .list false 1 []], .agg [.int .u8 8, .int .i64 0, .int .i64 1, .list false 1 []], .agg [.int .u8 1, .int .i64 0, .int .i64 5, .list false 1 []]])) fun z8 => (if z8 = (2 : Int) then (if z1 = (0 : Int) then (if z2 = (1 : Int) then (if z3 = (0 : Int) then (if b4 = true then letB (!b5) fun b9 => (if b9 = true then (if b6 = true then getF ([.agg [.int .u8 7, .int .i64 0, .int .i64 1, .list false 1 []], .agg [.int .u8 2, .int .i64 1, .int .i64 5, .list false 1 ([.int .i64 0])], .agg [.int .u8 9, .int .i64 1, .int .i64 0, .list false 1 []], .agg [.int .u8 8, .int .i64 0, .int .i64 1, .list false 1 []], .agg [.int .u8 1, .int .i64 0, .int .i64 5, .list false 1 []]]) 1 fun x10 => ds_t32 x10 fun z11 z12 z13 l14 => bO1 (F23 n z11 z12 z13 l14) fun s15 => (if s15 = k_1_write_5_0 then some true else some false) else some false) else some false) else some false) else some false) else some false) else some false) else some false) else some false)
set_option maxRecDepth 100000 in
set_option maxHeartbeats 40000000 in
theorem T22 (n : Nat) : ∀ ⦃r1 : Bool⦄, F22 n = some r1 →
    Trip Tryd.prog inv 22 [] [] (.v (.d (.bool r1))) [] [] := by
  intro r1 h
  unfold F22 at h
  refine Trip.of tab_ok tab_one fol Tryd.func22 rfl (by kernel_rfl) rfl rfl rfl (fun M hM hI => ?_)
  try cbv
  refine seq_go ?_
  try cbv
  refine seq_go ?_
  try cbv
  refine ⟨false, ?_⟩
  try cbv
  refine ⟨true, ?_⟩
  try cbv
  refine ⟨false, ?_⟩
  try cbv
  refine ⟨true, ?_⟩
  try cbv
  refine seq_go ?_
  try cbv
  refine ⟨false, ?_⟩
  try cbv
  refine ⟨true, ?_⟩
  try cbv
  replace h := bO1_inv h
  obtain ⟨z1, hr, h⟩ := h
  refine call_go rfl rfl ?_
  try cbv
  refine call_pure hM hI (T19 _ hr) rfl ?_
  clear hr
  try cbv
  refine ⟨false, ?_⟩
  try cbv
  refine ⟨true, ?_⟩
  try cbv
  replace h := bO1_inv h
  obtain ⟨z2, hr, h⟩ := h
  refine call_go rfl rfl ?_
  try cbv
  refine call_pure hM hI (T19 _ hr) rfl ?_
  clear hr
  try cbv
  refine ⟨false, ?_⟩
  try cbv
  refine ⟨true, ?_⟩
  try cbv
  replace h := bO1_inv h
  obtain ⟨z3, hr, h⟩ := h
  refine call_go rfl rfl ?_
  try cbv
  refine call_pure hM hI (T19 _ hr) rfl ?_
  clear hr
  try cbv
  refine seq_go ?_
  try cbv
  refine ⟨false, ?_⟩
  try cbv
  refine ⟨true, ?_⟩
  try cbv
  replace h := bO1_inv h
  obtain ⟨b4, hr, h⟩ := h
  refine call_go rfl rfl ?_
  try cbv
  refine call_pure hM hI (T25 _ hr) rfl ?_
  clear hr
  try cbv
  refine seq_go ?_
  try cbv
  replace h := bO1_inv h
  obtain ⟨b5, hr, h⟩ := h
  refine call_go rfl rfl ?_
  try cbv
  refine call_pure hM hI (T25 _ hr) rfl ?_
  clear hr
  try cbv
  refine seq_go ?_
  try cbv
  refine ⟨false, ?_⟩
  try cbv
  refine ⟨true, ?_⟩
  try cbv
  replace h := bO1_inv h
  obtain ⟨b6, hr, h⟩ := h
  refine call_go rfl rfl ?_
  try cbv
  refine call_pure hM hI (T25 _ hr) rfl ?_
  clear hr
  try cbv
  refine seq_go ?_
  try cbv
  replace h := bO1_inv h
  obtain ⟨z7, hr, h⟩ := h
  refine call_go rfl rfl ?_
  try cbv
  refine call_pure hM hI (T21 _ hr) rfl ?_
  clear hr
  try cbv
  refine splitI (fun e => ?_) (fun e => ?_)
  · replace h := ite_t e h
    clear e
    try cbv
    replace h := bO1_inv h
    obtain ⟨z8, hr, h⟩ := h
    refine call_go rfl rfl ?_
    try cbv
    refine call_pure hM hI (T20 _ hr) rfl ?_
    clear hr
    try cbv
    refine splitI (fun e => ?_) (fun e => ?_)
    · replace h := ite_t e h
      clear e
      try cbv
      refine splitI (fun e => ?_) (fun e => ?_)
      · replace h := ite_t e h
        clear e
        try cbv
        refine splitI (fun e => ?_) (fun e => ?_)
        · replace h := ite_t e h
          clear e
          try cbv
          refine splitI (fun e => ?_) (fun e => ?_)
          · replace h := ite_t e h
            clear e
            try cbv
            cases b4
            · replace h := ite_f Bool.false_ne_true h
              try cbv
              obtain rfl := Option.some.inj h
              refine fin_go ?_
              try cbv
              exact ⟨[], rfl, rfl, trivial, trivial, trivial⟩
            · replace h := ite_t rfl h
              try cbv
              replace h := letB_inv h
              obtain ⟨b9, hz, h⟩ := h
              refine ⟨b9, not_eq' hz, ?_⟩
              clear hz
              try cbv
              cases b9
              · replace h := ite_f Bool.false_ne_true h
                try cbv
                obtain rfl := Option.some.inj h
                refine fin_go ?_
                try cbv
                exact ⟨[], rfl, rfl, trivial, trivial, trivial⟩
              · replace h := ite_t rfl h
                try cbv
                cases b6
                · replace h := ite_f Bool.false_ne_true h
                  try cbv
                  obtain rfl := Option.some.inj h
                  refine fin_go ?_
                  try cbv
                  exact ⟨[], rfl, rfl, trivial, trivial, trivial⟩
                · replace h := ite_t rfl h
                  try cbv
                  replace h := getF_inv h
                  obtain ⟨x10, ⟨hx0, hx⟩, h⟩ := h
                  refine ⟨x10, hx0, hx, ?_⟩
                  clear hx0 hx
                  replace h := ds_t32_inv h
                  obtain ⟨z11, z12, z13, l14, rfl, h⟩ := h
                  try cbv
                  replace h := bO1_inv h
                  obtain ⟨s15, hr, h⟩ := h
                  refine call_go rfl rfl ?_
                  try cbv
                  refine call_pure hM hI (T23 _ hr) rfl ?_
                  clear hr
                  try cbv
                  refine splitS (fun e => ?_) (fun e => ?_)
                  · replace h := ite_t (bytes_eq.1 e) h
                    clear e
                    try cbv
                    obtain rfl := Option.some.inj h
                    refine fin_go ?_
                    try cbv
                    exact ⟨[], rfl, rfl, trivial, trivial, trivial⟩
                  · replace h := ite_f (bytes_ne.1 e) h
                    clear e
                    try cbv
                    obtain rfl := Option.some.inj h
                    refine fin_go ?_
                    try cbv
                    exact ⟨[], rfl, rfl, trivial, trivial, trivial⟩
          · replace h := ite_f e h
            clear e
            try cbv
            obtain rfl := Option.some.inj h
            refine fin_go ?_
            try cbv
            exact ⟨[], rfl, rfl, trivial, trivial, trivial⟩
        · replace h := ite_f e h
          clear e
          try cbv
          obtain rfl := Option.some.inj h
          refine fin_go ?_
          try cbv
          exact ⟨[], rfl, rfl, trivial, trivial, trivial⟩
      · replace h := ite_f e h
        clear e
        try cbv
        obtain rfl := Option.some.inj h
        refine fin_go ?_
        try cbv
        exact ⟨[], rfl, rfl, trivial, trivial, trivial⟩
    · replace h := ite_f e h
      clear e
      try cbv
      obtain rfl := Option.some.inj h
      refine fin_go ?_
      try cbv
      exact ⟨[], rfl, rfl, trivial, trivial, trivial⟩
  · replace h := ite_f e h
    clear e
    try cbv
    obtain rfl := Option.some.inj h
    refine fin_go ?_
    try cbv
    exact ⟨[], rfl, rfl, trivial, trivial, trivial⟩
end Go.Proofs.YtjobleemmjjocaaDoor
end

namespace Go.AM
open Go Go.RowKit Go.ChangeShapes Go.WideShapes

def Shapes (ti : Types) : List TypeId → List D → Prop
  | [], [] => True
  | t :: ts, x :: xs => Shape ti t x.cells ∧ (∀ y, ti t = some y → x.isAgg = rowD y.desc) ∧ Shapes ti ts xs
  | _, _ => False

theorem Shapes.length {ti : Types} : ∀ {ts : List TypeId} {xs : List D}, Shapes ti ts xs → xs.length = ts.length
  | [], [], _ => rfl
  | _ :: _, _ :: _, h => by simp [Shapes.length h.2.2]
  | [], _ :: _, h => h.elim
  | _ :: _, [], h => h.elim

section
variable {H : Type} {enc : TypeId × Value → H} {P : Program} {ti : Types} {T : List TypeId} {w : World}

theorem conv_arg (hti : TIok P ti) (hT : plainB ti T = true) {Z : Zone} (hZ : ∀ b o, ¬ Z b o) {base base' : Nat} {spare : Nat → Bool} {held : Bool} {r : Reach} {t : TypeId} {v : Value} {d : DataW H} {ps : List MemPlace} (ht : t ∈ T)
    (hok : Value.okWide P w r base' t v) (h : DataW.Trod enc P w base spare held t v d ps) : ∃ x : D, Shape ti t x.cells ∧ (∀ y, ti t = some y → x.isAgg = rowD y.desc) ∧ RelD w Z x v := by
  obtain ⟨fuel, h⟩ := h
  obtain ⟨ds, hs, h1, h2, h3⟩ := conv hti hT (Z := Z) hZ fuel t _ _ _ ht h
  have hp := List.all_eq_true.1 hT t ht
  split at hp
  · rename_i y hy
    have hu := (hti t y hy).1
    have single : rowD y.desc = false → v.cells.toList = [v] → ∃ x : D, Shape ti t x.cells ∧ (∀ y, ti t = some y → x.isAgg = rowD y.desc) ∧ RelD w Z x v := by
      intro hr hv
      rw [hv] at h1 h3
      obtain ⟨c, rfl⟩ := List.length_eq_one_iff.1 h1
      have hc := h2 c (by simp)
      have e : c.cells = [c] := by cases c <;> first | rfl | simp [D.isAgg] at hc
      refine ⟨c, by rw [e]; exact hs, fun y' hy' => ?_, h3 0 c v rfl rfl⟩
      rw [hy] at hy'
      obtain rfl : y = y' := by simpa using hy'
      rw [hc, hr]
    split at hp
    · rename_i hd
      rw [hd] at hu
      obtain ⟨b, rfl⟩ := okWide_bool hu hok
      exact single (by rw [hd]; rfl) rfl
    · rename_i k hd
      rw [hd] at hu
      obtain ⟨b, rfl⟩ := okWide_int hu hok
      exact single (by rw [hd]; rfl) rfl
    · rename_i hd
      rw [hd] at hu
      obtain ⟨b, rfl⟩ := okWide_string hu hok
      exact single (by rw [hd]; rfl) rfl
    · rename_i e hd
      rw [hd] at hu
      obtain ⟨a, l, c, rfl⟩ := okWide_slice hu hok
      exact single (by rw [hd]; rfl) rfl
    · rename_i fs hd
      rw [hd] at hu
      obtain ⟨cs, rfl, _⟩ := okWide_struct hu hok
      refine ⟨.agg ds, hs, fun y' hy' => ?_, .agg ds cs (by simpa [Value.cells] using h1.symm) h2 (fun j c u hc hu' => h3 j c u hc (by simpa [Value.cells] using hu'))⟩
      rw [hy] at hy'
      obtain rfl : y = y' := by simpa using hy'
      rw [hd]; rfl
    · simp at hp
  · simp at hp

theorem conv_args (hti : TIok P ti) (hT : plainB ti T = true) {Z : Zone} (hZ : ∀ b o, ¬ Z b o) {base base' : Nat} {spare : Nat → Bool} {held : Bool} {r : Reach} :
    ∀ (ts : List TypeId) (vs : List Value) (ds : List (DataW H)) (ps : List MemPlace), (∀ t ∈ ts, t ∈ T) → DataW.TrodAll enc P w base spare held ts vs ds ps →
      (∀ (j : Nat) t v, ts[j]? = some t → vs[j]? = some v → Value.okWide P w r base' t v) →
      ∃ xs, Shapes ti ts xs ∧ ∀ (j : Nat) x v, xs[j]? = some x → vs[j]? = some v → RelD w Z x v
  | [], vs, ds, ps, _, h, _ => ⟨[], trivial, by simp⟩
  | t :: ts, vs, ds, ps, ht, h, hok => by
    obtain ⟨v, vs1, d, ds1, a, b, rfl, rfl, rfl, h1, h2⟩ := trodAll_cons h
    obtain ⟨x, k1, k2, k3⟩ := conv_arg hti hT hZ (ht t (by simp)) (hok 0 t v rfl rfl) h1
    obtain ⟨xs, k4, k5⟩ := conv_args hti hT hZ ts vs1 ds1 b (fun t ht' => ht t (by simp [ht'])) h2 (fun j t v h1 h2 => hok (j + 1) t v (by simpa using h1) (by simpa using h2))
    refine ⟨x :: xs, ⟨k1, k2, k4⟩, fun j x' v' hx hv => ?_⟩
    match j with
    | 0 => simp at hx hv; subst hx; subst hv; exact k3
    | j + 1 => simp at hx hv; exact k5 j x' v' hx hv

theorem again_all (hl : laidOutB P = true) {W W' : World} (hb : Below W.heap.size W W') : ∀ (ts : List TypeId) (vs : List Value) (ds : List (DataW H)) (ps : List MemPlace),
    (∀ t ∈ ts, P.readableRec t = true ∧ t < P.types.size) → DataW.TrodAll enc P W 0 (fun _ => true) true ts vs ds ps → (∀ x ∈ ps, x.block < W.heap.size) →
    DataW.TrodAll enc P W' 0 (fun b => decide (b < W.heap.size)) true ts vs ds ps
  | [], vs, ds, ps, _, h, _ => by
    obtain ⟨rfl, rfl, rfl⟩ := trodAll_nil h
    exact rfl
  | t :: ts, vs, ds, ps, ht, h, hlt => by
    obtain ⟨v, vs1, d, ds1, a, b, rfl, rfl, rfl, h1, h2⟩ := trodAll_cons h
    have ht1 := ht t (by simp)
    exact ⟨a, b, Below.trod hl ht1.1 ht1.2 h1 hb (fun x hx => hlt x (by simp [hx])), again_all hl hb ts vs1 ds1 b (fun t ht' => ht t (by simp [ht'])) h2 (fun x hx => hlt x (by simp [hx])), rfl⟩

theorem law_calls {I : Inv} (hti : TIok P ti) (hT : plainB ti T = true) {s : ChangeSpec} {fn : Func} {f : FuncId} {ts : List TypeId} {bt : TypeId}
    (hp : fn.params.toList = ts) (hv : s.vars = []) (hr : fn.resultTypes = #[bt]) (hb : P.underlying bt = some .bool) (htT : ∀ t ∈ ts, t ∈ T)
    (hs : ∀ ds : List (DataW H), ds.length = ts.length → (s.fn H ds).results = [.lit (.bool true)] ∧ (s.fn H ds).args = ds ∧ (s.fn H ds).vars = [])
    (hl : laidOutB P = true) (hrec : ∀ t ∈ ts, P.readableRec t = true ∧ t < P.types.size)
    (hc : ∀ xs : List D, Shapes ti ts xs → Trip P I f (xs.map V1.d) [] (.v (.d (.bool true))) [] [])
    {W : World} {base : Nat} {args : Array Value} {ds gs : List (DataW H)} {before : List MemPlace}
    (hI : I.at W fun _ _ => False) (hval : ∀ (j : Nat) t v, fn.params[j]? = some t → args[j]? = some v → Value.okWide P W .any base t v)
    (hW : DataW.Whole enc P fn.params.toList s.vars false W args.toList ds gs before) :
    Calls P f args W fun e W' => ∃ v, e = .returned v ∧ s.post enc P fn false true false false W args v W' := by
  have hW' := hW
  obtain ⟨p, q, hA, hV, rfl, _, _⟩ := hW
  rw [hv] at hV
  obtain ⟨rfl, rfl⟩ : gs = [] ∧ q = [] := by
    cases gs with
    | nil => exact ⟨rfl, hV⟩
    | cons _ _ => exact hV.elim
  rw [hp] at hA
  obtain ⟨hlen, hdl⟩ := trodAll_length hA
  obtain ⟨xs, hsh, hrel⟩ := conv_args hti hT (Z := fun _ _ => False) (fun _ _ h => h) (r := .any) (base' := base) ts args.toList ds p htT hA (fun j t v h1 h2 => hval j t v (by
    rw [← Array.getElem?_toList, hp]; exact h1) (by simpa using h2))
  have hxl := hsh.length
  have hcall := hc xs hsh
  have hheap : ∀ i o, heapOf [] i = some o → False := by
    intro i o h
    cases i <;> simp [heapOf] at h
  have hzone : ∀ (g : Ghost) b o, ¬ zone g (heapOf []) b o := by
    rintro g b o ⟨i, ob, h, _⟩
    exact hheap i ob h
  refine (hcall.calls (w := W) (X := fun _ _ => False) (g := fun _ => undef) (vals := args) (fun _ _ h => h.elim) (hI.mono fun b o hz => hz.elim (hzone _ b o) id) ⟨fun i o h => (hheap i o h).elim, fun i _ _ _ _ h => (hheap i _ h).elim, fun i _ _ _ h => (hheap i _ h).elim⟩ (fun _ => rfl)
    (by simp at hlen; simp; omega) (fun j x v hx hvv => ?_)).mono ?_
  · simp only [List.getElem?_map, Option.map_eq_some_iff] at hx
    obtain ⟨d, hd, rfl⟩ := hx
    exact (hrel j d v hd (by simpa using hvv)).mono (fun b o u hu _ => ⟨hu, fun hz => hz.elim (hzone _ b o) id⟩)
  · rintro e W' ⟨v, g', rfl, hpost⟩
    obtain rfl : v = .bool true := by cases (show RelD _ _ (.bool true) v from hpost.res); rfl
    have hbel : Below W.heap.size W W' := ⟨hpost.frame.os, hpost.frame.tape, hpost.frame.output, hpost.frame.size, fun k hk => hpost.frame.block k hk (fun o => hzone _ k o)⟩
    obtain ⟨s1, s2, s3⟩ := hs (ds ++ []) (by simp [hdl])
    refine ⟨_, rfl, ds, [], p ++ [], [], p, [], hW', ?_, ?_, ?_, hbel.frame _, fun h => by cases h⟩
    · rw [s1, hr]
      exact trodAll_mk1 (shut_bool hb true)
    · rw [s2, hp, List.append_nil]
      exact again_all hl hbel ts args.toList ds p hrec hA (fun x hx => hW'.lt x (by simp [hx]))
    · rw [s3, hv]; rfl
end
end Go.AM

set_option linter.unusedVariables false
noncomputable section
namespace Go.Proofs.YtjobleemmjjocaaDoor
open Go Go.AM

theorem ilt {i N : Nat} (h : i < N) : (i : Int) < (N : Int) := Int.ofNat_lt.2 h
theorem bO1_some {α γ : Type} (a : α) (k : α → Option γ) : bO1 (some a) k = k a := rfl
theorem bO2_some {α β γ : Type} (a : α) (b : β) (k : α → β → Option γ) : bO2 (some (a, b)) k = k a b := rfl
theorem aw (m : Nat) : F22 (m + 60) = some true := by kernel_rfl
theorem ev22 : Ev (fun n => F22 n) true := ⟨60, fun n hn => by obtain ⟨m, rfl⟩ : ∃ m, n = m + 60 := ⟨n - 60, by omega⟩; exact aw m⟩

theorem drop_cons {L : List D} {i : Nat} {x : D} (h : L[i]? = some x) : L.drop i = x :: L.drop (i + 1) := by
  obtain ⟨hi, rfl⟩ := List.getElem?_eq_some_iff.1 h
  exact List.drop_eq_getElem_cons hi

theorem ev17 {L : List D} (hL : ListS tab 32 L) : ∃ r, Ev (fun n => F17 n L) r ∧ (r = false → L.length ≤ 2000) := by
  have loop : ∀ i, i ≤ L.length → ∃ r, Ev (fun n => L17_2 n L (i : Int)) r := by
    refine down L.length ⟨false, Ev.succ ?_⟩ (fun i hi ih => ?_)
    · simp only [L17_2, lenF, Int.lt_irrefl, if_false]
      exact Ev.succ (by simp only [L17_3, Bool.false_eq_true, if_false]; exact Ev.ret)
    · obtain ⟨x, hx, _, hr⟩ := hL.get hi
      obtain ⟨a, b, c, p, rfl, _⟩ := rs32 hr
      obtain ⟨r, ih⟩ := ih
      by_cases h : (100 : Int) < (p.length : Int)
      · refine ⟨true, Ev.succ ?_⟩
        simp only [L17_2, lenF, if_pos (ilt hi)]
        refine Ev.succ ?_
        simp only [L17_3, if_true, getF_nat hx, ds_t32, lenF, if_pos h]
        exact Ev.succ (by simp only [L17_4, if_true]; exact Ev.ret)
      · refine ⟨r, Ev.succ ?_⟩
        simp only [L17_2, lenF, if_pos (ilt hi)]
        refine Ev.succ ?_
        simp only [L17_3, if_true, getF_nat hx, ds_t32, lenF, if_neg h]
        refine Ev.succ ?_
        simp only [L17_4, Bool.false_eq_true, if_false, letF, wrap_succ hi hL.1]
        exact ih
  by_cases h : (2000 : Int) < (L.length : Int)
  · refine ⟨true, ?_, fun e => by cases e⟩
    simp only [F17, lenF, if_pos h]
    exact Ev.succ (by simp only [L17_1, if_true]; exact Ev.ret)
  · obtain ⟨r, hr⟩ := loop 0 (Nat.zero_le _)
    refine ⟨r, ?_, fun _ => by omega⟩
    simp only [F17, lenF, if_neg h]
    exact Ev.succ (by simp only [L17_1, Bool.false_eq_true, if_false]; exact hr)

abbrev acc (z : Int) : Prop := z = 1 ∨ z = 2 ∨ z = 4 ∨ z = 3
end Go.Proofs.YtjobleemmjjocaaDoor
end

set_option linter.unusedVariables false
noncomputable section
namespace Go.Proofs.YtjobleemmjjocaaDoor
open Go Go.AM
mutual
def L41_2 : Nat → (List D) → Int → Option (Bool)
  | 0, _, _ => none
  | n + 1, l1, z4 =>
    lenF l1 fun z5 => (if z4 < z5 then L41_3 n l1 z4 true else L41_3 n l1 z4 false)
def L41_3 : Nat → (List D) → Int → Bool → Option (Bool)
  | 0, _, _, _ => none
  | n + 1, l1, z4, b6 =>
    (if b6 = true then getF l1 z4 fun x7 => ds_i64 x7 fun z8 => (if z8 < (-1 : Int) then L41_4 n l1 z4 true else L41_4 n l1 z4 false) else some true)
def L41_4 : Nat → (List D) → Int → Bool → Option (Bool)
  | 0, _, _, _ => none
  | n + 1, l1, z4, b9 =>
    (if b9 = true then some false else letF (IntKind.wrap .i64 (z4 + 1)) fun z10 => L41_2 n l1 z10)
end
def L41_1 : Nat → (List D) → Bool → Option (Bool)
  | 0, _, _ => none
  | n + 1, l1, b3 =>
    (if b3 = true then some false else L41_2 n l1 (0 : Int))
def F41 (n : Nat) (l1 : List D) : Option (Bool) :=
  lenF l1 fun z2 => (if (40 : Int) < z2 then L41_1 n l1 true else L41_1 n l1 false)
end Go.Proofs.YtjobleemmjjocaaDoor
end

set_option linter.unusedVariables false
noncomputable section
namespace Go.Proofs.YtjobleemmjjocaaDoor
open Go Go.AM
set_option maxHeartbeats 40000000 in
mutual
def L18_1 : Nat → (List D) → Int → (List D) → Option (Int × Int)
  | 0, _, _, _ => none
  | n + 1, l1, z3, l4 =>
    lenF l1 fun z5 => (if z3 < z5 then L18_2 n l1 z3 l4 true else L18_2 n l1 z3 l4 false)
def L18_2 : Nat → (List D) → Int → (List D) → Bool → Option (Int × Int)
  | 0, _, _, _, _ => none
  | n + 1, l1, z3, l4, b6 =>
    (if b6 = true then getF l1 z3 fun x7 => ds_t32 x7 fun z8 z9 z10 l11 => (if (65536 : Int) ≤ z3 then L18_3 n l1 z3 l4 z8 z9 z10 l11 true else (if z9 < (0 : Int) then L18_3 n l1 z3 l4 z8 z9 z10 l11 true else lenF l4 fun z12 => (if z12 ≤ z9 then L18_3 n l1 z3 l4 z8 z9 z10 l11 true else needF (0 ≤ z9 ∧ z9.toNat < l4.length) (getN l4 (z9.toNat) fun x13 => ds_bool x13 fun b14 => L18_3 n l1 z3 l4 z8 z9 z10 l11 b14)))) else lenF l4 fun z50 => some ((-1 : Int), z50))
def L18_3 : Nat → (List D) → Int → (List D) → Int → Int → Int → (List D) → Bool → Option (Int × Int)
  | 0, _, _, _, _, _, _, _, _ => none
  | n + 1, l1, z3, l4, z8, z9, z10, l11, b15 =>
    (if b15 = true then some (z3, (0 : Int)) else lenF l11 fun z16 => (if z16 = (0 : Int) then L18_4 n l1 z3 l4 z8 z9 z10 l11 true else L18_4 n l1 z3 l4 z8 z9 z10 l11 false))
def L18_4 : Nat → (List D) → Int → (List D) → Int → Int → Int → (List D) → Bool → Option (Int × Int)
  | 0, _, _, _, _, _, _, _, _ => none
  | n + 1, l1, z3, l4, z8, z9, z10, l11, b17 =>
    (if z8 = (1 : Int) then L18_5 n l1 z3 l4 z8 z9 z10 l11 b17 true else L18_5 n l1 z3 l4 z8 z9 z10 l11 b17 false)
def L18_5 : Nat → (List D) → Int → (List D) → Int → Int → Int → (List D) → Bool → Bool → Option (Int × Int)
  | 0, _, _, _, _, _, _, _, _, _ => none
  | n + 1, l1, z3, l4, z8, z9, z10, l11, b17, b18 =>
    (if b18 = true then L18_7 n l1 z3 l4 z8 z9 z10 l11 b17 true else (if z8 = (2 : Int) then L18_6 n l1 z3 l4 z8 z9 z10 l11 b17 true else L18_6 n l1 z3 l4 z8 z9 z10 l11 b17 false))
def L18_6 : Nat → (List D) → Int → (List D) → Int → Int → Int → (List D) → Bool → Bool → Option (Int × Int)
  | 0, _, _, _, _, _, _, _, _, _ => none
  | n + 1, l1, z3, l4, z8, z9, z10, l11, b17, b19 =>
    (if b19 = true then L18_7 n l1 z3 l4 z8 z9 z10 l11 b17 true else (if z8 = (4 : Int) then L18_7 n l1 z3 l4 z8 z9 z10 l11 b17 true else L18_7 n l1 z3 l4 z8 z9 z10 l11 b17 false))
def L18_7 : Nat → (List D) → Int → (List D) → Int → Int → Int → (List D) → Bool → Bool → Option (Int × Int)
  | 0, _, _, _, _, _, _, _, _, _ => none
  | n + 1, l1, z3, l4, z8, z9, z10, l11, b17, b20 =>
    (if b20 = true then (if (0 : Int) ≤ z10 then bO1 (F41 n l11) fun b21 => letB (!b21) fun b40 => (if b40 = true then some (z3, (0 : Int)) else letF (IntKind.wrap .i64 (z3 + 1)) fun z44 => L18_1 n l1 z44 l4) else some (z3, (0 : Int))) else (if z8 = (3 : Int) then L18_8 n l1 z3 l4 z8 z9 z10 b17 true else L18_8 n l1 z3 l4 z8 z9 z10 b17 false))
def L18_8 : Nat → (List D) → Int → (List D) → Int → Int → Int → Bool → Bool → Option (Int × Int)
  | 0, _, _, _, _, _, _, _, _ => none
  | n + 1, l1, z3, l4, z8, z9, z10, b17, b22 =>
    (if b22 = true then L18_10 n l1 z3 l4 z8 z9 z10 b17 true else (if z8 = (5 : Int) then L18_9 n l1 z3 l4 z8 z9 z10 b17 true else L18_9 n l1 z3 l4 z8 z9 z10 b17 false))
def L18_9 : Nat → (List D) → Int → (List D) → Int → Int → Int → Bool → Bool → Option (Int × Int)
  | 0, _, _, _, _, _, _, _, _ => none
  | n + 1, l1, z3, l4, z8, z9, z10, b17, b23 =>
    (if b23 = true then L18_10 n l1 z3 l4 z8 z9 z10 b17 true else (if z8 = (6 : Int) then L18_10 n l1 z3 l4 z8 z9 z10 b17 true else L18_10 n l1 z3 l4 z8 z9 z10 b17 false))
def L18_10 : Nat → (List D) → Int → (List D) → Int → Int → Int → Bool → Bool → Option (Int × Int)
  | 0, _, _, _, _, _, _, _, _ => none
  | n + 1, l1, z3, l4, z8, z9, z10, b17, b24 =>
    (if b24 = true then (if b17 = true then (if (0 : Int) ≤ z10 then letF (IntKind.wrap .i64 (z3 + 1)) fun z45 => L18_1 n l1 z45 l4 else some (z3, (0 : Int))) else some (z3, (0 : Int))) else (if z8 = (7 : Int) then L18_11 n l1 z3 l4 z8 z9 z10 b17 true else L18_11 n l1 z3 l4 z8 z9 z10 b17 false))
def L18_11 : Nat → (List D) → Int → (List D) → Int → Int → Int → Bool → Bool → Option (Int × Int)
  | 0, _, _, _, _, _, _, _, _ => none
  | n + 1, l1, z3, l4, z8, z9, z10, b17, b25 =>
    (if b25 = true then (if b17 = true then lenF l4 fun z26 => (if z10 = z26 then lenF l4 fun z27 => (if z27 < (65536 : Int) then L18_12 n l1 z3 l4 true else L18_12 n l1 z3 l4 false) else L18_12 n l1 z3 l4 false) else L18_12 n l1 z3 l4 false) else (if z8 = (8 : Int) then L18_13 n l1 z3 l4 z8 z9 z10 b17 true else L18_13 n l1 z3 l4 z8 z9 z10 b17 false))
def L18_12 : Nat → (List D) → Int → (List D) → Bool → Option (Int × Int)
  | 0, _, _, _, _ => none
  | n + 1, l1, z3, l4, b28 =>
    (if b28 = true then letL [.bool false] fun l29 => appF 1 l4 l29 fun l30 => letF (IntKind.wrap .i64 (z3 + 1)) fun z46 => L18_1 n l1 z46 l30 else some (z3, (0 : Int)))
def L18_13 : Nat → (List D) → Int → (List D) → Int → Int → Int → Bool → Bool → Option (Int × Int)
  | 0, _, _, _, _, _, _, _, _ => none
  | n + 1, l1, z3, l4, z8, z9, z10, b17, b31 =>
    (if b31 = true then (if b17 = true then (if (0 : Int) ≤ z10 then lenF l4 fun z32 => (if z10 < z32 then needF (0 ≤ z10 ∧ z10.toNat < l4.length) (getN l4 (z10.toNat) fun x33 => ds_bool x33 fun b34 => letB (!b34) fun b41 => (if b41 = true then some (z3, (0 : Int)) else letF (IntKind.wrap .i64 (z3 + 1)) fun z47 => L18_1 n l1 z47 l4)) else some (z3, (0 : Int))) else some (z3, (0 : Int))) else some (z3, (0 : Int))) else (if z8 = (9 : Int) then L18_14 n l1 z3 l4 z9 z10 b17 true else L18_14 n l1 z3 l4 z9 z10 b17 false))
def L18_14 : Nat → (List D) → Int → (List D) → Int → Int → Bool → Bool → Option (Int × Int)
  | 0, _, _, _, _, _, _, _ => none
  | n + 1, l1, z3, l4, z9, z10, b17, b35 =>
    (if b35 = true then (if b17 = true then (if z10 = (0 : Int) then L18_15 n l1 z3 l4 z9 true else L18_15 n l1 z3 l4 z9 false) else L18_15 n l1 z3 l4 z9 false) else some (z3, (0 : Int)))
def L18_15 : Nat → (List D) → Int → (List D) → Int → Bool → Option (Int × Int)
  | 0, _, _, _, _, _ => none
  | n + 1, l1, z3, l4, z9, b36 =>
    needF (0 ≤ z9 ∧ z9.toNat < l4.length) (getN l4 (z9.toNat) fun x37 => ds_bool x37 fun b38 => letB (!b36) fun b42 => (if b42 = true then some (z3, (0 : Int)) else letF (IntKind.wrap .i64 (z3 + 1)) fun z48 => setF l4 (z9.toNat) (.bool true) fun l49 => L18_1 n l1 z48 l49))
end
def F18 (n : Nat) (l1 : List D) : Option (Int × Int) :=
  letL [.bool false] fun l2 => L18_1 n l1 (0 : Int) l2
end Go.Proofs.YtjobleemmjjocaaDoor
end

set_option linter.unusedVariables false
noncomputable section
namespace Go.Proofs.YtjobleemmjjocaaDoor
open Go Go.AM
open Classical

theorem all_drop {L : List D} {i : Nat} {x : D} (h : L[i]? = some x) (p : D → Bool) : (L.drop i).all p = (p x && (L.drop (i + 1)).all p) := by
  rw [drop_cons h, List.all_cons]
def ge1 : D → Bool
  | .int .i64 z => decide (-1 ≤ z)
  | _ => false
def okP (p : List D) : Bool := decide ((p.length : Int) ≤ 40) && p.all ge1

theorem ev41 {L : List D} (hL : ListS tab 3 L) : Ev (fun n => F41 n L) (okP L) := by
  have loop : ∀ i, i ≤ L.length → Ev (fun n => L41_2 n L (i : Int)) ((L.drop i).all ge1) := by
    refine down L.length (Ev.succ ?_) (fun i hi ih => ?_)
    · simp only [L41_2, lenF, Int.lt_irrefl, if_false]
      exact Ev.succ (by simp only [L41_3, Bool.false_eq_true, if_false, List.drop_length]; exact Ev.ret)
    · obtain ⟨x, hx, _, hr⟩ := hL.get hi
      obtain ⟨a, rfl, _⟩ := rs3 hr
      rw [all_drop hx]
      refine Ev.succ ?_
      simp only [L41_2, lenF, if_pos (ilt hi)]
      refine Ev.succ ?_
      by_cases h : a < -1
      · simp only [L41_3, if_true, getF_nat hx, ds_i64, if_pos h, ge1, decide_eq_false (show ¬ -1 ≤ a by omega), Bool.false_and]
        exact Ev.succ (by simp only [L41_4, if_true]; exact Ev.ret)
      · simp only [L41_3, if_true, getF_nat hx, ds_i64, if_neg h, ge1, decide_eq_true (show -1 ≤ a by omega), Bool.true_and]
        refine Ev.succ ?_
        simp only [L41_4, Bool.false_eq_true, if_false, letF, wrap_succ hi hL.1]
        exact ih
  unfold okP
  by_cases h : (40 : Int) < (L.length : Int)
  · simp only [F41, lenF, if_pos h, decide_eq_false (show ¬ (L.length : Int) ≤ 40 by omega), Bool.false_and]
    exact Ev.succ (by simp only [L41_1, if_true]; exact Ev.ret)
  · simp only [F41, lenF, if_neg h, decide_eq_true (show (L.length : Int) ≤ 40 by omega), Bool.true_and]
    exact Ev.succ (by simp only [L41_1, Bool.false_eq_true, if_false]; exact loop 0 (Nat.zero_le _))

theorem ev73 {L : List D} (hL : ListS tab 3 L) : ∃ r, Ev (fun n => F73 n L) r ∧ decide (0 ≤ r) = !L.all ge1 := by
  have loop : ∀ i, i ≤ L.length → ∃ r, Ev (fun n => L73_1 n L (L.length : Int) (i : Int)) r ∧ decide (0 ≤ r) = !(L.drop i).all ge1 := by
    refine down L.length ⟨-1, Ev.succ ?_, by simp⟩ (fun i hi ih => ?_)
    · simp only [L73_1, Int.lt_irrefl, if_false]
      exact Ev.succ (by simp only [L73_2, Bool.false_eq_true, if_false]; exact Ev.ret)
    · obtain ⟨x, hx, _, hr⟩ := hL.get hi
      obtain ⟨a, rfl, _⟩ := rs3 hr
      obtain ⟨r, h1, h2⟩ := ih
      rw [all_drop hx]
      by_cases h : a < -1
      · refine ⟨(i : Int), Ev.succ ?_, ?_⟩
        · simp only [L73_1, if_pos (ilt hi)]
          refine Ev.succ ?_
          simp only [L73_2, if_true, getF_nat hx, ds_i64, F96, if_pos h, bO1_some]
          exact Ev.ret
        · simp only [ge1, decide_eq_false (show ¬ -1 ≤ a by omega), Bool.false_and, Bool.not_false, decide_eq_true_eq]; omega
      · refine ⟨r, Ev.succ ?_, ?_⟩
        · simp only [L73_1, if_pos (ilt hi)]
          refine Ev.succ ?_
          simp only [L73_2, if_true, getF_nat hx, ds_i64, F96, if_neg h, bO1_some, Bool.false_eq_true, if_false, letF, wrap_succ hi hL.1]
          exact h1
        · simp only [ge1, decide_eq_true (show -1 ≤ a by omega), Bool.true_and]; exact h2
  obtain ⟨r, h1, h2⟩ := loop 0 (Nat.zero_le _)
  exact ⟨r, by simp only [F73, lenF]; exact h1, by simpa using h2⟩
theorem ev57 {L : List D} (hL : ListS tab 3 L) : Ev (fun n => F57 n L) (!L.all ge1) := by
  obtain ⟨r, h1, h2⟩ := ev73 hL
  unfold F57
  refine Ev.bO1 h1 ?_
  rw [← h2]
  by_cases h : 0 ≤ r <;> simp only [h, if_true, if_false, decide_true, decide_false] <;> exact Ev.ret
theorem ev89 {L : List D} (hL : ListS tab 3 L) : Ev (fun n => F89 n L) (okP L) := by
  unfold F89 okP
  by_cases h : (L.length : Int) ≤ 40
  · simp only [lenF, if_pos h, decide_eq_true h, Bool.true_and]
    refine Ev.bO1 (ev57 hL) ?_
    simp only [letB, Bool.not_not]
    exact Ev.ret
  · simp only [lenF, if_neg h, decide_eq_false h, Bool.false_and]; exact Ev.ret

def stepK (k t d : Int) (p E : List D) : Option (List D) :=
  if k = 1 ∨ k = 2 ∨ k = 4 then (if 0 ≤ d ∧ okP p = true then some E else none)
  else if k = 3 ∨ k = 5 ∨ k = 6 then (if 0 ≤ d ∧ p = [] then some E else none)
  else if k = 7 then (if d = (E.length : Int) ∧ (E.length : Int) < 65536 ∧ p = [] then some (E ++ [.bool false]) else none)
  else if k = 8 then (if p = [] ∧ 0 ≤ d ∧ d < (E.length : Int) ∧ E[d.toNat]? = some (.bool true) then some E else none)
  else if k = 9 then (if d = 0 ∧ p = [] then some (E.set t.toNat (.bool true)) else none)
  else none
def AllB (E : List D) : Prop := ∀ x ∈ E, ∃ b, x = .bool b

theorem lenz {p : List D} : ((p.length : Int) = 0) ↔ p = [] := by
  constructor
  · intro h; exact List.eq_nil_of_length_eq_zero (by omega)
  · rintro rfl; rfl
theorem getN_eq {γ : Type} {L : List D} {i : Nat} {x : D} {k : D → Option γ} (h : L[i]? = some x) : getN L i k = k x := by simp only [getN, h]
theorem AllB.get {E : List D} (h : AllB E) {i : Nat} (hi : i < E.length) : ∃ b, E[i]? = some (.bool b) := by
  obtain ⟨b, hb⟩ := h _ (List.getElem_mem hi)
  exact ⟨b, by rw [List.getElem?_eq_getElem hi, hb]⟩
theorem AllB.app {E : List D} (h : AllB E) (b : Bool) : AllB (E ++ [.bool b]) := fun x hx => by
  rcases List.mem_append.1 hx with hx | hx
  · exact h x hx
  · exact ⟨b, by simpa using hx⟩
theorem AllB.set {E : List D} (h : AllB E) (i : Nat) (b : Bool) : AllB (E.set i (.bool b)) := fun x hx => by
  rcases List.mem_or_eq_of_mem_set hx with hx | hx
  · exact h x hx
  · exact ⟨b, hx⟩
theorem stepK_ok {k t d : Int} {p E E' : List D} (h : stepK k t d p E = some E') (hE : AllB E) (hl : (E.length : Int) ≤ 65536) : AllB E' ∧ (E'.length : Int) ≤ 65536 := by
  unfold stepK at h
  split at h
  · split at h
    · cases h; exact ⟨hE, hl⟩
    · cases h
  · split at h
    · split at h
      · cases h; exact ⟨hE, hl⟩
      · cases h
    · split at h
      · split at h
        · rename_i c; cases h; exact ⟨hE.app _, by simp; omega⟩
        · cases h
      · split at h
        · split at h
          · cases h; exact ⟨hE, hl⟩
          · cases h
        · split at h
          · split at h
            · cases h; exact ⟨hE.set _ _, by simpa using hl⟩
            · cases h
          · cases h

theorem app_ok {E : List D} (h : (E.length : Int) ≤ 65536) : E.length + [D.bool false].length ≤ maxLen ∧ (E.length + [D.bool false].length) * 1 ≤ 140737488355328 := by
  have : (9223372036854775807 : Nat) ≤ maxLen ∨ (140737488355328 : Nat) ≤ maxLen ∨ (70000 : Nat) ≤ maxLen := by right; right; decide
  simp only [List.length_cons, List.length_nil]
  omega

theorem refK {L : List D} (hL : L.length ≤ maxLen) {i : Nat} (hi : i < L.length) {k t d : Int} {p E : List D} (hp : ListS tab 3 p) (hE : AllB E) (hl : (E.length : Int) ≤ 65536)
    (ht : 0 ≤ t) (ht2 : t.toNat < E.length) (hy : E[t.toNat]? = some (.bool false)) {r : Int × Int}
    (hbad : stepK k t d p E = none → r = ((i : Int), 0)) (hgood : ∀ E', stepK k t d p E = some E' → Ev (fun n => L18_1 n L ((i + 1 : Nat) : Int) E') r) :
    Ev (fun n => L18_4 n L (i : Int) E k t d p (decide (p = []))) r := by
  have hw := wrap_succ hi hL
  have acc3 : (k = 1 ∨ k = 2 ∨ k = 4) → Ev (fun n => L18_7 n L (i : Int) E k t d p (decide (p = [])) true) r := by
    intro hk
    refine Ev.succ ?_
    by_cases c : 0 ≤ d
    · simp only [L18_7, if_true, if_pos c]
      refine Ev.bO1 (ev41 hp) ?_
      simp only [letB, letF, hw]
      cases ho : okP p
      · obtain rfl := hbad (by simp [stepK, hk, ho])
        exact Ev.ret
      · exact hgood _ (by simp [stepK, hk, ho, c])
    · simp only [L18_7, if_true, if_neg c]
      obtain rfl := hbad (by simp [stepK, hk, c])
      exact Ev.ret
  have acc5 : (k = 3 ∨ k = 5 ∨ k = 6) → Ev (fun n => L18_10 n L (i : Int) E k t d (decide (p = [])) true) r := by
    intro hk
    have hk2 : ¬ (k = 1 ∨ k = 2 ∨ k = 4) := by omega
    refine Ev.succ ?_
    simp only [L18_10, if_true, decide_eq_true_eq, letF, hw]
    by_cases c2 : p = []
    · by_cases c : 0 ≤ d
      · simp only [if_pos c2, if_pos c]
        exact hgood _ (by simp only [stepK, if_neg hk2, if_pos hk, if_pos (And.intro c c2)])
      · simp only [if_pos c2, if_neg c]
        obtain rfl := hbad (by simp only [stepK, if_neg hk2, if_pos hk, if_neg (fun h => c (And.left h))])
        exact Ev.ret
    · simp only [if_neg c2]
      obtain rfl := hbad (by simp only [stepK, if_neg hk2, if_pos hk, if_neg (fun h => c2 (And.right h))])
      exact Ev.ret
  by_cases k1 : k = 1
  · refine Ev.succ ?_; simp only [L18_4, if_pos k1]
    refine Ev.succ ?_; simp only [L18_5, if_true]
    exact acc3 (by omega)
  refine Ev.succ ?_; simp only [L18_4, if_neg k1]
  by_cases k2 : k = 2
  · refine Ev.succ ?_; simp only [L18_5, Bool.false_eq_true, if_false, if_pos k2]
    refine Ev.succ ?_; simp only [L18_6, if_true]
    exact acc3 (by omega)
  refine Ev.succ ?_; simp only [L18_5, Bool.false_eq_true, if_false, if_neg k2]
  by_cases k4 : k = 4
  · refine Ev.succ ?_; simp only [L18_6, Bool.false_eq_true, if_false, if_pos k4]
    exact acc3 (by omega)
  refine Ev.succ ?_; simp only [L18_6, Bool.false_eq_true, if_false, if_neg k4]
  by_cases k3 : k = 3
  · refine Ev.succ ?_; simp only [L18_7, Bool.false_eq_true, if_false, if_pos k3]
    refine Ev.succ ?_; simp only [L18_8, if_true]
    exact acc5 (by omega)
  refine Ev.succ ?_; simp only [L18_7, Bool.false_eq_true, if_false, if_neg k3]
  by_cases k5 : k = 5
  · refine Ev.succ ?_; simp only [L18_8, Bool.false_eq_true, if_false, if_pos k5]
    refine Ev.succ ?_; simp only [L18_9, if_true]
    exact acc5 (by omega)
  refine Ev.succ ?_; simp only [L18_8, Bool.false_eq_true, if_false, if_neg k5]
  by_cases k6 : k = 6
  · refine Ev.succ ?_; simp only [L18_9, Bool.false_eq_true, if_false, if_pos k6]
    exact acc5 (by omega)
  refine Ev.succ ?_; simp only [L18_9, Bool.false_eq_true, if_false, if_neg k6]
  have n1 : ¬ (k = 1 ∨ k = 2 ∨ k = 4) := by omega
  have n2 : ¬ (k = 3 ∨ k = 5 ∨ k = 6) := by omega
  by_cases k7 : k = 7
  · refine Ev.succ ?_; simp only [L18_10, Bool.false_eq_true, if_false, if_pos k7]
    refine Ev.succ ?_
    have e : stepK k t d p E = if d = (E.length : Int) ∧ (E.length : Int) < 65536 ∧ p = [] then some (E ++ [.bool false]) else none := by
      simp only [stepK, if_neg n1, if_neg n2, if_pos k7]
    have stop : (stepK k t d p E = none) → Ev (fun n => L18_12 n L (i : Int) E false) r := by
      intro h
      obtain rfl := hbad h
      exact Ev.succ (by simp only [L18_12, Bool.false_eq_true, if_false]; exact Ev.ret)
    simp only [L18_11]
    simp only [if_true, decide_eq_true_eq]
    dsimp only [lenF]
    by_cases c : p = []
    · by_cases c2 : d = (E.length : Int)
      · by_cases c3 : (E.length : Int) < 65536
        · simp only [if_pos c, if_pos c2, if_pos c3]
          refine Ev.succ ?_
          simp only [L18_12, if_true, letL, appF, if_pos (app_ok hl), letF, hw]
          exact hgood _ (by rw [e, if_pos ⟨c2, c3, c⟩])
        · simp only [if_pos c, if_pos c2, if_neg c3]
          exact stop (by rw [e, if_neg (fun h => c3 h.2.1)])
      · simp only [if_pos c, if_neg c2]
        exact stop (by rw [e, if_neg (fun h => c2 h.1)])
    · simp only [if_neg c]
      exact stop (by rw [e, if_neg (fun h => c h.2.2)])
  refine Ev.succ ?_; simp only [L18_10, Bool.false_eq_true, if_false, if_neg k7]
  by_cases k8 : k = 8
  · refine Ev.succ ?_; simp only [L18_11, Bool.false_eq_true, if_false, if_pos k8]
    refine Ev.succ ?_
    have e : stepK k t d p E = if p = [] ∧ 0 ≤ d ∧ d < (E.length : Int) ∧ E[d.toNat]? = some (.bool true) then some E else none := by
      simp only [stepK, if_neg n1, if_neg n2, if_neg k7, if_pos k8]
    simp only [L18_13, if_true, decide_eq_true_eq, lenF]
    by_cases c : p = []
    · by_cases c2 : 0 ≤ d
      · by_cases c3 : d < (E.length : Int)
        · obtain ⟨b, hb⟩ := hE.get (show d.toNat < E.length by omega)
          simp only [if_pos c, if_pos c2, if_pos c3, needF, if_pos (show 0 ≤ d ∧ d.toNat < E.length by omega), getN_eq hb, ds_bool, letB, letF, hw]
          cases b
          · obtain rfl := hbad (by rw [e, if_neg (fun h => by have := h.2.2.2; rw [hb] at this; cases this)])
            exact Ev.ret
          · exact hgood _ (by rw [e, if_pos ⟨c, c2, c3, hb⟩])
        · simp only [if_pos c, if_pos c2, if_neg c3]
          obtain rfl := hbad (by rw [e, if_neg (fun h => c3 h.2.2.1)])
          exact Ev.ret
      · simp only [if_pos c, if_neg c2]
        obtain rfl := hbad (by rw [e, if_neg (fun h => c2 h.2.1)])
        exact Ev.ret
    · simp only [if_neg c]
      obtain rfl := hbad (by rw [e, if_neg (fun h => c h.1)])
      exact Ev.ret
  refine Ev.succ ?_; simp only [L18_11, Bool.false_eq_true, if_false, if_neg k8]
  by_cases k9 : k = 9
  · refine Ev.succ ?_; simp only [L18_13, Bool.false_eq_true, if_false, if_pos k9]
    have e : stepK k t d p E = if d = 0 ∧ p = [] then some (E.set t.toNat (.bool true)) else none := by
      simp only [stepK, if_neg n1, if_neg n2, if_neg k7, if_neg k8, if_pos k9]
    have stop : (stepK k t d p E = none) → Ev (fun n => L18_15 n L (i : Int) E t false) r := by
      intro h
      obtain rfl := hbad h
      refine Ev.succ ?_
      simp only [L18_15, needF, if_pos (show 0 ≤ t ∧ t.toNat < E.length from ⟨ht, ht2⟩), getN_eq hy, ds_bool, letB, Bool.not_false, if_true]
      exact Ev.ret
    refine Ev.succ ?_
    simp only [L18_14, if_true, decide_eq_true_eq]
    by_cases c : p = []
    · by_cases c2 : d = 0
      · simp only [if_pos c, if_pos c2]
        refine Ev.succ ?_
        simp only [L18_15, needF, if_pos (show 0 ≤ t ∧ t.toNat < E.length from ⟨ht, ht2⟩), getN_eq hy, ds_bool, letB, Bool.not_true, Bool.false_eq_true, if_false, letF, setF, hw]
        exact hgood _ (by rw [e, if_pos ⟨c2, c⟩])
      · simp only [if_pos c, if_neg c2]
        exact stop (by rw [e, if_neg (fun h => c2 h.1)])
    · simp only [if_neg c]
      exact stop (by rw [e, if_neg (fun h => c h.2)])
  refine Ev.succ ?_; simp only [L18_13, Bool.false_eq_true, if_false, if_neg k9]
  refine Ev.succ ?_; simp only [L18_14, Bool.false_eq_true, if_false]
  obtain rfl := hbad (by simp only [stepK, if_neg n1, if_neg n2, if_neg k7, if_neg k8, if_neg k9])
  exact Ev.ret

def stepS (k t d : Int) (p E : List D) : Option (List D) :=
  if 0 ≤ t ∧ t.toNat < E.length ∧ E[t.toNat]? = some (.bool false) then stepK k t d p E else none

theorem refS {L : List D} (hL : L.length ≤ maxLen) {i : Nat} (hi : i < L.length) {k t d : Int} {p E : List D} (hx : L[i]? = some (.agg [.int .u8 k, .int .i64 t, .int .i64 d, .list false 1 p])) (hp : ListS tab 3 p) (hE : AllB E) (hl : (E.length : Int) ≤ 65536) {r : Int × Int}
    (hbad : (65536 ≤ (i : Int) ∨ stepS k t d p E = none) → r = ((i : Int), 0)) (hgood : (i : Int) < 65536 → ∀ E', stepS k t d p E = some E' → Ev (fun n => L18_1 n L ((i + 1 : Nat) : Int) E') r) :
    Ev (fun n => L18_1 n L (i : Int) E) r := by
  refine Ev.succ ?_
  simp only [L18_1, lenF, if_pos (ilt hi)]
  refine Ev.succ ?_
  simp only [L18_2, if_true, getF_nat hx, ds_t32, lenF]
  have stop : (65536 ≤ (i : Int) ∨ stepS k t d p E = none) → Ev (fun n => L18_3 n L (i : Int) E k t d p true) r := by
    intro h
    obtain rfl := hbad h
    exact Ev.succ (by simp only [L18_3, if_true]; exact Ev.ret)
  by_cases c : 65536 ≤ (i : Int)
  · simp only [if_pos c]; exact stop (.inl c)
  simp only [if_neg c]
  by_cases c1 : t < 0
  · simp only [if_pos c1]; exact stop (.inr (by unfold stepS; rw [if_neg (fun h => by omega)]))
  simp only [if_neg c1]
  by_cases c2 : (E.length : Int) ≤ t
  · simp only [if_pos c2]; exact stop (.inr (by unfold stepS; rw [if_neg (fun h => by omega)]))
  have q1 : 0 ≤ t := by omega
  have q2 : t.toNat < E.length := by omega
  obtain ⟨b, hb⟩ := hE.get q2
  simp only [if_neg c2, needF, if_pos (And.intro q1 q2), getN_eq hb, ds_bool]
  cases b
  · have e : stepS k t d p E = stepK k t d p E := by unfold stepS; rw [if_pos ⟨q1, q2, hb⟩]
    refine Ev.succ ?_
    have k4 := refK hL hi hp hE hl q1 q2 hb (fun h => hbad (.inr (by rw [e]; exact h))) (fun E' h => hgood (by omega) E' (by rw [e]; exact h))
    simp only [L18_3, Bool.false_eq_true, if_false, lenF, lenz]
    by_cases z : p = []
    · simp only [if_pos z]; simp only [decide_eq_true z] at k4; exact k4
    · simp only [if_neg z]; simp only [decide_eq_false z] at k4; exact k4
  · exact stop (.inr (by unfold stepS; rw [if_neg (fun h => by have := h.2.2; rw [hb] at this; cases this)]))

theorem ev81K {k t d : Int} {p E : List D} (hp : ListS tab 3 p) (hE : AllB E) (hl : (E.length : Int) ≤ 65536)
    (ht : 0 ≤ t) (ht2 : t.toNat < E.length) (hy : E[t.toNat]? = some (.bool false)) :
    ∃ s, Ev (fun n => L81_1 n k t d p E false) s ∧ (match stepK k t d p E with | none => ∃ E', s = .inl (false, E') | some E' => s = .inl (true, E') ∨ s = .inr E') := by
  have acc3 : (k = 1 ∨ k = 2 ∨ k = 4) → ∃ s, Ev (fun n => L81_4 n k t d p E true) s ∧ (match stepK k t d p E with | none => ∃ E', s = .inl (false, E') | some E' => s = .inl (true, E') ∨ s = .inr E') := by
    intro hk
    by_cases c : 0 ≤ d
    · refine ⟨.inl (okP p, E), Ev.succ ?_, ?_⟩
      · simp only [L81_4, if_true, if_pos c]
        exact Ev.bO1 (ev89 hp) Ev.ret
      · simp only [stepK, if_pos hk, c, true_and]
        cases okP p
        · exact ⟨E, rfl⟩
        · exact .inl rfl
    · refine ⟨.inl (false, E), Ev.succ ?_, ?_⟩
      · simp only [L81_4, if_true, if_neg c]
        exact Ev.ret
      · simp only [stepK, if_pos hk, c, false_and, if_false]
        exact ⟨E, rfl⟩
  have acc5 : (k = 3 ∨ k = 5 ∨ k = 6) → ∃ s, Ev (fun n => L81_11 n d p E) s ∧ (match stepK k t d p E with | none => ∃ E', s = .inl (false, E') | some E' => s = .inl (true, E') ∨ s = .inr E') := by
    intro hk
    have hk2 : ¬ (k = 1 ∨ k = 2 ∨ k = 4) := by omega
    have e : stepK k t d p E = if 0 ≤ d ∧ p = [] then some E else none := by simp only [stepK, if_neg hk2, if_pos hk]
    rw [e]
    by_cases c : 0 ≤ d
    · by_cases c2 : p = []
      · refine ⟨.inl (true, E), Ev.succ ?_, ?_⟩
        · simp only [L81_11, if_pos c, lenF, lenz, if_pos c2]; exact Ev.ret
        · rw [if_pos ⟨c, c2⟩]; exact .inl rfl
      · refine ⟨.inl (false, E), Ev.succ ?_, ?_⟩
        · simp only [L81_11, if_pos c, lenF, lenz, if_neg c2]; exact Ev.ret
        · rw [if_neg (fun h => c2 h.2)]; exact ⟨E, rfl⟩
    · refine ⟨.inl (false, E), Ev.succ ?_, ?_⟩
      · simp only [L81_11, if_neg c]; exact Ev.ret
      · rw [if_neg (fun h => c h.1)]; exact ⟨E, rfl⟩
  have lift : ∀ {A B : Nat → Option ((Bool × List D) ⊕ List D)}, (∀ n, B (n + 1) = A n) → (∃ s, Ev A s ∧ (match stepK k t d p E with | none => ∃ E', s = .inl (false, E') | some E' => s = .inl (true, E') ∨ s = .inr E')) → ∃ s, Ev B s ∧ (match stepK k t d p E with | none => ∃ E', s = .inl (false, E') | some E' => s = .inl (true, E') ∨ s = .inr E') := by
    rintro A B h ⟨s, h1, h2⟩
    exact ⟨s, Ev.succ (by simp only [h]; exact h1), h2⟩
  by_cases k1 : k = 1
  · refine lift (A := fun n => L81_2 n k t d p E true) (fun n => by simp only [L81_1, Bool.false_eq_true, if_false, if_pos k1]) ?_
    refine lift (A := fun n => L81_4 n k t d p E true) (fun n => by simp only [L81_2, if_true]) (acc3 (by omega))
  refine lift (A := fun n => L81_2 n k t d p E false) (fun n => by simp only [L81_1, Bool.false_eq_true, if_false, if_neg k1]) ?_
  by_cases k2 : k = 2
  · refine lift (A := fun n => L81_3 n k t d p E true) (fun n => by simp only [L81_2, Bool.false_eq_true, if_false, if_pos k2]) ?_
    refine lift (A := fun n => L81_4 n k t d p E true) (fun n => by simp only [L81_3, if_true]) (acc3 (by omega))
  refine lift (A := fun n => L81_3 n k t d p E false) (fun n => by simp only [L81_2, Bool.false_eq_true, if_false, if_neg k2]) ?_
  by_cases k4 : k = 4
  · refine lift (A := fun n => L81_4 n k t d p E true) (fun n => by simp only [L81_3, Bool.false_eq_true, if_false, if_pos k4]) (acc3 (by omega))
  refine lift (A := fun n => L81_4 n k t d p E false) (fun n => by simp only [L81_3, Bool.false_eq_true, if_false, if_neg k4]) ?_
  by_cases k3 : k = 3
  · refine lift (A := fun n => L81_5 n k t d p E true) (fun n => by simp only [L81_4, Bool.false_eq_true, if_false, if_pos k3]) ?_
    refine lift (A := fun n => L81_11 n d p E) (fun n => by simp only [L81_5, if_true]) (acc5 (by omega))
  refine lift (A := fun n => L81_5 n k t d p E false) (fun n => by simp only [L81_4, Bool.false_eq_true, if_false, if_neg k3]) ?_
  by_cases k5 : k = 5
  · refine lift (A := fun n => L81_6 n k t d p E true) (fun n => by simp only [L81_5, Bool.false_eq_true, if_false, if_pos k5]) ?_
    refine lift (A := fun n => L81_7 n k t d p E true) (fun n => by simp only [L81_6, if_true]) ?_
    refine lift (A := fun n => L81_11 n d p E) (fun n => by simp only [L81_7, if_true]) (acc5 (by omega))
  refine lift (A := fun n => L81_6 n k t d p E false) (fun n => by simp only [L81_5, Bool.false_eq_true, if_false, if_neg k5]) ?_
  by_cases k6 : k = 6
  · refine lift (A := fun n => L81_7 n k t d p E true) (fun n => by simp only [L81_6, Bool.false_eq_true, if_false, if_pos k6]) ?_
    refine lift (A := fun n => L81_11 n d p E) (fun n => by simp only [L81_7, if_true]) (acc5 (by omega))
  refine lift (A := fun n => L81_7 n k t d p E false) (fun n => by simp only [L81_6, Bool.false_eq_true, if_false, if_neg k6]) ?_
  have n1 : ¬ (k = 1 ∨ k = 2 ∨ k = 4) := by omega
  have n2 : ¬ (k = 3 ∨ k = 5 ∨ k = 6) := by omega
  by_cases k7 : k = 7
  · have e : stepK k t d p E = if d = (E.length : Int) ∧ (E.length : Int) < 65536 ∧ p = [] then some (E ++ [.bool false]) else none := by
      simp only [stepK, if_neg n1, if_neg n2, if_pos k7]
    refine lift (A := fun n => L81_8 n k t d p E true) (fun n => by simp only [L81_7, Bool.false_eq_true, if_false, if_pos k7]) ?_
    rw [e]
    by_cases c : d = (E.length : Int) ∧ (E.length : Int) < 65536 ∧ p = []
    · refine ⟨.inr (E ++ [.bool false]), Ev.succ ?_, by rw [if_pos c]; exact .inr rfl⟩
      simp only [L81_8, if_true, lenF, if_pos c.1, if_pos (show d < 65536 by omega), lenz, if_pos c.2.2]
      refine Ev.succ ?_
      simp only [L81_12, if_true, needF, if_pos (show scalB [D.bool false] = true by rfl), appF, if_pos (app_ok hl)]
      exact Ev.ret
    · refine ⟨.inl (false, E), Ev.succ ?_, by rw [if_neg c]; exact ⟨E, rfl⟩⟩
      have stop : Ev (fun n => L81_12 n p false) (.inl (false, p)) := Ev.succ (by simp only [L81_12, Bool.false_eq_true, if_false]; exact Ev.ret)
      have stop : Ev (fun n => L81_12 n E false) (.inl (false, E)) := Ev.succ (by simp only [L81_12, Bool.false_eq_true, if_false]; exact Ev.ret)
      simp only [L81_8, if_true, lenF, lenz]
      by_cases c1 : d = (E.length : Int)
      · by_cases c2 : d < 65536
        · have c3 : ¬ p = [] := fun h => c ⟨c1, by omega, h⟩
          simp only [if_pos c1, if_neg c3]
          split <;> exact stop
        · have c3 : ¬ (E.length : Int) < 65536 := by omega
          simp only [if_pos c1, if_neg c3, if_neg c2]; exact stop
      · simp only [if_neg c1]; exact stop
  refine lift (A := fun n => L81_8 n k t d p E false) (fun n => by simp only [L81_7, Bool.false_eq_true, if_false, if_neg k7]) ?_
  by_cases k8 : k = 8
  · have e : stepK k t d p E = if p = [] ∧ 0 ≤ d ∧ d < (E.length : Int) ∧ E[d.toNat]? = some (.bool true) then some E else none := by
      simp only [stepK, if_neg n1, if_neg n2, if_neg k7, if_pos k8]
    refine lift (A := fun n => L81_9 n k t d p E true) (fun n => by simp only [L81_8, Bool.false_eq_true, if_false, if_pos k8]) ?_
    rw [e]
    by_cases c2 : 0 ≤ d
    · by_cases c3 : d < (E.length : Int)
      · obtain ⟨b, hb⟩ := hE.get (show d.toNat < E.length by omega)
        by_cases c : p = []
        · refine ⟨.inl (b, E), Ev.succ ?_, ?_⟩
          · simp only [L81_9, if_true, lenF, if_pos c2, if_pos c3, needF, if_pos (show 0 ≤ d ∧ d.toNat < E.length by omega), getN_eq hb, ds_bool, lenz, if_pos c]
            cases b <;> exact Ev.ret
          · cases b
            · rw [if_neg (fun h => by have := h.2.2.2; rw [hb] at this; cases this)]; exact ⟨E, rfl⟩
            · rw [if_pos ⟨c, c2, c3, hb⟩]; exact .inl rfl
        · refine ⟨.inl (false, E), Ev.succ ?_, by rw [if_neg (fun h => c h.1)]; exact ⟨E, rfl⟩⟩
          simp only [L81_9, if_true, lenF, if_pos c2, if_pos c3, needF, if_pos (show 0 ≤ d ∧ d.toNat < E.length by omega), getN_eq hb, ds_bool, lenz, if_neg c]
          cases b <;> exact Ev.ret
      · refine ⟨.inl (false, E), Ev.succ ?_, by rw [if_neg (fun h => c3 h.2.2.1)]; exact ⟨E, rfl⟩⟩
        simp only [L81_9, if_true, lenF, if_pos c2, if_neg c3]; exact Ev.ret
    · refine ⟨.inl (false, E), Ev.succ ?_, by rw [if_neg (fun h => c2 h.2.1)]; exact ⟨E, rfl⟩⟩
      simp only [L81_9, if_true, if_neg c2]; exact Ev.ret
  refine lift (A := fun n => L81_9 n k t d p E false) (fun n => by simp only [L81_8, Bool.false_eq_true, if_false, if_neg k8]) ?_
  by_cases k9 : k = 9
  · have e : stepK k t d p E = if d = 0 ∧ p = [] then some (E.set t.toNat (.bool true)) else none := by
      simp only [stepK, if_neg n1, if_neg n2, if_neg k7, if_neg k8, if_pos k9]
    refine lift (A := fun n => L81_10 n t d p E true) (fun n => by simp only [L81_9, Bool.false_eq_true, if_false, if_pos k9]) ?_
    rw [e]
    have fin : ∀ b, Ev (fun n => L81_13 n t E b) (.inl (b, E.set t.toNat (.bool b))) := fun b => Ev.succ (by
      simp only [L81_13, needF, if_pos (show 0 ≤ t ∧ t.toNat < E.length from ⟨ht, ht2⟩), getN_eq hy, ds_bool, setF]; exact Ev.ret)
    by_cases c1 : d = 0
    · by_cases c : p = []
      · refine ⟨.inl (true, E.set t.toNat (.bool true)), Ev.succ ?_, ?_⟩
        · simp only [L81_10, if_true, if_pos c1, lenF, lenz, if_pos c]; exact fin true
        · rw [if_pos ⟨c1, c⟩]; exact .inl rfl
      · refine ⟨.inl (false, E.set t.toNat (.bool false)), Ev.succ ?_, by rw [if_neg (fun h => c h.2)]; exact ⟨_, rfl⟩⟩
        simp only [L81_10, if_true, if_pos c1, lenF, lenz, if_neg c]; exact fin false
    · refine ⟨.inl (false, E.set t.toNat (.bool false)), Ev.succ ?_, by rw [if_neg (fun h => c1 h.1)]; exact ⟨_, rfl⟩⟩
      simp only [L81_10, if_true, if_neg c1]; exact fin false
  refine lift (A := fun n => L81_10 n t d p E false) (fun n => by simp only [L81_9, Bool.false_eq_true, if_false, if_neg k9]) ?_
  refine ⟨.inl (false, E), Ev.succ ?_, ?_⟩
  · simp only [L81_10, Bool.false_eq_true, if_false]; exact Ev.ret
  · simp only [stepK, if_neg n1, if_neg n2, if_neg k7, if_neg k8, if_neg k9]
    exact ⟨E, rfl⟩

theorem ev81 {k t d : Int} {p E : List D} (hp : ListS tab 3 p) (hE : AllB E) (hl : (E.length : Int) ≤ 65536) :
    ∃ s, Ev (fun n => F81 n k t d p E) s ∧ (match stepS k t d p E with | none => ∃ E', s = .inl (false, E') | some E' => s = .inl (true, E') ∨ s = .inr E') := by
  have stop : Ev (fun n => L81_1 n k t d p E true) (.inl (false, E)) := Ev.succ (by simp only [L81_1, if_true]; exact Ev.ret)
  by_cases c1 : t < 0
  · refine ⟨_, by simp only [F81, if_pos c1]; exact stop, ?_⟩
    have : stepS k t d p E = none := by unfold stepS; rw [if_neg (fun h => by omega)]
    rw [this]; exact ⟨E, rfl⟩
  by_cases c2 : (E.length : Int) ≤ t
  · refine ⟨_, by simp only [F81, if_neg c1, lenF, if_pos c2]; exact stop, ?_⟩
    have : stepS k t d p E = none := by unfold stepS; rw [if_neg (fun h => by omega)]
    rw [this]; exact ⟨E, rfl⟩
  have q1 : 0 ≤ t := by omega
  have q2 : t.toNat < E.length := by omega
  obtain ⟨b, hb⟩ := hE.get q2
  cases b
  · obtain ⟨s, h1, h2⟩ := ev81K (k := k) (d := d) hp hE hl q1 q2 hb
    refine ⟨s, ?_, ?_⟩
    · simp only [F81, if_neg c1, lenF, if_neg c2, needF, if_pos (And.intro q1 q2), getN_eq hb, ds_bool]; exact h1
    · have e : stepS k t d p E = stepK k t d p E := by unfold stepS; rw [if_pos ⟨q1, q2, hb⟩]
      rw [e]; exact h2
  · refine ⟨_, by simp only [F81, if_neg c1, lenF, if_neg c2, needF, if_pos (And.intro q1 q2), getN_eq hb, ds_bool]; exact stop, ?_⟩
    have : stepS k t d p E = none := by unfold stepS; rw [if_neg (fun h => by have := h.2.2; rw [hb] at this; cases this)]
    rw [this]; exact ⟨E, rfl⟩
end Go.Proofs.YtjobleemmjjocaaDoor
end

set_option linter.unusedVariables false
noncomputable section
namespace Go.Proofs.YtjobleemmjjocaaDoor
open Go Go.AM

theorem Ev.bSl {α β γ : Type} {A : Nat → Option (α ⊕ β)} {a : α} {k1 : Nat → α → Option γ} {k2 : Nat → β → Option γ} {r : γ} (ha : Ev A (.inl a)) (hk : Ev (fun n => k1 n a) r) : Ev (fun n => bS (A n) (k1 n) (k2 n)) r := by
  obtain ⟨N, h⟩ := ha
  obtain ⟨M, h'⟩ := hk
  refine ⟨N + M, fun n hn => ?_⟩
  show bS (A n) (k1 n) (k2 n) = some r
  rw [h n (by omega)]
  exact h' n (by omega)
theorem Ev.bSr {α β γ : Type} {A : Nat → Option (α ⊕ β)} {b : β} {k1 : Nat → α → Option γ} {k2 : Nat → β → Option γ} {r : γ} (ha : Ev A (.inr b)) (hk : Ev (fun n => k2 n b) r) : Ev (fun n => bS (A n) (k1 n) (k2 n)) r := by
  obtain ⟨N, h⟩ := ha
  obtain ⟨M, h'⟩ := hk
  refine ⟨N + M, fun n hn => ?_⟩
  show bS (A n) (k1 n) (k2 n) = some r
  rw [h n (by omega)]
  exact h' n (by omega)

def Met (s : (Int × Int × List D × List D) ⊕ (Int × List D × List D)) (r : Int × Int) : Prop :=
  match s with
  | .inl (_, _, _, l) => r = (-1, (l.length : Int))
  | .inr (z, _, _) => r = (z, 0) ∧ 0 ≤ z

def EvL (L : List D) : Prop := L.length ≤ maxLen ∧ ∀ x ∈ L, ∃ k t d p, x = D.agg [.int .u8 k, .int .i64 t, .int .i64 d, .list false 1 p] ∧ ListS tab 3 p
theorem EvL.of {L : List D} (h : ListS tab 32 L) : EvL L := ⟨h.1, fun x hx => by
  obtain ⟨k, t, d, p, rfl, _, _, _, hp⟩ := rs32 (h.2 x hx)
  exact ⟨k, t, d, p, rfl, hp⟩⟩
theorem EvL.get {L : List D} (h : EvL L) {i : Nat} (hi : i < L.length) : ∃ k t d p, L[i]? = some (D.agg [.int .u8 k, .int .i64 t, .int .i64 d, .list false 1 p]) ∧ ListS tab 3 p := by
  obtain ⟨k, t, d, p, e, hp⟩ := h.2 _ (List.getElem_mem hi)
  exact ⟨k, t, d, p, by rw [List.getElem?_eq_getElem hi, e], hp⟩
theorem evRead {L : List D} (hL : EvL L) : ∀ i, i ≤ L.length → ∀ E, AllB E → (E.length : Int) ≤ 65536 →
    ∃ r s, Ev (fun n => L18_1 n L (i : Int) E) r ∧ Ev (fun n => L80_1 n 0 0 L (L.length : Int) (i : Int) E) s ∧ Met s r := by
  refine down L.length (fun E hE hl => ?_) (fun i hi ih E hE hl => ?_)
  · refine ⟨(-1, (E.length : Int)), .inl (0, 0, L, E), Ev.succ ?_, Ev.succ ?_, rfl⟩
    · simp only [L18_1, lenF, Int.lt_irrefl, if_false]
      exact Ev.succ (by simp only [L18_2, Bool.false_eq_true, if_false, lenF]; exact Ev.ret)
    · simp only [L80_1, Int.lt_irrefl, if_false]
      exact Ev.succ (by simp only [L80_2, Bool.false_eq_true, if_false]; exact Ev.ret)
  · obtain ⟨k, t, d, p, hx, hp⟩ := hL.get hi
    have hw := wrap_succ hi hL.1
    by_cases c : 65536 ≤ (i : Int)
    · refine ⟨((i : Int), 0), .inr ((i : Int), L, E), refS hL.1 hi hx hp hE hl (fun _ => rfl) (fun h => absurd c (by omega)), Ev.succ ?_, rfl, by omega⟩
      simp only [L80_1, if_pos (ilt hi)]
      refine Ev.succ ?_
      simp only [L80_2, if_true, getF_nat hx, ds_t32, if_pos c, F42r0, bO1_some]
      exact Ev.ret
    · obtain ⟨s, hs, hm⟩ := ev81 (k := k) (t := t) (d := d) hp hE hl
      cases hst : stepS k t d p E with
      | none =>
        rw [hst] at hm
        obtain ⟨E', rfl⟩ := hm
        refine ⟨((i : Int), 0), .inr ((i : Int), L, E'), refS hL.1 hi hx hp hE hl (fun _ => rfl) (fun _ E'' h => by rw [hst] at h; cases h), Ev.succ ?_, rfl, by omega⟩
        simp only [L80_1, if_pos (ilt hi)]
        refine Ev.succ ?_
        simp only [L80_2, if_true, getF_nat hx, ds_t32, if_neg c]
        refine Ev.bSl hs ?_
        simp only [bO2_some, letB, Bool.not_false, if_true, F42r0, bO1_some]
        exact Ev.ret
      | some E' =>
        rw [hst] at hm
        have hok : AllB E' ∧ (E'.length : Int) ≤ 65536 := by
          unfold stepS at hst
          split at hst
          · exact stepK_ok hst hE hl
          · cases hst
        obtain ⟨r, s', h1, h2, h3⟩ := ih E' hok.1 hok.2
        refine ⟨r, s', refS hL.1 hi hx hp hE hl (fun h => ?_) (fun _ E'' h => ?_), Ev.succ ?_, h3⟩
        · rcases h with h | h
          · exact absurd h c
          · rw [hst] at h; cases h
        · rw [hst] at h
          obtain rfl := Option.some.inj h
          exact h1
        · simp only [L80_1, if_pos (ilt hi)]
          refine Ev.succ ?_
          simp only [L80_2, if_true, getF_nat hx, ds_t32, if_neg c]
          rcases hm with rfl | rfl
          · refine Ev.bSl hs ?_
            simp only [bO2_some, letB, Bool.not_true, Bool.false_eq_true, if_false, letF, hw]
            exact h2
          · refine Ev.bSr hs ?_
            simp only [letF, hw]
            exact h2

theorem ev42 {L : List D} (hL : EvL L) : ∃ z m, Ev (fun n => F18 n L) (z, m) ∧ Ev (fun n => F42 n L) (z, m) ∧ (z = -1 ∨ (0 ≤ z ∧ m = 0)) := by
  obtain ⟨⟨z, m⟩, s, h1, h2, h3⟩ := evRead hL 0 (Nat.zero_le _) [.bool false] (fun x hx => ⟨false, by simpa using hx⟩) (by simp)
  refine ⟨z, m, by simp only [F18, letL]; exact h1, ?_, ?_⟩
  · simp only [F42, letL, F69, bO2_some]
    have h2' : Ev (fun n => F80 n 0 0 L [.bool false]) s := by simp only [F80, lenF]; exact h2
    match s, h2', h3 with
    | .inl (a, b, c, l), h2', h3 =>
      obtain ⟨rfl, rfl⟩ := Prod.mk.inj (show (z, m) = (-1, (l.length : Int)) from h3)
      refine Ev.bSl h2' ?_
      exact Ev.ret
    | .inr (a, b, c), h2', h3 =>
      obtain ⟨rfl, rfl⟩ := Prod.mk.inj (show (z, m) = (a, 0) from h3.1)
      refine Ev.bSr h2' ?_
      exact Ev.ret
  · match s, h3 with
    | .inl (a, b, c, l), h3 =>
      obtain ⟨rfl, rfl⟩ := Prod.mk.inj (show (z, m) = (-1, (l.length : Int)) from h3)
      exact .inl rfl
    | .inr (a, b, c), h3 =>
      obtain ⟨rfl, rfl⟩ := Prod.mk.inj (show (z, m) = (a, 0) from h3.1)
      exact .inr ⟨h3.2, rfl⟩

end Go.Proofs.YtjobleemmjjocaaDoor
end

set_option linter.unusedVariables false
noncomputable section
namespace Go.Proofs.YtjobleemmjjocaaDoor
open Go Go.AM
open Classical

def stepX (x : D) (E : List D) : Option (List D) :=
  match x with
  | .agg [.int .u8 k, .int .i64 t, .int .i64 d, .list false 1 p] => stepS k t d p E
  | _ => none
def rd : List D → Nat → List D → Int × Int
  | [], _, E => (-1, (E.length : Int))
  | x :: xs, i, E =>
    if 65536 ≤ (i : Int) then ((i : Int), 0) else
    match stepX x E with
    | none => ((i : Int), 0)
    | some E' => rd xs (i + 1) E'

theorem stepS_ok {k t d : Int} {p E E' : List D} (h : stepS k t d p E = some E') (hE : AllB E) (hl : (E.length : Int) ≤ 65536) : AllB E' ∧ (E'.length : Int) ≤ 65536 := by
  unfold stepS at h
  split at h
  · exact stepK_ok h hE hl
  · cases h
theorem stepK_mono {k t d : Int} {p E E' : List D} (h : stepK k t d p E = some E') : E.length ≤ E'.length := by
  unfold stepK at h
  split at h
  · split at h
    · cases h; exact Nat.le_refl _
    · cases h
  · split at h
    · split at h
      · cases h; exact Nat.le_refl _
      · cases h
    · split at h
      · split at h
        · cases h; simp
        · cases h
      · split at h
        · split at h
          · cases h; exact Nat.le_refl _
          · cases h
        · split at h
          · split at h
            · cases h; simp
            · cases h
          · cases h
theorem stepX_mono {x : D} {E E' : List D} (h : stepX x E = some E') : E.length ≤ E'.length := by
  unfold stepX at h
  split at h
  · unfold stepS at h
    split at h
    · exact stepK_mono h
    · cases h
  · cases h

theorem evRd {L : List D} (hL : EvL L) : ∀ i, i ≤ L.length → ∀ E, AllB E → (E.length : Int) ≤ 65536 → Ev (fun n => L18_1 n L (i : Int) E) (rd (L.drop i) i E) := by
  refine down L.length (fun E hE hl => ?_) (fun i hi ih E hE hl => ?_)
  · refine Ev.succ ?_
    simp only [L18_1, lenF, Int.lt_irrefl, if_false, List.drop_length, rd]
    exact Ev.succ (by simp only [L18_2, Bool.false_eq_true, if_false, lenF]; exact Ev.ret)
  · obtain ⟨k, t, d, p, hx, hp⟩ := hL.get hi
    rw [drop_cons hx]
    refine refS hL.1 hi hx hp hE hl (fun h => ?_) (fun c E' h => ?_)
    · simp only [rd, stepX]
      rcases h with h | h
      · rw [if_pos h]
      · rw [h]; simp only [ite_self]
    · simp only [rd, stepX, h, if_neg (show ¬ 65536 ≤ (i : Int) by omega)]
      exact ih E' (stepS_ok h hE hl).1 (stepS_ok h hE hl).2
def rd0 (L : List D) : Int × Int := rd L 0 [.bool false]
theorem ev42' {L : List D} (hL : EvL L) : Ev (fun n => F42 n L) ((rd0 L).1, (rd0 L).2) := by
  obtain ⟨z, m, h1, h2, _⟩ := ev42 hL
  have h := evRd hL 0 (Nat.zero_le _) [.bool false] (fun x hx => ⟨false, by simpa using hx⟩) (by simp)
  have h' : Ev (fun n => F18 n L) (rd0 L) := by simp only [F18, letL]; exact h
  have e := h1.uniq h'
  rw [← e]
  exact h2
theorem ev19 {L : List D} (hL : EvL L) : Ev (fun n => F19 n L) (rd0 L).1 := by unfold F19; exact Ev.bO2 (ev42' hL) Ev.ret
theorem ev20 {L : List D} (hL : EvL L) : Ev (fun n => F20 n L) (rd0 L).2 := by unfold F20; exact Ev.bO2 (ev42' hL) Ev.ret

end Go.Proofs.YtjobleemmjjocaaDoor
end

set_option linter.unusedVariables false
noncomputable section
namespace Go.Proofs.YtjobleemmjjocaaDoor
open Go Go.AM
open Classical

theorem ev21 {L : List D} (hL : EvL L) : Ev (fun n => F21 n L) (if 0 ≤ (rd0 L).1 then 250 else 0) := by
  unfold F21
  refine Ev.bO1 (ev19 hL) ?_
  by_cases c : 0 ≤ (rd0 L).1
  · simp only [if_pos c]; exact Ev.succ (by simp only [L21_1, if_true]; exact Ev.ret)
  · simp only [if_neg c]; exact Ev.succ (by simp only [L21_1, Bool.false_eq_true, if_false]; exact Ev.ret)

end Go.Proofs.YtjobleemmjjocaaDoor
end

set_option linter.unusedVariables false
noncomputable section
namespace Go.Proofs.YtjobleemmjjocaaDoor
open Go Go.AM
def L8_11 : Nat → (List D) → Bool → Bool → Option (Bool)
  | 0, _, _, _ => none
  | n + 1, l46, b57, b62 =>
    (if b62 = true then some false else bO1 (F19 n l46) fun z63 => (if z63 = (-1 : Int) then letB (true == b57) fun b64 => (if b64 = true then bO1 (F22 n) fun b65 => some b65 else some false) else letB (false == b57) fun b66 => (if b66 = true then bO1 (F22 n) fun b67 => some b67 else some false)))
def L8_10 : Nat → Int → Int → (List D) → Int → (List D) → Bool → Bool → Bool → Option (Bool)
  | 0, _, _, _, _, _, _, _, _ => none
  | n + 1, z2, z4, l5, z11, l46, b52, b57, b58 =>
    (if b58 = true then some false else (if b52 = true then (if z2 = (7 : Int) then lenF l5 fun z59 => (if z59 = (0 : Int) then (if z11 < (65536 : Int) then (if z4 = z11 then letB (!(b57 == true)) fun b60 => L8_11 n l46 b57 b60 else letB (!(b57 == false)) fun b61 => L8_11 n l46 b57 b61) else L8_11 n l46 b57 false) else L8_11 n l46 b57 false) else L8_11 n l46 b57 false) else L8_11 n l46 b57 false))
def L8_9 : Nat → Int → Int → (List D) → Int → (List D) → (List D) → Bool → Bool → Option (Bool)
  | 0, _, _, _, _, _, _, _, _ => none
  | n + 1, z2, z4, l5, z11, l15, l46, b48, b52 =>
    (if b48 = true then letB (!b52) fun b53 => (if b53 = true then L8_10 n z2 z4 l5 z11 l46 b52 true true else (if z2 = (8 : Int) then (if z4 < (0 : Int) then L8_10 n z2 z4 l5 z11 l46 b52 true true else (if z11 ≤ z4 then L8_10 n z2 z4 l5 z11 l46 b52 true true else needF (0 ≤ z4 ∧ z4.toNat < l15.length) (getN l15 (z4.toNat) fun x54 => ds_bool x54 fun b55 => letB (!b55) fun b56 => L8_10 n z2 z4 l5 z11 l46 b52 true b56))) else L8_10 n z2 z4 l5 z11 l46 b52 true false)) else L8_10 n z2 z4 l5 z11 l46 b52 false false)
def L8_8 : Nat → Int → Int → Int → (List D) → Int → (List D) → (List D) → Bool → Option (Bool)
  | 0, _, _, _, _, _, _, _, _ => none
  | n + 1, z2, z3, z4, l5, z11, l15, l46, b48 =>
    (if (0 : Int) ≤ z3 then (if z3 < z11 then needF (0 ≤ z3 ∧ z3.toNat < l15.length) (getN l15 (z3.toNat) fun x49 => ds_bool x49 fun b50 => letB (!b50) fun b51 => L8_9 n z2 z4 l5 z11 l15 l46 b48 b51) else L8_9 n z2 z4 l5 z11 l15 l46 b48 false) else L8_9 n z2 z4 l5 z11 l15 l46 b48 false)
mutual
def L8_3 : Nat → (List D) → Int → Int → Int → (List D) → Int → Int → (List D) → Option (Bool)
  | 0, _, _, _, _, _, _, _, _ => none
  | n + 1, l1, z2, z3, z4, l5, z11, z14, l15 =>
    lenF l1 fun z16 => (if z14 < z16 then L8_4 n l1 z2 z3 z4 l5 z11 z14 l15 true else L8_4 n l1 z2 z3 z4 l5 z11 z14 l15 false)
def L8_4 : Nat → (List D) → Int → Int → Int → (List D) → Int → Int → (List D) → Bool → Option (Bool)
  | 0, _, _, _, _, _, _, _, _, _ => none
  | n + 1, l1, z2, z3, z4, l5, z11, z14, l15, b17 =>
    (if b17 = true then getF l1 z14 fun x18 => ds_t32 x18 fun z19 z20 z21 l22 => (if z20 < (0 : Int) then L8_5 n l1 z2 z3 z4 l5 z11 z14 l15 true else getF l1 z14 fun x23 => ds_t32 x23 fun z24 z25 z26 l27 => (if z11 ≤ z25 then L8_5 n l1 z2 z3 z4 l5 z11 z14 l15 true else L8_5 n l1 z2 z3 z4 l5 z11 z14 l15 false)) else appF 48 ([] : List D) l1 fun l45 => appF 48 l45 ([.agg [.int .u8 z2, .int .i64 z3, .int .i64 z4, .list false 1 l5]]) fun l46 => bO1 (F21 n l46) fun z47 => (if z47 = (0 : Int) then L8_8 n z2 z3 z4 l5 z11 l15 l46 true else L8_8 n z2 z3 z4 l5 z11 l15 l46 false))
def L8_5 : Nat → (List D) → Int → Int → Int → (List D) → Int → Int → (List D) → Bool → Option (Bool)
  | 0, _, _, _, _, _, _, _, _, _ => none
  | n + 1, l1, z2, z3, z4, l5, z11, z14, l15, b28 =>
    (if b28 = true then some false else getF l1 z14 fun x29 => ds_t32 x29 fun z30 z31 z32 l33 => (if z30 = (9 : Int) then L8_6 n l1 z2 z3 z4 l5 z11 z14 l15 true else L8_6 n l1 z2 z3 z4 l5 z11 z14 l15 false))
def L8_6 : Nat → (List D) → Int → Int → Int → (List D) → Int → Int → (List D) → Bool → Option (Bool)
  | 0, _, _, _, _, _, _, _, _, _ => none
  | n + 1, l1, z2, z3, z4, l5, z11, z14, l15, b34 =>
    (if b34 = true then getF l1 z14 fun x35 => ds_t32 x35 fun z36 z37 z38 l39 => needF (0 ≤ z37 ∧ z37.toNat < l15.length) (getN l15 (z37.toNat) fun x40 => ds_bool x40 fun b41 => setF l15 (z37.toNat) (.bool true) fun l42 => L8_7 n l1 z2 z3 z4 l5 z11 z14 l42) else L8_7 n l1 z2 z3 z4 l5 z11 z14 l15)
def L8_7 : Nat → (List D) → Int → Int → Int → (List D) → Int → Int → (List D) → Option (Bool)
  | 0, _, _, _, _, _, _, _, _ => none
  | n + 1, l1, z2, z3, z4, l5, z11, z14, l43 =>
    letF (IntKind.wrap .i64 (z14 + 1)) fun z44 => L8_3 n l1 z2 z3 z4 l5 z11 z44 l43
end
def L8_2 : Nat → (List D) → Int → Int → Int → (List D) → Int → Bool → Option (Bool)
  | 0, _, _, _, _, _, _, _ => none
  | n + 1, l1, z2, z3, z4, l5, z11, b12 =>
    (if b12 = true then some false else makeF 1 (.bool false) z11 z11 fun l13 => L8_3 n l1 z2 z3 z4 l5 z11 (0 : Int) l13)
def L8_1 : Nat → (List D) → Int → Int → Int → (List D) → Bool → Option (Bool)
  | 0, _, _, _, _, _, _ => none
  | n + 1, l1, z2, z3, z4, l5, b9 =>
    (if b9 = true then bO1 (F22 n) fun b10 => some b10 else bO1 (F20 n l1) fun z11 => (if z11 < (1 : Int) then L8_2 n l1 z2 z3 z4 l5 z11 true else L8_2 n l1 z2 z3 z4 l5 z11 false))
def F8 (n : Nat) (l1 : List D) (z2 : Int) (z3 : Int) (z4 : Int) (l5 : List D) : Option (Bool) :=
  bO1 (F17 n l1) fun b6 => (if b6 = true then L8_1 n l1 z2 z3 z4 l5 true else bO1 (F17 n ([.agg [.int .u8 z2, .int .i64 z3, .int .i64 z4, .list false 1 l5]])) fun b7 => (if b7 = true then L8_1 n l1 z2 z3 z4 l5 true else bO1 (F21 n l1) fun z8 => (if z8 = (0 : Int) then L8_1 n l1 z2 z3 z4 l5 false else L8_1 n l1 z2 z3 z4 l5 true)))
set_option maxRecDepth 100000 in
set_option maxHeartbeats 40000000 in
theorem T8 (n : Nat) : ∀ ⦃l1 : List D⦄ ⦃z2 : Int⦄ ⦃z3 : Int⦄ ⦃z4 : Int⦄ ⦃l5 : List D⦄ ⦃r1 : Bool⦄, F8 n l1 z2 z3 z4 l5 = some r1 →
    Trip Tryd.prog inv 8 [.d (.list true 4 l1), .d (.agg [.int .u8 z2, .int .i64 z3, .int .i64 z4, .list false 1 l5])] [] (.v (.d (.bool r1))) [] [] := by
  intro l1 z2 z3 z4 l5 r1 h
  unfold F8 at h
  refine Trip.of tab_ok tab_one fol Tryd.func8 rfl (by kernel_rfl) rfl rfl rfl (fun M hM hI => ?_)
  try cbv
  refine seq_go ?_
  try cbv
  refine seq_go ?_
  try cbv
  refine seq_join (T := Nat × Bool) (fun t => ⟨[(0, .v (.d (.list true 4 l1))), (3, .v (.c (.ptr (.loc 0) 0))), (4, .v (.d (.bool false))), (22, .v (.d (.bool t.2)))], [(.loc 0, .cells [.d (.int .u8 z2), .d (.int .i64 z3), .d (.int .i64 z4), .d (.list false 1 l5)])], 448⟩) (fun t => t.1 ≤ n ∧ L8_1 t.1 l1 z2 z3 z4 l5 t.2 = some r1) ?_ ?_
  · try cbv
    replace h := bO1_inv h
    obtain ⟨b6, hr, h⟩ := h
    refine call_go rfl rfl ?_
    try cbv
    refine call_pure hM hI (T17 _ hr) rfl ?_
    clear hr
    try cbv
    cases b6
    · replace h := ite_f Bool.false_ne_true h
      try cbv
      refine ⟨false, ?_⟩
      try cbv
      refine ⟨true, ?_⟩
      try cbv
      replace h := bO1_inv h
      obtain ⟨b7, hr, h⟩ := h
      refine call_go rfl rfl ?_
      try cbv
      refine call_pure hM hI (T17 _ hr) rfl ?_
      clear hr
      try cbv
      cases b7
      · replace h := ite_f Bool.false_ne_true h
        try cbv
        replace h := bO1_inv h
        obtain ⟨z8, hr, h⟩ := h
        refine call_go rfl rfl ?_
        try cbv
        refine call_pure hM hI (T21 _ hr) rfl ?_
        clear hr
        try cbv
        refine splitI (fun e => ?_) (fun e => ?_)
        · replace h := ite_t e h
          clear e
          try cbv
          exact join_next (n, false) [0, 3, 4, 22] [.loc 0] 448 ⟨by omega, h⟩ (by cbv)
        · replace h := ite_f e h
          clear e
          try cbv
          exact join_next (n, true) [0, 3, 4, 22] [.loc 0] 448 ⟨by omega, h⟩ (by cbv)
      · replace h := ite_t rfl h
        try cbv
        exact join_next (n, true) [0, 3, 4, 22] [.loc 0] 448 ⟨by omega, h⟩ (by cbv)
    · replace h := ite_t rfl h
      try cbv
      exact join_next (n, true) [0, 3, 4, 22] [.loc 0] 448 ⟨by omega, h⟩ (by cbv)
  · clear h
    rintro ⟨m1, b9⟩ ⟨hm1, h⟩
    replace hm1 : m1 ≤ n := hm1
    cases m1 with
    | zero =>
      replace h : L8_1 0 l1 z2 z3 z4 l5 b9 = some r1 := h
      rw [L8_1] at h
      cases h
    | succ m1 =>
      replace h : L8_1 (m1 + 1) l1 z2 z3 z4 l5 b9 = some r1 := h
      rw [L8_1] at h
      try cbv
      cases b9
      · replace h := ite_f Bool.false_ne_true h
        try cbv
        refine seq_go ?_
        try cbv
        replace h := bO1_inv h
        obtain ⟨z11, hr, h⟩ := h
        refine call_go rfl rfl ?_
        try cbv
        refine call_pure hM hI (T20 _ hr) rfl ?_
        clear hr
        try cbv
        refine seq_go ?_
        try cbv
        refine seq_join (T := Nat × Bool) (fun t => ⟨[(0, .v (.d (.list true 4 l1))), (3, .v (.c (.ptr (.loc 0) 0))), (4, .v (.d (.bool false))), (5, .v (.d (.int .i64 z11))), (27, .v (.d (.bool t.2)))], [(.loc 0, .cells [.d (.int .u8 z2), .d (.int .i64 z3), .d (.int .i64 z4), .d (.list false 1 l5)])], 608⟩) (fun t => t.1 ≤ m1 ∧ L8_2 t.1 l1 z2 z3 z4 l5 z11 t.2 = some r1) ?_ ?_
        · try cbv
          refine splitL (fun e => ?_) (fun e => ?_)
          · replace h := ite_t e h
            clear e
            try cbv
            exact join_next (m1, true) [0, 3, 4, 5, 27] [.loc 0] 608 ⟨by omega, h⟩ (by cbv)
          · replace h := ite_f (Int.not_lt.2 e) h
            clear e
            try cbv
            exact join_next (m1, false) [0, 3, 4, 5, 27] [.loc 0] 608 ⟨by omega, h⟩ (by cbv)
        · clear h
          rintro ⟨m2, b12⟩ ⟨hm2, h⟩
          replace hm2 : m2 ≤ m1 := hm2
          cases m2 with
          | zero =>
            replace h : L8_2 0 l1 z2 z3 z4 l5 z11 b12 = some r1 := h
            rw [L8_2] at h
            cases h
          | succ m2 =>
            replace h : L8_2 (m2 + 1) l1 z2 z3 z4 l5 z11 b12 = some r1 := h
            rw [L8_2] at h
            try cbv
            cases b12
            · replace h := ite_f Bool.false_ne_true h
              try cbv
              refine seq_go ?_
              try cbv
              replace h := makeF_inv h
              obtain ⟨l13, hb, hz, h⟩ := h
              refine ⟨(M.lock_iff _).2 hb, l13, hz, true, ?_⟩
              clear hb hz
              try cbv
              refine seq_go ?_
              try cbv
              refine seq_go ?_
              try cbv
              refine loop_invG (T := Nat × Int × List D) [] [] [0, 3, 4, 5, 6, 7] [.loc 0, .loc 640] 736 (fun t => ⟨[(0, .v (.d (.list true 4 l1))), (3, .v (.c (.ptr (.loc 0) 0))), (4, .v (.d (.bool false))), (5, .v (.d (.int .i64 z11))), (6, .v (.c (.ow (.loc 640)))), (7, .v (.d (.int .i64 t.2.1)))], [(.loc 0, .cells [.d (.int .u8 z2), .d (.int .i64 z3), .d (.int .i64 z4), .d (.list false 1 l5)]), (.loc 640, .tree .row false 1 t.2.2 none)], 736⟩)
                (fun t => t.1 ≤ m2 ∧ L8_3 t.1 l1 z2 z3 z4 l5 z11 t.2.1 t.2.2 = some r1) (fun t => t.1) (m2, ((0 : Int), l13)) ⟨Nat.le_refl _, h⟩ (by cbv) ?_
              clear h
              rintro ⟨m3, z14, l15⟩ ⟨hm3, h⟩
              replace hm3 : m3 ≤ m2 := hm3
              cases m3 with
              | zero =>
                replace h : L8_3 0 l1 z2 z3 z4 l5 z11 z14 l15 = some r1 := h
                rw [L8_3] at h
                cases h
              | succ m3 =>
                replace h : L8_3 (m3 + 1) l1 z2 z3 z4 l5 z11 z14 l15 = some r1 := h
                rw [L8_3] at h
                try cbv
                refine seq_go ?_
                try cbv
                refine seq_join (T := Nat × Bool) (fun t => ⟨[(0, .v (.d (.list true 4 l1))), (3, .v (.c (.ptr (.loc 0) 0))), (4, .v (.d (.bool false))), (5, .v (.d (.int .i64 z11))), (6, .v (.c (.ow (.loc 640)))), (7, .v (.d (.int .i64 z14))), (33, .v (.d (.bool t.2)))], [(.loc 0, .cells [.d (.int .u8 z2), .d (.int .i64 z3), .d (.int .i64 z4), .d (.list false 1 l5)]), (.loc 640, .tree .row false 1 l15 none)], 864⟩) (fun t => t.1 ≤ m3 ∧ L8_4 t.1 l1 z2 z3 z4 l5 z11 z14 l15 t.2 = some r1) ?_ ?_
                · try cbv
                  replace h := lenF_inv M h
                  obtain ⟨z16, hz, h⟩ := h
                  refine ⟨z16, hz, ?_⟩
                  clear hz
                  try cbv
                  refine splitL (fun e => ?_) (fun e => ?_)
                  · replace h := ite_t e h
                    clear e
                    try cbv
                    exact join_next (m3, true) [0, 3, 4, 5, 6, 7, 33] [.loc 0, .loc 640] 864 ⟨by omega, h⟩ (by cbv)
                  · replace h := ite_f (Int.not_lt.2 e) h
                    clear e
                    try cbv
                    exact join_next (m3, false) [0, 3, 4, 5, 6, 7, 33] [.loc 0, .loc 640] 864 ⟨by omega, h⟩ (by cbv)
                · clear h
                  rintro ⟨m4, b17⟩ ⟨hm4, h⟩
                  replace hm4 : m4 ≤ m3 := hm4
                  cases m4 with
                  | zero =>
                    replace h : L8_4 0 l1 z2 z3 z4 l5 z11 z14 l15 b17 = some r1 := h
                    rw [L8_4] at h
                    cases h
                  | succ m4 =>
                    replace h : L8_4 (m4 + 1) l1 z2 z3 z4 l5 z11 z14 l15 b17 = some r1 := h
                    rw [L8_4] at h
                    try cbv
                    cases b17
                    · replace h := ite_f Bool.false_ne_true h
                      try cbv
                      refine seq_go ?_
                      try cbv
                      refine ⟨true, ?_⟩
                      try cbv
                      refine ⟨[], ?_⟩
                      try cbv
                      refine ⟨[], rfl, ?_⟩
                      try cbv
                      replace h := appF_inv h
                      obtain ⟨l45, hb, hz, h⟩ := h
                      refine ⟨true, ?_⟩
                      try cbv
                      refine ⟨false, ?_⟩
                      try cbv
                      refine ⟨(M.lock_iff _).2 hb, l45, hz, ?_⟩
                      clear hb hz
                      try cbv
                      refine ⟨false, ?_⟩
                      try cbv
                      refine ⟨true, ?_⟩
                      try cbv
                      replace h := appF_inv h
                      obtain ⟨l46, hb, hz, h⟩ := h
                      refine ⟨true, ?_⟩
                      try cbv
                      refine ⟨false, ?_⟩
                      try cbv
                      refine ⟨(M.lock_iff _).2 hb, l46, hz, ?_⟩
                      clear hb hz
                      try cbv
                      refine drawn ?_ ?_
                      · show _ = true
                        kernel_rfl
                      try cbv
                      refine seq_join (T := Nat × Bool) (fun t => ⟨[(0, .v (.d (.list true 4 l1))), (3, .v (.c (.ptr (.loc 0) 0))), (4, .v (.d (.bool false))), (5, .v (.d (.int .i64 z11))), (6, .v (.c (.ow (.loc 640)))), (7, .v (.d (.int .i64 z14))), (8, .v (.d (.list true 4 l46))), (9, .v (.d (.bool t.2)))], [(.loc 0, .cells [.d (.int .u8 z2), .d (.int .i64 z3), .d (.int .i64 z4), .d (.list false 1 l5)]), (.loc 640, .tree .row false 1 l15 none)], 1216⟩) (fun t => t.1 ≤ m4 ∧ L8_8 t.1 z2 z3 z4 l5 z11 l15 l46 t.2 = some r1) ?_ ?_
                      · try cbv
                        replace h := bO1_inv h
                        obtain ⟨z47, hr, h⟩ := h
                        refine call_gs [.freeze (.loc 1024)] rfl rfl ?_
                        try cbv
                        first | refine ⟨by first | rfl | trivial, ?_⟩ | skip
                        refine callfv_with hM hI [] rfl rfl (T21 _ hr) rfl (by simp) trivial trivial (by simp) ?_
                        clear hr
                        try cbv
                        refine splitI (fun e => ?_) (fun e => ?_)
                        · replace h := ite_t e h
                          clear e
                          try cbv
                          exact join_next (m4, true) [0, 3, 4, 5, 6, 7, 8, 9] [.loc 0, .loc 640] 1216 ⟨by omega, h⟩ (by cbv)
                        · replace h := ite_f e h
                          clear e
                          try cbv
                          exact join_next (m4, false) [0, 3, 4, 5, 6, 7, 8, 9] [.loc 0, .loc 640] 1216 ⟨by omega, h⟩ (by cbv)
                      · clear h
                        rintro ⟨m8, b48⟩ ⟨hm8, h⟩
                        replace hm8 : m8 ≤ m4 := hm8
                        cases m8 with
                        | zero =>
                          replace h : L8_8 0 z2 z3 z4 l5 z11 l15 l46 b48 = some r1 := h
                          rw [L8_8] at h
                          cases h
                        | succ m8 =>
                          replace h : L8_8 (m8 + 1) z2 z3 z4 l5 z11 l15 l46 b48 = some r1 := h
                          rw [L8_8] at h
                          try cbv
                          refine seq_join (T := Nat × Bool) (fun t => ⟨[(0, .v (.d (.list true 4 l1))), (3, .v (.c (.ptr (.loc 0) 0))), (4, .v (.d (.bool false))), (5, .v (.d (.int .i64 z11))), (6, .v (.c (.ow (.loc 640)))), (7, .v (.d (.int .i64 z14))), (8, .v (.d (.list true 4 l46))), (9, .v (.d (.bool b48))), (10, .v (.d (.bool t.2)))], [(.loc 0, .cells [.d (.int .u8 z2), .d (.int .i64 z3), .d (.int .i64 z4), .d (.list false 1 l5)]), (.loc 640, .tree .row false 1 l15 none)], 1792⟩) (fun t => t.1 ≤ m8 ∧ L8_9 t.1 z2 z4 l5 z11 l15 l46 b48 t.2 = some r1) ?_ ?_
                          · try cbv
                            refine splitLe (fun e => ?_) (fun e => ?_)
                            · replace h := ite_t e h
                              clear e
                              try cbv
                              refine splitL (fun e => ?_) (fun e => ?_)
                              · replace h := ite_t e h
                                clear e
                                try cbv
                                replace h := needF_inv h
                                obtain ⟨hn, h⟩ := h
                                refine ⟨(M.lock_iff _).2 hn, ?_⟩
                                clear hn
                                try cbv
                                refine ⟨[], ?_⟩
                                try cbv
                                replace h := getN_inv h
                                obtain ⟨x49, hx, h⟩ := h
                                replace h := ds_bool_inv h
                                obtain ⟨b50, rfl, h⟩ := h
                                refine ⟨_, hx, ?_⟩
                                clear hx
                                try cbv
                                refine ⟨true, ?_⟩
                                try cbv
                                replace h := letB_inv h
                                obtain ⟨b51, hz, h⟩ := h
                                refine ⟨b51, not_eq' hz, ?_⟩
                                clear hz
                                try cbv
                                exact join_next (m8, b51) [0, 3, 4, 5, 6, 7, 8, 9, 10] [.loc 0, .loc 640] 1792 ⟨by omega, h⟩ (by cbv)
                              · replace h := ite_f (Int.not_lt.2 e) h
                                clear e
                                try cbv
                                exact join_next (m8, false) [0, 3, 4, 5, 6, 7, 8, 9, 10] [.loc 0, .loc 640] 1792 ⟨by omega, h⟩ (by cbv)
                            · replace h := ite_f (Int.not_le.2 e) h
                              clear e
                              try cbv
                              exact join_next (m8, false) [0, 3, 4, 5, 6, 7, 8, 9, 10] [.loc 0, .loc 640] 1792 ⟨by omega, h⟩ (by cbv)
                          · clear h
                            rintro ⟨m9, b52⟩ ⟨hm9, h⟩
                            replace hm9 : m9 ≤ m8 := hm9
                            cases m9 with
                            | zero =>
                              replace h : L8_9 0 z2 z4 l5 z11 l15 l46 b48 b52 = some r1 := h
                              rw [L8_9] at h
                              cases h
                            | succ m9 =>
                              replace h : L8_9 (m9 + 1) z2 z4 l5 z11 l15 l46 b48 b52 = some r1 := h
                              rw [L8_9] at h
                              try cbv
                              refine seq_go ?_
                              try cbv
                              refine seq_join (T := Nat × Bool × Bool) (fun t => ⟨[(0, .v (.d (.list true 4 l1))), (3, .v (.c (.ptr (.loc 0) 0))), (4, .v (.d (.bool false))), (5, .v (.d (.int .i64 z11))), (6, .v (.c (.ow (.loc 640)))), (7, .v (.d (.int .i64 z14))), (8, .v (.d (.list true 4 l46))), (9, .v (.d (.bool t.2.1))), (10, .v (.d (.bool b52))), (121, .v (.d (.bool t.2.2)))], [(.loc 0, .cells [.d (.int .u8 z2), .d (.int .i64 z3), .d (.int .i64 z4), .d (.list false 1 l5)]), (.loc 640, .tree .row false 1 l15 none)], 2816⟩) (fun t => t.1 ≤ m9 ∧ L8_10 t.1 z2 z4 l5 z11 l46 b52 t.2.1 t.2.2 = some r1) ?_ ?_
                              · try cbv
                                cases b48
                                · replace h := ite_f Bool.false_ne_true h
                                  try cbv
                                  exact join_next (m9, (false, false)) [0, 3, 4, 5, 6, 7, 8, 9, 10, 121] [.loc 0, .loc 640] 2816 ⟨by omega, h⟩ (by cbv)
                                · replace h := ite_t rfl h
                                  try cbv
                                  replace h := letB_inv h
                                  obtain ⟨b53, hz, h⟩ := h
                                  refine ⟨b53, not_eq' hz, ?_⟩
                                  clear hz
                                  try cbv
                                  cases b53
                                  · replace h := ite_f Bool.false_ne_true h
                                    try cbv
                                    refine splitI (fun e => ?_) (fun e => ?_)
                                    · replace h := ite_t e h
                                      clear e
                                      try cbv
                                      refine splitL (fun e => ?_) (fun e => ?_)
                                      · replace h := ite_t e h
                                        clear e
                                        try cbv
                                        exact join_next (m9, (true, true)) [0, 3, 4, 5, 6, 7, 8, 9, 10, 121] [.loc 0, .loc 640] 2816 ⟨by omega, h⟩ (by cbv)
                                      · replace h := ite_f (Int.not_lt.2 e) h
                                        clear e
                                        try cbv
                                        refine splitLe (fun e => ?_) (fun e => ?_)
                                        · replace h := ite_t e h
                                          clear e
                                          try cbv
                                          exact join_next (m9, (true, true)) [0, 3, 4, 5, 6, 7, 8, 9, 10, 121] [.loc 0, .loc 640] 2816 ⟨by omega, h⟩ (by cbv)
                                        · replace h := ite_f (Int.not_le.2 e) h
                                          clear e
                                          try cbv
                                          replace h := needF_inv h
                                          obtain ⟨hn, h⟩ := h
                                          refine ⟨(M.lock_iff _).2 hn, ?_⟩
                                          clear hn
                                          try cbv
                                          refine ⟨[], ?_⟩
                                          try cbv
                                          replace h := getN_inv h
                                          obtain ⟨x54, hx, h⟩ := h
                                          replace h := ds_bool_inv h
                                          obtain ⟨b55, rfl, h⟩ := h
                                          refine ⟨_, hx, ?_⟩
                                          clear hx
                                          try cbv
                                          refine ⟨true, ?_⟩
                                          try cbv
                                          replace h := letB_inv h
                                          obtain ⟨b56, hz, h⟩ := h
                                          refine ⟨b56, not_eq' hz, ?_⟩
                                          clear hz
                                          try cbv
                                          exact join_next (m9, (true, b56)) [0, 3, 4, 5, 6, 7, 8, 9, 10, 121] [.loc 0, .loc 640] 2816 ⟨by omega, h⟩ (by cbv)
                                    · replace h := ite_f e h
                                      clear e
                                      try cbv
                                      exact join_next (m9, (true, false)) [0, 3, 4, 5, 6, 7, 8, 9, 10, 121] [.loc 0, .loc 640] 2816 ⟨by omega, h⟩ (by cbv)
                                  · replace h := ite_t rfl h
                                    try cbv
                                    exact join_next (m9, (true, true)) [0, 3, 4, 5, 6, 7, 8, 9, 10, 121] [.loc 0, .loc 640] 2816 ⟨by omega, h⟩ (by cbv)
                              · clear h
                                rintro ⟨m10, b57, b58⟩ ⟨hm10, h⟩
                                replace hm10 : m10 ≤ m9 := hm10
                                cases m10 with
                                | zero =>
                                  replace h : L8_10 0 z2 z4 l5 z11 l46 b52 b57 b58 = some r1 := h
                                  rw [L8_10] at h
                                  cases h
                                | succ m10 =>
                                  replace h : L8_10 (m10 + 1) z2 z4 l5 z11 l46 b52 b57 b58 = some r1 := h
                                  rw [L8_10] at h
                                  try cbv
                                  cases b58
                                  · replace h := ite_f Bool.false_ne_true h
                                    try cbv
                                    refine seq_go ?_
                                    try cbv
                                    refine seq_join (T := Nat × Bool) (fun t => ⟨[(0, .v (.d (.list true 4 l1))), (3, .v (.c (.ptr (.loc 0) 0))), (4, .v (.d (.bool false))), (5, .v (.d (.int .i64 z11))), (6, .v (.c (.ow (.loc 640)))), (7, .v (.d (.int .i64 z14))), (8, .v (.d (.list true 4 l46))), (9, .v (.d (.bool b57))), (145, .v (.d (.bool t.2)))], [(.loc 0, .cells [.d (.int .u8 z2), .d (.int .i64 z3), .d (.int .i64 z4), .d (.list false 1 l5)]), (.loc 640, .tree .row false 1 l15 none)], 3584⟩) (fun t => t.1 ≤ m10 ∧ L8_11 t.1 l46 b57 t.2 = some r1) ?_ ?_
                                    · try cbv
                                      cases b52
                                      · replace h := ite_f Bool.false_ne_true h
                                        try cbv
                                        exact join_next (m10, false) [0, 3, 4, 5, 6, 7, 8, 9, 145] [.loc 0, .loc 640] 3584 ⟨by omega, h⟩ (by cbv)
                                      · replace h := ite_t rfl h
                                        try cbv
                                        refine splitI (fun e => ?_) (fun e => ?_)
                                        · replace h := ite_t e h
                                          clear e
                                          try cbv
                                          replace h := lenF_inv M h
                                          obtain ⟨z59, hz, h⟩ := h
                                          refine ⟨z59, hz, ?_⟩
                                          clear hz
                                          try cbv
                                          refine splitI (fun e => ?_) (fun e => ?_)
                                          · replace h := ite_t e h
                                            clear e
                                            try cbv
                                            refine splitL (fun e => ?_) (fun e => ?_)
                                            · replace h := ite_t e h
                                              clear e
                                              try cbv
                                              refine splitI (fun e => ?_) (fun e => ?_)
                                              · replace h := ite_t e h
                                                clear e
                                                try cbv
                                                replace h := letB_inv h
                                                obtain ⟨b60, hz, h⟩ := h
                                                refine ⟨b60, eqv_ne hz, ?_⟩
                                                clear hz
                                                try cbv
                                                exact join_next (m10, b60) [0, 3, 4, 5, 6, 7, 8, 9, 145] [.loc 0, .loc 640] 3584 ⟨by omega, h⟩ (by cbv)
                                              · replace h := ite_f e h
                                                clear e
                                                try cbv
                                                replace h := letB_inv h
                                                obtain ⟨b61, hz, h⟩ := h
                                                refine ⟨b61, eqv_ne hz, ?_⟩
                                                clear hz
                                                try cbv
                                                exact join_next (m10, b61) [0, 3, 4, 5, 6, 7, 8, 9, 145] [.loc 0, .loc 640] 3584 ⟨by omega, h⟩ (by cbv)
                                            · replace h := ite_f (Int.not_lt.2 e) h
                                              clear e
                                              try cbv
                                              exact join_next (m10, false) [0, 3, 4, 5, 6, 7, 8, 9, 145] [.loc 0, .loc 640] 3584 ⟨by omega, h⟩ (by cbv)
                                          · replace h := ite_f e h
                                            clear e
                                            try cbv
                                            exact join_next (m10, false) [0, 3, 4, 5, 6, 7, 8, 9, 145] [.loc 0, .loc 640] 3584 ⟨by omega, h⟩ (by cbv)
                                        · replace h := ite_f e h
                                          clear e
                                          try cbv
                                          exact join_next (m10, false) [0, 3, 4, 5, 6, 7, 8, 9, 145] [.loc 0, .loc 640] 3584 ⟨by omega, h⟩ (by cbv)
                                    · clear h
                                      rintro ⟨m11, b62⟩ ⟨hm11, h⟩
                                      replace hm11 : m11 ≤ m10 := hm11
                                      cases m11 with
                                      | zero =>
                                        replace h : L8_11 0 l46 b57 b62 = some r1 := h
                                        rw [L8_11] at h
                                        cases h
                                      | succ m11 =>
                                        replace h : L8_11 (m11 + 1) l46 b57 b62 = some r1 := h
                                        rw [L8_11] at h
                                        try cbv
                                        cases b62
                                        · replace h := ite_f Bool.false_ne_true h
                                          try cbv
                                          refine seq_go ?_
                                          try cbv
                                          replace h := bO1_inv h
                                          obtain ⟨z63, hr, h⟩ := h
                                          refine call_go rfl rfl ?_
                                          try cbv
                                          refine call_pure hM hI (T19 _ hr) rfl ?_
                                          clear hr
                                          try cbv
                                          refine splitI (fun e => ?_) (fun e => ?_)
                                          · replace h := ite_t e h
                                            clear e
                                            try cbv
                                            replace h := letB_inv h
                                            obtain ⟨b64, hz, h⟩ := h
                                            refine ⟨b64, eqv_eq hz, ?_⟩
                                            clear hz
                                            try cbv
                                            cases b64
                                            · replace h := ite_f Bool.false_ne_true h
                                              try cbv
                                              obtain rfl := Option.some.inj h
                                              refine fin_go ?_
                                              try cbv
                                              exact ⟨[], rfl, rfl, trivial, trivial, trivial⟩
                                            · replace h := ite_t rfl h
                                              try cbv
                                              replace h := bO1_inv h
                                              obtain ⟨b65, hr, h⟩ := h
                                              refine call_go rfl rfl ?_
                                              try cbv
                                              refine call_pure hM hI (T22 _ hr) rfl ?_
                                              clear hr
                                              try cbv
                                              obtain rfl := Option.some.inj h
                                              refine fin_go ?_
                                              try cbv
                                              exact ⟨[], rfl, rfl, trivial, trivial, trivial⟩
                                          · replace h := ite_f e h
                                            clear e
                                            try cbv
                                            replace h := letB_inv h
                                            obtain ⟨b66, hz, h⟩ := h
                                            refine ⟨b66, eqv_eq hz, ?_⟩
                                            clear hz
                                            try cbv
                                            cases b66
                                            · replace h := ite_f Bool.false_ne_true h
                                              try cbv
                                              obtain rfl := Option.some.inj h
                                              refine fin_go ?_
                                              try cbv
                                              exact ⟨[], rfl, rfl, trivial, trivial, trivial⟩
                                            · replace h := ite_t rfl h
                                              try cbv
                                              replace h := bO1_inv h
                                              obtain ⟨b67, hr, h⟩ := h
                                              refine call_go rfl rfl ?_
                                              try cbv
                                              refine call_pure hM hI (T22 _ hr) rfl ?_
                                              clear hr
                                              try cbv
                                              obtain rfl := Option.some.inj h
                                              refine fin_go ?_
                                              try cbv
                                              exact ⟨[], rfl, rfl, trivial, trivial, trivial⟩
                                        · replace h := ite_t rfl h
                                          try cbv
                                          refine seq_go ?_
                                          try cbv
                                          obtain rfl := Option.some.inj h
                                          refine fin_go ?_
                                          try cbv
                                          exact ⟨[], rfl, rfl, trivial, trivial, trivial⟩
                                  · replace h := ite_t rfl h
                                    try cbv
                                    refine seq_go ?_
                                    try cbv
                                    obtain rfl := Option.some.inj h
                                    refine fin_go ?_
                                    try cbv
                                    exact ⟨[], rfl, rfl, trivial, trivial, trivial⟩
                    · replace h := ite_t rfl h
                      try cbv
                      refine seq_join (T := Nat × List D) (fun t => ⟨[(0, .v (.d (.list true 4 l1))), (3, .v (.c (.ptr (.loc 0) 0))), (4, .v (.d (.bool false))), (5, .v (.d (.int .i64 z11))), (6, .v (.c (.ow (.loc 640)))), (7, .v (.d (.int .i64 z14)))], [(.loc 0, .cells [.d (.int .u8 z2), .d (.int .i64 z3), .d (.int .i64 z4), .d (.list false 1 l5)]), (.loc 640, .tree .row false 1 t.2 none)], 1792⟩) (fun t => t.1 ≤ m4 ∧ L8_7 t.1 l1 z2 z3 z4 l5 z11 z14 t.2 = some r1) ?_ ?_
                      · try cbv
                        refine seq_go ?_
                        try cbv
                        refine seq_join (T := Nat × Bool) (fun t => ⟨[(0, .v (.d (.list true 4 l1))), (3, .v (.c (.ptr (.loc 0) 0))), (4, .v (.d (.bool false))), (5, .v (.d (.int .i64 z11))), (6, .v (.c (.ow (.loc 640)))), (7, .v (.d (.int .i64 z14))), (50, .v (.d (.bool t.2)))], [(.loc 0, .cells [.d (.int .u8 z2), .d (.int .i64 z3), .d (.int .i64 z4), .d (.list false 1 l5)]), (.loc 640, .tree .row false 1 l15 none)], 1344⟩) (fun t => t.1 ≤ m4 ∧ L8_5 t.1 l1 z2 z3 z4 l5 z11 z14 l15 t.2 = some r1) ?_ ?_
                        · try cbv
                          replace h := getF_inv h
                          obtain ⟨x18, ⟨hx0, hx⟩, h⟩ := h
                          refine ⟨x18, hx0, hx, ?_⟩
                          clear hx0 hx
                          replace h := ds_t32_inv h
                          obtain ⟨z19, z20, z21, l22, rfl, h⟩ := h
                          try cbv
                          refine splitL (fun e => ?_) (fun e => ?_)
                          · replace h := ite_t e h
                            clear e
                            try cbv
                            exact join_next (m4, true) [0, 3, 4, 5, 6, 7, 50] [.loc 0, .loc 640] 1344 ⟨by omega, h⟩ (by cbv)
                          · replace h := ite_f (Int.not_lt.2 e) h
                            clear e
                            try cbv
                            replace h := getF_inv h
                            obtain ⟨x23, ⟨hx0, hx⟩, h⟩ := h
                            refine ⟨x23, hx0, hx, ?_⟩
                            clear hx0 hx
                            replace h := ds_t32_inv h
                            obtain ⟨z24, z25, z26, l27, rfl, h⟩ := h
                            try cbv
                            refine splitLe (fun e => ?_) (fun e => ?_)
                            · replace h := ite_t e h
                              clear e
                              try cbv
                              exact join_next (m4, true) [0, 3, 4, 5, 6, 7, 50] [.loc 0, .loc 640] 1344 ⟨by omega, h⟩ (by cbv)
                            · replace h := ite_f (Int.not_le.2 e) h
                              clear e
                              try cbv
                              exact join_next (m4, false) [0, 3, 4, 5, 6, 7, 50] [.loc 0, .loc 640] 1344 ⟨by omega, h⟩ (by cbv)
                        · clear h
                          rintro ⟨m5, b28⟩ ⟨hm5, h⟩
                          replace hm5 : m5 ≤ m4 := hm5
                          cases m5 with
                          | zero =>
                            replace h : L8_5 0 l1 z2 z3 z4 l5 z11 z14 l15 b28 = some r1 := h
                            rw [L8_5] at h
                            cases h
                          | succ m5 =>
                            replace h : L8_5 (m5 + 1) l1 z2 z3 z4 l5 z11 z14 l15 b28 = some r1 := h
                            rw [L8_5] at h
                            try cbv
                            cases b28
                            · replace h := ite_f Bool.false_ne_true h
                              try cbv
                              refine seq_join (T := Nat × Bool) (fun t => ⟨[(0, .v (.d (.list true 4 l1))), (3, .v (.c (.ptr (.loc 0) 0))), (4, .v (.d (.bool false))), (5, .v (.d (.int .i64 z11))), (6, .v (.c (.ow (.loc 640)))), (7, .v (.d (.int .i64 z14))), (56, .v (.d (.bool t.2)))], [(.loc 0, .cells [.d (.int .u8 z2), .d (.int .i64 z3), .d (.int .i64 z4), .d (.list false 1 l5)]), (.loc 640, .tree .row false 1 l15 none)], 1536⟩) (fun t => t.1 ≤ m5 ∧ L8_6 t.1 l1 z2 z3 z4 l5 z11 z14 l15 t.2 = some r1) ?_ ?_
                              · try cbv
                                replace h := getF_inv h
                                obtain ⟨x29, ⟨hx0, hx⟩, h⟩ := h
                                refine ⟨x29, hx0, hx, ?_⟩
                                clear hx0 hx
                                replace h := ds_t32_inv h
                                obtain ⟨z30, z31, z32, l33, rfl, h⟩ := h
                                try cbv
                                refine splitI (fun e => ?_) (fun e => ?_)
                                · replace h := ite_t e h
                                  clear e
                                  try cbv
                                  exact join_next (m5, true) [0, 3, 4, 5, 6, 7, 56] [.loc 0, .loc 640] 1536 ⟨by omega, h⟩ (by cbv)
                                · replace h := ite_f e h
                                  clear e
                                  try cbv
                                  exact join_next (m5, false) [0, 3, 4, 5, 6, 7, 56] [.loc 0, .loc 640] 1536 ⟨by omega, h⟩ (by cbv)
                              · clear h
                                rintro ⟨m6, b34⟩ ⟨hm6, h⟩
                                replace hm6 : m6 ≤ m5 := hm6
                                cases m6 with
                                | zero =>
                                  replace h : L8_6 0 l1 z2 z3 z4 l5 z11 z14 l15 b34 = some r1 := h
                                  rw [L8_6] at h
                                  cases h
                                | succ m6 =>
                                  replace h : L8_6 (m6 + 1) l1 z2 z3 z4 l5 z11 z14 l15 b34 = some r1 := h
                                  rw [L8_6] at h
                                  try cbv
                                  cases b34
                                  · replace h := ite_f Bool.false_ne_true h
                                    try cbv
                                    exact join_next (m6, l15) [0, 3, 4, 5, 6, 7] [.loc 0, .loc 640] 1792 ⟨by omega, h⟩ (by cbv)
                                  · replace h := ite_t rfl h
                                    try cbv
                                    replace h := getF_inv h
                                    obtain ⟨x35, ⟨hx0, hx⟩, h⟩ := h
                                    refine ⟨x35, hx0, hx, ?_⟩
                                    clear hx0 hx
                                    replace h := ds_t32_inv h
                                    obtain ⟨z36, z37, z38, l39, rfl, h⟩ := h
                                    try cbv
                                    replace h := needF_inv h
                                    obtain ⟨hn, h⟩ := h
                                    refine ⟨(M.lock_iff _).2 hn, ?_⟩
                                    clear hn
                                    try cbv
                                    refine ⟨[], ?_⟩
                                    try cbv
                                    replace h := getN_inv h
                                    obtain ⟨x40, hx, h⟩ := h
                                    replace h := ds_bool_inv h
                                    obtain ⟨b41, rfl, h⟩ := h
                                    refine ⟨_, hx, ?_⟩
                                    clear hx
                                    try cbv
                                    replace h := setF_inv h
                                    obtain ⟨l42, hl42, h⟩ := h
                                    refine join_nextG (m6, l42) [.close (.loc 640)] [] [0, 3, 4, 5, 6, 7] [.loc 0, .loc 640] 1792 ⟨by omega, h⟩ ?_
                                    try cbv
                                    refine ⟨l42, hl42, ?_⟩
                                    clear hl42
                                    try cbv
                                    first | done | exact rfl | cbv
                            · replace h := ite_t rfl h
                              try cbv
                              refine seq_go ?_
                              try cbv
                              obtain rfl := Option.some.inj h
                              refine fin_go ?_
                              try cbv
                              exact ⟨[], rfl, rfl, trivial, trivial, trivial⟩
                      · clear h
                        rintro ⟨m7, l43⟩ ⟨hm7, h⟩
                        replace hm7 : m7 ≤ m4 := hm7
                        cases m7 with
                        | zero =>
                          replace h : L8_7 0 l1 z2 z3 z4 l5 z11 z14 l43 = some r1 := h
                          rw [L8_7] at h
                          cases h
                        | succ m7 =>
                          replace h : L8_7 (m7 + 1) l1 z2 z3 z4 l5 z11 z14 l43 = some r1 := h
                          rw [L8_7] at h
                          try cbv
                          replace h := letF_inv h
                          obtain ⟨z44, hz, h⟩ := h
                          refine ⟨z44, hz, ?_⟩
                          clear hz
                          try cbv
                          refine loop_nextG (m7, (z44, l43)) [] [] [0, 3, 4, 5, 6, 7] [.loc 0, .loc 640] 736 ⟨by omega, h⟩ (Nat.lt_succ_of_le (by omega)) ?_
                          try cbv
            · replace h := ite_t rfl h
              try cbv
              refine seq_go ?_
              try cbv
              obtain rfl := Option.some.inj h
              refine fin_go ?_
              try cbv
              exact ⟨[], rfl, rfl, trivial, trivial, trivial⟩
      · replace h := ite_t rfl h
        try cbv
        refine seq_go ?_
        try cbv
        replace h := bO1_inv h
        obtain ⟨b10, hr, h⟩ := h
        refine call_go rfl rfl ?_
        try cbv
        refine call_pure hM hI (T22 _ hr) rfl ?_
        clear hr
        try cbv
        obtain rfl := Option.some.inj h
        refine fin_go ?_
        try cbv
        exact ⟨[], rfl, rfl, trivial, trivial, trivial⟩
end Go.Proofs.YtjobleemmjjocaaDoor
end
