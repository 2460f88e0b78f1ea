/- Part of a proof. No condition. (Part 3: AmJ, AmK, AmL, AmM, AmN, AmKB, AmKS, AmKC, AmKD, AmKF, AmO, AmQ, AmS, AmP, AmU, YtjmofeakajdbiaaDoorTab, AmKE, AmOB, AmSH, AmX, YtjmofeakajdbiaaDoorFo.) -/
import Derived.LoopNIn
import Derived.OrdersIn
import Derived.Laws.CopyRow
import Derived.DataReads
import Derived.Test.YtjmofeakajdbiaaDoorProg
import Derived.KernelRfl
import Derived.Shelf.Strings.Fields
import Derived.Test.YtjmofeakajdbiaaDoorLalB
set_option linter.unusedVariables false
set_option linter.unusedSimpArgs false
namespace Go.AM
open Go Go.RowKit

structure St where
  slots : List (Nat × AV)
  heap : List (Id × AObj)
  next : Nat

def getH : List (Id × AObj) → Heap
  | [], _ => none
  | (k, v) :: r, i => match Id.beq k i with
    | true => some v
    | false => getH r i
def setH : List (Id × AObj) → Id → AObj → List (Id × AObj)
  | [], i, o => [(i, o)]
  | (k, v) :: r, i, o => match Id.beq k i with
    | true => (i, o) :: r
    | false => (k, v) :: setH r i o
def setW (l : List (Id × AObj)) : List (Id × AObj) → List (Id × AObj)
  | [] => l
  | (i, o) :: r => setW (setH l i o) r
def putS (l : List (Nat × AV)) (d : Option Tmp) (v : AV) : List (Nat × AV) :=
  match d with
  | some d => (d, v) :: l
  | none => l

theorem getS_cons (k : Nat) (v : AV) (l : List (Nat × AV)) : getS ((k, v) :: l) = fun t => if t = k then v else getS l t := by
  funext t
  show (match Nat.beq k t with | true => v | false => getS l t) = _
  cases hb : Nat.beq k t with
  | true => rw [if_pos (Nat.eq_of_beq_eq_true hb).symm]
  | false => rw [if_neg (fun e => Nat.ne_of_beq_eq_false hb e.symm)]
theorem getS_putS (l : List (Nat × AV)) (d : Option Tmp) (v : AV) : getS (putS l d v) = updS (getS l) d v := by
  cases d with
  | none => rfl
  | some d => exact getS_cons d v l
theorem getH_cons (k : Id) (v : AObj) (l : List (Id × AObj)) : getH ((k, v) :: l) = updO (getH l) k v := by
  funext i
  show (match Id.beq k i with | true => some v | false => getH l i) = if i = k then some v else getH l i
  cases hb : Id.beq k i with
  | true => rw [if_pos (Id.beq_iff.1 hb).symm]
  | false => rw [if_neg (fun e => Id.beq_false.1 hb e.symm)]
theorem getH_setH (l : List (Id × AObj)) (i : Id) (o : AObj) : getH (setH l i o) = updO (getH l) i o := by
  induction l with
  | nil => exact getH_cons i o []
  | cons x l ih =>
    obtain ⟨k, v⟩ := x
    unfold setH
    cases hb : Id.beq k i with
    | true =>
      have := Id.beq_iff.1 hb
      subst this
      simp only [getH_cons]
      funext j
      simp only [updO]
      split <;> rfl
    | false =>
      have := Id.beq_false.1 hb
      simp only [getH_cons, ih]
      funext j
      simp only [updO]
      by_cases h1 : j = k
      · subst h1; simp [this]
      · simp [h1]
theorem getH_setW (wr : List (Id × AObj)) : ∀ l : List (Id × AObj), getH (setW l wr) = updW (getH l) wr := by
  induction wr with
  | nil => intro l; rfl
  | cons x wr ih =>
    intro l
    show getH (setW (setH l x.1 x.2) wr) = updW (updO (getH l) x.1 x.2) wr
    rw [ih, getH_setH]

def dstOK (nt : Nat) (d : Option Tmp) (K : Prop) : Prop :=
  match d with
  | none => K
  | some d => req (Nat.blt d nt) K
def storeOK (o : Oper) (K : Prop) : Prop :=
  match o.op with
  | .store .. => match o.dst with
    | some _ => False
    | none => K
  | .mapUpdate .. => match o.dst with
    | some _ => False
    | none => K
  | .defer _ => False
  | _ => K

def rowsIn (h : Heap) : AV → Option (List D)
  | .v (.d (.list _ _ rows)) => some rows
  | .v (.c (.lst _ _ _ rows)) => some rows
  | .v (.c (.tl _ _ rows)) => some rows
  | .v (.c (.ow i)) => match h i with
    | some (.tree kd _ _ rows _) => match kd with
      | .row => some rows
      | .flat => some rows
      | _ => none
    | _ => none
  | _ => none
def isNilA : AV → Bool
  | .v (.c (.nils _ _)) => true
  | _ => false
def eqB : BinOp → Option Bool
  | .eql => some true
  | .neq => some false
  | _ => none
def nilCmp (ti : Types) (o : Oper) (s : Slots) (h : Heap) : Option (Bool × List D) :=
  match o.op with
  | .binOp op t x y _ => match eqB op with
    | some e => match isNilA (opd ti s t y) with
      | true => (match rowsIn h (opd ti s t x) with
        | some rows => some (e, rows)
        | none => none)
      | false => match isNilA (opd ti s t x) with
        | true => (match rowsIn h (opd ti s t y) with
          | some rows => some (e, rows)
          | none => none)
        | false => none
    | none => none
  | _ => none
def sliceTy (ti : Types) (o : Oper) : Bool :=
  match o.op with
  | .binOp _ t _ _ _ => match ti t with
    | some i => match i.desc with
      | .slice _ => true
      | _ => false
    | none => false
  | _ => false
def RelSt (C : Cx) (σ : St) (a : Act) (w : World) : Prop := Rel C (fun n => σ.next ≤ n) (getS σ.slots) (getH σ.heap) a w
def Weak (σ σ' : St) : Prop := ∀ C a w, RelSt C σ a w → RelSt C σ' a w

def isValCall (o : Oper) : Bool :=
  match o.op with
  | .call c => match c.callee with
    | .value _ => true
    | _ => false
  | _ => false
def preAt (h : Heap) (r : Id → Id) (m : List Id) (pre : List AObj) : Prop := ∀ (j : Nat) i o, m[j]? = some i → pre[j]? = some o → h i = some (o.ren r)
def renSl (r : Id → Id) (sl : List (Nat × AV)) : List (Nat × AV) := sl.map fun x => (x.1, x.2.ren r)
def callFn (M : Mach) (dst : Option Tmp) (fresh : Nat) (σ : St) (n : FuncId) (xs : List V1) (K : St → Prop) : Prop :=
  ∃ (m : List Id) (targs : List V1) (pre : List AObj) (Q : AV → List AObj → List AObj → Prop), TripK M.P M.I n targs pre Q ∧ xs = targs.map (V1.ren (renM m fresh)) ∧ m.length = pre.length ∧ m.Nodup ∧
    preAt (getH σ.heap) (renM m fresh) m pre ∧ ∀ res post new, Q res post new → (allKinds pre post ∧ new.length ≤ 31) ∧
      K ⟨putS σ.slots dst (res.ren (renM m fresh)), setW σ.heap (wrM m (renM m fresh) post ++ wrNew fresh (renM m fresh) 0 new), σ.next⟩
def callYl (M : Mach) (dst : Option Tmp) (fresh : Nat) (σ : St) (i : Id) (r : Unit → RF) (sl : List (Nat × AV)) (xs : List V1) (K : St → Prop) : Prop :=
  ∃ (m : List Id) (targs : List V1) (pre : List AObj) (sl0 : List (Nat × AV)) (Q : Jump → List AObj → List AObj → Prop), RoundK M.P M.I (r ()) sl0 targs pre Q ∧ xs = targs.map (V1.ren (renM (m ++ [i]) fresh)) ∧
    sl = renSl (renM (m ++ [i]) fresh) sl0 ∧ m.length = pre.length ∧ (m ++ [i]).Nodup ∧ preAt (getH σ.heap) (renM (m ++ [i]) fresh) m pre ∧ ∀ j post new, Q j post new → (allKinds pre post ∧ new.length ≤ 31) ∧
      K ⟨putS σ.slots dst (.v (.d (.bool j.isNone))), setW σ.heap (wrM (m ++ [i]) (renM (m ++ [i]) fresh) (post ++ [putRec j r sl0]) ++ wrNew fresh (renM (m ++ [i]) fresh) 0 new), σ.next⟩
def callK (M : Mach) (ti : Types) (o : Oper) (fresh : Nat) (σ : St) (K : St → Prop) : Prop :=
  match o.op with
  | .call c => match c.callee with
    | .value f => ∃ σ', Weak ⟨σ.slots, σ.heap, fresh⟩ σ' ∧ σ'.next = fresh ∧ (match opd ti (getS σ'.slots) 0 f with
      | .v (.c (.fn n cap)) => withArgs (opsArgs ti (getS σ'.slots) c.args.toList c.argTypes.toList) fun xs => callFn M o.dst fresh σ' n (xs ++ cap.map fun i => V1.c (.ptr i 0)) K
      | .v (.c (.yl i)) => withArgs (opsArgs ti (getS σ'.slots) c.args.toList c.argTypes.toList) fun xs => (match getH σ'.heap i with
        | some (.rnd r sl) => callYl M o.dst fresh σ' i r sl xs K
        | _ => False)
      | _ => False)
    | _ => False
  | _ => False

def isOwC : CV → Bool
  | .ow _ => true
  | .sl _ _ => true
  | _ => false
def anyB {α : Type} (p : α → Bool) : List α → Bool
  | [] => false
  | x :: r => match p x with
    | true => true
    | false => anyB p r
def hasOw : AV → Bool
  | .v (.c c) => isOwC c
  | .v (.agg cs) => anyB isOwC cs
  | _ => false
def isFzD : D → Bool
  | .list _ _ _ => true
  | _ => false
def isFzC : CV → Bool
  | .d x => isFzD x
  | .lst _ _ _ _ => true
  | .tl _ _ _ => true
  | _ => false
def hasFz : AV → Bool
  | .v (.d x) => anyB isFzD x.cells
  | .v (.c c) => isFzC c
  | .v (.agg cs) => anyB isFzC cs
  | _ => false
def isOwA : AV → Bool
  | .v (.c (.ow _)) => true
  | _ => false
def gsel (ti : Types) (o : Oper) (s : Slots) (h : Heap) : Option Bool :=
  match o.op with
  | .slice t x _ _ _ => (match isOwA (opd ti s t x) with
    | true => some true
    | false => none)
  | .convert t _ x => (match isOwA (opd ti s t x) with
    | true => some true
    | false => none)
  | .store t x y => (match isFl (opd ti s 0 x) h with
    | true => (match hasOw (opd ti s t y) with
      | true => some true
      | false => none)
    | false => (match isT (opd ti s 0 x) with
      | true => (match hasFz (opd ti s t y) with
        | true => some false
        | false => none)
      | false => none))
  | .mapUpdate _ _ _ z => (match hasOw (opd ti s 0 z) with
    | true => some true
    | false => none)
  | .call c => (match c.callee with
    | .builtin .append => (match c.args.toList, c.argTypes.toList with
      | [x, y], [t, t'] => (match hasOw (opd ti s t x) with
        | true => some false
        | false => (match hasOw (opd ti s t' y) with
          | true => some false
          | false => none))
      | _, _ => none)
    | _ => none)
  | _ => none
def ghOp (M : Mach) (ti : Types) (o : Oper) (fresh : Nat) (σ : St) (K : St → Prop) : Prop :=
  ∃ σ', Weak ⟨σ.slots, σ.heap, fresh⟩ σ' ∧ σ'.next = fresh ∧ opOut M ti o fresh (getS σ'.slots) (getH σ'.heap) fun out => K ⟨putS σ'.slots o.dst out.val, setW σ'.heap out.wr, σ'.next⟩
def plOp (M : Mach) (ti : Types) (o : Oper) (fresh : Nat) (σ : St) (K : St → Prop) : Prop :=
  opOut M ti o fresh (getS σ.slots) (getH σ.heap) fun out => K ⟨putS σ.slots o.dst out.val, setW σ.heap out.wr, σ.next⟩

def stepOp (M : Mach) (ti : Types) (nt : Nat) (o : Oper) (fresh : Nat) (σ : St) (K : St → Prop) : Prop :=
  storeOK o <| dstOK nt o.dst <| match nilCmp ti o (getS σ.slots) (getH σ.heap) with
    | some (e, rows) => req (sliceTy ti o) <| (rows ≠ [] → K ⟨putS σ.slots o.dst (.v (.d (.bool (notB e)))), σ.heap, σ.next⟩) ∧
        (rows = [] → K ⟨putS σ.slots o.dst (.v (.d (.bool e))), σ.heap, σ.next⟩ ∧ K ⟨putS σ.slots o.dst (.v (.d (.bool (notB e)))), σ.heap, σ.next⟩)
    | none => match isValCall o with
      | true => M.lock fun _ => (opOut M ti o fresh (getS σ.slots) (getH σ.heap) fun out => K ⟨putS σ.slots o.dst out.val, setW σ.heap out.wr, σ.next⟩) ∨ callK M ti o fresh σ K
      | false => match gsel ti o (getS σ.slots) (getH σ.heap) with
        | none => opOut M ti o fresh (getS σ.slots) (getH σ.heap) fun out => K ⟨putS σ.slots o.dst out.val, setW σ.heap out.wr, σ.next⟩
        | some b => match b with
          | true => M.lock fun _ => ghOp M ti o fresh σ K
          | false => M.lock fun _ => plOp M ti o fresh σ K ∨ ghOp M ti o fresh σ K

def guarded (ops : Array Oper) (o : Oper) (σ : St) (K1 K0 : St → Prop) : Prop :=
  match o.guard with
  | none => K1 σ
  | some (j, want) => match (ops[j]?).bind (·.dst) with
    | none => False
    | some d => match getS σ.slots d with
      | .v (.d (.bool c)) => match want with
        | true => match c with
          | true => K1 σ
          | false => K0 σ
        | false => match c with
          | true => K0 σ
          | false => K1 σ
      | .t [] => K0 σ
      | _ => False

def execOps (M : Mach) (ti : Types) (nt : Nat) (ops : Array Oper) (base : Nat) : List Oper → Nat → St → (St → Prop) → Prop
  | [], i, σ, K => K ⟨σ.slots, σ.heap, base + 32 * i⟩
  | o :: r, i, σ, K => guarded ops o σ
      (fun σ1 => stepOp M ti nt o (base + 32 * i) σ1 fun σ2 => execOps M ti nt ops base r (i + 1) σ2 K)
      (fun σ1 => dstOK nt o.dst (execOps M ti nt ops base r (i + 1) ⟨putS σ1.slots o.dst (.t []), σ1.heap, σ1.next⟩ K))

inductive AExit where
  | normal
  | exit (id : Nat)
  | ret

abbrev Draw := Array Oper → St → (St → Prop) → Prop

def loopP (ex : St → (AExit → St → Prop) → Prop) (σ : St) (K : AExit → St → Prop) : Prop :=
  ∃ (I : Nat → St → Prop) (m : Nat), (∃ σ0, Weak σ σ0 ∧ I m σ0) ∧ ∀ n σ1, I n σ1 → ex σ1 fun e σ2 => match e with
    | .normal => ∃ n' σ3, n' < n ∧ Weak σ2 σ3 ∧ I n' σ3
    | .exit id => K (.exit id) σ2
    | .ret => K .ret σ2

def unrollP (ex : St → (AExit → St → Prop) → Prop) (K : AExit → St → Prop) : Nat → St → Prop
  | 0, _ => False
  | n + 1, σ => ex σ fun e σ2 => match e with
    | .normal => unrollP ex K n σ2
    | .exit id => K (.exit id) σ2
    | .ret => K .ret σ2

def rangeP (M : Mach) (ti : Types) (nt : Nat) (g : Operand) (ps : Array Tmp) (assign body : Code) (σ : St) (K : AExit → St → Prop) : Prop :=
  ∃ σ', Weak σ σ' ∧ (match opd ti (getS σ'.slots) 0 g with
    | .v (.c (.fn n cap)) => ∃ sl : List (Nat × AV), (∀ t, getS sl t = .u ∨ getS sl t = getS σ'.slots t) ∧
        callFn M none (σ'.next + 32) ⟨σ'.slots, setH σ'.heap (.loc σ'.next) (.rnd (fun _ => ⟨ps, assign, body, nt⟩) sl), σ'.next + 64⟩ n (V1.c (.yl (.loc σ'.next)) :: cap.map fun i => V1.c (.ptr i 0)) fun σ2 =>
          match getH σ2.heap (.loc σ'.next) with
          | some (.rnd _ _) => K .normal ⟨σ2.slots, setH σ2.heap (.loc σ'.next) .gone, σ2.next⟩
          | some (.rndX j) => (match j with
            | none => K .ret ⟨σ2.slots, setH σ2.heap (.loc σ'.next) .gone, σ2.next⟩
            | some id => K (.exit id) ⟨σ2.slots, setH σ2.heap (.loc σ'.next) .gone, σ2.next⟩)
          | _ => False
    | _ => False)

def seqP (ea eb : St → (AExit → St → Prop) → Prop) (σ : St) (K : AExit → St → Prop) : Prop :=
  (ea σ fun e σ' => match e with
    | .normal => eb σ' K
    | .exit id => K (.exit id) σ'
    | .ret => K .ret σ') ∨
  ∃ I : St → Prop, (ea σ fun e σ' => match e with
    | .normal => ∃ σ'', Weak σ' σ'' ∧ I σ''
    | .exit id => K (.exit id) σ'
    | .ret => K .ret σ') ∧ ∀ σ'', I σ'' → eb σ'' K

def exec (M : Mach) (ti : Types) (nt : Nat) (dr : Draw) : Code → St → (AExit → St → Prop) → Prop
  | .skip, σ, K => K .normal σ
  | .region _ ops draw, σ, K => match draw with
    | false => execOps M ti nt ops σ.next ops.toList 0 σ fun σ' => K .normal σ'
    | true => dr ops σ fun σ' => K .normal σ'
  | .seq a b, σ, K => M.lock fun _ => seqP (fun σ K => exec M ti nt dr a σ K) (fun σ K => exec M ti nt dr b σ K) σ K
  | .cond c a b, σ, K => withB (opd ti (getS σ.slots) 0 c) fun q => match q with
    | true => exec M ti nt dr a σ K
    | false => exec M ti nt dr b σ K
  | .block id c, σ, K => exec M ti nt dr c σ fun e σ' => match e with
    | .normal => K .normal σ'
    | .exit id' => match Nat.beq id' id with
      | true => K .normal σ'
      | false => K (.exit id') σ'
    | .ret => K .ret σ'
  | .loop c, σ, K => M.lock fun _ => loopP (fun σ K => exec M ti nt dr c σ K) σ K ∨ ∃ n, unrollP (fun σ K => exec M ti nt dr c σ K) K n σ
  | .exit id, σ, K => K (.exit id) σ
  | .ret, σ, K => K .ret σ
  | .rangeFunc g ps assign body, σ, K => M.lock fun _ => rangeP M ti nt g ps assign body σ K
  | _, _, _ => False

def Qof (C : Cx) (K : AExit → St → Prop) : Exit → Act → World → Prop
  | .normal, a, w => ∃ C', CxLe C C' ∧ ∃ σ, K .normal σ ∧ RelSt C' σ a w
  | .exit id, a, w => ∃ C', CxLe C C' ∧ ∃ σ, K (.exit id) σ ∧ RelSt C' σ a w
  | .ret, a, w => ∃ C', CxLe C C' ∧ ∃ σ, K .ret σ ∧ RelSt C' σ a w
  | _, _, _ => False
theorem Qof.mono {C C' : Cx} {K : AExit → St → Prop} (L : CxLe C C') : ∀ {e : Exit} {a : Act} {w : World}, Qof C' K e a w → Qof C K e a w
  | .normal, _, _, ⟨D, L', h⟩ => ⟨D, L.trans L', h⟩
  | .exit _, _, _, ⟨D, L', h⟩ => ⟨D, L.trans L', h⟩
  | .ret, _, _, ⟨D, L', h⟩ => ⟨D, L.trans L', h⟩

theorem Rel.free_mono {C : Cx} {F F' : Nat → Prop} {s : Slots} {h : Heap} {a : Act} {w : World} (R : Rel C F s h a w) (hF : ∀ n, F' n → F n) : Rel C F' s h a w :=
  let ⟨g, r⟩ := R
  ⟨g, r.free_mono hF⟩

section
variable {C : Cx} {ti : Types} {dr : Draw}

theorem dstOK_iff {nt : Nat} {d : Option Tmp} {K : Prop} : dstOK nt d K ↔ (∀ x, d = some x → x < nt) ∧ K := by
  unfold dstOK
  split
  · simp
  · simp [req_iff]
theorem storeOK_iff {o : Oper} {K : Prop} (h : storeOK o K) : ((∀ t x y, o.op = .store t x y → o.dst = none) ∧ ∀ t x y z, o.op = .mapUpdate t x y z → o.dst = none) ∧ (∀ c, o.op ≠ .defer c) ∧ K := by
  unfold storeOK at h
  split at h
  · rename_i ho
    split at h
    · exact h.elim
    · rename_i hd
      refine ⟨⟨fun _ _ _ _ => hd, fun _ _ _ _ _ => hd⟩, fun c e => ?_, h⟩
      rw [ho] at e; cases e
  · rename_i ho
    split at h
    · exact h.elim
    · rename_i hd
      refine ⟨⟨fun _ _ _ _ => hd, fun _ _ _ _ _ => hd⟩, fun c e => ?_, h⟩
      rw [ho] at e; cases e
  · exact h.elim
  · rename_i hne hne2 hnd
    exact ⟨⟨fun t x y e => absurd e (hne t x y), fun t x y z e => absurd e (hne2 t x y z)⟩, hnd, h⟩

theorem yields {F : Nat → Prop} {σ : St} {a : Act} {w : World} {ops : Array Oper} {j d : Nat} {c : Bool} (R : Rel C F (getS σ.slots) (getH σ.heap) a w)
    (hd : (ops[j]?).bind (·.dst) = some d) (hc : getS σ.slots d = .v (.d (.bool c))) : yielded ops a.tmps j = some c := by
  obtain ⟨g, R⟩ := R
  have := R.slots d
  rw [hc] at this
  have hv := relB this
  unfold yielded
  rw [hd]
  have : a.tmps[d]? = some (.bool c) := by
    rw [Array.getD_eq_getD_getElem?] at hv
    cases h : a.tmps[d]? with
    | none => rw [h] at hv; simp [undef] at hv
    | some v => rw [h] at hv; simpa using hv
  simp [this]

theorem yields_none' {ops : Array Oper} {a : Act} {j d : Nat} (hd : (ops[j]?).bind (·.dst) = some d) (h : ∃ vs : Array Value, a.tmps.getD d undef = .tuple vs) : yielded ops a.tmps j = none := by
  obtain ⟨vs, hv⟩ := h
  unfold yielded
  rw [hd]
  rw [Array.getD_eq_getD_getElem?] at hv
  cases h : a.tmps[d]? with
  | none => simp [h]
  | some v =>
    rw [h] at hv
    have hv : v = .tuple vs := by simpa using hv
    subst hv
    simp [h]
theorem yields_none {F : Nat → Prop} {σ : St} {a : Act} {w : World} {ops : Array Oper} {j d : Nat} (R : Rel C F (getS σ.slots) (getH σ.heap) a w)
    (hd : (ops[j]?).bind (·.dst) = some d) (hc : getS σ.slots d = .t []) : yielded ops a.tmps j = none := by
  obtain ⟨g, R⟩ := R
  have := R.slots d
  rw [hc] at this
  obtain ⟨vs, hv, _⟩ := this
  exact yields_none' hd ⟨vs, hv⟩

theorem guarded_sound {F : Nat → Prop} {σ : St} {a : Act} {w : World} {ops : Array Oper} {o : Oper} {K1 K0 : St → Prop} (R : Rel C F (getS σ.slots) (getH σ.heap) a w)
    (hk : guarded ops o σ K1 K0) : ∃ σ', σ'.heap = σ.heap ∧ Rel C F (getS σ'.slots) (getH σ'.heap) a w ∧
      ((Region.wanted o (yielded ops a.tmps) = true ∧ K1 σ') ∨ (Region.wanted o (yielded ops a.tmps) = false ∧ K0 σ')) := by
  unfold guarded at hk
  split at hk
  · rename_i hg
    exact ⟨σ, rfl, R, .inl ⟨by simp [Region.wanted, hg], hk⟩⟩
  · rename_i j want hg
    split at hk
    · exact hk.elim
    · rename_i d hd
      split at hk
      · rename_i c hc
        have hy := yields R hd hc
        cases want <;> cases c
        · exact ⟨σ, rfl, R, .inl ⟨by simp [Region.wanted, hg, hy], hk⟩⟩
        · exact ⟨σ, rfl, R, .inr ⟨by simp [Region.wanted, hg, hy], hk⟩⟩
        · exact ⟨σ, rfl, R, .inr ⟨by simp [Region.wanted, hg, hy], hk⟩⟩
        · exact ⟨σ, rfl, R, .inl ⟨by simp [Region.wanted, hg, hy], hk⟩⟩
      · rename_i hc
        have hy := yields_none R hd hc
        exact ⟨σ, rfl, R, .inr ⟨by simp [Region.wanted, hg, hy], hk⟩⟩
      · exact hk.elim

theorem rowsIn_rel {w : World} {X Z : Zone} {g : Ghost} {h : Heap} (RH : RelH w X g h) {x : AV} {rows : List D} {v : Value} (hx : rowsIn h x = some rows) (hr : RelAV w Z g h x v) : ∃ A n cap, v = .slice A n cap ∧ (rows ≠ [] → A.isNone = false) := by
  have main : ∀ {ag : Bool} {sz : Nat}, RelD w Z (.list ag sz rows) v → ∃ A n cap, v = .slice A n cap ∧ (rows ≠ [] → A.isNone = false) := by
    intro ag sz hd
    obtain ⟨A, cap, hv, _, _, _, b, o, hA, _⟩ := relList hd
    exact ⟨A, _, cap, hv, fun hne => by rw [hA hne]; rfl⟩
  unfold rowsIn at hx
  split at hx
  · cases hx; exact main hr
  · cases hx; exact main hr.1
  · cases hx; exact main hr.1
  · rename_i i
    split at hx
    · rename_i kd ag sz rows' foc hi
      split at hx
      · cases hx
        obtain ⟨ht, h0, hf, xs, ho, _⟩ := RH.objs i _ hi
        obtain ⟨A, cap, hv, _, _, hA⟩ := ho.row
        refine ⟨A, _, cap, by rw [hr.2.2 (by rw [hi]; rfl), hv], fun hne => ?_⟩
        obtain ⟨b, rfl⟩ := hA (List.length_pos_iff.2 hne)
        rfl
      · cases hx
        obtain ⟨ht, h0, hf, xs, ho, _⟩ := RH.objs i _ hi
        obtain ⟨A, cap, hv, _, _, hA⟩ := ho.toRow.row
        refine ⟨A, _, cap, by rw [hr.2.2 (by rw [hi]; rfl), hv], fun hne => ?_⟩
        obtain ⟨b, rfl⟩ := hA (List.length_pos_iff.2 hne)
        rfl
      · cases hx
    · cases hx
  · cases hx
theorem isNilA_rel {w : World} {Z : Zone} {g : Ghost} {h : Heap} {x : AV} {v : Value} (hx : isNilA x = true) (hr : RelAV w Z g h x v) : v = .slice none 0 0 := by
  unfold isNilA at hx
  split at hx
  · exact hr
  · cases hx
theorem run_eqSlD {P : Program} {t e : TypeId} (h : P.underlying t = some (.slice e)) (A : Option Addr) (n cap : Nat) (w : World) (d : Nat) :
    (Op.equalIn (d + 1) t (.slice A n cap) (.slice none 0 0)).run P w = .ok A.isNone w ∧ (Op.equalIn (d + 1) t (.slice none 0 0) (.slice A n cap)).run P w = .ok A.isNone w := by
  constructor <;> cases A <;> simp [Op.equalIn, run_underlying h w]
theorem run_eqSl {P : Program} {t e : TypeId} (h : P.underlying t = some (.slice e)) (A : Option Addr) (n cap : Nat) (w : World) :
    (Op.equal t (.slice A n cap) (.slice none 0 0)).run P w = .ok A.isNone w ∧ (Op.equal t (.slice none 0 0) (.slice A n cap)).run P w = .ok A.isNone w :=
  run_eqSlD h A n cap w 9999

theorem nilCmp_ok {C : Cx} {ti : Types} (hti : TIok C.P ti) {o : Oper} {F : Nat → Prop} {s : Slots} {h : Heap} {g : Ghost} {a : Act} {w : World} (R : RelS C F s h g a w) {e : Bool} {rows : List D} (hn : nilCmp ti o s h = some (e, rows)) (hs : sliceTy ti o = true) :
    ∃ c : Bool, (execOp a.eval o).run C.P w = .ok (.value (.bool (if c then e else !e))) w ∧ (rows ≠ [] → c = false) := by
  unfold nilCmp at hn
  split at hn
  · rename_i op t x y t' ho
    split at hn
    · rename_i e' he
      unfold sliceTy at hs
      rw [ho] at hs
      simp only at hs
      split at hs
      · rename_i i hi
        split at hs
        · rename_i el hd
          have hu := (hti t i hi).1
          rw [hd] at hu
          have ex := opd_rel ti t x R (s := s) (fun _ _ => rfl)
          have ey := opd_rel ti t y R (s := s) (fun _ _ => rfl)
          have fin : ∀ (A : Option Addr) (r : Sem Bool), (Op.equal t (a.eval x) (a.eval y)).run C.P w = .ok A.isNone w → (∃ n cap, a.eval x = .slice A n cap ∨ a.eval y = .slice A n cap) → (∃ n cap A', a.eval x = .slice A' n cap) → (∃ n cap A', a.eval y = .slice A' n cap) → (rows ≠ [] → A.isNone = false) → e' = e →
              ∃ c : Bool, (execOp a.eval o).run C.P w = .ok (.value (.bool (if c then e else !e))) w ∧ (rows ≠ [] → c = false) := by
            rintro A r hrun _ ⟨n, cap, A1, hx⟩ ⟨m, cap', A2, hy⟩ hne rfl
            refine ⟨A.isNone, ?_, hne⟩
            rw [hx, hy] at hrun
            unfold eqB at he
            split at he <;> cases he <;> cases hA : A.isNone <;> simp [execOp, ho, hx, hy, eqGuard, binOp, hrun, hA]
          split at hn
          · rename_i hny
            split at hn
            · rename_i rows' hrx
              obtain ⟨A, n, cap, hv, hA⟩ := rowsIn_rel R.heap hrx ex
              have hyv := isNilA_rel hny ey
              cases hn
              exact fin A (pure true) (by rw [hv, hyv]; exact (run_eqSl hu A n cap w).1) ⟨n, cap, .inl hv⟩ ⟨n, cap, A, hv⟩ ⟨0, 0, none, hyv⟩ hA rfl
            · cases hn
          · split at hn
            · rename_i hnx
              split at hn
              · rename_i rows' hry
                obtain ⟨A, n, cap, hv, hA⟩ := rowsIn_rel R.heap hry ey
                have hxv := isNilA_rel hnx ex
                cases hn
                exact fin A (pure true) (by rw [hv, hxv]; exact (run_eqSl hu A n cap w).2) ⟨n, cap, .inr hv⟩ ⟨0, 0, none, hxv⟩ ⟨n, cap, A, hv⟩ hA rfl
              · cases hn
            · cases hn
        · cases hs
      · cases hs
    · cases hn
  · cases hn

theorem callFn_sound {F : Nat → Prop} {σ : St} {g : Ghost} {a : Act} {w : World} {fresh : Nat} {dst : Option Tmp} {n : FuncId} {xs : List V1} {K : St → Prop} {Q : Exit → Act → World → Prop} {vals : Array Value}
    (R : RelS C F (getS σ.slots) (getH σ.heap) g a w) (hk : callFn C.M dst fresh σ n xs K) (hF : ∀ k, k < 32 → F (fresh + k)) (hd : ∀ d, dst = some d → d < C.nt) (hsz : vals.size = xs.length)
    (hargs : ∀ (j : Nat) x v, xs[j]? = some x → vals[j]? = some v → RelV1 w (zor (zone g (getH σ.heap)) C.X) g (getH σ.heap) x v) :
    (∃ fn c, C.P.funcs[n]? = some fn ∧ fn.body = some c ∧ (fn.name == "runtime.NumGoroutine") = false) ∧
    Calls C.P n vals w fun
      | .returned v, w'' => ∃ σ2, K σ2 ∧ σ2.next = σ.next ∧ ∃ g2, (∀ i q, g i = .map (some q) → g2 i = g i) ∧ RelS C (fun k => F k ∧ ¬ (fresh ≤ k ∧ k < fresh + 32)) (getS σ2.slots) (getH σ2.heap) g2 (a.put dst v) w''
      | .panicked chain, w'' => Q (.panic chain) a w''
      | .outgrown, _ => LetsOut Q := by
  obtain ⟨m, targs, pre, Qp, ht, rfl, hlen, hnd, hpre, hK⟩ := hk
  refine ⟨ht.1, ?_⟩
  refine Calls.mono (call_core (Qp := Qp) (Run := fun p => Calls C.P n vals w p) (vals := vals) (dst := dst) (Q := Q) R (fun hpq hp => hp.mono hpq)
    (fun X g1 _ k1 k2 k3 k4 k6 => ht.2 w X g1 vals k1 k2 k3 k4 (by rw [hsz]; simp) k6) hlen hnd hpre (fun r p q h => (hK r p q h).1) hF hd hargs) ?_
  intro e w' he
  cases e with
  | returned v =>
    obtain ⟨res, post, new, hq, he⟩ := he
    refine ⟨_, (hK res post new hq).2, rfl, ?_⟩
    rw [getS_putS, getH_setW]
    exact he
  | panicked ch => exact he
  | outgrown => exact he

theorem preAt_app {h : Heap} {r : Id → Id} {m : List Id} {pre : List AObj} {i : Id} {o : AObj} (hp : preAt h r m pre) (hl : m.length = pre.length) (hi : h i = some (o.ren r)) : preAt h r (m ++ [i]) (pre ++ [o]) := by
  intro j i' o' hm ho
  by_cases hj : j < m.length
  · rw [List.getElem?_append_left hj] at hm
    rw [List.getElem?_append_left (by omega)] at ho
    exact hp j i' o' hm ho
  · rw [List.getElem?_append_right (by omega)] at hm
    rw [List.getElem?_append_right (by omega), ← hl] at ho
    have : j - m.length = 0 := by
      rcases Nat.eq_zero_or_pos (j - m.length) with h | h
      · exact h
      · rw [List.getElem?_eq_none (by simp; omega)] at hm; cases hm
    rw [this] at hm ho
    simp at hm ho
    subst hm; subst ho
    exact hi

theorem allKinds_app {a b : AObj} : ∀ {pre post : List AObj}, allKinds pre post → sameKind a b → allKinds (pre ++ [a]) (post ++ [b])
  | [], [], _, h => ⟨h, trivial⟩
  | _ :: _, _ :: _, h, k => ⟨h.1, allKinds_app h.2 k⟩
  | [], _ :: _, h, _ => h.elim
  | _ :: _, [], h, _ => h.elim
theorem callYl_sound {F : Nat → Prop} {σ : St} {g : Ghost} {a : Act} {w : World} {fresh : Nat} {dst : Option Tmp} {i : Id} {r : Unit → RF} {sl : List (Nat × AV)} {xs : List V1} {K : St → Prop} {Q : Exit → Act → World → Prop} {vals : Array Value}
    (R : RelS C F (getS σ.slots) (getH σ.heap) g a w) (hi : getH σ.heap i = some (.rnd r sl)) (hk : callYl C.M dst fresh σ i r sl xs K) (hF : ∀ k, k < 32 → F (fresh + k)) (hd : ∀ d, dst = some d → d < C.nt) (hsz : vals.size = xs.length)
    (hargs : ∀ (j : Nat) x v, xs[j]? = some x → vals[j]? = some v → RelV1 w (zor (zone g (getH σ.heap)) C.X) g (getH σ.heap) x v) :
    ∃ l L, g i = .map (some l) ∧ w.heap[l]? = some (.loop L) ∧ vals.size = L.params.size ∧
    RoundIn Fence.wide 0 C.P l L.fn (putAll L.params vals L.tmps) L.assign L.body w fun
      | .returned v, w'' => ∃ σ2, K σ2 ∧ σ2.next = σ.next ∧ ∃ g2, (∀ i q, g i = .map (some q) → g2 i = g i) ∧ RelS C (fun k => F k ∧ ¬ (fresh ≤ k ∧ k < fresh + 32)) (getS σ2.slots) (getH σ2.heap) g2 (a.put dst v) w''
      | .panicked chain, w'' => Q (.panic chain) a w''
      | .outgrown, _ => LetsOut Q := by
  obtain ⟨m, targs, pre, sl0, Qp, ht, rfl, rfl, hlen, hnd, hpre, hK⟩ := hk
  have hsz' : vals.size = targs.length := by rw [hsz]; simp
  obtain ⟨l, L, hv, hl, _, _, l3, l4, l5, l6, _⟩ := R.heap.objs i _ hi
  refine ⟨l, L, hv, hl, by rw [hsz', ht.1, l3], ?_⟩
  refine RoundIn.mono (call_core (Qp := fun res post new => ∃ j post0, Qp j post0 new ∧ res = .v (.d (.bool j.isNone)) ∧ post = post0 ++ [putRec j r sl0]) (targs := targs) (m := m ++ [i]) (pre := pre ++ [.rnd r sl0])
    (Run := fun p => RoundIn Fence.wide 0 C.P l L.fn (putAll L.params vals L.tmps) L.assign L.body w p) (vals := vals) (dst := dst) (Q := Q) R (fun hpq hp => hp.mono hpq)
    (fun X g1 kg k1 k2 k3 k4 k6 => by
      obtain ⟨l', L', e1, e2, _, hr⟩ := yield_core ht (fun j p q h => (hK j p q h).1) k1 k2 k3 k4 hsz' k6
      have : g1 (.ext pre.length) = .map (some l) := by
        rw [kg, ← hlen]
        show g (renM (m ++ [i]) fresh (.ext m.length)) = _
        simp [renM, hv]
      rw [e1] at this
      cases this
      rw [hl] at e2
      cases e2
      exact hr) (by simp [hlen]) hnd (preAt_app hpre hlen (by rw [hi]; rfl)) (fun res post new h => by
        obtain ⟨j, post0, hq, rfl, rfl⟩ := h
        obtain ⟨q1, q2⟩ := (hK j post0 new hq).1
        exact ⟨allKinds_app q1 (by cases j <;> trivial), q2⟩) hF hd hargs) ?_
  intro e w' he
  cases e with
  | returned v =>
    obtain ⟨res, post, new, ⟨j, post0, hq, rfl, rfl⟩, he⟩ := he
    refine ⟨_, (hK j post0 new hq).2, rfl, ?_⟩
    rw [getS_putS, getH_setW]
    exact he
  | panicked ch => exact he
  | outgrown => exact he

theorem execOps_sound (hti : TIok C.P ti) (h1 : TIone ti) {ops : Array Oper} {base : Nat} {K : St → Prop} {Q : Exit → Act → World → Prop}
    (hQ : ∀ σ a w, K σ → RelSt C σ a w → Q .normal a w) : ∀ (l : List Oper) (i : Nat) (σ : St) (a : Act) (w : World), ops.toList.drop i = l →
      execOps C.M ti C.nt ops base l i σ K → Rel C (fun n => base + 32 * i ≤ n) (getS σ.slots) (getH σ.heap) a w → wpOpsIn (fenceOf C.ro) 0 C.P ops Q (List.range' i l.length) a w
  | [], i, σ, a, w, _, hk, R => hQ _ a w hk R
  | o :: r, i, σ, a, w, hl, hk, R => by
    have hi : ops[i]? = some o := by
      have := congrArg (fun l => l[0]?) hl
      simpa using this
    have hr : ops.toList.drop (i + 1) = r := by
      have := congrArg List.tail hl
      simpa using this
    simp only [List.length_cons, List.range'_succ]
    rw [wpOpsIn_cons]
    unfold wpOpIn
    rw [hi]
    simp only []
    obtain ⟨σ', hh, R', ⟨hw, hk⟩ | ⟨hw, hk⟩⟩ := guarded_sound R hk
    · rw [if_pos hw]
      obtain ⟨hst, hnd, hk⟩ := storeOK_iff hk
      obtain ⟨hd, hk⟩ := dstOK_iff.1 hk
      split at hk
      · rename_i e rows hnc
        obtain ⟨hs, hk1, hk2⟩ := req_iff.1 hk
        obtain ⟨g, R2⟩ := R'
        obtain ⟨c, hrun, hc⟩ := nilCmp_ok hti R2 hnc hs
        refine wp_fence hnd ?_
        unfold Oper.wp
        rw [hrun]
        have fin : ∀ b : Bool, execOps C.M ti C.nt ops base r (i + 1) ⟨putS σ'.slots o.dst (.v (.d (.bool b))), σ'.heap, σ'.next⟩ K → wpOpsIn (fenceOf C.ro) 0 C.P ops Q (List.range' (i + 1) r.length) (a.put o.dst (.bool b)) w := by
          intro b hk
          refine execOps_sound hti h1 hQ r (i + 1) _ _ w hr hk ?_
          rw [getS_putS]
          exact ⟨g, (R2.put hd (v := .v (.d (.bool b))) (.bool b)).free_mono (fun n hn => by omega)⟩
        by_cases hne : rows = []
        · obtain ⟨k1, k2⟩ := hk2 hne
          cases c with
          | true => exact fin e k1
          | false => have := fin (notB e) k2; rw [notB_eq] at this; exact this
        · rw [hc hne]
          have := fin (notB e) (hk1 hne)
          rw [notB_eq] at this
          exact this
      have plain : opOut C.M ti o (base + 32 * i) (getS σ'.slots) (getH σ'.heap) (fun out => execOps C.M ti C.nt ops base r (i + 1) ⟨putS σ'.slots o.dst out.val, setW σ'.heap out.wr, σ'.next⟩ K) →
          Oper.wpIn (fenceOf C.ro) 0 C.P o a w (wpOpsIn (fenceOf C.ro) 0 C.P ops Q (List.range' (i + 1) r.length)) Q := by
        intro hk
        obtain ⟨out, hk, hok⟩ := opOut_sound hti h1 hst.1 hst.2 hk
        refine wp_fence hnd ?_
        refine Oper.wp_mono ?_ (hok _ _ _ a w Q R' (fun _ _ => rfl) (fun _ _ => rfl) (fun k hk => by omega) hd)
        intro a' w' R2
        refine execOps_sound hti h1 hQ r (i + 1) _ a' w' hr hk ?_
        rw [getS_putS, getH_setW]
        exact R2.free_mono (fun n hn => by omega)
      have ghost : ghOp C.M ti o (base + 32 * i) σ' (fun σ2 => execOps C.M ti C.nt ops base r (i + 1) σ2 K) → Oper.wpIn (fenceOf C.ro) 0 C.P o a w (wpOpsIn (fenceOf C.ro) 0 C.P ops Q (List.range' (i + 1) r.length)) Q := by
        rintro ⟨σ1, hwk, hnx, hk⟩
        have R2 := hwk C a w R'
        obtain ⟨out, hk, hok⟩ := opOut_sound hti h1 hst.1 hst.2 hk
        refine wp_fence hnd ?_
        refine Oper.wp_mono ?_ (hok _ _ _ a w Q R2 (fun _ _ => rfl) (fun _ _ => rfl) (fun k hk => by omega) hd)
        intro a' w' R3
        refine execOps_sound hti h1 hQ r (i + 1) _ a' w' hr hk ?_
        rw [getS_putS, getH_setW]
        exact R3.free_mono (fun n hn => by omega)
      split at hk
      rotate_left
      · split at hk
        · exact plain hk
        · split at hk
          · exact ghost ((C.M.lock_iff _).1 hk)
          · rcases (C.M.lock_iff _).1 hk with hk | hk
            · exact plain hk
            · exact ghost hk
      rcases (C.M.lock_iff _).1 hk with hk | hk
      · exact plain hk
      unfold callK at hk
      split at hk
      rotate_left
      · exact hk.elim
      rename_i c ho
      split at hk
      rotate_left
      · exact hk.elim
      rename_i f hc
      obtain ⟨σ1, hwk, hnx, hk⟩ := hk
      obtain ⟨g, R2⟩ := hwk C a w R'
      have hF : ∀ k, k < 32 → σ1.next ≤ base + 32 * i + k := fun k _ => by omega
      have hf := opd_rel ti 0 f R2 (s := getS σ1.slots) (fun _ _ => rfl)
      have fin : ∀ (σ2 : St) (g2 : Ghost) (v : Value) (w' : World), execOps C.M ti C.nt ops base r (i + 1) σ2 K → RelS C (fun k => σ1.next ≤ k ∧ ¬ (base + 32 * i ≤ k ∧ k < base + 32 * i + 32)) (getS σ2.slots) (getH σ2.heap) g2 (a.put o.dst v) w' →
          wpOpsIn (fenceOf C.ro) 0 C.P ops Q (List.range' (i + 1) r.length) (a.put o.dst v) w' := fun σ2 g2 v w' hk2 R3 =>
        execOps_sound hti h1 hQ r (i + 1) σ2 _ w' hr hk2 ⟨g2, R3.free_mono (fun n hn => by omega)⟩
      refine ⟨fun f _ => fenceOf_fn _ f, ?_⟩
      rw [Oper.semAt_eq _ _ _ hnd]
      split at hk
      · rename_i n cap hop
        rw [hop] at hf
        obtain ⟨hfv, hcap⟩ := hf
        unfold withArgs at hk
        split at hk
        rotate_left
        · exact hk.elim
        rename_i xs hxs
        obtain ⟨h3, h4⟩ := opsArgs_rel (ti := ti) R2 c.args.toList c.argTypes.toList xs (fun t ht => rfl) hxs
        obtain ⟨⟨fn, body, hfn, hb, hname⟩, hcall⟩ := callFn_sound (Q := Q) (vals := c.args.map a.eval ++ (cap.map (fun i => ptrAt (g i) 0)).toArray) R2 hk hF hd (by simp [h3]) (fun j x v hx hv => by
          simp only [Array.getElem?_append, Array.size_map, List.getElem?_toArray] at hv
          by_cases hj : j < c.args.size
          · rw [if_pos hj] at hv
            rw [List.getElem?_append_left (by rw [h3]; simpa using hj)] at hx
            simp only [Array.getElem?_map, Option.map_eq_some_iff] at hv
            obtain ⟨p, hp, rfl⟩ := hv
            exact h4 j x p hx (by simpa using hp)
          · rw [if_neg hj] at hv
            rw [List.getElem?_append_right (by rw [h3]; simpa using hj), h3] at hx
            simp only [List.getElem?_map, Option.map_eq_some_iff, Array.length_toList] at hx hv
            obtain ⟨i, hi, rfl⟩ := hx
            obtain ⟨i', hi', rfl⟩ := hv
            rw [hi] at hi'
            obtain rfl : i = i' := by simpa using hi'
            obtain ⟨b, hb'⟩ := hcap i (List.mem_of_getElem? hi)
            exact ⟨⟨b, hb'⟩, rfl⟩)
        have hrun : (execOp a.eval o).run C.P w = .ok (.enter n (c.args.map a.eval ++ (cap.map (fun i => ptrAt (g i) 0)).toArray)) w := by
          have hn' : ¬ fn.name = "runtime.NumGoroutine" := by simpa using hname
          simp [execOp, ho, resolve, hc, hfv, Deferred.ofValue, invoke, callFunc, hfn, hb, hn']
        rw [hrun, Oper.uponIn_enter]
        refine ⟨fenceOf_depth _, callsIn_fence (hcall.mono ?_)⟩
        intro e w' he
        cases e with
        | returned v => obtain ⟨σ2, hk2, _, g2, _, R3⟩ := he; exact fin σ2 g2 v w' hk2 R3
        | panicked ch => exact he
        | outgrown => exact he
      · rename_i id hop
        rw [hop] at hf
        obtain ⟨l0, hg0, hfv⟩ := hf
        unfold withArgs at hk
        split at hk
        rotate_left
        · exact hk.elim
        rename_i xs hxs
        obtain ⟨h3, h4⟩ := opsArgs_rel (ti := ti) R2 c.args.toList c.argTypes.toList xs (fun t ht => rfl) hxs
        split at hk
        rotate_left
        · exact hk.elim
        rename_i rf sl hid
        obtain ⟨l, L, hgl, hL, hps, hround⟩ := callYl_sound (Q := Q) (vals := c.args.map a.eval) R2 hid hk hF hd (by simp [h3]) (fun j x v hx hv => by
          simp only [Array.getElem?_map, Option.map_eq_some_iff] at hv
          obtain ⟨p, hp, rfl⟩ := hv
          exact h4 j x p hx (by simpa using hp))
        rw [hg0] at hgl
        obtain rfl : l0 = l := by cases hgl; rfl
        have hrun : (execOp a.eval o).run C.P w = .ok (.round l0 L.fn (putAll L.params (c.args.map a.eval) L.tmps) L.assign L.body) w := by
          have : (Instr.yield l0 (c.args.map a.eval)).run C.P w = .ok (.round l0 L.fn (putAll L.params (c.args.map a.eval) L.tmps) L.assign L.body) w := run_yield (P := C.P) (args := c.args.map a.eval) hL hps
          simp only [execOp, ho, resolve, hc, hfv, Deferred.ofValue, invoke, Sem.run_bind, Result.andThen, Sem.run_pure]
          first
            | exact this
            | simpa using this
        rw [hrun, Oper.uponIn_round]
        refine ⟨fenceOf_depth _, roundIn_fence (hround.mono ?_)⟩
        intro e w' he
        cases e with
        | returned v => obtain ⟨σ2, hk2, _, g2, _, R3⟩ := he; exact fin σ2 g2 v w' hk2 R3
        | panicked ch => exact he
        | outgrown => exact he
      · exact hk.elim
    · rw [if_neg (by simp [hw])]
      obtain ⟨hd, hk⟩ := dstOK_iff.1 hk
      refine ⟨fun f _ => fenceOf_fn _ f, ?_⟩
      refine execOps_sound hti h1 hQ r (i + 1) _ _ w hr hk ?_
      obtain ⟨g, R'⟩ := R'
      rw [getS_putS]
      exact ⟨g, (R'.put hd (v := .t []) ⟨#[], rfl, rfl, by simp⟩).free_mono (fun n hn => by omega)⟩

def DrawOK (C : Cx) (dr : Draw) : Prop := ∀ (id : Nat) (ops : Array Oper) (σ : St) (K : St → Prop) (Q : Exit → Act → World → Prop) (a : Act) (w : World),
  (∀ σ a w, K σ → RelSt C σ a w → Q .normal a w) → dr ops σ K → RelSt C σ a w → (Code.region id ops true).wpIn (fenceOf C.ro) 0 C.P Q a w

theorem least {p : Nat → Prop} (h : ∃ n, p n) : ∃ n, p n ∧ ∀ m, p m → n ≤ m := by
  obtain ⟨n, hn⟩ := h
  induction n using Nat.strongRecOn with
  | _ n ih =>
    by_cases hx : ∃ m, m < n ∧ p m
    · obtain ⟨m, hm, hp⟩ := hx
      exact ih m hm hp
    · exact ⟨n, hn, fun m hp => Nat.le_of_not_lt (fun hlt => hx ⟨m, hlt, hp⟩)⟩

theorem fnCalls_run {P : Program} {a : Act} {w : World} {g : Operand} {l n : Nat} {caps : Array Value} {fn : Func} {body : Code} (hf : a.eval g = .func (.func n) #[] caps) (hfn : P.funcs[n]? = some fn) (hb : fn.body = some body) (hname : (fn.name == "runtime.NumGoroutine") = false) :
    ∃ d, (resolve a.eval (rangeCall g l) 0).run P w = .ok d w ∧ (invoke d.target d.args).run P w = .ok (.enter n (#[.func (.yield l) #[] #[]] ++ caps)) w := by
  have hn' : ¬ fn.name = "runtime.NumGoroutine" := by simpa using hname
  have he : a.eval (.const (.func (.yield l) #[] #[])) = .func (.yield l) #[] #[] := rfl
  refine ⟨⟨.fn (.func n) caps, #[.func (.yield l) #[] #[]]⟩, ?_, ?_⟩
  · simp [resolve, rangeCall, hf, he, Deferred.ofValue]
  · simp [invoke, callFunc, hfn, hb, hn']

theorem enter_range {F : Nat → Prop} {s : Slots} {h : Heap} {g : Ghost} {a : Act} {w : World} (R : RelS C F s h g a w) {n : Nat} (hn : F n) (ps : Array Tmp) (assign body : Code) (sl : List (Nat × AV)) (hsl : ∀ t, getS sl t = .u ∨ getS sl t = s t) (fn : FuncId) :
    ∃ l mark w1 C2 g2, (Instr.enterLoop fn a.tmps ps assign body (fenceOf C.ro).round).run C.P w = .ok (l, mark) w1 ∧ CxLe C C2 ∧ C2.w0.heap.size ≤ l ∧ g2 (.loc n) = .map (some l) ∧
      RelS C2 (fun k => F k ∧ k ≠ n) s (updO h (.loc n) (.rnd (fun _ => ⟨ps, assign, body, C.nt⟩) sl)) g2 { a with defers := mark ++ a.defers } w1 ∧ (∀ v, RelC w1 (zor (zone g2 (updO h (.loc n) (.rnd (fun _ => ⟨ps, assign, body, C.nt⟩) sl))) C2.X) g2 (updO h (.loc n) (.rnd (fun _ => ⟨ps, assign, body, C.nt⟩) sl)) (.yl (.loc n)) v ↔ v = .func (.yield l) #[] #[]) ∧
      (∀ i, i ≠ .loc n → g2 i = g i) := by
  rw [fenceOf_round]
  have hX : ∀ b o, C.X b o → b < w.heap.size := fun b o hx => Nat.lt_of_lt_of_le (R.xs b o hx) R.frame.size
  have slr : ∀ {Z : Zone} {w : World} {g : Ghost} {h : Heap} {v : Value} {t : Nat}, RelAV w Z g h (s t) v → RelAV w Z g h (getS sl t) v := by
    intro Z w g h v t hr
    rcases hsl t with e | e
    · rw [e]; trivial
    · rw [e]; exact hr
  have yl : ∀ {g2 : Ghost} {w : World} {Z : Zone} {h : Heap} {l : Nat} (_ : g2 (.loc n) = .map (some l)) (v : Value), RelC w Z g2 h (.yl (.loc n)) v ↔ v = .func (.yield l) #[] #[] := by
    intro g2 w Z h l e v
    constructor
    · rintro ⟨l', h1, h2⟩
      rw [e] at h1; cases h1; exact h2
    · intro h; exact ⟨l, e, h⟩
  cases hro : C.ro with
  | none =>
    let wD := w.alloc (.deferred (some []))
    let X2 : Zone := fun b o => C.X b o ∨ b = w.heap.size
    have hsz : wD.heap.size = w.heap.size + 1 := by simp [wD]
    have hinv : C.M.I.at wD (zor (zone g h) X2) := by
      obtain ⟨i1, i2⟩ := R.inv
      refine ⟨C.M.I.same (fun b hb => Below.heap_alloc w _ b (i2 b hb).1) i1, fun b hb => ⟨by have := (i2 b hb).1; omega, ?_⟩⟩
      rintro o (hz | hz | hz)
      · exact (i2 b hb).2 o (.inl hz)
      · exact (i2 b hb).2 o (.inr hz)
      · have := (i2 b hb).1; omega
    have hD : ∀ r ∈ w.heap.size :: C.D, wD.heap[r]? = some (.deferred (some [])) ∧ ∀ o, ¬ zone g h r o := by
      intro r hr
      rcases List.mem_cons.1 hr with rfl | hr
      · refine ⟨heap_alloc_new w _, ?_⟩
        rintro o ⟨i, ob, hi, hz⟩
        have := (R.heap.objs i ob hi).lt hz.obk
        omega
      · obtain ⟨k1, k2⟩ := C.hD r hr
        obtain ⟨k3, k4⟩ := R.kept k1 k2
        exact ⟨(Below.heap_alloc w _ r (Array.getElem?_eq_some_iff.1 k3).1).trans k3, k4⟩
    have hDn : (w.heap.size :: C.D).Nodup := by
      refine List.nodup_cons.2 ⟨fun hm => ?_, C.hDn⟩
      have := (Array.getElem?_eq_some_iff.1 (C.hD _ hm).1).1
      have := R.frame.size
      omega
    let C2 : Cx := { M := C.M, nt := C.nt, w0 := wD, Z0 := zone g h, X := X2, g0 := g, hinv := hinv, ro := C.ro, D := w.heap.size :: C.D, hro := fun l hl => (by rw [hro] at hl; cases hl), hD := hD, hDn := hDn }
    have A : ApartW (fun _ => False) w wD := ⟨rfl, rfl, rfl, by omega, fun b hb _ => Below.heap_alloc w _ b hb⟩
    have R2 : RelS C2 F s h g { a with defers := markOf w.heap.size :: a.defers } wD := by
      refine R.restart A rfl rfl (fun i o hi => .inl hi) (fun b o hb => hb.elim) (fun i ob b hi hb hB => hB) ?_ ?_ ?_ rfl (fun b o hz => hz) (fun j => .refl _) rfl (by show _ = markOf w.heap.size :: C.D.map markOf; rw [← R.defers]) (fun k hk => (R.free k hk).2)
      · rintro b o (hx | hx)
        · exact .inl (.inr hx)
        · exact .inr (by omega)
      · rintro b o (hx | hx)
        · have := hX b o hx; omega
        · omega
      · rintro i ob b o hi hb (hx | hx)
        · exact R.heap.apart i ob b o hi hb hx
        · have := (R.heap.objs i ob hi).lt hb; omega
    have L : CxLe C C2 := by
      refine ⟨rfl, rfl, rfl, fun b o hx => .inl hx, ?_, fun b o hz => ?_, fun j => R.ext j, fun hn => absurd hro hn, [w.heap.size], rfl, ?_⟩
      · exact R.frame.then ⟨rfl, rfl, rfl, (by show w.heap.size ≤ wD.heap.size; omega), fun b hb _ => Below.heap_alloc w _ b hb, fun b o u hu _ => A.cell hu (fun h => h)⟩ (Z' := fun _ _ => False) (fun _ _ h => h.elim)
      · obtain ⟨i, ob, hi, h1⟩ := hz
        exact R.within i ob b o hi h1
      · intro r hr
        simp at hr
        subst hr
        exact ⟨R.frame.size, fun o => .inr rfl⟩
    have R3 := R2.allocRnd hn { state := .ready, pending := none, fn := fn, tmps := a.tmps, params := ps, assign := assign, body := body, defers := w.heap.size } (fun _ => ⟨ps, assign, body, C.nt⟩) sl rfl rfl rfl rfl rfl R.size (fun t => slr (R2.slots t))
    refine ⟨w.heap.size + 1, [markOf w.heap.size], _, C2, _, run_enterLoop_outer fn a.tmps ps assign body, L, (by show wD.heap.size ≤ _; omega), ?_, R3, yl ?_, fun i hi => by simp [updG, hi]⟩
    · simp [updG, hsz]
    · simp [updG, hsz]
  | some l0 =>
    obtain ⟨⟨L0, hL0⟩, hz0⟩ := C.hro l0 hro
    obtain ⟨k1, k2⟩ := R.kept hL0 hz0
    have R3 := R.allocRnd hn { state := .ready, pending := none, fn := fn, tmps := a.tmps, params := ps, assign := assign, body := body, defers := L0.defers } (fun _ => ⟨ps, assign, body, C.nt⟩) sl rfl rfl rfl rfl rfl R.size (fun t => slr (R.slots t))
    refine ⟨w.heap.size, [], _, C, _, ?_, CxLe.refl C, R.frame.size, ?_, R3, yl ?_, fun i hi => by simp [updG, hi]⟩
    · unfold Instr.enterLoop
      simp only [Sem.run_bind, run_getLoop k1, run_newObj_alloc, Result.andThen, Sem.run_pure, pure_bind]
    · simp [updG]
    · simp [updG]

theorem leave_range {F : Nat → Prop} {s : Slots} {h : Heap} {g : Ghost} {a : Act} {w : World} (R : RelS C F s h g a w) {i : Id} {ob : AObj} {l : Nat} {L : Loop} (hi : h i = some ob) (hob : ∀ o, zone1 (g i) ob l o) (hl : w.heap[l]? = some (.loop L)) (hnew : C.w0.heap.size ≤ l) (o' : Obj) :
    ∃ C2, CxLe C C2 ∧ RelS C2 F s (updO h i .gone) g a (w.putObj l o') := by
  have hlt : l < w.heap.size := (Array.getElem?_eq_some_iff.1 hl).1
  have hX : ∀ b o, C.X b o → b < w.heap.size := fun b o hx => Nat.lt_of_lt_of_le (R.xs b o hx) R.frame.size
  have hO : ∀ b, Obk (g i) ob b → b = l ∨ True := fun _ _ => .inr trivial
  have hgo : ∀ j o, updO h i .gone j = some o → (h j = some o ∧ j ≠ i) ∨ o = .gone := by
    intro j o hj
    by_cases e : j = i
    · subst e; simp [updO] at hj; exact .inr hj.symm
    · simp [updO, e] at hj; exact .inl ⟨hj, e⟩
  have zsub : ∀ b o, zone g (updO h i .gone) b o → zone g h b o ∧ b ≠ l := by
    rintro b o ⟨j, ob', hj, hz⟩
    rcases hgo j ob' hj with ⟨h1, h2⟩ | rfl
    · refine ⟨⟨j, ob', h1, hz⟩, ?_⟩
      rintro rfl
      exact h2 (R.heap.sep j i ob' ob b h1 hi hz.obk (hob o).obk)
    · exact hz.elim
  have kept : ∀ {b : Nat} {o : Obj}, C.w0.heap[b]? = some o → (∀ p, ¬ C.Z0 b p) → (w.putObj l o').heap[b]? = some o ∧ ∀ p, ¬ zone g (updO h i .gone) b p := by
    intro b o hb hz
    obtain ⟨k1, k2⟩ := R.kept hb hz
    have : b < C.w0.heap.size := (Array.getElem?_eq_some_iff.1 hb).1
    exact ⟨(World.putObj_heap_other (by omega)).trans k1, fun p hp => k2 p (zsub b p hp).1⟩
  have hinv : C.M.I.at (w.putObj l o') (zor (zone g (updO h i .gone)) C.X) := by
    obtain ⟨i1, i2⟩ := R.inv
    have ne : ∀ b, C.M.I.blocks b → b ≠ l := by
      rintro b hb rfl
      exact (i2 b hb).2 0 (.inl ⟨i, ob, hi, hob 0⟩)
    refine ⟨C.M.I.same (fun b hb => World.putObj_heap_other (ne b hb)) i1, fun b hb => ⟨by simpa using (i2 b hb).1, fun o hz => (i2 b hb).2 o (hz.imp (fun h => (zsub b o h).1) id)⟩⟩
  have hro : ∀ l0, C.ro = some l0 → (∃ L0, (w.putObj l o').heap[l0]? = some (.loop L0)) ∧ ∀ p, ¬ zone g (updO h i .gone) l0 p := by
    intro l0 hl0
    obtain ⟨⟨L0, k1⟩, k2⟩ := C.hro l0 hl0
    exact ⟨⟨L0, (kept k1 k2).1⟩, (kept k1 k2).2⟩
  let C2 : Cx := { M := C.M, nt := C.nt, w0 := w.putObj l o', Z0 := zone g (updO h i .gone), X := C.X, g0 := g, hinv := hinv, ro := C.ro, D := C.D, hro := hro, hD := fun r hr => kept (C.hD r hr).1 (C.hD r hr).2, hDn := C.hDn }
  have A : ApartW (fun b => b = l) w (w.putObj l o') := ⟨rfl, rfl, rfl, by simp, fun b _ hb => World.putObj_heap_other hb⟩
  refine ⟨C2, ⟨rfl, rfl, rfl, fun _ _ h => h, ?_, fun b o hz => ?_, fun j => R.ext j, fun _ => rfl, [], rfl, by simp⟩, ?_⟩
  · refine R.frame.then (Z' := fun b _ => b = l) ⟨rfl, rfl, rfl, Nat.le_of_eq World.putObj_size.symm, fun b _ hb => World.putObj_heap_other (fun e => hb 0 e), fun b o u hu hb => A.cell hu hb⟩ ?_
    rintro p o rfl
    exact .inr hnew
  · obtain ⟨j, ob', hj, h1⟩ := (zsub b o hz).1
    exact R.within j ob' b o hj h1
  · refine R.restart A rfl rfl (fun j o hj => (hgo j o hj).imp (·.1) id) ?_ ?_ (fun b o hx => .inl (.inr hx)) (fun b o hx => by simpa using hX b o hx) ?_ rfl (fun b o hz => hz) (fun j => .refl _) rfl R.defers (fun k hk => ?_)
    · rintro b o rfl; exact .inl ⟨i, ob, hi, hob o⟩
    · rintro j ob' b hj hb rfl
      obtain ⟨p, hp⟩ := hb.zone
      exact (zsub b p ⟨j, ob', hj, hp⟩).2 rfl
    · intro j ob' b o hj hb hx
      rcases hgo j ob' hj with ⟨h1, _⟩ | rfl
      · exact R.heap.apart j ob' b o h1 hb hx
      · exact hb.elim
    · have := (R.free k hk).2
      have hne : Id.loc k ≠ i := by rintro rfl; rw [this] at hi; cases hi
      simp [updO, hne, this]

theorem range_sound {σ : St} {K : AExit → St → Prop} {a : Act} {w : World} {gop : Operand} {ps : Array Tmp} {assign body : Code} (hk : rangeP C.M ti C.nt gop ps assign body σ K) (R : RelSt C σ a w) :
    (Code.rangeFunc gop ps assign body).wpIn (fenceOf C.ro) 0 C.P (Qof C K) a w := by
  obtain ⟨σ1, hwk, hk⟩ := hk
  obtain ⟨g, R1⟩ := hwk C a w R
  have hf := opd_rel ti 0 gop R1 (s := getS σ1.slots) (fun _ _ => rfl)
  split at hk
  rotate_left
  · exact hk.elim
  rename_i n cap hop
  rw [hop] at hf
  obtain ⟨hfv, hcap⟩ := hf
  obtain ⟨sl, hsl, hk⟩ := hk
  refine wpIn_rangeFunc fun fn _ => ?_
  obtain ⟨l, mark, w1, C2, g2, hent, hle, hlnew, hgl, R2, hyl, hg2⟩ := enter_range R1 (n := σ1.next) (Nat.le_refl _) ps assign body sl hsl fn
  have hcapne : ∀ i ∈ cap, i ≠ .loc σ1.next := by
    rintro i hi rfl
    obtain ⟨b, hb⟩ := hcap _ hi
    rw [(R1.free σ1.next (Nat.le_refl _)).1] at hb
    simp [undef] at hb
  rw [← hle.M] at hk
  have R2' : RelS C2 (fun k => σ1.next ≤ k ∧ k ≠ σ1.next) (getS σ1.slots) (getH (setH σ1.heap (.loc σ1.next) (.rnd (fun _ => ⟨ps, assign, body, C.nt⟩) sl))) g2 { a with defers := mark ++ a.defers } w1 := by
    rw [getH_setH]; exact R2
  have hsound := callFn_sound (C := C2) (Q := Qof C K) (vals := #[.func (.yield l) #[] #[]] ++ (cap.map (fun i => ptrAt (g i) 0)).toArray) (σ := ⟨σ1.slots, setH σ1.heap (.loc σ1.next) (.rnd (fun _ => ⟨ps, assign, body, C.nt⟩) sl), σ1.next + 64⟩) R2' hk (fun k hk => ⟨by omega, by omega⟩) (by simp) (by simp [Nat.add_comm]) (fun j x v hx hv => by
    match j with
    | 0 =>
      simp at hx hv
      subst hx; subst hv
      have := (hyl (.func (.yield l) #[] #[])).2 rfl
      rw [← getH_setH] at this
      exact this
    | j + 1 =>
      simp only [List.getElem?_cons_succ, List.getElem?_map, Option.map_eq_some_iff] at hx
      obtain ⟨i, hi, rfl⟩ := hx
      rw [Array.getElem?_append_right (by simp)] at hv
      simp only [List.size_toArray, List.length_cons, List.length_nil, Nat.zero_add, Nat.add_sub_cancel, List.getElem?_toArray, List.getElem?_map, Option.map_eq_some_iff] at hv
      obtain ⟨i', hi', rfl⟩ := hv
      rw [hi] at hi'
      obtain rfl : i = i' := by simpa using hi'
      obtain ⟨b, hb⟩ := hcap i (List.mem_of_getElem? hi)
      have e := hg2 i (hcapne i (List.mem_of_getElem? hi))
      exact ⟨⟨b, by rw [e]; exact hb⟩, by rw [e]⟩)
  obtain ⟨⟨fnc, cbody, hfn, hb, hname⟩, hcall⟩ := hsound
  have hP : C2.P = C.P := by show C2.M.P = C.M.P; rw [hle.M]
  rw [hP] at hfn hcall
  obtain ⟨d, hres, hinv⟩ := fnCalls_run (P := C.P) (w := w1) (l := l) hfv hfn hb hname
  refine ⟨l, mark, w1, d, w1, n, _, w1, hent, hres, fun f _ => fenceOf_fn _ f, hinv, fun h => absurd (fenceOf_depth C.ro h) (by omega), callsIn_fence (hcall.mono ?_)⟩
  intro e w3 he
  cases e with
  | panicked ch => exact he
  | outgrown => exact he
  | returned v =>
    obtain ⟨σ2, hk2, hnx, g3, hg3, R3⟩ := he
    have hg3l : g3 (.loc σ1.next) = .map (some l) := by rw [hg3 _ _ hgl]; exact hgl
    have ha : (({ a with defers := mark ++ a.defers } : Act).put none v) = { a with defers := mark ++ a.defers } := rfl
    rw [ha] at R3
    have leave : ∀ (ob : AObj) (L : Loop), getH σ2.heap (.loc σ1.next) = some ob → (∀ b o, zone1 (g3 (.loc σ1.next)) ob b o ↔ Blk (g3 (.loc σ1.next)) b) → w3.heap[l]? = some (.loop L) → L.state ≠ .busy →
        ∃ C3 w4, CxLe C C3 ∧ (Instr.endLoop l).run C.P w3 = .ok L.pending w4 ∧ RelSt C3 ⟨σ2.slots, setH σ2.heap (.loc σ1.next) .gone, σ2.next⟩ { a with defers := mark ++ a.defers } w4 := by
      intro ob L ho hz hl hb
      obtain ⟨C3, hle3, R4⟩ := leave_range R3 ho (l := l) (L := L) (fun o => (hz l o).2 (by rw [hg3l]; exact .inl rfl)) hl hlnew (.loop { L with state := .exhausted })
      refine ⟨C3, _, hle.trans hle3, run_endLoop hl hb, g3, ?_⟩
      rw [getH_setH]
      refine R4.free_mono fun k hk => ?_
      have hk : σ2.next ≤ k := hk
      rw [hnx] at hk
      have hk : σ1.next + 64 ≤ k := hk
      exact ⟨⟨by omega, by omega⟩, by omega⟩
    show rangePost _ _ _ _ _ _ _ _
    unfold rangePost
    simp only []
    split at hk2
    · rename_i r2 sl2 ho
      obtain ⟨l', L, e1, e2, e3, e4, _⟩ := R3.heap.objs _ _ ho
      rw [hg3l] at e1
      cases e1
      obtain ⟨C3, w4, k1, k2, k3⟩ := leave _ L ho (fun _ _ => Iff.rfl) e2 (by rw [e3]; simp)
      exact ⟨_, w4, k2, by rw [e4]; exact ⟨C3, k1, _, hk2, k3⟩⟩
    · rename_i j ho
      obtain ⟨l', L, e1, e2, e3, e4⟩ := R3.heap.objs _ _ ho
      rw [hg3l] at e1
      cases e1
      obtain ⟨C3, w4, k1, k2, k3⟩ := leave _ L ho (fun _ _ => Iff.rfl) e2 (by rw [e3]; simp)
      refine ⟨_, w4, k2, ?_⟩
      rw [e4]
      cases j with
      | none => exact wpIn_ret ⟨C3, k1, _, hk2, k3⟩
      | some id => exact wpIn_exit ⟨C3, k1, _, hk2, k3⟩
    · exact hk2.elim
end

theorem exec_sound {ti : Types} {dr : Draw} {M : Mach} {nt : Nat} {ro : Option Nat} (hti : TIok M.P ti) (h1 : TIone ti) (hdr : ∀ C : Cx, C.M = M → C.nt = nt → DrawOK C dr) : ∀ (c : Code) (σ : St) (K : AExit → St → Prop) (C : Cx) (a : Act) (w : World), C.M = M → C.nt = nt → C.ro = ro →
    exec M ti nt dr c σ K → RelSt C σ a w → c.wpIn (fenceOf ro) 0 M.P (Qof C K) a w
  | .skip, σ, K, C, a, w, _, _, _, hk, R => wpIn_skip ⟨C, .refl C, σ, hk, R⟩
  | .region id ops draw, σ, K, C, a, w, hM, hn, hr, hk, R => by
    subst hM; subst hn; subst hr
    cases draw with
    | false =>
      refine wpIn_region ?_
      have := execOps_sound (Q := Qof C K) hti h1 (fun σ a w hk R => ⟨C, .refl C, σ, hk, R⟩) ops.toList 0 σ a w rfl hk (R.free_mono (fun n hn => by omega))
      simpa [List.range_eq_range'] using this
    | true => exact hdr C rfl rfl id ops σ _ (Qof C K) a w (fun σ a w hk R => ⟨C, .refl C, σ, hk, R⟩) hk R
  | .seq x y, σ, K, C, a, w, hM, hn, hr, hk, R => by
    rcases (M.lock_iff _).1 hk with hk | ⟨I, hk, hb⟩
    · refine wpIn_seq (wpIn_mono (exec_sound hti h1 hdr x σ _ C a w hM hn hr hk R) ?_)
      intro e a' w' hq
      cases e with
      | normal =>
        obtain ⟨C', hle, σ', hk', R'⟩ := hq
        exact wpIn_mono (exec_sound hti h1 hdr y σ' K C' a' w' (hle.M.trans hM) (hle.nt.trans hn) (hle.ro.trans hr) hk' R') fun e a w q => q.mono hle
      | exit id => exact hq
      | ret => exact hq
      | goto l => exact hq
      | panic ch => exact hq
      | outgrown => exact hq
    · refine wpIn_seq (wpIn_mono (exec_sound hti h1 hdr x σ _ C a w hM hn hr hk R) ?_)
      intro e a' w' hq
      cases e with
      | normal =>
        obtain ⟨C', hle, σ', ⟨σ2, hw, hi⟩, R'⟩ := hq
        exact wpIn_mono (exec_sound hti h1 hdr y σ2 K C' a' w' (hle.M.trans hM) (hle.nt.trans hn) (hle.ro.trans hr) (hb σ2 hi) (hw _ _ _ R')) fun e a w q => q.mono hle
      | exit id => exact hq
      | ret => exact hq
      | goto l => exact hq
      | panic ch => exact hq
      | outgrown => exact hq
  | .cond c x y, σ, K, C, a, w, hM, hn, hr, hk, R => by
    obtain ⟨q, hq, hk⟩ := withB_iff.1 hk
    have hc : a.eval c = .bool q := by
      obtain ⟨g, R'⟩ := R
      have := opd_rel ti 0 c R' (s := getS σ.slots) (fun _ _ => rfl)
      rw [hq] at this
      exact relB this
    refine wpIn_cond hc ?_
    cases q with
    | true => exact exec_sound hti h1 hdr x σ K C a w hM hn hr hk R
    | false => exact exec_sound hti h1 hdr y σ K C a w hM hn hr hk R
  | .block id c, σ, K, C, a, w, hM, hn, hr, hk, R => by
    refine wpIn_block (wpIn_mono (exec_sound hti h1 hdr c σ _ C a w hM hn hr hk R) ?_)
    intro e a' w' hq
    cases e with
    | normal => exact hq
    | exit id' =>
      obtain ⟨C', hle, σ', hk', R'⟩ := hq
      show if id' = id then Qof C K .normal a' w' else Qof C K (.exit id') a' w'
      revert hk'
      simp only []
      cases hb : Nat.beq id' id with
      | true =>
        intro hk'
        rw [if_pos (Nat.eq_of_beq_eq_true hb)]
        exact ⟨C', hle, σ', hk', R'⟩
      | false =>
        intro hk'
        rw [if_neg (Nat.ne_of_beq_eq_false hb)]
        exact ⟨C', hle, σ', hk', R'⟩
    | ret => exact hq
    | goto l => exact hq
    | panic ch => exact hq
    | outgrown => exact hq
  | .loop c, σ, K, C, a, w, hM, hn, hr, hk, R => by
    rcases (M.lock_iff _).1 hk with hk | ⟨n, hk⟩
    rotate_left
    · refine wpIn_loop_rounds n ?_
      have key : ∀ n σ C' a w, CxLe C C' → unrollP (fun σ K => exec M ti nt dr c σ K) K n σ → RelSt C' σ a w → Code.roundsIn (fenceOf ro) 0 M.P c (Qof C K) n a w := by
        intro n
        induction n with
        | zero => intro σ C' a w _ h _; exact h.elim
        | succ n ih =>
          intro σ C' a w hle h R
          refine wpIn_mono (exec_sound hti h1 hdr c σ _ C' a w (hle.M.trans hM) (hle.nt.trans hn) (hle.ro.trans hr) h R) ?_
          intro e a' w' hq
          cases e with
          | normal =>
            obtain ⟨C2, hle2, σ', h', R'⟩ := hq
            exact ih σ' C2 a' w' (hle.trans hle2) h' R'
          | exit id => exact Qof.mono hle hq
          | ret => exact Qof.mono hle hq
          | goto l => exact hq
          | panic ch => exact hq
          | outgrown => exact hq
      exact key n σ C a w (.refl C) hk R
    obtain ⟨I, m, ⟨σ0, hw, hI⟩, hround⟩ := hk
    classical
    let J : Act → World → Prop := fun a w => ∃ n σ C', CxLe C C' ∧ I n σ ∧ RelSt C' σ a w
    let μ : Act → World → Nat := fun a w => if h : ∃ n σ C', CxLe C C' ∧ I n σ ∧ RelSt C' σ a w then Classical.choose (least h) else 0
    have hμ : ∀ a w n σ C', CxLe C C' → I n σ → RelSt C' σ a w → μ a w ≤ n := by
      intro a w n σ C' hle hi hr
      have hh : ∃ n σ C', CxLe C C' ∧ I n σ ∧ RelSt C' σ a w := ⟨n, σ, C', hle, hi, hr⟩
      show (if h : ∃ n σ C', CxLe C C' ∧ I n σ ∧ RelSt C' σ a w then Classical.choose (least h) else 0) ≤ n
      rw [dif_pos hh]
      exact (Classical.choose_spec (least hh)).2 n ⟨σ, C', hle, hi, hr⟩
    refine wpIn_loop J μ ⟨m, σ0, C, .refl C, hI, hw _ _ _ R⟩ ?_
    rintro a w ⟨n0, σ1, C1, hle1, hi0, hr0⟩
    have hh : ∃ n σ C', CxLe C C' ∧ I n σ ∧ RelSt C' σ a w := ⟨n0, σ1, C1, hle1, hi0, hr0⟩
    obtain ⟨σ2, C2, hle2, hi, hr2⟩ := (Classical.choose_spec (least hh)).1
    have hμa : μ a w = Classical.choose (least hh) := dif_pos hh
    refine wpIn_mono (exec_sound hti h1 hdr c σ2 _ C2 a w (hle2.M.trans hM) (hle2.nt.trans hn) (hle2.ro.trans hr) (hround _ σ2 hi) hr2) ?_
    intro e a' w' hq
    cases e with
    | normal =>
      obtain ⟨C3, hle3, σ', ⟨n', σ3, hlt, hwk, hi3⟩, R'⟩ := hq
      exact ⟨⟨n', σ3, C3, hle2.trans hle3, hi3, hwk _ _ _ R'⟩, by
        have := hμ a' w' n' σ3 C3 (hle2.trans hle3) hi3 (hwk _ _ _ R')
        omega⟩
    | exit id => exact Qof.mono hle2 hq
    | ret => exact Qof.mono hle2 hq
    | goto l => exact hq
    | panic ch => exact hq
    | outgrown => exact hq
  | .exit id, σ, K, C, a, w, _, _, _, hk, R => wpIn_exit ⟨C, .refl C, σ, hk, R⟩
  | .ret, σ, K, C, a, w, _, _, _, hk, R => wpIn_ret ⟨C, .refl C, σ, hk, R⟩
  | .rangeFunc g ps assign body, σ, K, C, a, w, hM, hn, hr, hk, R => by
    subst hM; subst hn; subst hr
    exact range_sound ((C.M.lock_iff _).1 hk) R
  | .scope _, _, _, _, _, _, _, _, _, hk, _ => hk.elim
  | .label _, _, _, _, _, _, _, _, _, hk, _ => hk.elim
  | .goto _, _, _, _, _, _, _, _, _, hk, _ => hk.elim
  | .refuse _, _, _, _, _, _, _, _, _, hk, _ => hk.elim
end Go.AM

namespace Go.AM
open Go Go.RowKit

def idB (n : Nat) : Id → Bool
  | .loc k => Nat.blt k n
  | .ext _ => true
def cvB (n : Nat) : CV → Bool
  | .ptr i _ => idB n i
  | .fn _ cap => allB (idB n) cap
  | .lst i _ _ _ => idB n i
  | .sl i _ => idB n i
  | .map i => idB n i
  | .ap i _ _ _ _ => idB n i
  | .ow i => idB n i
  | .op i _ _ _ => idB n i
  | .yl i => idB n i
  | _ => true
def v1B (n : Nat) : V1 → Bool
  | .d _ => true
  | .c x => cvB n x
  | .agg cs => allB (cvB n) cs
def avB (n : Nat) : AV → Bool
  | .u => true
  | .v x => v1B n x
  | .t xs => allB (v1B n) xs
def objB (n : Nat) : AObj → Bool
  | .cells cs => allB (cvB n) cs
  | .tok .. => true
  | .map _ _ es => allB (fun e => v1B n e.2) es
  | .arr cs1 _ _ _ cs2 => match allB (cvB n) cs1 with
    | true => allB (cvB n) cs2
    | false => false
  | .tree _ _ _ _ foc => match foc with
    | some x => allB (cvB n) x.2
    | none => true
  | .gone => true
  | .rnd _ sl => allB (fun x => avB n x.2) sl
  | .rndX _ => true

theorem map_same {α : Type} {f : α → α} {l : List α} (h : ∀ x ∈ l, f x = x) : l.map f = l := by
  induction l with
  | nil => rfl
  | cons x l ih => simp [h x (by simp), ih (fun y hy => h y (by simp [hy]))]

section
variable {n N : Nat}
def low (n N : Nat) : Id → Id
  | .loc k => if k < n then .loc k else .loc N
  | .ext j => .ext j
theorem low_id {i : Id} (h : idB n i = true) : low n N i = i := by
  cases i with
  | ext j => rfl
  | loc k =>
    have : k < n := by simpa [idB] using h
    simp [low, this]
theorem low_cv {c : CV} (h : cvB n c = true) : c.ren (low n N) = c := by
  cases c <;> simp only [CV.ren, cvB] at h ⊢
  · rw [low_id h]
  · congr 1
    rw [allB_iff] at h
    exact map_same fun i hi => low_id (h i hi)
  · rw [low_id h]
  · rw [low_id h]
  · rw [low_id h]
  · rw [low_id h]
  · rw [low_id h]
  · rw [low_id h]
  · rw [low_id h]
theorem low_v1 {c : V1} (h : v1B n c = true) : c.ren (low n N) = c := by
  cases c <;> simp only [V1.ren, v1B] at h ⊢
  · rw [low_cv h]
  · congr 1
    rw [allB_iff] at h
    exact map_same fun i hi => low_cv (h i hi)
theorem low_av {c : AV} (h : avB n c = true) : c.ren (low n N) = c := by
  cases c <;> simp only [AV.ren, avB] at h ⊢
  · rw [low_v1 h]
  · congr 1
    rw [allB_iff] at h
    exact map_same fun i hi => low_v1 (h i hi)
theorem low_obj {c : AObj} (h : objB n c = true) : c.ren (low n N) = c := by
  cases c <;> simp only [AObj.ren, objB] at h ⊢
  · congr 1
    rw [allB_iff] at h
    exact map_same fun i hi => low_cv (h i hi)
  · congr 1
    rw [allB_iff] at h
    exact map_same fun i hi => by rw [low_v1 (h i hi)]
  · split at h
    · rename_i h1
      rw [allB_iff] at h h1
      rw [map_same fun i hi => low_cv (h1 i hi), map_same fun i hi => low_cv (h i hi)]
    · cases h
  · congr 1
    split at h
    · rw [allB_iff] at h
      show some (_, List.map (CV.ren (low n N)) _) = _
      rw [map_same (f := CV.ren (low n N)) fun i hi => low_cv (h i hi)]
    · rfl
  · congr 1
    rw [allB_iff] at h
    refine map_same fun i hi => ?_
    show (i.1, i.2.ren (low n N)) = i
    rw [low_av (h i hi)]
end

def Part (σ σ' : St) : Prop :=
  (∀ t, getS σ'.slots t = .u ∨ getS σ'.slots t = getS σ.slots t) ∧ (∀ i o, getH σ'.heap i = some o → getH σ.heap i = some o) ∧
  (∀ t, avB σ'.next (getS σ'.slots t) = true) ∧ (∀ i o, getH σ'.heap i = some o → idB σ'.next i = true ∧ objB σ'.next o = true)

theorem weak_part {σ σ' : St} (h : Part σ σ') : Weak σ σ' := by
  obtain ⟨hs, hh, hb, ho⟩ := h
  rintro C a w ⟨g, R⟩
  let N := max σ.next σ'.next
  let r := low σ'.next N
  let g' : Ghost := fun i => g (r i)
  have hN := R.free N (Nat.le_max_left _ _)
  have hz : ∀ b o, zone g' (getH σ'.heap) b o → zone g (getH σ.heap) b o := by
    rintro b o ⟨i, ob, hi, h1⟩
    refine ⟨i, ob, hh i ob hi, ?_⟩
    have : g' i = g i := by show g (low _ _ i) = g i; rw [low_id (ho i ob hi).1]
    rw [← this]; exact h1
  have hzz : ∀ b o, zor (zone g' (getH σ'.heap)) C.X b o → zor (zone g (getH σ.heap)) C.X b o := fun b o hx => hx.imp (hz b o) id
  have ht : ∀ i n sz e, getH σ'.heap i = some (.tok n sz e) → getH σ.heap (r i) = some (.tok n sz e) := by
    intro i n sz e hi
    rw [show r i = i from low_id (ho i _ hi).1]
    exact hh i _ hi
  have hw : ∀ i, isLive (getH σ'.heap i) = true → isLive (getH σ.heap (r i)) = true := by
    intro i hi
    cases hc : getH σ'.heap i with
    | none => rw [hc] at hi; cases hi
    | some o =>
      rw [show r i = i from low_id (ho i _ hc).1, hh i _ hc, ← hc]
      exact hi
  refine ⟨g', R.size, R.defers, fun t => ?_, ⟨fun i o hi => ?_, fun i j oi oj b hi hj bi bj => ?_, fun i oi b o hi bi => ?_⟩, R.frame, fun j => R.ext j, fun j ob b o hj hz' => ?_, R.xs, fun n hn => ⟨?_, ?_⟩⟩
  · rcases hs t with e | e
    · rw [e]; trivial
    · have := R.slots t
      rw [← e, ← low_av (N := N) (hb t)] at this
      exact RelAV.pull (r := r) hzz (fun _ => rfl) ht hw this
  · have h1 := R.heap.objs i o (hh i o hi)
    rw [← low_obj (N := N) (ho i o hi).2] at h1
    have := RelObj.pull (r := r) (g' := g') hzz (fun _ => rfl) ht hw h1
    rw [show g' i = g i from by show g (low _ _ i) = g i; rw [low_id (ho i o hi).1]]
    exact this
  · have e1 : g' i = g i := by show g (low _ _ i) = g i; rw [low_id (ho i oi hi).1]
    have e2 : g' j = g j := by show g (low _ _ j) = g j; rw [low_id (ho j oj hj).1]
    rw [e1] at bi
    rw [e2] at bj
    exact R.heap.sep i j oi oj b (hh i oi hi) (hh j oj hj) bi bj
  · have e1 : g' i = g i := by show g (low _ _ i) = g i; rw [low_id (ho i oi hi).1]
    rw [e1] at bi
    exact R.heap.apart i oi b o (hh i oi hi) bi
  · have e1 : g' j = g j := by show g (low _ _ _) = _; rw [low_id (ho _ ob hj).1]
    rw [e1] at hz'
    exact R.within j ob b o (hh _ ob hj) hz'
  · have : ¬ n < σ'.next := by omega
    show g (low _ _ (.loc n)) = undef
    simp only [low, if_neg this]
    exact hN.1
  · cases hc : getH σ'.heap (.loc n) with
    | none => rfl
    | some o =>
      have := (ho _ o hc).1
      simp [idB] at this
      omega

def keepS (l : List (Nat × AV)) : List Nat → List (Nat × AV)
  | [] => []
  | k :: ks => (k, getS l k) :: keepS l ks
def keepH (l : List (Id × AObj)) : List Id → Option (List (Id × AObj))
  | [] => some []
  | i :: is => match getH l i with
    | some o => match keepH l is with
      | some r => some ((i, o) :: r)
      | none => none
    | none => none
def keep (ks : List Nat) (is : List Id) (n : Nat) (σ : St) (K : St → Prop) : Prop :=
  match keepH σ.heap is with
  | none => False
  | some hp => req (allB (fun x => avB n x.2) (keepS σ.slots ks)) <| req (allB (fun x : Id × AObj => match idB n x.1 with | true => objB n x.2 | false => false) hp) <|
      K ⟨keepS σ.slots ks, hp, n⟩

theorem keepS_get {l : List (Nat × AV)} {ks : List Nat} (t : Nat) : getS (keepS l ks) t = .u ∨ getS (keepS l ks) t = getS l t := by
  induction ks with
  | nil => exact .inl rfl
  | cons k ks ih =>
    show getS ((k, getS l k) :: keepS l ks) t = _ ∨ getS ((k, getS l k) :: keepS l ks) t = _
    rw [getS_cons]
    simp only []
    split
    · subst t; exact .inr rfl
    · exact ih
theorem getS_all {p : AV → Bool} (hu : p .u = true) {l : List (Nat × AV)} (h : allB (fun x => p x.2) l = true) (t : Nat) : p (getS l t) = true := by
  induction l with
  | nil => exact hu
  | cons x l ih =>
    obtain ⟨k, v⟩ := x
    rw [allB_iff] at h
    rw [getS_cons]
    simp only []
    split
    · exact h (k, v) (by simp)
    · exact ih (allB_iff.2 fun x hx => h x (by simp [hx]))
theorem keepH_get {l : List (Id × AObj)} : ∀ {is : List Id} {r : List (Id × AObj)}, keepH l is = some r → ∀ i o, getH r i = some o → getH l i = some o ∧ (i, o) ∈ r
  | [], r, h, i, o, hi => by simp [keepH] at h; subst h; simp [getH] at hi
  | j :: is, r, h, i, o, hi => by
    unfold keepH at h
    split at h
    · rename_i o' ho
      split at h
      · rename_i r' hr
        simp at h
        subst h
        rw [getH_cons] at hi
        simp only [updO] at hi
        split at hi
        · simp at hi
          subst hi
          subst i
          exact ⟨ho, by simp⟩
        · obtain ⟨h1, h2⟩ := keepH_get hr i o hi
          exact ⟨h1, by simp [h2]⟩
      · simp at h
    · simp at h

theorem keep_weak {ks : List Nat} {is : List Id} {n : Nat} {σ : St} {K : St → Prop} (h : keep ks is n σ K) : ∃ σ', Weak σ σ' ∧ K σ' := by
  unfold keep at h
  split at h
  · exact h.elim
  · rename_i hp hhp
    obtain ⟨h1, h⟩ := req_iff.1 h
    obtain ⟨h2, h⟩ := req_iff.1 h
    refine ⟨_, weak_part ⟨fun t => keepS_get t, fun i o hi => (keepH_get hhp i o hi).1, fun t => getS_all rfl h1 t, fun i o hi => ?_⟩, h⟩
    have := allB_iff.1 h2 _ (keepH_get hhp i o hi).2
    simp only [] at this
    split at this
    · rename_i hb; exact ⟨hb, this⟩
    · simp at this

end Go.AM

namespace Go.AM
open Go Go.RowKit

def zrelB : CV → Value → Bool
  | .d (.int k n), .int k' m => decide (k = k') && decide (n = m)
  | .d (.bool b), .bool b' => b == b'
  | .d (.str s), .string s' => s.data.toList.isEmpty && s'.data.toList.isEmpty
  | .nils _ _, .slice none 0 0 => true
  | .nilp, .pointer none => true
  | .nilf, .nilFunc => true
  | .nilm, .map none => true
  | _, _ => false
def zrels : List CV → List Value → Bool
  | [], [] => true
  | c :: cs, v :: vs => zrelB c v && zrels cs vs
  | _, _ => false

def Good (P : Program) (t : TypeId) (x : TI) : Prop :=
  P.underlying t = some x.desc ∧ (P.info? t).map (fun i => (i.size, i.bytes, i.zero)) = some (x.size, x.bytes, some x.zero) ∧
  (zrels x.zc x.zero.cells.toList && (Nat.beq x.zc.length x.size && (rowD x.desc || Nat.beq x.size 1))) = true

def allGood (P : Program) : List (Nat × TI) → Prop
  | [] => True
  | p :: l => Good P p.1 p.2 ∧ allGood P l
def allGoods (P : Program) : List (List (Nat × TI)) → Prop
  | [] => True
  | p :: l => allGood P p ∧ allGoods P l

def assoc : List (Nat × TI) → Nat → Option TI
  | [], _ => none
  | (k, x) :: l, t => match Nat.beq k t with
    | true => some x
    | false => assoc l t
def nth {α : Type} : List (List α) → Nat → List α
  | [], _ => []
  | x :: l, n => match n with
    | 0 => x
    | n + 1 => nth l n
def tabOf (l : List (List (Nat × TI))) : Types := fun t => assoc (nth l (t / 16)) t

theorem zrelB_ok {c : CV} {v : Value} (h : zrelB c v = true) : ZRel c v := by
  unfold zrelB at h
  split at h
  · simp at h; exact h
  · simpa [ZRel] using h
  · simp only [Bool.and_eq_true, List.isEmpty_iff] at h
    have e : ∀ s : ByteArray, s.data.toList = [] → s = ByteArray.empty := by
      intro s hs
      apply ByteArray.ext
      apply Array.ext'
      rw [hs]; rfl
    rw [e _ h.1, e _ h.2]; rfl
  · trivial
  · trivial
  · trivial
  · trivial
  · simp at h
theorem zrels_ok : ∀ {cs : List CV} {vs : List Value}, zrels cs vs = true → vs.length = cs.length ∧ ∀ (j : Nat) c u, cs[j]? = some c → vs[j]? = some u → ZRel c u
  | [], [], _ => ⟨rfl, by simp⟩
  | c :: cs, v :: vs, h => by
    simp only [zrels, Bool.and_eq_true] at h
    obtain ⟨h1, h2⟩ := zrels_ok h.2
    refine ⟨by simp [h1], fun j c' u hc hu => ?_⟩
    match j with
    | 0 => simp at hc hu; subst hc; subst hu; exact zrelB_ok h.1
    | j + 1 => simp at hc hu; exact h2 j c' u hc hu
  | [], _ :: _, h => by simp [zrels] at h
  | _ :: _, [], h => by simp [zrels] at h

theorem assoc_good {P : Program} : ∀ {l : List (Nat × TI)} {t : Nat} {x : TI}, allGood P l → assoc l t = some x → Good P t x
  | [], t, x, _, h => by simp [assoc] at h
  | (k, y) :: l, t, x, hg, h => by
    unfold assoc at h
    split at h
    · rename_i hb
      simp at h
      subst h
      have := Nat.eq_of_beq_eq_true hb
      subst this
      exact hg.1
    · exact assoc_good hg.2 h
theorem nth_good {P : Program} : ∀ {l : List (List (Nat × TI))} {n : Nat}, allGoods P l → allGood P (nth l n)
  | [], _, _ => trivial
  | x :: l, 0, h => h.1
  | x :: l, n + 1, h => nth_good (l := l) (n := n) h.2
theorem tabOf_good {P : Program} {l : List (List (Nat × TI))} (h : allGoods P l) {t : Nat} {x : TI} (hx : tabOf l t = some x) : Good P t x := assoc_good (nth_good h) hx

theorem tabOf_ok {P : Program} {l : List (List (Nat × TI))} (h : allGoods P l) : TIok P (tabOf l) := by
  intro t x hx
  obtain ⟨h1, h2, h3⟩ := tabOf_good h hx
  refine ⟨h1, ?_⟩
  simp only [Option.map_eq_some_iff] at h2
  obtain ⟨i, hi, he⟩ := h2
  simp only [Prod.mk.injEq] at he
  simp only [Bool.and_eq_true, Nat.beq_eq] at h3
  obtain ⟨z1, z2⟩ := zrels_ok h3.1
  refine ⟨i, hi, he.1, he.2.1, he.2.2, ?_, h3.2.1, fun j c u hc hu => z2 j c u hc (by simpa using hu)⟩
  rw [← h3.2.1, ← z1]
  simp
theorem tabOf_one {P : Program} {l : List (List (Nat × TI))} (h : allGoods P l) : TIone (tabOf l) := by
  intro t x hx hr
  obtain ⟨_, _, h3⟩ := tabOf_good h hx
  simp only [Bool.and_eq_true, Bool.or_eq_true, Nat.beq_eq] at h3
  rcases h3.2.2 with h4 | h4
  · rw [hr] at h4; simp at h4
  · exact h4
end Go.AM

namespace Go.AM
open Go Go.RowKit

def maskOf (acc : List Nat) : List Edge → Nat
  | [] => 0
  | e :: r => match Region.binds .any e with
    | true => Nat.lor (Nat.lor (2 ^ e.on) (acc.getD e.on 0)) (maskOf acc r)
    | false => maskOf acc r
def masks : List Oper → List Nat → List Nat
  | [], acc => acc
  | o :: r, acc => masks r (acc ++ [maskOf acc o.after.toList])

inductive Ahead (ops : List Oper) : Nat → Nat → Prop where
  | edge {i j : Nat} {o : Oper} {e : Edge} (hj : ops[j]? = some o) (he : e ∈ o.after.toList) (hb : Region.binds .any e = true) (hi : e.on = i) : Ahead ops i j
  | trans {i j k : Nat} (h1 : Ahead ops i j) (h2 : Ahead ops j k) : Ahead ops i k

theorem maskOf_bit {ops : List Oper} {acc : List Nat} {j : Nat} {o : Oper} (hj : ops[j]? = some o) (hacc : ∀ k i, (acc.getD k 0).testBit i = true → Ahead ops i k) :
    ∀ (l : List Edge), (∀ e ∈ l, e ∈ o.after.toList) → ∀ i, (maskOf acc l).testBit i = true → Ahead ops i j
  | [], _, i, h => by simp [maskOf] at h
  | e :: r, hl, i, h => by
    have ih := maskOf_bit hj hacc r (fun e he => hl e (List.mem_cons_of_mem _ he)) i
    unfold maskOf at h
    split at h
    · rename_i hb
      rw [show ∀ a b : Nat, Nat.lor a b = a ||| b from fun _ _ => rfl, show ∀ a b : Nat, Nat.lor a b = a ||| b from fun _ _ => rfl] at h
      simp only [Nat.testBit_or, Bool.or_eq_true, Nat.testBit_two_pow, decide_eq_true_eq] at h
      rcases h with (h | h) | h
      · exact .edge hj (hl e (by simp)) hb h
      · exact .trans (hacc _ i h) (.edge hj (hl e (by simp)) hb rfl)
      · exact ih h
    · exact ih h

theorem masks_bit {ops : List Oper} : ∀ (l : List Oper) (acc : List Nat), ops.drop acc.length = l → (∀ k i, (acc.getD k 0).testBit i = true → Ahead ops i k) →
    ∀ k i, ((masks l acc).getD k 0).testBit i = true → Ahead ops i k
  | [], acc, _, hacc, k, i, h => hacc k i h
  | o :: r, acc, hl, hacc, k, i, h => by
    have hj : ops[acc.length]? = some o := by
      have := congrArg (fun l => l[0]?) hl
      simpa using this
    refine masks_bit r (acc ++ [maskOf acc o.after.toList]) ?_ ?_ k i h
    · have := congrArg List.tail hl
      simpa using this
    · intro k i hk
      by_cases h1 : k < acc.length
      · refine hacc k i ?_
        simpa [List.getD, List.getElem?_append_left h1] using hk
      · by_cases h2 : k = acc.length
        · subst h2
          refine maskOf_bit hj hacc o.after.toList (fun e he => he) i ?_
          simpa [List.getD] using hk
        · have : (acc ++ [maskOf acc o.after.toList])[k]? = none := by simp; omega
          simp [List.getD, this] at hk

def tmpsOf : List Operand → List Nat
  | [] => []
  | .tmp t :: r => t :: tmpsOf r
  | _ :: r => tmpsOf r
def readsT (ops : Array Oper) (o : Oper) : List Nat :=
  tmpsOf o.op.operands.toList ++ (match o.guard with
    | some (j, _) => ((ops[j]?).bind (·.dst)).toList
    | none => [])
def meet (a b : List Nat) : Bool := a.any fun x => b.any fun y => Nat.beq x y
def meetI (a b : List Id) : Bool := a.any fun x => b.any fun y => Id.beq x y
def slotConf (ops : Array Oper) (a b : Oper) : Bool :=
  meet a.dst.toList (readsT ops b) || meet a.dst.toList b.dst.toList || meet (readsT ops a) b.dst.toList
abbrev Fp := List Id × List Id
def idConf (a b : Fp) : Bool := meetI a.2 b.1 || meetI a.2 b.2 || meetI a.1 b.2
def pairsOK (ops : Array Oper) (ms : List Nat) (l : List (Nat × Oper × Fp)) : Bool :=
  l.all fun x => l.all fun y => !(Nat.blt x.1 y.1) || !(slotConf ops x.2.1 y.2.1 || idConf x.2.2 y.2.2) || (ms.getD y.1 0).testBit x.1
def backOK : List Oper → Nat → Bool
  | [], _ => true
  | o :: r, i => o.after.toList.all (fun e => !(Region.binds .any e) || Nat.blt e.on i) && backOK r (i + 1)
def number : List Oper → List Fp → Nat → List (Nat × Oper × Fp)
  | o :: r, f :: fs, i => (i, o, f) :: number r fs (i + 1)
  | _, _, _ => []
def drawB (ops : Array Oper) (fps : List Fp) : Bool :=
  Nat.beq fps.length ops.size && (backOK ops.toList 0 && pairsOK ops (masks ops.toList []) (number ops.toList fps 0))

def drawOps (M : Mach) (ti : Types) (nt : Nat) (ops : Array Oper) (base : Nat) : List Oper → Nat → St → List Fp → (St → List Fp → Prop) → Prop
  | [], i, σ, fps, K => K ⟨σ.slots, σ.heap, base + 32 * i⟩ fps
  | o :: r, i, σ, fps, K => guarded ops o σ
      (fun σ1 => storeOK o <| dstOK nt o.dst <| opOut M ti o (base + 32 * i) (getS σ1.slots) (getH σ1.heap) fun out =>
        drawOps M ti nt ops base r (i + 1) ⟨putS σ1.slots o.dst out.val, setW σ1.heap out.wr, σ1.next⟩ (fps ++ [(out.rd, out.wr.map (·.1))]) K)
      (fun σ1 => dstOK nt o.dst (drawOps M ti nt ops base r (i + 1) ⟨putS σ1.slots o.dst (.t []), σ1.heap, σ1.next⟩ (fps ++ [([], [])]) K))

def execDraw (ti : Types) (M : Mach) (nt : Nat) (ops : Array Oper) (σ : St) (K : St → Prop) : Prop :=
  drawOps M ti nt ops σ.next ops.toList 0 σ [] fun σ' fps => M.lock (fun _ => drawB ops fps = true) ∧ K σ'

structure Ent where
  o : Oper
  run : Bool
  val : AV
  rd : List Id
  wr : List (Id × AObj)

def guardIs (ops : Array Oper) (e : Ent) (s : Slots) : Prop :=
  match e.o.guard with
  | none => e.run = true
  | some (j, want) => ∃ d, (ops[j]?).bind (·.dst) = some d ∧ (s d = .v (.d (.bool (if e.run then want else !want))) ∨ (e.run = false ∧ s d = .t []))

def LexOK (C : Cx) (ops : Array Oper) (base : Nat) : List Ent → Nat → Slots → Heap → Prop
  | [], _, _, _ => True
  | e :: r, i, s, h => ops[i]? = some e.o ∧ (∀ d, e.o.dst = some d → d < C.nt) ∧ guardIs ops e s ∧ (e.run = true → (∀ c, e.o.op ≠ .defer c) ∧ OKop C e.o (base + 32 * i) s h ⟨e.val, e.rd, e.wr⟩) ∧
      (e.run = false → e.val = .t [] ∧ e.wr = [] ∧ e.rd = []) ∧ LexOK C ops base r (i + 1) (updS s e.o.dst e.val) (updW h e.wr)

def endS : List Ent → Slots → Slots
  | [], s => s
  | e :: r, s => endS r (updS s e.o.dst e.val)
def endH : List Ent → Heap → Heap
  | [], h => h
  | e :: r, h => endH r (updW h e.wr)

section
variable {C : Cx} {ti : Types}

theorem drawOps_ents (hti : TIok C.P ti) (h1 : TIone ti) {ops : Array Oper} {base : Nat} {K : St → List Fp → Prop} : ∀ (l : List Oper) (i : Nat) (σ : St) (fps : List Fp),
    ops.toList.drop i = l → drawOps C.M ti C.nt ops base l i σ fps K →
    ∃ (es : List Ent) (σ' : St), es.map (·.o) = l ∧ LexOK C ops base es i (getS σ.slots) (getH σ.heap) ∧ getS σ'.slots = endS es (getS σ.slots) ∧ getH σ'.heap = endH es (getH σ.heap) ∧
      σ'.next = base + 32 * (i + l.length) ∧ K σ' (fps ++ es.map fun e => (e.rd, e.wr.map (·.1)))
  | [], i, σ, fps, _, hk => ⟨[], ⟨σ.slots, σ.heap, base + 32 * i⟩, rfl, trivial, rfl, rfl, by simp, by simpa using (show K ⟨σ.slots, σ.heap, base + 32 * i⟩ fps from hk)⟩
  | o :: r, i, σ, fps, hl, hk => by
    have hi : ops[i]? = some o := by
      have := congrArg (fun l => l[0]?) hl
      simpa using this
    have hr : ops.toList.drop (i + 1) = r := by
      have := congrArg List.tail hl
      simpa using this
    have run : ∀ (g : guardIs ops ⟨o, true, .u, [], []⟩ (getS σ.slots)), (storeOK o <| dstOK C.nt o.dst <| opOut C.M ti o (base + 32 * i) (getS σ.slots) (getH σ.heap) fun out =>
        drawOps C.M ti C.nt ops base r (i + 1) ⟨putS σ.slots o.dst out.val, setW σ.heap out.wr, σ.next⟩ (fps ++ [(out.rd, out.wr.map (·.1))]) K) →
        ∃ (es : List Ent) (σ' : St), es.map (·.o) = o :: r ∧ LexOK C ops base es i (getS σ.slots) (getH σ.heap) ∧ getS σ'.slots = endS es (getS σ.slots) ∧ getH σ'.heap = endH es (getH σ.heap) ∧
          σ'.next = base + 32 * (i + (o :: r).length) ∧ K σ' (fps ++ es.map fun e => (e.rd, e.wr.map (·.1))) := by
      intro g hk
      obtain ⟨hst, hnd, hk⟩ := storeOK_iff hk
      obtain ⟨hd, hk⟩ := dstOK_iff.1 hk
      obtain ⟨out, hk, hok⟩ := opOut_sound hti h1 hst.1 hst.2 hk
      obtain ⟨es, σ', e1, e2, e3, e4, e5, e6⟩ := drawOps_ents hti h1 r (i + 1) _ _ hr hk
      rw [getS_putS] at e2 e3
      rw [getH_setW] at e2 e4
      refine ⟨⟨o, true, out.val, out.rd, out.wr⟩ :: es, σ', by simp [e1], ⟨hi, hd, g, fun _ => ⟨hnd, hok⟩, fun e => by simp at e, e2⟩, e3, e4, by rw [e5]; simp; omega, ?_⟩
      simpa using e6
    have skip : ∀ (g : guardIs ops ⟨o, false, .t [], [], []⟩ (getS σ.slots)), (dstOK C.nt o.dst (drawOps C.M ti C.nt ops base r (i + 1) ⟨putS σ.slots o.dst (.t []), σ.heap, σ.next⟩ (fps ++ [([], [])]) K)) →
        ∃ (es : List Ent) (σ' : St), es.map (·.o) = o :: r ∧ LexOK C ops base es i (getS σ.slots) (getH σ.heap) ∧ getS σ'.slots = endS es (getS σ.slots) ∧ getH σ'.heap = endH es (getH σ.heap) ∧
          σ'.next = base + 32 * (i + (o :: r).length) ∧ K σ' (fps ++ es.map fun e => (e.rd, e.wr.map (·.1))) := by
      intro g hk
      obtain ⟨hd, hk⟩ := dstOK_iff.1 hk
      obtain ⟨es, σ', e1, e2, e3, e4, e5, e6⟩ := drawOps_ents hti h1 r (i + 1) _ _ hr hk
      rw [getS_putS] at e2 e3
      refine ⟨⟨o, false, .t [], [], []⟩ :: es, σ', by simp [e1], ⟨hi, hd, g, fun e => by simp at e, fun _ => ⟨rfl, rfl, rfl⟩, e2⟩, e3, e4, by rw [e5]; simp; omega, ?_⟩
      simpa using e6
    have hk' : guarded ops o σ _ _ := hk
    unfold guarded at hk'
    split at hk'
    · rename_i hg
      exact run (by simp [guardIs, hg]) hk'
    · rename_i j want hg
      split at hk'
      · exact hk'.elim
      · rename_i d hd
        split at hk'
        · rename_i c hc
          cases want <;> cases c
          · exact run (by simp only [guardIs, hg]; exact ⟨d, hd, .inl hc⟩) hk'
          · exact skip (by simp only [guardIs, hg]; exact ⟨d, hd, .inl hc⟩) hk'
          · exact skip (by simp only [guardIs, hg]; exact ⟨d, hd, .inl hc⟩) hk'
          · exact run (by simp only [guardIs, hg]; exact ⟨d, hd, .inl hc⟩) hk'
        · rename_i hc
          exact skip (by simp only [guardIs, hg]; exact ⟨d, hd, .inr ⟨trivial, hc⟩⟩) hk'
        · exact hk'.elim

def setS (S : Nat → Bool) : List Ent → Nat → Slots → Slots
  | [], _, s => s
  | e :: r, i, s => setS S r (i + 1) (if S i then updS s e.o.dst e.val else s)
def setHp (S : Nat → Bool) : List Ent → Nat → Heap → Heap
  | [], _, h => h
  | e :: r, i, h => setHp S r (i + 1) (if S i then updW h e.wr else h)

theorem updS_at {s s' : Slots} {d : Option Tmp} {v : AV} {t : Nat} (h : d ≠ some t → s t = s' t) : updS s d v t = updS s' d v t := by
  cases d with
  | none => exact h (by simp)
  | some d =>
    simp only [updS]
    by_cases ht : t = d
    · simp [ht]
    · simp only [if_neg ht]; exact h (by simp; exact fun e => ht e.symm)
theorem updS_off {s : Slots} {d : Option Tmp} {v : AV} {t : Nat} (h : d ≠ some t) : updS s d v t = s t := by
  cases d with
  | none => rfl
  | some d =>
    simp only [updS]
    rw [if_neg]
    exact fun e => h (by rw [e])
theorem updW_at {h h' : Heap} {i : Id} : ∀ {wr : List (Id × AObj)}, (i ∉ wr.map (·.1) → h i = h' i) → updW h wr i = updW h' wr i := by
  intro wr
  induction wr generalizing h h' with
  | nil => intro hh; exact hh (by simp)
  | cons x wr ih =>
    intro hh
    refine ih fun hn => ?_
    simp only [updO]
    by_cases hi : i = x.1
    · simp [hi]
    · simp only [if_neg hi]
      exact hh (by simp [hi]; simpa using hn)

theorem setS_agree {S S' : Nat → Bool} {t : Nat} : ∀ (es : List Ent) (i : Nat) (s s' : Slots), s t = s' t → (∀ k e, es[k]? = some e → e.o.dst = some t → S (i + k) = S' (i + k)) →
    setS S es i s t = setS S' es i s' t
  | [], i, s, s', h, _ => h
  | e :: r, i, s, s', h, hw => by
    refine setS_agree r (i + 1) _ _ ?_ (fun k e' hk hd => by have := hw (k + 1) e' (by simpa using hk) hd; rw [show i + 1 + k = i + (k + 1) from by omega]; exact this)
    by_cases hd : e.o.dst = some t
    · have := hw 0 e rfl hd
      simp only [Nat.add_zero] at this
      rw [this]
      cases S' i
      · exact h
      · exact updS_at (fun _ => h)
    · cases S i <;> cases S' i <;> simp [updS_off hd, h]
theorem setHp_agree {S S' : Nat → Bool} {x : Id} : ∀ (es : List Ent) (i : Nat) (h h' : Heap), h x = h' x → (∀ k e, es[k]? = some e → x ∈ e.wr.map (·.1) → S (i + k) = S' (i + k)) →
    setHp S es i h x = setHp S' es i h' x
  | [], i, h, h', hh, _ => hh
  | e :: r, i, h, h', hh, hw => by
    refine setHp_agree r (i + 1) _ _ ?_ (fun k e' hk hd => by have := hw (k + 1) e' (by simpa using hk) hd; rw [show i + 1 + k = i + (k + 1) from by omega]; exact this)
    by_cases hd : x ∈ e.wr.map (·.1)
    · have := hw 0 e rfl hd
      simp only [Nat.add_zero] at this
      rw [this]
      cases S' i
      · exact hh
      · exact updW_at (fun _ => hh)
    · have e1 : updW h e.wr x = h x := updW_notin hd
      have e2 : updW h' e.wr x = h' x := updW_notin hd
      cases S i <;> cases S' i <;> simp [e1, e2, hh]

theorem setS_add {S S' : Nat → Bool} {t : Nat} {n : Nat} {en : Ent} : ∀ (es : List Ent) (i : Nat) (s : Slots), es[n]? = some en → S (i + n) = false → S' (i + n) = true → (∀ k, k ≠ i + n → S' k = S k) →
    (en.o.dst = some t → ∀ k e, es[k]? = some e → e.o.dst = some t → n < k → S (i + k) = false) → setS S' es i s t = updS (setS S es i s) en.o.dst en.val t
  | [], i, s, hn, _, _, _, _ => by simp at hn
  | e :: r, i, s, hn, h0, h1, hS, hb => by
    cases n with
    | zero =>
      simp at hn
      subst hn
      simp only [Nat.add_zero] at h0 h1
      show setS S' r (i + 1) (if S' i then updS s e.o.dst e.val else s) t = updS (setS S r (i + 1) (if S i then updS s e.o.dst e.val else s)) e.o.dst e.val t
      rw [h0, h1]
      simp only [if_true, Bool.false_eq_true, if_false]
      have same : ∀ s', setS S' r (i + 1) s' t = setS S r (i + 1) s' t := fun s' => setS_agree r (i + 1) s' s' rfl (fun k e' _ _ => hS _ (by omega))
      rw [same]
      by_cases hd : e.o.dst = some t
      · have none : ∀ s' : Slots, setS S r (i + 1) s' t = s' t := by
          intro s'
          have z : ∀ (l : List Ent) (m : Nat) (s' : Slots), (∀ k e, l[k]? = some e → e.o.dst = some t → S (m + k) = false) → setS S l m s' t = s' t := by
            intro l
            induction l with
            | nil => intro m s' _; rfl
            | cons e l ih =>
              intro m s' hz
              show setS S l (m + 1) (if S m then updS s' e.o.dst e.val else s') t = _
              rw [ih (m + 1) _ (fun k e' hk hd => by have := hz (k + 1) e' (by simpa using hk) hd; rw [show m + 1 + k = m + (k + 1) from by omega]; exact this)]
              by_cases hd : e.o.dst = some t
              · have := hz 0 e rfl hd
                simp only [Nat.add_zero] at this
                simp [this]
              · split
                · exact updS_off hd
                · rfl
          exact z r (i + 1) s' (fun k e' hk hd' => by
            have := hb hd (k + 1) e' (by simpa using hk) hd' (by omega)
            rw [show i + 1 + k = i + (k + 1) from by omega]; exact this)
        rw [none, hd]
        simp [updS]
      · rw [updS_off hd]
        exact setS_agree r (i + 1) _ _ (updS_off hd) (fun _ _ _ _ => rfl)
    | succ n =>
      have e1 : S' i = S i := hS i (by omega)
      show setS S' r (i + 1) (if S' i then updS s e.o.dst e.val else s) t = _
      rw [e1]
      refine setS_add r (i + 1) _ (by simpa using hn) (by rw [show i + 1 + n = i + (n + 1) from by omega]; exact h0) (by rw [show i + 1 + n = i + (n + 1) from by omega]; exact h1)
        (fun k hk => hS k (by omega)) (fun hd k e' hk hd' hlt => ?_)
      have := hb hd (k + 1) e' (by simpa using hk) hd' (by omega)
      rw [show i + 1 + k = i + (k + 1) from by omega]; exact this
theorem setHp_add {S S' : Nat → Bool} {x : Id} {n : Nat} {en : Ent} : ∀ (es : List Ent) (i : Nat) (s : Heap), es[n]? = some en → S (i + n) = false → S' (i + n) = true → (∀ k, k ≠ i + n → S' k = S k) →
    (x ∈ en.wr.map (·.1) → ∀ k e, es[k]? = some e → x ∈ e.wr.map (·.1) → n < k → S (i + k) = false) → setHp S' es i s x = updW (setHp S es i s) en.wr x
  | [], i, s, hn, _, _, _, _ => by simp at hn
  | e :: r, i, s, hn, h0, h1, hS, hb => by
    cases n with
    | zero =>
      simp at hn
      subst hn
      simp only [Nat.add_zero] at h0 h1
      show setHp S' r (i + 1) (if S' i then updW s e.wr else s) x = updW (setHp S r (i + 1) (if S i then updW s e.wr else s)) e.wr x
      rw [h0, h1]
      simp only [if_true, Bool.false_eq_true, if_false]
      have same : ∀ s', setHp S' r (i + 1) s' x = setHp S r (i + 1) s' x := fun s' => setHp_agree r (i + 1) s' s' rfl (fun k e' _ _ => hS _ (by omega))
      rw [same]
      by_cases hd : x ∈ e.wr.map (·.1)
      · have none : ∀ s' : Heap, setHp S r (i + 1) s' x = s' x := by
          intro s'
          have z : ∀ (l : List Ent) (m : Nat) (s' : Heap), (∀ k e, l[k]? = some e → x ∈ e.wr.map (·.1) → S (m + k) = false) → setHp S l m s' x = s' x := by
            intro l
            induction l with
            | nil => intro m s' _; rfl
            | cons e l ih =>
              intro m s' hz
              show setHp S l (m + 1) (if S m then updW s' e.wr else s') x = _
              rw [ih (m + 1) _ (fun k e' hk hd => by have := hz (k + 1) e' (by simpa using hk) hd; rw [show m + 1 + k = m + (k + 1) from by omega]; exact this)]
              by_cases hd : x ∈ e.wr.map (·.1)
              · have := hz 0 e rfl hd
                simp only [Nat.add_zero] at this
                simp [this]
              · split
                · exact updW_notin hd
                · rfl
          exact z r (i + 1) s' (fun k e' hk hd' => by
            have := hb hd (k + 1) e' (by simpa using hk) hd' (by omega)
            rw [show i + 1 + k = i + (k + 1) from by omega]; exact this)
        rw [none]
        exact updW_at (fun hn => absurd hd hn)
      · rw [updW_notin hd]
        exact setHp_agree r (i + 1) _ _ (updW_notin hd) (fun _ _ _ _ => rfl)
    | succ n =>
      have e1 : S' i = S i := hS i (by omega)
      show setHp S' r (i + 1) (if S' i then updW s e.wr else s) x = _
      rw [e1]
      refine setHp_add r (i + 1) _ (by simpa using hn) (by rw [show i + 1 + n = i + (n + 1) from by omega]; exact h0) (by rw [show i + 1 + n = i + (n + 1) from by omega]; exact h1)
        (fun k hk => hS k (by omega)) (fun hd k e' hk hd' hlt => ?_)
      have := hb hd (k + 1) e' (by simpa using hk) hd' (by omega)
      rw [show i + 1 + k = i + (k + 1) from by omega]; exact this

end
end Go.AM

namespace Go.AM
open Go Go.RowKit

section
variable {C : Cx} {ti : Types}

theorem setS_none {S : Nat → Bool} : ∀ (es : List Ent) (i : Nat) (s : Slots), (∀ k, i ≤ k → S k = false) → setS S es i s = s
  | [], _, _, _ => rfl
  | e :: r, i, s, h => by
    show setS S r (i + 1) (if S i then _ else s) = s
    rw [h i (Nat.le_refl _)]
    exact setS_none r (i + 1) s (fun k hk => h k (by omega))
theorem setHp_none {S : Nat → Bool} : ∀ (es : List Ent) (i : Nat) (s : Heap), (∀ k, i ≤ k → S k = false) → setHp S es i s = s
  | [], _, _, _ => rfl
  | e :: r, i, s, h => by
    show setHp S r (i + 1) (if S i then _ else s) = s
    rw [h i (Nat.le_refl _)]
    exact setHp_none r (i + 1) s (fun k hk => h k (by omega))
theorem setS_all {S : Nat → Bool} : ∀ (es : List Ent) (i : Nat) (s : Slots), (∀ k, k < es.length → S (i + k) = true) → setS S es i s = endS es s
  | [], _, _, _ => rfl
  | e :: r, i, s, h => by
    show setS S r (i + 1) (if S i then _ else s) = endS r _
    rw [show S i = true from h 0 (by simp)]
    exact setS_all r (i + 1) _ (fun k hk => by have := h (k + 1) (by simp; omega); rw [show i + 1 + k = i + (k + 1) from by omega]; exact this)
theorem setHp_all {S : Nat → Bool} : ∀ (es : List Ent) (i : Nat) (s : Heap), (∀ k, k < es.length → S (i + k) = true) → setHp S es i s = endH es s
  | [], _, _, _ => rfl
  | e :: r, i, s, h => by
    show setHp S r (i + 1) (if S i then _ else s) = endH r _
    rw [show S i = true from h 0 (by simp)]
    exact setHp_all r (i + 1) _ (fun k hk => by have := h (k + 1) (by simp; omega); rw [show i + 1 + k = i + (k + 1) from by omega]; exact this)

def EntOK (C : Cx) (ops : Array Oper) (base : Nat) (e : Ent) (i : Nat) (s : Slots) (h : Heap) : Prop :=
  ops[i]? = some e.o ∧ (∀ d, e.o.dst = some d → d < C.nt) ∧ guardIs ops e s ∧ (e.run = true → (∀ c, e.o.op ≠ .defer c) ∧ OKop C e.o (base + 32 * i) s h ⟨e.val, e.rd, e.wr⟩) ∧
      (e.run = false → e.val = .t [] ∧ e.wr = [] ∧ e.rd = [])

theorem lexAt {ops : Array Oper} {base : Nat} (es : List Ent) : ∀ (m n : Nat) (s : Slots) (h : Heap) (e : Ent), LexOK C ops base es m s h → es[n]? = some e →
    EntOK C ops base e (m + n) (setS (fun k => decide (k < m + n)) es m s) (setHp (fun k => decide (k < m + n)) es m h) := by
  induction es with
  | nil => intro m n s h e _ hn; simp at hn
  | cons x r ih =>
    intro m n s h e hl hn
    cases n with
    | zero =>
      simp at hn
      subst hn
      have e1 : setS (fun k => decide (k < m + 0)) (x :: r) m s = s := setS_none _ _ _ (fun k hk => by simp; omega)
      have e2 : setHp (fun k => decide (k < m + 0)) (x :: r) m h = h := setHp_none _ _ _ (fun k hk => by simp; omega)
      rw [e1, e2]
      exact ⟨hl.1, hl.2.1, hl.2.2.1, hl.2.2.2.1, hl.2.2.2.2.1⟩
    | succ n =>
      have := ih (m + 1) n _ _ e hl.2.2.2.2.2 (by simpa using hn)
      rw [show m + 1 + n = m + (n + 1) from by omega] at this
      have e1 : setS (fun k => decide (k < m + (n + 1))) (x :: r) m s = setS (fun k => decide (k < m + (n + 1))) r (m + 1) (updS s x.o.dst x.val) := by
        show setS _ r (m + 1) (if decide (m < m + (n + 1)) then _ else _) = _
        rw [if_pos (by simp)]
      have e2 : setHp (fun k => decide (k < m + (n + 1))) (x :: r) m h = setHp (fun k => decide (k < m + (n + 1))) r (m + 1) (updW h x.wr) := by
        show setHp _ r (m + 1) (if decide (m < m + (n + 1)) then _ else _) = _
        rw [if_pos (by simp)]
      rw [e1, e2]
      exact this

theorem RelS.drew {F : Nat → Prop} {s : Slots} {h : Heap} {g : Ghost} {a : Act} {w : World} (R : RelS C F s h g a w) : RelS C F s h g a { w with drawn := w.drawn + 1 } := by
  have E : Evo w (zor (zone g h) C.X) g h { w with drawn := w.drawn + 1 } (zor (zone g h) C.X) g h :=
    ⟨fun b o u hu hz => ⟨hu, hz⟩, fun _ _ _ => rfl, fun _ _ _ => rfl, fun _ hi => hi, fun i n sz e _ hn => ⟨n, Nat.le_refl _, hn, fun _ => rfl⟩, fun _ hi => hi, fun i _ hn => ⟨hn, rfl⟩⟩
  refine R.step (fun _ => False) E ⟨rfl, rfl, rfl, Nat.le_refl _, fun _ _ _ => rfl, fun _ _ _ hu _ => hu⟩ (fun _ _ => ⟨rfl, rfl⟩) (fun _ _ _ _ _ _ => rfl) (fun _ _ h => h.elim) (fun _ _ _ _ h => h.elim)
    (fun _ _ _ _ _ h => h.elim) (fun _ h => h.elim) R.free

theorem filter_one {p p' : Nat → Bool} {i : Nat} : ∀ {l : List Nat}, l.Nodup → i ∈ l → p i = true → p' i = false → (∀ k, k ≠ i → p' k = p k) → (l.filter p').length + 1 = (l.filter p).length
  | x :: l, hn, hi, h1, h0, hs => by
    have hn' := List.nodup_cons.1 hn
    by_cases hx : x = i
    · subst hx
      have : l.filter p' = l.filter p := List.filter_congr fun k hk => hs k (fun e => hn'.1 (e ▸ hk))
      simp [h1, h0, this]
    · have hil : i ∈ l := (List.mem_cons.1 hi).resolve_left (fun e => hx e.symm)
      have ih := filter_one hn'.2 hil h1 h0 hs
      have := hs x hx
      simp only [List.filter_cons, this]
      split <;> simp [ih]

theorem meet_iff {a b : List Nat} {x : Nat} (ha : x ∈ a) (hb : x ∈ b) : meet a b = true := by
  simp only [meet, List.any_eq_true]
  exact ⟨x, ha, x, hb, by simp⟩
theorem meetI_iff {a b : List Id} {x : Id} (ha : x ∈ a) (hb : x ∈ b) : meetI a b = true := by
  simp only [meetI, List.any_eq_true]
  exact ⟨x, ha, x, hb, Id.beq_iff.2 rfl⟩
theorem tmpsOf_mem {t : Nat} : ∀ {l : List Operand}, Operand.tmp t ∈ l → t ∈ tmpsOf l
  | .tmp x :: l, h => by
    rcases List.mem_cons.1 h with h | h
    · simp at h; subst h; simp [tmpsOf]
    · simp [tmpsOf, tmpsOf_mem h]
  | .const v :: l, h => by simp [tmpsOf, tmpsOf_mem ((List.mem_cons.1 h).resolve_left (by simp))]
  | .global v :: l, h => by simp [tmpsOf, tmpsOf_mem ((List.mem_cons.1 h).resolve_left (by simp))]
  | .func v :: l, h => by simp [tmpsOf, tmpsOf_mem ((List.mem_cons.1 h).resolve_left (by simp))]

theorem number_get (l : List Oper) : ∀ (fs : List Fp) (i n : Nat) (o : Oper) (f : Fp), l[n]? = some o → fs[n]? = some f → (i + n, o, f) ∈ number l fs i := by
  induction l with
  | nil => intro fs i n o f h1 _; simp at h1
  | cons x l ih =>
    intro fs i n o f h1 h2
    cases fs with
    | nil => simp at h2
    | cons y fs =>
      cases n with
      | zero => simp at h1 h2; subst h1; subst h2; simp [number]
      | succ n =>
        simp at h1 h2
        have := ih fs (i + 1) n o f h1 h2
        rw [show i + 1 + n = i + (n + 1) from by omega] at this
        simp [number, this]
theorem backOK_get (l : List Oper) : ∀ (i n : Nat) (o : Oper) (e : Edge), backOK l i = true → l[n]? = some o → e ∈ o.after.toList → Region.binds .any e = true → e.on < i + n := by
  induction l with
  | nil => intro i n o e _ h1 _ _; simp at h1
  | cons x l ih =>
    intro i n o e h h1 he hb
    simp only [backOK, Bool.and_eq_true, List.all_eq_true] at h
    cases n with
    | zero =>
      simp at h1
      subst h1
      have := h.1 e he
      simpa [hb] using this
    | succ n =>
      simp at h1
      have := ih (i + 1) n o e h.2 h1 he hb
      omega

theorem draw_ok (hti : TIok C.P ti) (h1 : TIone ti) (hm : C.P.follows .mixedOrders = true) : DrawOK C (execDraw ti C.M C.nt) := by
  intro id ops σ K Q a w hQ hk R
  obtain ⟨es, σ', e1, hlex, e3, e4, e5, hlock, hK⟩ := drawOps_ents hti h1 ops.toList 0 σ [] rfl hk
  have hB := (C.M.lock_iff _).1 hlock
  simp only [List.nil_append] at hB
  simp only [drawB, Bool.and_eq_true, Nat.beq_eq] at hB
  obtain ⟨hlen, hback, hpairs⟩ := hB
  have hlen : es.length = ops.size := by simpa using congrArg List.length e1
  have hes : ∀ (n : Nat) e, es[n]? = some e → ops.toList[n]? = some e.o := by
    intro n e he
    rw [← e1]; simp [he]
  have ahead : ∀ (i j : Nat) ei ej, es[i]? = some ei → es[j]? = some ej → i < j → (slotConf ops ei.o ej.o || idConf (ei.rd, ei.wr.map (·.1)) (ej.rd, ej.wr.map (·.1))) = true → Ahead ops.toList i j := by
    intro i j ei ej hi hj hlt hc
    have m1 := number_get ops.toList (es.map fun e => (e.rd, e.wr.map (·.1))) 0 i _ _ (hes i ei hi) (by simp [hi]; rfl)
    have m2 := number_get ops.toList (es.map fun e => (e.rd, e.wr.map (·.1))) 0 j _ _ (hes j ej hj) (by simp [hj]; rfl)
    simp only [pairsOK, List.all_eq_true] at hpairs
    have := hpairs _ m1 _ m2
    simp only [Nat.zero_add] at this
    have hb : Nat.blt i j = true := by simpa using hlt
    rw [hb, hc] at this
    simp only [Bool.not_true, Bool.false_or] at this
    exact masks_bit ops.toList [] rfl (by simp [List.getD]) j i this
  let s0 := getS σ.slots
  let h0 := getH σ.heap
  let base := σ.next
  refine wpIn_region_any hm ?_
  let Sof : Array Bool → Nat → Bool := fun listed k => listed.getD k false
  have main : ∀ (fuel : Nat) (listed : Array Bool) (a : Act) (w : World), listed.size = ops.size →
      ((List.range ops.size).filter (fun k => !Sof listed k)).length = fuel →
      (∀ i j, Ahead ops.toList i j → Sof listed j = true → Sof listed i = true) →
      Rel C (fun n => base ≤ n ∧ ∀ i, Sof listed i = true → ¬ (base + 32 * i ≤ n ∧ n < base + 32 * i + 32)) (setS (Sof listed) es 0 s0) (setHp (Sof listed) es 0 h0) a w →
      wpAnyIn (fenceOf C.ro) 0 C.P .any ops Q fuel listed a w := by
    intro fuel
    induction fuel with
    | zero =>
      intro listed a w hsz hcnt hcl R
      have hall : ∀ k, k < ops.size → Sof listed k = true := by
        intro k hk
        have := List.eq_nil_of_length_eq_zero hcnt
        cases hs : Sof listed k with
        | true => rfl
        | false =>
          have : k ∈ (List.range ops.size).filter (fun k => !Sof listed k) := by simp [hk, hs]
          rw [List.eq_nil_of_length_eq_zero hcnt] at this
          simp at this
      refine ⟨?_, ?_⟩
      · cases hr : Region.ready .any ops listed with
        | nil => rfl
        | cons j l =>
          have hj : j ∈ Region.ready .any ops listed := by rw [hr]; simp
          obtain ⟨h2, o, ho, _⟩ := mem_ready.1 hj
          have hlt := (Array.getElem?_eq_some_iff.1 ho).1
          have := hall j hlt
          simp only [Sof] at this
          have hjl : j < listed.size := by omega
          simp [hjl] at this h2
          rw [this] at h2
          simp at h2
      · refine hQ σ' a w hK ?_
        have : RelSt C σ' a w ↔ Rel C (fun n => σ'.next ≤ n) (getS σ'.slots) (getH σ'.heap) a w := Iff.rfl
        rw [this, e3, e4, e5]
        have z1 : setS (Sof listed) es 0 s0 = endS es s0 := setS_all es 0 s0 (fun k hk => by rw [Nat.zero_add]; exact hall k (by omega))
        have z2 : setHp (Sof listed) es 0 h0 = endH es h0 := setHp_all es 0 h0 (fun k hk => by rw [Nat.zero_add]; exact hall k (by omega))
        rw [z1, z2] at R
        refine R.free_mono (fun n hn => ?_)
        simp only [Nat.zero_add, Array.length_toList] at hn
        refine ⟨by simp only [base]; omega, fun i hi => ?_⟩
        have : i < ops.size := by
          simp only [Sof] at hi
          have hil : i < listed.size := by
            rcases Nat.lt_or_ge i listed.size with h | h
            · exact h
            · simp [Array.getElem?_eq_none h] at hi
          omega
        simp only [base]
        omega
    | succ fuel ih =>
      intro listed a w hsz hcnt hcl R
      have hstep : ∀ i, i ∈ Region.ready .any ops listed → wpOpIn (fenceOf C.ro) 0 C.P ops Q i (wpAnyIn (fenceOf C.ro) 0 C.P .any ops Q fuel (listed.setIfInBounds i true)) a w := by
        intro i hi
        obtain ⟨hi0, o, ho, hedges⟩ := mem_ready.1 hi
        have hlt : i < ops.size := (Array.getElem?_eq_some_iff.1 ho).1
        have hil : i < listed.size := by omega
        have hS0 : Sof listed i = false := by
          simp [hil] at hi0
          simp [Sof, hil, hi0]
        have hS1 : Sof (listed.setIfInBounds i true) i = true := by simp [Sof, hil]
        have hSo : ∀ k, k ≠ i → Sof (listed.setIfInBounds i true) k = Sof listed k := by
          intro k hk
          simp [Sof, Array.getElem?_setIfInBounds_ne (Ne.symm hk)]
        obtain ⟨en, hen⟩ : ∃ en, es[i]? = some en := ⟨es[i], by simp [hlen, hlt]⟩
        have hEnt := lexAt es 0 i s0 h0 en hlex hen
        rw [Nat.zero_add] at hEnt
        obtain ⟨ho', hd, hg, hrun, hskip⟩ := hEnt
        rw [ho] at ho'
        obtain rfl : o = en.o := by simpa using ho'
        -- who writes what i reads or writes
        have order : ∀ k e, es[k]? = some e → k ≠ i → (k < i → (slotConf ops e.o en.o || idConf (e.rd, e.wr.map (·.1)) (en.rd, en.wr.map (·.1))) = true) →
            (i < k → (slotConf ops en.o e.o || idConf (en.rd, en.wr.map (·.1)) (e.rd, e.wr.map (·.1))) = true) → Sof listed k = decide (k < i) := by
          intro k e he hne c1 c2
          by_cases hki : k < i
          · have ah := ahead k i e en he hen hki (c1 hki)
            have : Sof listed k = true := by
              have gen : ∀ x y, Ahead ops.toList x y → y = i → Sof listed x = true := by
                intro x y hxy
                induction hxy with
                | edge hj hee hb hei =>
                  intro hy
                  subst hy
                  rw [← hei]
                  have := hes _ en hen
                  rw [hj] at this
                  simp at this
                  subst this
                  exact hedges _ (by simpa using hee) hb
                | trans p q ihp ihq =>
                  intro hy
                  exact hcl _ _ p (ihq hy)
              exact gen k i ah rfl
            simp [this, hki]
          · have hik : i < k := by omega
            have ah := ahead i k en e hen he hik (c2 hik)
            have : Sof listed k = false := by
              cases hs : Sof listed k with
              | false => rfl
              | true => have := hcl i k ah hs; rw [hS0] at this; simp at this
            simp [this, hki]
        have slotAgree : ∀ t, t ∈ readsT ops en.o → setS (Sof listed) es 0 s0 t = setS (fun k => decide (k < i)) es 0 s0 t := by
          intro t ht
          refine setS_agree es 0 s0 s0 rfl (fun k e he hdst => ?_)
          rw [Nat.zero_add]
          by_cases hki : k = i
          · subst hki; simp [hS0]
          · refine order k e he hki (fun _ => ?_) (fun _ => ?_)
            · simp [slotConf, meet_iff (x := t) (a := e.o.dst.toList) (b := readsT ops en.o) (by simp [hdst]) ht]
            · simp [slotConf, meet_iff (x := t) (a := readsT ops en.o) (b := e.o.dst.toList) ht (by simp [hdst])]
        have idAgree : ∀ x, x ∈ en.rd → setHp (Sof listed) es 0 h0 x = setHp (fun k => decide (k < i)) es 0 h0 x := by
          intro x hx
          refine setHp_agree es 0 h0 h0 rfl (fun k e he hw => ?_)
          rw [Nat.zero_add]
          by_cases hki : k = i
          · subst hki; simp [hS0]
          · refine order k e he hki (fun _ => ?_) (fun _ => ?_)
            · simp [idConf, meetI_iff (x := x) (a := e.wr.map (·.1)) (b := en.rd) hw hx]
            · simp [idConf, meetI_iff (x := x) (a := en.rd) (b := e.wr.map (·.1)) hx hw]
        have cl' : ∀ x y, Ahead ops.toList x y → Sof (listed.setIfInBounds i true) y = true → Sof (listed.setIfInBounds i true) x = true := by
          intro x y hxy hy
          by_cases hx : x = i
          · rw [hx]; exact hS1
          · rw [hSo x hx]
            by_cases hyi : y = i
            · subst hyi
              have gen : ∀ x y', Ahead ops.toList x y' → y' = y → Sof listed x = true := by
                intro x y' hxy
                induction hxy with
                | edge hj hee hb hei =>
                  intro hy
                  subst hy
                  rw [← hei]
                  have := hes _ en hen
                  rw [hj] at this
                  simp at this
                  subst this
                  exact hedges _ (by simpa using hee) hb
                | trans p q ihp ihq =>
                  intro hy
                  exact hcl _ _ p (ihq hy)
              exact gen x y hxy rfl
            · rw [hSo y hyi] at hy
              exact hcl x y hxy hy
        have cnt' : ((List.range ops.size).filter (fun k => !Sof (listed.setIfInBounds i true) k)).length = fuel := by
          have := filter_one (p := fun k => !Sof listed k) (p' := fun k => !Sof (listed.setIfInBounds i true) k) (i := i) (l := List.range ops.size) List.nodup_range (by simp [hlt]) (by simp [hS0]) (by simp [hS1])
            (fun k hk => by simp [hSo k hk])
          omega
        have addS : setS (Sof (listed.setIfInBounds i true)) es 0 s0 = updS (setS (Sof listed) es 0 s0) en.o.dst en.val := by
          funext t
          refine setS_add es 0 s0 hen (by simpa using hS0) (by simpa using hS1) (fun k hk => hSo k (by omega)) (fun hdst k e he hdst' hik => ?_)
          rw [Nat.zero_add]
          have := order k e he (by omega) (fun h => absurd h (by omega)) (fun _ => by simp [slotConf, meet_iff (x := t) (a := en.o.dst.toList) (b := e.o.dst.toList) (by simp [hdst]) (by simp [hdst'])])
          rw [this]
          simp; omega
        have addH : setHp (Sof (listed.setIfInBounds i true)) es 0 h0 = updW (setHp (Sof listed) es 0 h0) en.wr := by
          funext x
          refine setHp_add es 0 h0 hen (by simpa using hS0) (by simpa using hS1) (fun k hk => hSo k (by omega)) (fun hw k e he hw' hik => ?_)
          rw [Nat.zero_add]
          have := order k e he (by omega) (fun h => absurd h (by omega)) (fun _ => by simp [idConf, meetI_iff (x := x) (a := en.wr.map (·.1)) (b := e.wr.map (·.1)) hw hw'])
          rw [this]
          simp; omega
        have next : ∀ a' w', Rel C (fun n => (base ≤ n ∧ ∀ i, Sof listed i = true → ¬ (base + 32 * i ≤ n ∧ n < base + 32 * i + 32)) ∧ ¬ (base + 32 * i ≤ n ∧ n < base + 32 * i + 32))
            (updS (setS (Sof listed) es 0 s0) en.o.dst en.val) (updW (setHp (Sof listed) es 0 h0) en.wr) a' w' → wpAnyIn (fenceOf C.ro) 0 C.P .any ops Q fuel (listed.setIfInBounds i true) a' w' := by
          intro a' w' R'
          refine ih _ a' w' (by simp [hsz]) cnt' cl' ?_
          rw [addS, addH]
          refine R'.free_mono (fun n hn => ⟨⟨hn.1, fun j hj => ?_⟩, hn.2 i hS1⟩)
          by_cases hji : j = i
          · subst hji; exact hn.2 j hS1
          · exact hn.2 j (by rw [hSo j hji]; exact hj)
        have hw : Region.wanted en.o (yielded ops a.tmps) = en.run := by
          unfold guardIs at hg
          split at hg
          · rename_i hgn
            simp [Region.wanted, hgn, hg]
          · rename_i j want hgs
            obtain ⟨d, hdj, hsd⟩ := hg
            have hmem : d ∈ readsT ops en.o := by simp [readsT, hgs, hdj]
            rw [← slotAgree d hmem] at hsd
            rcases hsd with hsd | ⟨hrf, hsd⟩
            rotate_left
            · have hy : yielded ops a.tmps j = none := by
                obtain ⟨g, R⟩ := R
                have := R.slots d
                rw [hsd] at this
                obtain ⟨vs, hv, _⟩ := this
                exact yields_none' hdj ⟨vs, hv⟩
              simp [Region.wanted, hgs, hy, hrf]
            have hy : yielded ops a.tmps j = some (if en.run then want else !want) := by
              obtain ⟨g, R⟩ := R
              have := R.slots d
              rw [hsd] at this
              have hv := relB this
              unfold yielded
              rw [hdj]
              have : a.tmps[d]? = some (.bool (if en.run then want else !want)) := by
                rw [Array.getD_eq_getD_getElem?] at hv
                cases h : a.tmps[d]? with
                | none => rw [h] at hv; simp [undef] at hv
                | some v => rw [h] at hv; simpa using hv
              simp [this]
            simp only [Region.wanted, hgs, hy]
            cases en.run <;> cases want <;> rfl
        unfold wpOpIn
        rw [ho]
        simp only []
        cases hr : en.run with
        | true =>
          rw [if_pos (by rw [hw, hr])]
          refine wp_fence (hrun hr).1 (Oper.wp_mono next ?_)
          refine (hrun hr).2 _ _ _ a w Q R (fun t ht => slotAgree t (by simp [readsT, tmpsOf_mem ht])) idAgree (fun k hk => ⟨by omega, fun j hj => ?_⟩) hd
          by_cases hji : j = i
          · subst hji; rw [hS0] at hj; simp at hj
          · omega
        | false =>
          rw [if_neg (by rw [hw, hr]; simp)]
          obtain ⟨z1, z2, z3⟩ := hskip hr
          refine ⟨fun f _ => fenceOf_fn _ f, next _ w ?_⟩
          rw [z1, z2]
          obtain ⟨g, R⟩ := R
          refine ⟨g, (R.put hd (v := .t []) ⟨#[], rfl, rfl, by simp⟩).free_mono (fun n hn => hn.1)⟩
      refine ⟨fun hnil => ?_, hstep⟩
      -- not all are listed: the least of those is ready
      exfalso
      have hex : ∃ k, k < ops.size ∧ Sof listed k = false := by
        have : (List.range ops.size).filter (fun k => !Sof listed k) ≠ [] := by intro e; rw [e] at hcnt; simp at hcnt
        obtain ⟨k, hk⟩ := List.exists_mem_of_ne_nil _ this
        simp at hk
        exact ⟨k, hk.1, hk.2⟩
      obtain ⟨k, ⟨hk1, hk2⟩, hmin⟩ := least hex
      have : k ∈ Region.ready .any ops listed := by
        refine mem_ready.2 ⟨?_, ops[k], by simp [hk1], fun e he hb => ?_⟩
        · have hkl : k < listed.size := by omega
          simp only [Sof] at hk2
          simp [hkl] at hk2 ⊢
          exact hk2
        · have hlt : e.on < 0 + k := backOK_get ops.toList 0 k ops[k] e hback (by simp [hk1]) (by simpa using he) hb
          cases hs : Sof listed e.on with
          | true => exact hs
          | false => have := hmin e.on ⟨by omega, hs⟩; omega
      rw [hnil] at this
      simp at this
  refine main ops.size (Array.replicate ops.size false) a _ (by simp) ?_ ?_ ?_
  · have : (List.range ops.size).filter (fun k => !Sof (Array.replicate ops.size false) k) = List.range ops.size := by
      refine List.filter_eq_self.2 fun k hk => ?_
      simp only [Sof, Array.getD_eq_getD_getElem?, Array.getElem?_replicate]
      split <;> rfl
    rw [this]; simp
  · intro i j _ hj
    exfalso
    revert hj
    simp only [Sof, Array.getD_eq_getD_getElem?, Array.getElem?_replicate]
    split <;> simp
  · have hz : ∀ k, Sof (Array.replicate ops.size false) k = false := by intro k; simp only [Sof, Array.getD_eq_getD_getElem?, Array.getElem?_replicate]; split <;> rfl
    rw [setS_none es 0 s0 (fun k _ => hz k), setHp_none es 0 h0 (fun k _ => hz k)]
    obtain ⟨g, R⟩ := R
    exact ⟨g, R.drew.free_mono (fun n hn => hn.1)⟩
end
end Go.AM

namespace Go.AM
open Go Go.RowKit

theorem RelS.reslot {C : Cx} {F : Nat → Prop} {s : Slots} {h : Heap} {g : Ghost} {a : Act} {w : World} (R : RelS C F s h g a w) (t : Nat) (v : AV) (hr : RelAV w (zor (zone g h) C.X) g h v (a.tmps.getD t undef)) :
    RelS C F (updS s (some t) v) h g a w := by
  refine { R with slots := fun t' => ?_ }
  simp only [updS]
  split
  · subst_vars; exact hr
  · exact R.slots t'

theorem RelS.tok0 {C : Cx} {F : Nat → Prop} {s : Slots} {h : Heap} {g : Ghost} {a : Act} {w : World} (R : RelS C F s h g a w) {n : Nat} (hf : F n) (ag : Bool) {sz : Nat} (hsz : 0 < sz) (e : TypeId) :
    RelS C (fun k => F k ∧ k ≠ n) s (updO h (.loc n) (.tok 0 sz e)) (updG g (.loc n) (.slice none 0 0)) a w ∧
      RelC w (zor (zone (updG g (.loc n) (.slice none 0 0)) (updO h (.loc n) (.tok 0 sz e))) C.X) (updG g (.loc n) (.slice none 0 0)) (updO h (.loc n) (.tok 0 sz e)) (.lst (.loc n) ag sz []) (.slice none 0 0) :=
  R.owned (out := []) (zs := []) hf ⟨rfl, rfl, rfl, Nat.le_refl _, fun _ _ _ => rfl⟩ hsz (World.ownsRow_nil w _ e sz) (by simp) (by simp)

def tokSlot (t : Nat) (ag : Bool) (sz : Nat) (e : TypeId) (σ : St) : St :=
  ⟨(t, .v (.c (.lst (.loc σ.next) ag sz []))) :: σ.slots, setH σ.heap (.loc σ.next) (.tok 0 sz e), σ.next + 32⟩
theorem weak_tokSlot {t : Nat} {ag : Bool} {sz : Nat} {e : TypeId} {σ : St} (hsz : Nat.blt 0 sz = true) (ht : getS σ.slots t = .v (.c (.nils ag sz))) : Weak σ (tokSlot t ag sz e σ) := by
  rintro C a w ⟨g, R⟩
  have hv := R.slots t
  rw [ht] at hv
  have hv : a.tmps.getD t undef = .slice none 0 0 := hv
  obtain ⟨R', hl⟩ := R.tok0 (n := σ.next) (Nat.le_refl _) ag (sz := sz) (by simp [Nat.blt] at hsz; omega) e
  have R2 := (R'.reslot t (.v (.c (.lst (.loc σ.next) ag sz []))) (by rw [hv]; exact hl)).free_mono (F' := fun n => σ.next + 32 ≤ n) (fun n hn => ⟨by omega, by omega⟩)
  refine ⟨updG g (.loc σ.next) (.slice none 0 0), ?_⟩
  simp only [tokSlot, getS_cons, getH_setH]
  exact R2

def setNth {α : Type} : List α → Nat → α → List α
  | [], _, _ => []
  | x :: r, n, y => match n with
    | 0 => y :: r
    | m + 1 => x :: setNth r m y
theorem setNth_eq {α : Type} : ∀ (l : List α) (n : Nat) (y : α), setNth l n y = l.set n y
  | [], _, _ => rfl
  | _ :: _, 0, _ => rfl
  | x :: r, n + 1, y => by simp [setNth, setNth_eq r n y]
def tokCell (i : Id) (j : Nat) (ag : Bool) (sz : Nat) (e : TypeId) (σ : St) : St :=
  match getH σ.heap i with
  | some (.cells cs) => ⟨σ.slots, setH (setH σ.heap (.loc σ.next) (.tok 0 sz e)) i (.cells (setNth cs j (.lst (.loc σ.next) ag sz []))), σ.next + 32⟩
  | _ => σ
theorem weak_tokCell {i : Id} {j : Nat} {ag : Bool} {sz : Nat} {e : TypeId} {σ : St} {cs : List CV} (hsz : Nat.blt 0 sz = true) (hi : getH σ.heap i = some (.cells cs)) (hj : cs[j]? = some (.nils ag sz)) : Weak σ (tokCell i j ag sz e σ) := by
  rintro C a w ⟨g, R⟩
  obtain ⟨R', hl⟩ := R.tok0 (n := σ.next) (Nat.le_refl _) ag (sz := sz) (by simp [Nat.blt] at hsz; omega) e
  have hne : i ≠ .loc σ.next := by
    rintro rfl
    have := (R.free σ.next (Nat.le_refl _)).2
    rw [this] at hi; cases hi
  have hi' : updO (getH σ.heap) (.loc σ.next) (.tok 0 sz e) i = some (.cells cs) := by simp [updO, hne, hi]
  obtain ⟨b, c, et, hb, hh, hsz2, hr⟩ := R'.heap.objs i _ hi'
  have R2 := R'.store (cs' := cs.set j (.lst (.loc σ.next) ag sz [])) hi' hb hh (c' := c) (by simp [hsz2]) (fun k x u hx hu => by
    by_cases hk : k = j
    · subst hk
      have hlt : k < cs.length := (List.getElem?_eq_some_iff.1 hj).1
      rw [List.getElem?_set_self hlt] at hx
      cases hx
      have := hr k _ u hj hu
      rw [show u = _ from this]
      exact hl
    · rw [List.getElem?_set_ne (by omega)] at hx
      exact hr k x u hx hu)
  have hw : w.setRow b c = w := setRow_self w b c _ _ hh
  rw [hw] at R2
  have R3 := R2.free_mono (F' := fun n => σ.next + 32 ≤ n) (fun n hn => ⟨by omega, by omega⟩)
  refine ⟨updG g (.loc σ.next) (.slice none 0 0), ?_⟩
  simp only [tokCell, hi, getH_setH, setNth_eq]
  exact R3


inductive TokReq where
  | slot (t : Nat) (ag : Bool) (sz : Nat) (e : TypeId)
  | cell (i : Id) (j : Nat) (ag : Bool) (sz : Nat) (e : TypeId)
def isNils (ag : Bool) (sz : Nat) : CV → Bool
  | .nils a s => (a == ag) && Nat.beq s sz
  | _ => false
def isNilsA (ag : Bool) (sz : Nat) : AV → Bool
  | .v (.c c) => isNils ag sz c
  | _ => false
def nthC : List CV → Nat → CV
  | [], _ => .un
  | x :: r, n => match n with
    | 0 => x
    | m + 1 => nthC r m
def tokAll (K : St → Prop) : List TokReq → St → Prop
  | [], σ => K σ
  | .slot t ag sz e :: r, σ => req (Nat.blt 0 sz) <| req (isNilsA ag sz (getS σ.slots t)) <| tokAll K r (tokSlot t ag sz e σ)
  | .cell i j ag sz e :: r, σ => req (Nat.blt 0 sz) <| (match getH σ.heap i with
    | some (.cells cs) => req (isNils ag sz (nthC cs j)) <| tokAll K r (tokCell i j ag sz e σ)
    | _ => False)
theorem isNils_eq {ag : Bool} {sz : Nat} {c : CV} (h : isNils ag sz c = true) : c = .nils ag sz := by
  cases c <;> simp [isNils] at h
  obtain ⟨rfl, h⟩ := h
  rw [h]
theorem nthC_get : ∀ {cs : List CV} {j : Nat} {ag : Bool} {sz : Nat}, isNils ag sz (nthC cs j) = true → cs[j]? = some (.nils ag sz)
  | [], j, ag, sz, h => by simp [nthC, isNils] at h
  | x :: r, 0, ag, sz, h => by simpa using isNils_eq (by simpa [nthC] using h)
  | x :: r, j + 1, ag, sz, h => by simpa using nthC_get (cs := r) (j := j) (by simpa [nthC] using h)
theorem tokAll_weak {K : St → Prop} : ∀ {l : List TokReq} {σ : St}, tokAll K l σ → ∃ σ', (∀ C a w, RelSt C σ a w → RelSt C σ' a w) ∧ K σ'
  | [], σ, h => ⟨σ, fun _ _ _ r => r, h⟩
  | .slot t ag sz e :: r, σ, h => by
    obtain ⟨h1, h⟩ := req_iff.1 h
    obtain ⟨h2, h⟩ := req_iff.1 h
    obtain ⟨σ', h3, h4⟩ := tokAll_weak h
    have ht : getS σ.slots t = .v (.c (.nils ag sz)) := by
      revert h2
      cases getS σ.slots t with
      | v x => cases x with
        | c c => intro h2; rw [isNils_eq h2]
        | _ => intro h2; simp [isNilsA] at h2
      | _ => intro h2; simp [isNilsA] at h2
    exact ⟨σ', fun C a w r => h3 C a w (weak_tokSlot h1 ht C a w r), h4⟩
  | .cell i j ag sz e :: r, σ, h => by
    obtain ⟨h1, h⟩ := req_iff.1 h
    split at h
    · rename_i cs hi
      obtain ⟨h2, h⟩ := req_iff.1 h
      obtain ⟨σ', h3, h4⟩ := tokAll_weak h
      exact ⟨σ', fun C a w r => h3 C a w (weak_tokCell h1 hi (nthC_get h2) C a w r), h4⟩
    · exact h.elim

theorem Weak.trans {a b c : St} (h1 : Weak a b) (h2 : Weak b c) : Weak a c := fun C x w r => h2 C x w (h1 C x w r)
theorem Weak.refl (a : St) : Weak a a := fun _ _ _ r => r
end Go.AM

namespace Go.AM
open Go Go.RowKit

def slSub (c : CV) (j : Id) (n : Nat) : CV :=
  match c with
  | .d (.list ag sz rows) => match Nat.beq rows.length n with
    | true => .d (.list ag sz rows)
    | false => .sl j n
  | _ => .sl j n
def CV.sub (x : CV) (i : Id) (c : CV) : CV :=
  match x with
  | .ow j => match Id.beq j i with
    | true => c
    | false => .ow j
  | .sl j n => match Id.beq j i with
    | true => slSub c j n
    | false => .sl j n
  | x => x
def isM (i : Id) (c : CV) : CV → Prop
  | .ow j => j = i
  | .sl j n => j = i ∧ ∃ ag sz rows, c = .d (.list ag sz rows) ∧ rows.length = n
  | _ => False
def subs (i : Id) (c : CV) : List CV → List CV
  | [] => []
  | x :: r => x.sub i c :: subs i c r
def V1.sub (i : Id) (c : CV) (x : V1) : V1 :=
  match x with
  | .d x => .d x
  | .c x => match x.sub i c with
    | .d y => .d y
    | y => .c y
  | .agg cs => .agg (subs i c cs)
def subV (i : Id) (c : CV) : List V1 → List V1
  | [] => []
  | x :: r => x.sub i c :: subV i c r
def AV.sub (i : Id) (c : CV) (x : AV) : AV :=
  match x with
  | .u => .u
  | .v x => .v (x.sub i c)
  | .t xs => .t (subV i c xs)
def AObj.sub (i : Id) (c : CV) (o : AObj) : AObj :=
  match o with
  | .cells cs => .cells (subs i c cs)
  | o => o
theorem subs_eq {i : Id} {c : CV} : ∀ {l : List CV}, subs i c l = l.map (fun x => x.sub i c)
  | [] => rfl
  | x :: l => by simp [subs, subs_eq (l := l)]
theorem subV_eq {i : Id} {c : CV} : ∀ {l : List V1}, subV i c l = l.map (V1.sub i c)
  | [] => rfl
  | x :: l => by simp [subV, subV_eq (l := l)]

section
variable {C : Cx} {F : Nat → Prop} {s : Slots} {h : Heap} {g : Ghost} {a : Act} {w : World}

theorem relC_sub {w' : World} {Z Z' : Zone} {g' : Ghost} {h' : Heap} {i : Id} {c : CV} (hE : ∀ {x : CV} {v : Value}, RelC w Z g h x v → RelC w' Z' g' h' x v) (hc : ∀ x v, isM i c x → RelC w Z g h x v → RelC w' Z' g' h' c v) {x : CV} {v : Value} (r : RelC w Z g h x v) :
    RelC w' Z' g' h' (x.sub i c) v := by
  unfold CV.sub
  split
  · rename_i j
    cases e : Id.beq j i with
    | true => exact hc (.ow j) v (Id.beq_iff.1 e : j = i) r
    | false => exact hE r
  · rename_i j n
    cases e : Id.beq j i with
    | true =>
      show RelC w' Z' g' h' (slSub c j n) v
      unfold slSub
      split
      · rename_i ag sz rows
        cases e2 : Nat.beq rows.length n with
        | true => exact hc (.sl j n) v ⟨Id.beq_iff.1 e, ag, sz, rows, rfl, Nat.eq_of_beq_eq_true e2⟩ r
        | false => exact hE r
      · exact hE r
    | false => exact hE r
  · exact hE r
theorem relV1_sub {w' : World} {Z Z' : Zone} {g' : Ghost} {h' : Heap} {i : Id} {c : CV} (hE : ∀ {x : CV} {v : Value}, RelC w Z g h x v → RelC w' Z' g' h' x v) (hD : ∀ {x : D} {v : Value}, RelD w Z x v → RelD w' Z' x v) (hc : ∀ x v, isM i c x → RelC w Z g h x v → RelC w' Z' g' h' c v) {x : V1} {v : Value} (r : RelV1 w Z g h x v) :
    RelV1 w' Z' g' h' (x.sub i c) v := by
  cases x with
  | d x => exact hD r
  | c x =>
    have := relC_sub hE hc (x := x) r
    show RelV1 w' Z' g' h' (match x.sub i c with | .d y => .d y | y => .c y) v
    split
    · rename_i y hy
      rw [hy] at this
      exact this.1
    · exact this
  | agg cs =>
    obtain ⟨vs, hv, hs, hr⟩ := r
    refine ⟨vs, hv, by rw [subs_eq]; simpa using hs, fun j y u hy hu => ?_⟩
    rw [subs_eq, List.getElem?_map, Option.map_eq_some_iff] at hy
    obtain ⟨x, hx, rfl⟩ := hy
    exact relC_sub hE hc (hr j x u hx hu)
theorem relAV_sub {w' : World} {Z Z' : Zone} {g' : Ghost} {h' : Heap} {i : Id} {c : CV} (hE : ∀ {x : CV} {v : Value}, RelC w Z g h x v → RelC w' Z' g' h' x v) (hD : ∀ {x : D} {v : Value}, RelD w Z x v → RelD w' Z' x v) (hc : ∀ x v, isM i c x → RelC w Z g h x v → RelC w' Z' g' h' c v) {x : AV} {v : Value} (r : RelAV w Z g h x v) :
    RelAV w' Z' g' h' (x.sub i c) v := by
  cases x with
  | u => trivial
  | v x => exact relV1_sub hE hD hc r
  | t xs =>
    obtain ⟨vs, hv, hs, hr⟩ := r
    refine ⟨vs, hv, by rw [subV_eq]; simpa using hs, fun j y u hy hu => ?_⟩
    rw [subV_eq, List.getElem?_map, Option.map_eq_some_iff] at hy
    obtain ⟨x, hx, rfl⟩ := hy
    exact relV1_sub hE hD hc (hr j x u hx hu)

def swapH (h : Heap) (i : Id) (c : CV) (nw : Option (Nat × AObj)) : Heap := fun j =>
  match nw with
  | some (n, o) => if j = .loc n then some o else if j = i then some .gone else (h j).map (AObj.sub i c)
  | none => if j = i then some .gone else (h j).map (AObj.sub i c)
def swapG (g : Ghost) (i : Id) (nw : Option (Nat × AObj)) : Ghost :=
  match nw with
  | some (n, _) => updG g (.loc n) (g i)
  | none => g
theorem sub_zone {i : Id} {c : CV} {gv : Value} {o : AObj} {b p : Nat} : zone1 gv (o.sub i c) b p ↔ zone1 gv o b p := by
  cases o <;> exact Iff.rfl
theorem sub_obk {i : Id} {c : CV} {gv : Value} {o : AObj} {b : Nat} : Obk gv (o.sub i c) b ↔ Obk gv o b := by
  cases o <;> exact Iff.rfl
theorem sub_live {i : Id} {c : CV} {o : Option AObj} : isLive (o.map (AObj.sub i c)) = isLive o := by
  cases o with
  | none => rfl
  | some o => cases o <;> rfl

theorem RelS.swap (R : RelS C F s h g a w) {i : Id} {ob : AObj} (hi : h i = some ob) (hob : wholeO ob) {c : CV} {nw : Option (Nat × AObj)} (hnw : ∀ n o, nw = some (n, o) → F n ∧ o = ob) {F' : Nat → Prop} (hF : ∀ k, F' k → F k ∧ ∀ n o, nw = some (n, o) → k ≠ n)
    (hc : (∀ b o, zor (zone (swapG g i nw) (swapH h i c nw)) C.X b o → zor (zone g h) C.X b o) → (nw = none → ∀ b o, Blk (g i) b → ¬ zor (zone (swapG g i nw) (swapH h i c nw)) C.X b o) →
      ∀ x v, isM i c x → RelC w (zor (zone g h) C.X) g h x v → RelC w (zor (zone (swapG g i nw) (swapH h i c nw)) C.X) (swapG g i nw) (swapH h i c nw) c v) :
    RelS C F' (fun t => (s t).sub i c) (swapH h i c nw) (swapG g i nw) a w := by
  -- what lies where
  have hn : ∀ n o, nw = some (n, o) → g (.loc n) = undef ∧ h (.loc n) = none := fun n o e => R.free n (hnw n o e).1
  have gsm : ∀ j, (∀ n o, nw = some (n, o) → j ≠ .loc n) → swapG g i nw j = g j := by
    intro j hj
    unfold swapG
    split
    · rename_i n o
      simp [updG, hj n o rfl]
    · rfl
  have gne : ∀ j, g j ≠ undef → swapG g i nw j = g j := fun j hj => gsm j fun n o e hjn => hj (hjn ▸ (hn n o e).1)
  have cases_ : ∀ j o, swapH h i c nw j = some o → (∃ n, nw = some (n, o) ∧ j = .loc n ∧ o = ob ∧ swapG g i nw j = g i) ∨ (j = i ∧ o = .gone) ∨ (j ≠ i ∧ ∃ o0, h j = some o0 ∧ o = o0.sub i c ∧ swapG g i nw j = g j) := by
    intro j o hj
    have other : (∀ n o, nw = some (n, o) → j ≠ .loc n) → (if j = i then some AObj.gone else (h j).map (AObj.sub i c)) = some o → (j = i ∧ o = .gone) ∨ (j ≠ i ∧ ∃ o0, h j = some o0 ∧ o = o0.sub i c ∧ swapG g i nw j = g j) := by
      intro hj' hj
      split at hj
      · cases hj; exact .inl ⟨by assumption, rfl⟩
      · rename_i hne
        obtain ⟨o0, h1, h2⟩ := Option.map_eq_some_iff.1 hj
        exact .inr ⟨hne, o0, h1, h2.symm, gsm j hj'⟩
    unfold swapH at hj
    split at hj
    · rename_i n o'
      split at hj
      · rename_i hjn
        cases hj
        subst hjn
        exact .inl ⟨n, rfl, rfl, (hnw n _ rfl).2, by simp [swapG, updG]⟩
      · rename_i hjn
        exact .inr (other (by rintro n' o'' e; cases e; exact hjn) hj)
    · exact .inr (other (by rintro n' o'' e; cases e) hj)
  have hz1 : ∀ j o b p, swapH h i c nw j = some o → zone1 (swapG g i nw j) o b p → ∃ j' o', h j' = some o' ∧ zone1 (g j') o' b p ∧ (j' = j ∨ j' = i) := by
    intro j o b p hj hb
    rcases cases_ j o hj with ⟨n, _, _, rfl, hg⟩ | ⟨rfl, rfl⟩ | ⟨_, o0, h1, rfl, hg⟩
    · rw [hg] at hb
      exact ⟨i, _, hi, hb, .inr rfl⟩
    · exact hb.elim
    · rw [hg] at hb
      exact ⟨j, o0, h1, sub_zone.1 hb, .inl rfl⟩
  have hz : ∀ b o, zor (zone (swapG g i nw) (swapH h i c nw)) C.X b o → zor (zone g h) C.X b o := by
    rintro b p (⟨j, o, hj, hb⟩ | hx)
    · obtain ⟨j', o', h1, h2, _⟩ := hz1 j o b p hj hb
      exact .inl ⟨j', o', h1, h2⟩
    · exact .inr hx
  have hgone : nw = none → ∀ b o, Blk (g i) b → ¬ zor (zone (swapG g i nw) (swapH h i c nw)) C.X b o := by
    rintro e b p hb (⟨j, o, hj, h1⟩ | hx)
    · rcases cases_ j o hj with ⟨n, e', _⟩ | ⟨rfl, rfl⟩ | ⟨hne, o0, h2, rfl, hg⟩
      · rw [e] at e'; cases e'
      · exact h1.elim
      · rw [hg] at h1
        exact hne (R.heap.sep j i o0 ob b h2 hi (sub_zone.1 h1).obk (hob.obk hb))
    · exact R.heap.apart i _ b p hi (hob.obk hb) hx
  have E : Evo w (zor (zone g h) C.X) g h w (zor (zone (swapG g i nw) (swapH h i c nw)) C.X) (swapG g i nw) (swapH h i c nw) := by
    refine ⟨fun b o u hu hx => ⟨hu, fun hy => hx (hz b o hy)⟩, fun j b hb => gne j (by rw [hb]; simp [undef]), fun j q hq => gne j (by rw [hq]; simp [undef]), fun j hj => ?_, fun j k sz e hj hk => ?_, fun j hj => ?_, fun j hj hl => ?_⟩
    · rw [gne j (fun e => by rw [e] at hj; exact hj)]; exact hj
    · have e1 := gne j (fun e => by rw [e] at hj; exact hj)
      rcases cases_ j _ hk with ⟨n, e', rfl, _, _⟩ | ⟨_, h2⟩ | ⟨_, o0, h2, h3, _⟩
      · rw [(hn n _ e').1] at hj; exact hj.elim
      · cases h2
      · cases o0 <;> simp [AObj.sub] at h3
        obtain ⟨rfl, rfl, rfl⟩ := h3
        exact ⟨_, Nat.le_refl _, h2, fun _ => e1⟩
    · rw [gne j (fun e => isTu_undef (e ▸ hj))]; exact hj
    · refine ⟨?_, by rw [gne j (fun e => isTu_undef (e ▸ hj))]⟩
      cases ho : swapH h i c nw j with
      | none => rw [ho] at hl; cases hl
      | some o =>
        rw [ho] at hl
        rcases cases_ j o ho with ⟨n, e', rfl, _, _⟩ | ⟨_, rfl⟩ | ⟨_, o0, h2, rfl, _⟩
        · rw [(hn n _ e').1] at hj; exact (isTu_undef hj).elim
        · cases hl
        · rw [h2, ← sub_live (i := i) (c := c)]; exact hl
  have hcc := hc hz hgone
  have objs : ∀ j o, swapH h i c nw j = some o → RelObj w (zor (zone (swapG g i nw) (swapH h i c nw)) C.X) (swapG g i nw) (swapH h i c nw) o (swapG g i nw j) := by
    intro j o hj
    rcases cases_ j o hj with ⟨n, _, _, rfl, hg⟩ | ⟨rfl, rfl⟩ | ⟨_, o0, h1, rfl, hg⟩
    · rw [hg]
      exact (R.heap.objs i _ hi).evo E fun _ _ => rfl
    · trivial
    · rw [hg]
      cases o0 with
      | cells cs =>
        obtain ⟨b, cc, e, h2, h3, h4, h5⟩ := R.heap.objs j _ h1
        refine ⟨b, cc, e, h2, h3, by rw [subs_eq]; simpa using h4, fun q x u hx hu => ?_⟩
        rw [subs_eq, List.getElem?_map, Option.map_eq_some_iff] at hx
        obtain ⟨y, hy, rfl⟩ := hx
        exact relC_sub E.relC hcc (h5 q y u hy hu)
      | _ => exact (R.heap.objs j _ h1).evo E fun _ _ => rfl
  have hsep : ∀ j j' oi oj b, swapH h i c nw j = some oi → swapH h i c nw j' = some oj → Obk (swapG g i nw j) oi b → Obk (swapG g i nw j') oj b → j = j' := by
    intro j j' oi oj b h1 h2 h3 h4
    rcases cases_ j oi h1 with ⟨n, e, rfl, rfl, hg⟩ | ⟨rfl, rfl⟩ | ⟨hne, o0, h5, rfl, hg⟩
    · rcases cases_ j' oj h2 with ⟨n', e', rfl, _, _⟩ | ⟨rfl, rfl⟩ | ⟨hne', o0', h5', rfl, hg'⟩
      · rw [e] at e'; cases e'; rfl
      · exact h4.elim
      · rw [hg] at h3
        rw [hg'] at h4
        exact absurd (R.heap.sep i j' _ _ b hi h5' h3 (sub_obk.1 h4)).symm hne'
    · exact h3.elim
    · rw [hg] at h3
      rcases cases_ j' oj h2 with ⟨n', e', rfl, rfl, hg'⟩ | ⟨rfl, rfl⟩ | ⟨hne', o0', h5', rfl, hg'⟩
      · rw [hg'] at h4
        exact absurd (R.heap.sep j i _ _ b h5 hi (sub_obk.1 h3) h4) hne
      · exact h4.elim
      · rw [hg'] at h4
        exact R.heap.sep j j' _ _ b h5 h5' (sub_obk.1 h3) (sub_obk.1 h4)
  have RS := R.step (F' := F') (fun _ => True) E ⟨rfl, rfl, rfl, Nat.le_refl _, fun _ _ _ => rfl, fun _ _ _ hu _ => hu⟩ (fun j hj => absurd trivial hj) (fun _ _ _ hj => absurd trivial hj) (fun j o _ hj => objs j o hj)
    (fun j o b p _ hj hb => let ⟨j', o', h1, h2, _⟩ := hz1 j o b p hj hb; .inl ⟨j', o', trivial, h1, h2⟩) (fun j j' oi oj b _ _ h1 h2 h3 h4 => hsep j j' oi oj b h1 h2 h3 h4) (fun j _ => by rw [gsm (.ext j) (by rintro n o _ e; cases e)]; exact .refl _)
    (fun k hk => by
      obtain ⟨h1, h2⟩ := hF k hk
      obtain ⟨h3, h4⟩ := R.free k h1
      have hne : ∀ n o, nw = some (n, o) → Id.loc k ≠ .loc n := fun n o e h => h2 n o e (by cases h; rfl)
      refine ⟨(gsm _ hne).trans h3, ?_⟩
      cases ho : swapH h i c nw (.loc k) with
      | none => rfl
      | some o =>
        rcases cases_ _ o ho with ⟨n, e, e', _⟩ | ⟨e, _⟩ | ⟨_, o0, h5, _⟩
        · exact absurd e' (hne n _ e)
        · rw [← e, h4] at hi; cases hi
        · rw [h4] at h5; cases h5)
  exact { RS with slots := fun t => relAV_sub E.relC E.relD hcc (R.slots t) }

def subSl (i : Id) (c : CV) : List (Nat × AV) → List (Nat × AV)
  | [] => []
  | (t, v) :: r => (t, v.sub i c) :: subSl i c r
def subHp (i : Id) (c : CV) : List (Id × AObj) → List (Id × AObj)
  | [] => []
  | (j, o) :: r => (j, o.sub i c) :: subHp i c r
theorem getS_subSl {i : Id} {c : CV} : ∀ {l : List (Nat × AV)} {t : Nat}, getS (subSl i c l) t = (getS l t).sub i c
  | [], t => rfl
  | (k, v) :: r, t => by
    show (match Nat.beq k t with | true => v.sub i c | false => getS (subSl i c r) t) = (match Nat.beq k t with | true => v | false => getS r t).sub i c
    cases Nat.beq k t with
    | true => rfl
    | false => exact getS_subSl
theorem getH_subHp {i : Id} {c : CV} : ∀ {l : List (Id × AObj)} {j : Id}, getH (subHp i c l) j = (getH l j).map (AObj.sub i c)
  | [], j => rfl
  | (k, v) :: r, j => by
    show (match Id.beq k j with | true => some (v.sub i c) | false => getH (subHp i c r) j) = (match Id.beq k j with | true => some v | false => getH r j).map (AObj.sub i c)
    cases Id.beq k j with
    | true => rfl
    | false => exact getH_subHp
def fzSt (i : Id) (x : D) (σ : St) : St := ⟨subSl i (.d x) σ.slots, setH (subHp i (.d x) σ.heap) i .gone, σ.next⟩
def mvSt (i : Id) (o : AObj) (σ : St) : St := ⟨subSl i (.ow (.loc σ.next)) σ.slots, setH (setH (subHp i (.ow (.loc σ.next)) σ.heap) i .gone) (.loc σ.next) o, σ.next + 32⟩

theorem weak_swap {σ : St} {i : Id} {x : D} {ob : AObj} (hi : getH σ.heap i = some ob) (hob : wholeO ob)
    (hr : ∀ {C : Cx} {g : Ghost} {w : World}, RelH w C.X g (getH σ.heap) → (∀ b o, zor (zone g (swapH (getH σ.heap) i (.d x) none)) C.X b o → zor (zone g (getH σ.heap)) C.X b o) → (∀ b o, Blk (g i) b → ¬ zor (zone g (swapH (getH σ.heap) i (.d x) none)) C.X b o) →
      ∀ y v, isM i (.d x) y → RelC w (zor (zone g (getH σ.heap)) C.X) g (getH σ.heap) y v → RelD w (zor (zone g (swapH (getH σ.heap) i (.d x) none)) C.X) x v ∧ x.isAgg = false) : Weak σ (fzSt i x σ) := by
  rintro C a w ⟨g, R⟩
  have R2 := R.swap (F' := fun n => σ.next ≤ n) hi hob (c := .d x) (nw := none) (fun _ _ e => by cases e) (fun k hk => ⟨hk, fun _ _ e => by cases e⟩) (fun hz hg y v hm r => hr R.heap hz (hg rfl) y v hm r)
  refine ⟨g, ?_⟩
  have e1 : getS (fzSt i x σ).slots = fun t => (getS σ.slots t).sub i (.d x) := by funext t; exact getS_subSl
  have e2 : getH (fzSt i x σ).heap = swapH (getH σ.heap) i (.d x) none := by
    funext j
    show getH (setH (subHp i (.d x) σ.heap) i .gone) j = _
    rw [getH_setH]
    simp only [updO, swapH, getH_subHp]
  show RelS C (fun n => σ.next ≤ n) (getS (fzSt i x σ).slots) (getH (fzSt i x σ).heap) g a w
  rw [e1, e2]
  exact R2
theorem weak_freeze {σ : St} {i : Id} {kd : Kd} {ag : Bool} {sz : Nat} {rows : List D} (hi : getH σ.heap i = some (.tree kd ag sz rows none)) (hk : kd = .row ∨ kd = .flat) : Weak σ (fzSt i (.list ag sz rows) σ) := by
  refine weak_swap hi trivial fun RH hz hg y v hm r => ⟨?_, rfl⟩
  rename_i C g w
  have ho := RH.objs i _ hi
  have hv : v = gval (g i) := by
    cases y <;> first | exact (hm : False).elim | skip
    · rename_i j n
      obtain ⟨rfl, _⟩ := hm
      obtain ⟨⟨b, hb⟩, _⟩ := r
      obtain ⟨vs, _, h1, _⟩ := ho.1
      rw [hb] at h1; cases h1
    · rename_i j
      obtain rfl : j = i := hm
      exact r.2.2 (by rw [hi]; rfl)
  rw [hv]
  obtain ⟨ht, h0, hf, xs, hx, _, U, T, h1, h2, h3, h4, h5⟩ := ho
  rcases hk with rfl | rfl
  · exact ((tree_iff (show conD .row ag sz rows = some (.list ag sz rows) from rfl)).1 (RH.objs i _ hi)).2.toD hg
  · obtain ⟨e, hl, hx⟩ := hx
    rcases hx with ⟨hv, hn⟩ | ⟨q, cap, cur, hv, _, hh, hnc, hcm, hcs, htake⟩
    · have : rows = [] := List.eq_nil_of_length_eq_zero hn
      subst this
      rw [hv]
      exact .list ag sz [] none 0 0 0 (fun _ _ => undef) (Nat.le_refl _) (Nat.zero_le _) (by simp) (by simp) (by simp) (by simp)
    · rw [hv]
      refine .list ag sz rows _ cap q 0 U hnc hcm hf (fun _ => rfl) (fun k r j c hr hc => ?_) (fun k r j c hr hc => ?_)
      · obtain ⟨p1, _⟩ := h1 k r j c (fun _ _ h => by cases h) hr hc
        refine ⟨?_, fun hz' => hg q _ ((h5 q).2 (.inl (by rw [hv]; rfl))) hz'⟩
        rw [← htake, List.getElem?_take] at p1
        split at p1
        · rw [Nat.zero_add]
          simpa [World.cell?, hh] using p1
        · cases p1
      · obtain ⟨_, p2⟩ := h1 k r j c (fun _ _ h => by cases h) hr hc
        exact (((RelK.fz rfl).1 p2).1.1).mono fun b o u hu hn => ⟨hu, fun hz' => hn (hz b o hz')⟩
theorem weak_move {σ : St} {i : Id} {kd : Kd} {ag : Bool} {sz : Nat} {rows : List D} (hi : getH σ.heap i = some (.tree kd ag sz rows none)) : Weak σ (mvSt i (.tree kd ag sz rows none) σ) := by
  rintro C a w ⟨g, R⟩
  have hn := R.free σ.next (Nat.le_refl _)
  have R2 := R.swap (F' := fun n => σ.next + 32 ≤ n) hi trivial (c := .ow (.loc σ.next)) (nw := some (σ.next, .tree kd ag sz rows none)) (fun _ _ e => by cases e; exact ⟨Nat.le_refl _, rfl⟩) (fun k hk => ⟨by omega, fun _ _ e => by cases e; omega⟩) (fun hz hg y v hm r => by
    have ho := R.heap.objs i _ hi
    have hv : v.oneCell' = true ∧ v = gval (g i) := by
      cases y <;> first | exact (hm : False).elim | skip
      · rename_i j n
        obtain ⟨rfl, _⟩ := hm
        obtain ⟨⟨b, hb⟩, _⟩ := r
        obtain ⟨vs, _, h1, _⟩ := ho.1
        rw [hb] at h1; cases h1
      · rename_i j
        obtain rfl : j = i := hm
        exact ⟨r.1, r.2.2 (by rw [hi]; rfl)⟩
    have e : swapG g i (some (σ.next, .tree kd ag sz rows none)) (.loc σ.next) = g i := by simp [swapG, updG]
    refine ⟨hv.1, by rw [e]; exact ho.1, fun _ => by rw [e]; exact hv.2⟩)
  refine ⟨swapG g i (some (σ.next, .tree kd ag sz rows none)), ?_⟩
  have e1 : getS (mvSt i (.tree kd ag sz rows none) σ).slots = fun t => (getS σ.slots t).sub i (.ow (.loc σ.next)) := by funext t; exact getS_subSl
  have e2 : getH (mvSt i (.tree kd ag sz rows none) σ).heap = swapH (getH σ.heap) i (.ow (.loc σ.next)) (some (σ.next, .tree kd ag sz rows none)) := by
    funext j
    show getH (setH (setH (subHp i (.ow (.loc σ.next)) σ.heap) i .gone) (.loc σ.next) (.tree kd ag sz rows none)) j = _
    rw [getH_setH, getH_setH]
    simp only [updO, swapH, getH_subHp]
  show RelS C (fun n => σ.next + 32 ≤ n) (getS (mvSt i (.tree kd ag sz rows none) σ).slots) (getH (mvSt i (.tree kd ag sz rows none) σ).heap) _ a w
  rw [e1, e2]
  exact R2
def datas : List CV → Option (List D)
  | [] => some []
  | x :: r => match x with
    | .d d => match datas r with
      | some l => some (d :: l)
      | none => none
    | .nils ag sz => match datas r with
      | some l => some (.list ag sz [] :: l)
      | none => none
    | _ => none
theorem datas_rel {w : World} {Z : Zone} {g : Ghost} {h : Heap} : ∀ {cs : List CV} {ds : List D}, datas cs = some ds → ds.length = cs.length ∧ ∀ (j : Nat) c d v, cs[j]? = some c → ds[j]? = some d → RelC w Z g h c v → RelD w Z d v ∧ d.isAgg = false
  | [], ds, h => by cases h; simp
  | x :: r, ds, h => by
    unfold datas at h
    split at h
    · split at h
      · rename_i d _ l hl
        cases h
        obtain ⟨h1, h2⟩ := datas_rel (w := w) (Z := Z) (g := g) (h := ‹Heap›) hl
        refine ⟨by simp [h1], fun j c d v hc hd hr => ?_⟩
        match j with
        | 0 => simp at hc hd; subst hc; subst hd; exact hr
        | j + 1 => exact h2 j c d v (by simpa using hc) (by simpa using hd) hr
      · cases h
    · split at h
      · rename_i ag sz _ l hl
        cases h
        obtain ⟨h1, h2⟩ := datas_rel (w := w) (Z := Z) (g := g) (h := ‹Heap›) hl
        refine ⟨by simp [h1], fun j c d v hc hd hr => ?_⟩
        match j with
        | 0 =>
          simp at hc hd; subst hc; subst hd
          rw [show v = _ from hr]
          exact ⟨relD_nil _ _, rfl⟩
        | j + 1 => exact h2 j c d v (by simpa using hc) (by simpa using hd) hr
      · cases h
    · cases h
theorem weak_freezeC {σ : St} {i : Id} {cs : List CV} {ds : List D} {ag : Bool} {sz n : Nat} (hi : getH σ.heap i = some (.cells cs)) (hd : datas cs = some ds) (hn : n * sz = ds.length) (hsz : 0 < sz) (hag : ag = false → sz = 1) (hm0 : n ≤ maxLen) :
    Weak σ (fzSt i (.list ag sz (rowsOf ag sz n ds)) σ) := by
  refine weak_swap hi trivial fun RH hz hg y v hm r => ⟨?_, rfl⟩
  rename_i C g w
  obtain ⟨b, c, e, hb, hh, hs, hr⟩ := RH.objs i _ hi
  obtain ⟨hl, hrel⟩ := datas_rel (w := w) (Z := zor (zone g (getH σ.heap)) C.X) (g := g) (h := getH σ.heap) hd
  have hv : v = .slice (some ⟨b, 0, none⟩) (rowsOf ag sz n ds).length n := by
    cases y <;> first | exact (hm : False).elim | skip
    · rename_i j n'
      obtain ⟨rfl, ag', sz', rows', e1, e2⟩ := hm
      cases e1
      rw [rowsOf_len] at e2 ⊢
      subst e2
      obtain ⟨_, h2⟩ := r
      rw [hb] at h2
      exact h2
    · rename_i j
      obtain rfl : j = i := hm
      obtain ⟨vs, _, h1, _⟩ := r.2.1
      rw [hb] at h1; cases h1
  rw [hv]
  -- a row's cells
  have row : ∀ (k : Nat) x, (rowsOf ag sz n ds)[k]? = some x → k < n ∧ x.cells = (ds.drop (k * sz)).take sz ∧ x.isAgg = ag ∧ ((ds.drop (k * sz)).take sz).length = sz ∧ ∀ d ∈ (ds.drop (k * sz)).take sz, d.isAgg = false := by
    intro k x hx
    obtain ⟨hk, rfl⟩ := rowsOf_get hx
    have hlen : ((ds.drop (k * sz)).take sz).length = sz := by
      rw [List.length_take, List.length_drop]
      have := Nat.mul_le_mul_right sz (show k + 1 ≤ n from hk)
      rw [Nat.add_mul] at this
      omega
    have hno : ∀ d ∈ (ds.drop (k * sz)).take sz, d.isAgg = false := by
      intro d hd'
      have hmem : d ∈ ds := List.mem_of_mem_drop (List.mem_of_mem_take hd')
      obtain ⟨q, hq⟩ := List.mem_iff_getElem?.1 hmem
      have hlt := (List.getElem?_eq_some_iff.1 hq).1
      have hq' : q < cs.length := by omega
      have hqc : q < c.size := by omega
      exact (hrel q cs[q] d c[q] (List.getElem?_eq_getElem hq') hq (hr q cs[q] c[q] (List.getElem?_eq_getElem hq') (by simp [hqc]))).2
    obtain ⟨r1, r2⟩ := rowOf_cells hno (fun e => by rw [hlen]; exact hag e)
    exact ⟨hk, r1, r2, hlen, hno⟩
  have cell : ∀ (k : Nat) x (j : Nat) d, (rowsOf ag sz n ds)[k]? = some x → x.cells[j]? = some d → ∃ u, c[k * sz + j]? = some u ∧ RelD w (zor (zone g (getH σ.heap)) C.X) d u := by
    intro k x j d hx hj
    obtain ⟨hk, r1, _, r4, _⟩ := row k x hx
    rw [r1, List.getElem?_take] at hj
    split at hj
    · rename_i hjs
      rw [List.getElem?_drop] at hj
      have hlt := (List.getElem?_eq_some_iff.1 hj).1
      have hq' : k * sz + j < cs.length := by omega
      have hqc : k * sz + j < c.size := by omega
      exact ⟨c[k * sz + j], by simp [hqc], (hrel _ cs[k * sz + j] d c[k * sz + j] (List.getElem?_eq_getElem hq') hj (hr _ cs[k * sz + j] c[k * sz + j] (List.getElem?_eq_getElem hq') (by simp [hqc]))).1⟩
    · cases hj
  refine .list ag sz (rowsOf ag sz n ds) _ n b 0 (fun k j => c.getD (k * sz + j) undef) (by rw [rowsOf_len]; exact Nat.le_refl _) hm0 (fun x hx => ?_) (fun _ => rfl) (fun k x j d hx hj => ?_) (fun k x j d hx hj => ?_)
  · obtain ⟨k, hk⟩ := List.mem_iff_getElem?.1 hx
    obtain ⟨_, r1, r2, r4, r5⟩ := row k x hk
    exact ⟨r2, by rw [r1]; exact r4, by rw [r1]; exact r5⟩
  · obtain ⟨u, hu, _⟩ := cell k x j d hx hj
    refine ⟨?_, fun hz' => hg b _ (by rw [hb]; exact .inl rfl) hz'⟩
    rw [Nat.zero_add]
    simp [World.cell?, hh, hu]
  · obtain ⟨u, hu, hrd⟩ := cell k x j d hx hj
    rw [show c.getD (k * sz + j) undef = u by simp [hu]]
    exact hrd.mono fun b o u hu hn => ⟨hu, fun hz' => hn (hz b o hz')⟩
end
end Go.AM

namespace Go.AM
open Go Go.RowKit

theorem RelS.tree0 {C : Cx} {F : Nat → Prop} {s : Slots} {h : Heap} {g : Ghost} {a : Act} {w : World} (R : RelS C F s h g a w) {n : Nat} (hf : F n) (ag : Bool) {sz : Nat} (hsz : 0 < sz) :
    ∃ g', RelS C (fun k => F k ∧ k ≠ n) s (updO h (.loc n) (.tree .row ag sz [] none)) g' a w ∧ RelC w (zor (zone g' (updO h (.loc n) (.tree .row ag sz [] none))) C.X) g' (updO h (.loc n) (.tree .row ag sz [] none)) (.ow (.loc n)) (.slice none 0 0) :=
  R.treeOf (T0 := []) (by simp) hf ⟨rfl, rfl, rfl, Nat.le_refl _⟩ (fun _ _ _ => rfl) hsz (⟨0, World.ownsRow_nil w 0 0 sz⟩ : Holds w .row sz (.slice none 0 0) ([] : List D).length []) (OwnR.nil w ag sz) (fun b hb => hb.elim) (by simp [blk]) (by simp)

def treeSlot (t : Nat) (ag : Bool) (sz : Nat) (σ : St) : St :=
  ⟨(t, .v (.c (.ow (.loc σ.next)))) :: σ.slots, setH σ.heap (.loc σ.next) (.tree .row ag sz [] none), σ.next + 32⟩
theorem weak_treeSlot {t : Nat} {ag : Bool} {sz : Nat} {σ : St} (hsz : Nat.blt 0 sz = true) (ht : getS σ.slots t = .v (.c (.nils ag sz))) : Weak σ (treeSlot t ag sz σ) := by
  rintro C a w ⟨g, R⟩
  have hv := R.slots t
  rw [ht] at hv
  have hv : a.tmps.getD t undef = .slice none 0 0 := hv
  obtain ⟨g', R', hl⟩ := R.tree0 (n := σ.next) (Nat.le_refl _) ag (sz := sz) (by simp [Nat.blt] at hsz; omega)
  have R2 := (R'.reslot t (.v (.c (.ow (.loc σ.next)))) (by rw [hv]; exact hl)).free_mono (F' := fun n => σ.next + 32 ≤ n) (fun n hn => ⟨by omega, by omega⟩)
  refine ⟨g', ?_⟩
  simp only [treeSlot, getS_cons, getH_setH]
  exact R2
def treeCell (i : Id) (j : Nat) (ag : Bool) (sz : Nat) (σ : St) : St :=
  match getH σ.heap i with
  | some (.cells cs) => ⟨σ.slots, setH (setH σ.heap (.loc σ.next) (.tree .row ag sz [] none)) i (.cells (setNth cs j (.ow (.loc σ.next)))), σ.next + 32⟩
  | _ => σ
theorem weak_treeCell {i : Id} {j : Nat} {ag : Bool} {sz : Nat} {σ : St} {cs : List CV} (hsz : Nat.blt 0 sz = true) (hi : getH σ.heap i = some (.cells cs)) (hj : cs[j]? = some (.nils ag sz)) : Weak σ (treeCell i j ag sz σ) := by
  rintro C a w ⟨g, R⟩
  obtain ⟨g', R', hl⟩ := R.tree0 (n := σ.next) (Nat.le_refl _) ag (sz := sz) (by simp [Nat.blt] at hsz; omega)
  have hne : i ≠ .loc σ.next := by
    rintro rfl
    have := (R.free σ.next (Nat.le_refl _)).2
    rw [this] at hi; cases hi
  have hi' : updO (getH σ.heap) (.loc σ.next) (.tree .row ag sz [] none) i = some (.cells cs) := by simp [updO, hne, hi]
  obtain ⟨b, c, et, hb, hh, hsz2, hr⟩ := R'.heap.objs i _ hi'
  have R2 := R'.store (cs' := cs.set j (.ow (.loc σ.next))) hi' hb hh (c' := c) (by simp [hsz2]) (fun k x u hx hu => by
    by_cases hk : k = j
    · subst hk
      have hlt : k < cs.length := (List.getElem?_eq_some_iff.1 hj).1
      rw [List.getElem?_set_self hlt] at hx
      cases hx
      have := hr k _ u hj hu
      rw [show u = _ from this]
      exact hl
    · rw [List.getElem?_set_ne (by omega)] at hx
      exact hr k x u hx hu)
  have hw : w.setRow b c = w := setRow_self w b c _ _ hh
  rw [hw] at R2
  have R3 := R2.free_mono (F' := fun n => σ.next + 32 ≤ n) (fun n hn => ⟨by omega, by omega⟩)
  refine ⟨g', ?_⟩
  simp only [treeCell, hi, getH_setH, setNth_eq]
  exact R3

theorem RelS.flatten {C : Cx} {F : Nat → Prop} {s : Slots} {h : Heap} {g : Ghost} {a : Act} {w : World} (R : RelS C F s h g a w) {i : Id} {ag : Bool} {sz : Nat} {rows : List D} (hi : h i = some (.tree .row ag sz rows none)) :
    ∃ g', RelS C F s (updO h i (.tree .flat ag sz rows none)) g' a w := by
  obtain ⟨ht, h0, hf, xs, hx, _, U, T, h1, h2, h3, h4, h5⟩ := R.heap.objs i _ hi
  obtain ⟨gv, gt, gg, gb⟩ := mkTu (gval (g i)) (blk (gval (g i))).toList (fun b => blk (gval (g i)) = some b) (fun b hb => by simp [hb])
  have hsub : ∀ b, Blk gv b → Blk (g i) b := fun b hb => (h5 b).2 (.inl ((gb b).1 hb))
  have hX : ∀ b o, Blk (g i) b → ¬ Blk gv b → ¬ zor (zone (updG g i gv) (updO h i (.tree .flat ag sz rows none))) C.X b o := by
    rintro b o hb hnb (⟨j, ob, hj, h6⟩ | hx)
    · by_cases hji : j = i
      · subst hji
        simp only [updO, if_pos, Option.some.injEq] at hj
        subst hj
        have h6 : Blk (updG g j gv j) b := h6
        simp only [updG, if_pos] at h6
        exact hnb h6
      · simp only [updO, if_neg hji] at hj
        simp only [updG, if_neg hji] at h6
        exact hji (R.heap.sep j i ob _ b hj hi h6.obk hb)
    · exact R.heap.apart i _ b o hi hb hx
  refine ⟨updG g i gv, R.regroup (fun j => j = i) (fun j hj => by simp [updO, updG, hj]) ?_ ?_ ?_ ?_ ?_ ?_ ?_ ?_⟩
  · rintro j rfl
    exact .inr (.inl ⟨ht, by simpa [updG] using gt, by simp [updG, gg]⟩)
  · rintro j rfl _ _
    rw [hi]; rfl
  · rintro j ob rfl ho
    simp only [updO, if_pos, Option.some.injEq] at ho
    exact .inl ⟨_, _, _, _, _, ho.symm⟩
  · rintro j o rfl ho EC ED
    simp only [updO, if_pos, Option.some.injEq] at ho
    subst ho
    have e1 : updG g j gv j = gv := by simp [updG]
    rw [e1]
    refine flat_to gt h0 hf (xs := xs) (by rw [gg]; exact hx) (fun k r q c hr hc => ?_) (fun b => by rw [gb, gg])
    obtain ⟨p1, p2⟩ := h1 k r q c (fun _ _ h => by cases h) hr hc
    refine ⟨_, p1, ((RelK.own rfl).1 p2).toD fun b o hb => hX b o ((h5 b).2 (.inr ⟨k, q, hb⟩)) fun hb' => h3 k q b hb ((gb b).1 hb')⟩
  · rintro j ob b rfl ho hb
    simp only [updO, if_pos, Option.some.injEq] at ho
    subst ho
    have hb : Blk (updG g j gv j) b := hb
    simp only [updG, if_pos] at hb
    exact ⟨j, _, rfl, hi, fun o => hsub b hb⟩
  · rintro j k _ _ _ rfl rfl _ _ _ _
    rfl
  · rintro j rfl
    exact .inr ⟨ht, by simpa [updG] using gt, by simp [updG, gg]⟩
  · intro n hn
    have := R.free n hn
    have hne : Id.loc n ≠ i := by rintro rfl; rw [this.2] at hi; cases hi
    exact ⟨by simp [updG, hne, this.1], by simp [updO, hne, this.2]⟩
theorem weak_flatten {σ : St} {i : Id} {ag : Bool} {sz : Nat} {rows : List D} (hi : getH σ.heap i = some (.tree .row ag sz rows none)) : Weak σ ⟨σ.slots, setH σ.heap i (.tree .flat ag sz rows none), σ.next⟩ := by
  rintro C a w ⟨g, R⟩
  obtain ⟨g', R'⟩ := R.flatten hi
  refine ⟨g', ?_⟩
  rw [getH_setH]
  exact R'

theorem RelS.drop {C : Cx} {F : Nat → Prop} {s : Slots} {h : Heap} {g : Ghost} {a : Act} {w : World} (R : RelS C F s h g a w) {i : Id} {ob : AObj} (hi : h i = some ob) : RelS C F s (updO h i .gone) g a w := by
  refine R.regroup (fun j => j = i) (fun j hj => by simp [updO, hj]) ?_ ?_ ?_ ?_ ?_ ?_ ?_ ?_
  · rintro j rfl
    exact .inl rfl
  · rintro j rfl _ hl
    simp [updO, isLive] at hl
  · rintro j ob' rfl ho
    simp [updO] at ho
    exact .inr ho.symm
  · rintro j o rfl ho _ _
    simp [updO] at ho
    subst ho
    trivial
  · rintro j ob' b rfl ho hb
    simp [updO] at ho
    subst ho
    exact hb.elim
  · rintro j k _ _ _ rfl rfl _ _ _ _
    rfl
  · intro j _
    exact .refl _
  · intro n hn
    have := R.free n hn
    have hne : Id.loc n ≠ i := by rintro rfl; rw [this.2] at hi; cases hi
    exact ⟨this.1, by simp [updO, hne, this.2]⟩
theorem weak_drop {σ : St} {i : Id} {ob : AObj} (hi : getH σ.heap i = some ob) : Weak σ ⟨σ.slots, setH σ.heap i .gone, σ.next⟩ := by
  rintro C a w ⟨g, R⟩
  refine ⟨g, ?_⟩
  rw [getH_setH]
  exact R.drop hi

def treeArr (t : Nat) (cs : List CV) (j : Nat) (ag : Bool) (sz : Nat) (σ : St) : St :=
  ⟨(t, .v (.agg (setNth cs j (.ow (.loc σ.next))))) :: σ.slots, setH σ.heap (.loc σ.next) (.tree .row ag sz [] none), σ.next + 32⟩
theorem weak_treeArr {t j : Nat} {cs : List CV} {ag : Bool} {sz : Nat} {σ : St} (hsz : Nat.blt 0 sz = true) (ht : getS σ.slots t = .v (.agg cs)) (hj : cs[j]? = some (.nils ag sz)) : Weak σ (treeArr t cs j ag sz σ) := by
  rintro C a w ⟨g, R⟩
  obtain ⟨g', R', hl⟩ := R.tree0 (n := σ.next) (Nat.le_refl _) ag (sz := sz) (by simp [Nat.blt] at hsz; omega)
  have hv := R'.slots t
  rw [ht] at hv
  obtain ⟨vs, hvs, hsz2, hr⟩ := hv
  have R2 := (R'.reslot t (.v (.agg (cs.set j (.ow (.loc σ.next))))) (by
    refine ⟨vs, hvs, by simp [hsz2], fun k x u hx hu => ?_⟩
    by_cases hk : k = j
    · subst hk
      have hlt : k < cs.length := (List.getElem?_eq_some_iff.1 hj).1
      rw [List.getElem?_set_self hlt] at hx
      cases hx
      have := hr k _ u hj hu
      rw [show u = _ from this]
      exact hl
    · rw [List.getElem?_set_ne (by omega)] at hx
      exact hr k x u hx hu)).free_mono (F' := fun n => σ.next + 32 ≤ n) (fun n hn => ⟨by omega, by omega⟩)
  refine ⟨g', ?_⟩
  simp only [treeArr, getS_cons, getH_setH, setNth_eq]
  exact R2

inductive Gh where
  | drop (i : Id)
  | treeA (t j : Nat) (ag : Bool) (sz : Nat)
  | flatten (i : Id)
  | close (i : Id)
  | treeS (t : Nat) (ag : Bool) (sz : Nat)
  | treeC (i : Id) (j : Nat) (ag : Bool) (sz : Nat)
  | tokS (t : Nat) (ag : Bool) (sz : Nat) (e : TypeId)
  | tokC (i : Id) (j : Nat) (ag : Bool) (sz : Nat) (e : TypeId)
  | freeze (i : Id)
  | move (i : Id)
  | freezeC (i : Id) (ag : Bool) (sz n : Nat)
def isRF : Kd → Bool
  | .row => true
  | .flat => true
  | _ => false
def gh : List Gh → St → (St → Prop) → Prop
  | [], σ, K => K σ
  | x :: r, σ, K => match x with
    | .close i => closes (getH σ.heap) [i] fun _ _ wr => gh r ⟨σ.slots, setW σ.heap wr, σ.next⟩ K
    | .treeS t ag sz => req (Nat.blt 0 sz) <| req (isNilsA ag sz (getS σ.slots t)) <| gh r (treeSlot t ag sz σ) K
    | .treeC i j ag sz => req (Nat.blt 0 sz) <| (match getH σ.heap i with
      | some (.cells cs) => req (isNils ag sz (nthC cs j)) <| gh r (treeCell i j ag sz σ) K
      | _ => False)
    | .tokS t ag sz e => req (Nat.blt 0 sz) <| req (isNilsA ag sz (getS σ.slots t)) <| gh r (tokSlot t ag sz e σ) K
    | .tokC i j ag sz e => req (Nat.blt 0 sz) <| (match getH σ.heap i with
      | some (.cells cs) => req (isNils ag sz (nthC cs j)) <| gh r (tokCell i j ag sz e σ) K
      | _ => False)
    | .freeze i => (match getH σ.heap i with
      | some (.tree kd ag sz rows foc) => (match foc with
        | none => req (isRF kd) <| gh r (fzSt i (.list ag sz rows) σ) K
        | some _ => False)
      | _ => False)
    | .drop i => (match getH σ.heap i with
      | some _ => gh r ⟨σ.slots, setH σ.heap i .gone, σ.next⟩ K
      | none => False)
    | .treeA t j ag sz => req (Nat.blt 0 sz) <| (match getS σ.slots t with
      | .v (.agg cs) => req (isNils ag sz (nthC cs j)) <| gh r (treeArr t cs j ag sz σ) K
      | _ => False)
    | .flatten i => (match getH σ.heap i with
      | some (.tree kd ag sz rows foc) => (match kd with
        | .row => (match foc with
          | none => gh r ⟨σ.slots, setH σ.heap i (.tree .flat ag sz rows none), σ.next⟩ K
          | some _ => False)
        | _ => False)
      | _ => False)
    | .move i => (match getH σ.heap i with
      | some (.tree kd ag sz rows foc) => (match foc with
        | none => gh r (mvSt i (.tree kd ag sz rows none) σ) K
        | some _ => False)
      | _ => False)
    | .freezeC i ag sz n => (match getH σ.heap i with
      | some (.cells cs) => (match datas cs with
        | some ds => req (Nat.beq (n * sz) ds.length) <| req (Nat.blt 0 sz) <| req (ag || Nat.beq sz 1) <| req (Nat.ble n maxLen) <| ∃ rows, rowsOf ag sz n ds = rows ∧ gh r (fzSt i (.list ag sz rows) σ) K
        | none => False)
      | _ => False)
theorem isNilsA_eq {ag : Bool} {sz : Nat} {x : AV} (h : isNilsA ag sz x = true) : x = .v (.c (.nils ag sz)) := by
  cases x with
  | v x => cases x with
    | c c => rw [isNils_eq h]
    | _ => simp [isNilsA] at h
  | _ => simp [isNilsA] at h
theorem gh_weak {K : St → Prop} : ∀ {l : List Gh} {σ : St}, gh l σ K → ∃ σ', Weak σ σ' ∧ K σ'
  | [], σ, h => ⟨σ, Weak.refl σ, h⟩
  | .close i :: r, σ, h => by
    simp only [gh, closes] at h
    split at h
    · rename_i kd ag sz rows k cs hi
      obtain ⟨hnf, h⟩ := req_iff.1 h
      obtain ⟨ds, iss, h, hdl, hol, hcl⟩ := closeC_ok h
      split at h
      · rename_i hnd
        split at h
        · rename_i hag
          obtain ⟨rows', hrows, h⟩ := h
          obtain ⟨σ', hw, hk⟩ := gh_weak h
          refine ⟨σ', Weak.trans (fun C a w R => ?_) hw, hk⟩
          obtain ⟨g, R⟩ := R
          obtain ⟨g', R'⟩ := R.closeT hi (notFlat_iff.1 hnf) hdl hol (nodupB_iff.1 hnd) (fun e => by rw [e] at hag; simpa using hag) hcl hrows
          refine ⟨g', ?_⟩
          simp only [getH_setW, List.append_nil]
          exact R'
        · exact h.elim
      · exact h.elim
    · exact h.elim
  | .treeS t ag sz :: r, σ, h => by
    obtain ⟨h1, h⟩ := req_iff.1 h
    obtain ⟨h2, h⟩ := req_iff.1 h
    obtain ⟨σ', h3, h4⟩ := gh_weak h
    exact ⟨σ', Weak.trans (weak_treeSlot h1 (isNilsA_eq h2)) h3, h4⟩
  | .treeC i j ag sz :: r, σ, h => by
    obtain ⟨h1, h⟩ := req_iff.1 h
    split at h
    · rename_i cs hi
      obtain ⟨h2, h⟩ := req_iff.1 h
      obtain ⟨σ', h3, h4⟩ := gh_weak h
      exact ⟨σ', Weak.trans (weak_treeCell h1 hi (nthC_get h2)) h3, h4⟩
    · exact h.elim
  | .tokS t ag sz e :: r, σ, h => by
    obtain ⟨h1, h⟩ := req_iff.1 h
    obtain ⟨h2, h⟩ := req_iff.1 h
    obtain ⟨σ', h3, h4⟩ := gh_weak h
    exact ⟨σ', Weak.trans (weak_tokSlot h1 (isNilsA_eq h2)) h3, h4⟩
  | .tokC i j ag sz e :: r, σ, h => by
    obtain ⟨h1, h⟩ := req_iff.1 h
    split at h
    · rename_i cs hi
      obtain ⟨h2, h⟩ := req_iff.1 h
      obtain ⟨σ', h3, h4⟩ := gh_weak h
      exact ⟨σ', Weak.trans (weak_tokCell h1 hi (nthC_get h2)) h3, h4⟩
    · exact h.elim
  | .freeze i :: r, σ, h => by
    simp only [gh] at h
    split at h
    · rename_i kd ag sz rows foc hi
      split at h
      · obtain ⟨h1, h⟩ := req_iff.1 h
        obtain ⟨σ', h3, h4⟩ := gh_weak h
        exact ⟨σ', Weak.trans (weak_freeze hi (by cases kd <;> simp [isRF] at h1 ⊢)) h3, h4⟩
      · exact h.elim
    · exact h.elim
  | .drop i :: r, σ, h => by
    simp only [gh] at h
    split at h
    · rename_i ob hi
      obtain ⟨σ', h3, h4⟩ := gh_weak h
      exact ⟨σ', Weak.trans (weak_drop hi) h3, h4⟩
    · exact h.elim
  | .treeA t j ag sz :: r, σ, h => by
    obtain ⟨h1, h⟩ := req_iff.1 h
    split at h
    · rename_i cs ht
      obtain ⟨h2, h⟩ := req_iff.1 h
      obtain ⟨σ', h3, h4⟩ := gh_weak h
      exact ⟨σ', Weak.trans (weak_treeArr h1 ht (nthC_get h2)) h3, h4⟩
    · exact h.elim
  | .flatten i :: r, σ, h => by
    simp only [gh] at h
    split at h
    · rename_i kd ag sz rows foc hi
      split at h
      · split at h
        · obtain ⟨σ', h3, h4⟩ := gh_weak h
          exact ⟨σ', Weak.trans (weak_flatten hi) h3, h4⟩
        · exact h.elim
      · exact h.elim
    · exact h.elim
  | .move i :: r, σ, h => by
    simp only [gh] at h
    split at h
    · rename_i kd ag sz rows foc hi
      split at h
      · obtain ⟨σ', h3, h4⟩ := gh_weak h
        exact ⟨σ', Weak.trans (weak_move hi) h3, h4⟩
      · exact h.elim
    · exact h.elim
  | .freezeC i ag sz n :: r, σ, h => by
    simp only [gh] at h
    split at h
    · rename_i cs hi
      split at h
      · rename_i ds hd
        obtain ⟨h1, h⟩ := req_iff.1 h
        obtain ⟨h2, h⟩ := req_iff.1 h
        obtain ⟨h5, h⟩ := req_iff.1 h
        obtain ⟨h6, rows, rfl, h⟩ := req_iff.1 h
        obtain ⟨σ', h3, h4⟩ := gh_weak h
        exact ⟨σ', Weak.trans (weak_freezeC hi hd (Nat.eq_of_beq_eq_true h1) (by simp [Nat.blt] at h2; omega) (fun e => by rw [e] at h5; simpa using h5) (Nat.le_of_ble_eq_true h6)) h3, h4⟩
      · exact h.elim
    · exact h.elim
end Go.AM

namespace Go.AM
open Go Go.RowKit

def slotsOf : List V1 → Nat → List (Nat × AV)
  | [], _ => []
  | x :: r, i => (i, .v x) :: slotsOf r (i + 1)
def extsOf : List AObj → Nat → List (Id × AObj)
  | [], _ => []
  | x :: r, i => (.ext i, x) :: extsOf r (i + 1)

theorem slotsOf_get : ∀ (l : List V1) (i t : Nat), getS (slotsOf l i) t = .u ∨ ∃ x, i ≤ t ∧ l[t - i]? = some x ∧ getS (slotsOf l i) t = .v x
  | [], i, t => .inl rfl
  | x :: r, i, t => by
    show getS ((i, .v x) :: slotsOf r (i + 1)) t = _ ∨ ∃ y, i ≤ t ∧ (x :: r)[t - i]? = some y ∧ getS ((i, .v x) :: slotsOf r (i + 1)) t = .v y
    rw [getS_cons]
    simp only []
    split
    · subst t; exact .inr ⟨x, Nat.le_refl _, by simp, rfl⟩
    · rcases slotsOf_get r (i + 1) t with h | ⟨y, h1, h2, h3⟩
      · exact .inl h
      · refine .inr ⟨y, by omega, ?_, h3⟩
        rw [show t - i = (t - (i + 1)) + 1 from by omega]
        simpa using h2
theorem extsOf_get : ∀ (l : List AObj) (i : Nat) (x : Id) (o : AObj), getH (extsOf l i) x = some o → ∃ j, x = .ext j ∧ i ≤ j ∧ l[j - i]? = some o
  | [], i, x, o, h => by simp [extsOf, getH] at h
  | y :: r, i, x, o, h => by
    rw [show extsOf (y :: r) i = (.ext i, y) :: extsOf r (i + 1) from rfl, getH_cons] at h
    simp only [updO] at h
    split at h
    · simp at h; subst h; subst x; exact ⟨i, rfl, Nat.le_refl _, by simp⟩
    · obtain ⟨j, h1, h2, h3⟩ := extsOf_get r (i + 1) x o h
      refine ⟨j, h1, by omega, ?_⟩
      rw [show j - i = (j - (i + 1)) + 1 from by omega]
      simpa using h3
theorem extsOf_ext : ∀ (l : List AObj) (i j : Nat), getH (extsOf l i) (.ext (i + j)) = l[j]?
  | [], i, j => by simp [extsOf, getH]
  | y :: r, i, j => by
    rw [show extsOf (y :: r) i = (.ext i, y) :: extsOf r (i + 1) from rfl, getH_cons]
    simp only [updO]
    cases j with
    | zero => simp
    | succ j =>
      rw [if_neg (by simp), show i + (j + 1) = i + 1 + j from by omega, extsOf_ext r (i + 1) j]
      simp

def withRes (ti : Types) (σ : St) : List ResultVar → (List V1 → Prop) → Prop
  | [], K => K []
  | .tmp t :: r, K => withV (getS σ.slots t) fun x => withRes ti σ r fun xs => K (x.norm :: xs)
  | .cell a t :: r, K => outLoad ti t (getS σ.slots a) (getH σ.heap) fun out => withV out.val fun x => withRes ti σ r fun xs => K (x.norm :: xs)

def mkRes : List V1 → AV
  | [x] => .v x
  | xs => .t xs

def renN (nm : List Id) (N : Nat) : Id → Id
  | .ext j => .ext j
  | .loc k => match nm[k]? with
    | some n => n
    | none => .loc N

def isGone : AObj → Bool
  | .gone => true
  | _ => false
theorem isGone_eq {o : AObj} (h : isGone o = true) : o = .gone := by cases o <;> first | rfl | simp [isGone] at h
def postOK (h : Heap) (r : Id → Id) : List AObj → Nat → Prop
  | [], _ => True
  | o :: l, j => match isGone o with
    | true => postOK h r l (j + 1)
    | false => h (.ext j) = some (o.ren r) ∧ postOK h r l (j + 1)
def newOK (h : Heap) (r : Id → Id) : List AObj → List Id → Prop
  | [], [] => True
  | o :: l, n :: nm => h n = some (o.ren r) ∧ newOK h r l nm
  | _, _ => False
def handOK (post : List AObj) : List Id → Prop
  | [] => True
  | .loc _ :: l => handOK post l
  | .ext j :: l => match post[j]? with
    | some o => match isGone o with
      | true => handOK post l
      | false => False
    | none => False

def Fin' (ti : Types) (rs : List ResultVar) (σ : St) (res : AV) (post new : List AObj) : Prop :=
  ∃ gs, gh gs σ fun σ => withRes ti σ rs fun xs => ∃ nm : List Id, nodupB nm = true ∧ mkRes xs = res.ren (renN nm σ.next) ∧ postOK (getH σ.heap) (renN nm σ.next) post 0 ∧ newOK (getH σ.heap) (renN nm σ.next) new nm ∧ handOK post nm

theorem postOK_get {h : Heap} {r : Id → Id} : ∀ {l : List AObj} {i j : Nat} {o : AObj}, postOK h r l i → l[j]? = some o → o = .gone ∨ h (.ext (i + j)) = some (o.ren r)
  | o :: l, i, 0, _, hp, hj => by
    simp at hj
    subst hj
    unfold postOK at hp
    split at hp
    · rename_i hg; exact .inl (isGone_eq hg)
    · exact .inr hp.1
  | o :: l, i, j + 1, _, hp, hj => by
    simp at hj
    have hp' : postOK h r l (i + 1) := by
      unfold postOK at hp
      split at hp
      · exact hp
      · exact hp.2
    have := postOK_get (j := j) hp' hj
    rw [show i + (j + 1) = i + 1 + j from by omega]
    exact this
theorem newOK_get {h : Heap} {r : Id → Id} : ∀ {l : List AObj} {nm : List Id} {j : Nat} {o : AObj}, newOK h r l nm → l[j]? = some o → ∃ n, nm[j]? = some n ∧ h n = some (o.ren r)
  | o :: l, n :: nm, 0, _, hp, hj => by simp at hj; subst hj; exact ⟨n, rfl, hp.1⟩
  | o :: l, n :: nm, j + 1, _, hp, hj => by
    simp at hj
    obtain ⟨m, h1, h2⟩ := newOK_get (j := j) hp.2 hj
    exact ⟨m, by simpa using h1, h2⟩
  | [], [], j, _, _, hj => by simp at hj
  | [], _ :: _, _, _, hp, _ => hp.elim
  | _ :: _, [], _, _, hp, _ => hp.elim
theorem newOK_len {h : Heap} {r : Id → Id} : ∀ {l : List AObj} {nm : List Id}, newOK h r l nm → nm.length = l.length
  | o :: l, n :: nm, hp => by simp [newOK_len hp.2]
  | [], [], _ => rfl
  | [], _ :: _, hp => hp.elim
  | _ :: _, [], hp => hp.elim
theorem handOK_get {post : List AObj} : ∀ {nm : List Id} {k j : Nat}, handOK post nm → nm[k]? = some (.ext j) → post[j]? = some .gone
  | [], k, j, _, h => by simp at h
  | n :: nm, 0, j, hp, h => by
    simp at h
    subst h
    simp only [handOK] at hp
    split at hp
    · rename_i o ho
      split at hp
      · rename_i hg; rw [ho, isGone_eq hg]
      · exact hp.elim
    · exact hp.elim
  | n :: nm, k + 1, j, hp, h => by
    simp at h
    refine handOK_get (k := k) ?_ h
    cases n with
    | loc => exact hp
    | ext i =>
      simp only [handOK] at hp
      split at hp
      · split at hp
        · exact hp
        · exact hp.elim
      · exact hp.elim

section
variable {C : Cx} {ti : Types} {σ : St} {g : Ghost} {a : Act} {w : World} {F : Nat → Prop}

theorem loadVal (hti : TIok C.P ti) (h1 : TIone ti) (R : RelS C F (getS σ.slots) (getH σ.heap) g a w) {p : Tmp} {t : TypeId} {k : Out → Prop}
    (hk : outLoad ti t (getS σ.slots p) (getH σ.heap) k) : ∃ out v ad, k out ∧ a.tmps.getD p undef = .pointer (some ad) ∧ (loadVar t ad).run C.P w = .ok v w ∧ RelAV w (zor (zone g (getH σ.heap)) C.X) g (getH σ.heap) out.val v := by
  obtain ⟨out, hko, _, H⟩ := load_core (C := C) hti h1 t _ hk
  obtain ⟨v, hv, hr⟩ := H F _ _ g a w _ R (R.slots p) (fun _ _ => rfl)
  refine ⟨out, v, ?_⟩
  revert hv
  generalize a.tmps.getD p undef = u
  intro hv
  cases u with
  | pointer ad =>
    cases ad with
    | none => simp [Instr.loadAt, Instr.sureAddr] at hv
    | some ad => exact ⟨ad, hko, rfl, by simpa [Instr.loadAt, Instr.sureAddr] using hv, hr⟩
  | _ => simp [Instr.loadAt, Instr.sureAddr] at hv

def oneRes (tmps : Array Value) : ResultVar → Sem Value
  | .tmp t => pure (tmps.getD t undef)
  | .cell a t => do loadVar t (← asAddr (tmps.getD a undef))

theorem withRes_sound (hti : TIok C.P ti) (h1 : TIone ti) (R : RelS C F (getS σ.slots) (getH σ.heap) g a w) : ∀ (rs : List ResultVar) (K : List V1 → Prop), withRes ti σ rs K →
    ∃ xs vs, K xs ∧ (rs.mapM (oneRes a.tmps)).run C.P w = .ok vs w ∧ vs.length = xs.length ∧ ∀ (j : Nat) x v, xs[j]? = some x → vs[j]? = some v → RelV1 w (zor (zone g (getH σ.heap)) C.X) g (getH σ.heap) x v
  | [], K, hk => ⟨[], [], hk, rfl, rfl, by simp⟩
  | .tmp t :: r, K, hk => by
    obtain ⟨y, hy, hk⟩ := withV_iff.1 hk
    obtain ⟨xs, vs, h2, h3, h4, h5⟩ := withRes_sound hti h1 R r _ hk
    refine ⟨y.norm :: xs, a.tmps.getD t undef :: vs, h2, by simp [List.mapM_cons, oneRes, h3], by simp [h4], fun j x v hx hv => ?_⟩
    match j with
    | 0 =>
      simp only [List.getElem?_cons_zero, Option.some.injEq] at hx hv
      subst hx; subst hv
      have := R.slots t
      rw [hy] at this
      exact RelV1.norm this
    | j + 1 => simp at hx hv; exact h5 j x v hx hv
  | .cell p t :: r, K, hk => by
    obtain ⟨out, v0, ad, hk, hp, hl, hr⟩ := loadVal hti h1 R hk
    obtain ⟨y, hy, hk⟩ := withV_iff.1 hk
    obtain ⟨xs, vs, h2, h3, h4, h5⟩ := withRes_sound hti h1 R r _ hk
    refine ⟨y.norm :: xs, v0 :: vs, h2, by simp only [List.mapM_cons, oneRes, hp, asAddr]; simp [hl, h3], by simp [h4], fun j x v hx hv => ?_⟩
    match j with
    | 0 =>
      simp only [List.getElem?_cons_zero, Option.some.injEq] at hx hv
      subst hx; subst hv
      rw [hy] at hr
      exact RelV1.norm hr
    | j + 1 => simp at hx hv; exact h5 j x v hx hv

theorem results_run {fn : Func} {vs : List Value} (h : (fn.results.toList.mapM (oneRes a.tmps)).run C.P w = .ok vs w) :
    (results fn a.tmps).run C.P w = .ok (if h : vs.toArray.size = 1 then vs.toArray[0] else .tuple vs.toArray) w := by
  have e : results fn a.tmps = (do let vs ← fn.results.mapM (oneRes a.tmps); pure (if h : vs.size = 1 then vs[0] else .tuple vs)) := by
    unfold results
    congr 1
  rw [e, Array.mapM_eq_mapM_toList, Sem.run_bind, Sem.run_map, h]
  rfl

end

def Mach.of (P : Program) (I : Inv) : Mach where
  I := I
  P := P
  split := fun c A => A c
  split_iff := fun _ _ => Iff.rfl
  lock := fun p => p ()
  lock_iff := fun _ => Iff.rfl
  eqI := fun a b => a == b
  eqI_eq := fun _ _ => rfl
  ltI := fun a b => decide (a < b)
  ltI_eq := fun _ _ => rfl
  leI := fun a b => decide (a ≤ b)
  leI_eq := fun _ _ => rfl
  eqS := fun a b => a.toList == b.toList
  eqS_eq := fun _ _ => rfl
  ltS := fun a b => Op.bytesLess a.toList b.toList
  ltS_eq := fun _ _ => rfl
  lenI := fun l => l.length
  lenI_eq := fun _ => rfl
  szI := fun s => s.size
  szI_eq := fun _ => rfl

theorem finish {C : Cx} {σ : St} {g2 : Ghost} {a : Act} {w' : World} {X : Zone} {post new : List AObj} {nm : List Id} (R2 : RelS C (fun n => σ.next ≤ n) (getS σ.slots) (getH σ.heap) g2 a w') (hX : ∀ b o, X b o → C.X b o)
    (hnd : nm.Nodup) (hpost : postOK (getH σ.heap) (renN nm σ.next) post 0) (hnewo : newOK (getH σ.heap) (renN nm σ.next) new nm) (hhand : handOK post nm) :
    RelH w' X (fun i => g2 (renN nm σ.next i)) (heapOf2 post new) ∧ (∀ i ob b o, heapOf2 post new i = some ob → zone1 (g2 (renN nm σ.next i)) ob b o → ∃ j ob', getH σ.heap j = some ob' ∧ zone1 (g2 j) ob' b o) ∧
      (∀ k, new.length ≤ k → g2 (renN nm σ.next (.loc k)) = undef) ∧
      ∀ (x : AV) v, RelAV w' (zor (zone g2 (getH σ.heap)) C.X) g2 (getH σ.heap) (x.ren (renN nm σ.next)) v → RelAV w' (zor (zone (fun i => g2 (renN nm σ.next i)) (heapOf2 post new)) X) (fun i => g2 (renN nm σ.next i)) (heapOf2 post new) x v := by
  have live : ∀ i o, heapOf2 post new i = some o → o = .gone ∨ getH σ.heap (renN nm σ.next i) = some (o.ren (renN nm σ.next)) := by
    intro i o hi
    cases i with
    | ext j => have := postOK_get hpost hi; rw [Nat.zero_add] at this; exact this
    | loc k =>
      obtain ⟨n, hn, ho⟩ := newOK_get hnewo hi
      exact .inr (by simpa [renN, hn] using ho)
  have hz : ∀ b o, zor (zone (fun i => g2 (renN nm σ.next i)) (heapOf2 post new)) X b o → zor (zone g2 (getH σ.heap)) C.X b o := by
    rintro b o (⟨i, ob, hi, h1⟩ | hx)
    · rcases live i ob hi with rfl | ho
      · exact h1.elim
      · exact .inl ⟨_, _, ho, zone1_ren.2 h1⟩
    · exact .inr (hX b o hx)
  have ht : ∀ i n sz e, heapOf2 post new i = some (.tok n sz e) → getH σ.heap (renN nm σ.next i) = some (.tok n sz e) := fun i n sz e hi => (live i _ hi).resolve_left (by simp)
  have hw : ∀ i, isLive (heapOf2 post new i) = true → isLive (getH σ.heap (renN nm σ.next i)) = true := by
    intro i hi
    cases ho : heapOf2 post new i with
    | none => rw [ho] at hi; cases hi
    | some o =>
      rw [ho] at hi
      rcases live i o ho with rfl | h
      · cases hi
      · rw [h]
        exact isLive_ren.trans hi
  have hN := R2.free σ.next (Nat.le_refl _)
  refine ⟨⟨fun i o hi => ?_, fun i j oi oj b hi hj bi bj => ?_, fun i oi b o hi bi => ?_⟩, fun i ob b o hi hb => ?_, fun k hk => ?_, fun x v h => RelAV.pull (r := renN nm σ.next) (g := g2) (h := getH σ.heap) hz (fun _ => rfl) ht hw h⟩
  · rcases live i o hi with rfl | ho
    · trivial
    · exact RelObj.pull (r := renN nm σ.next) hz (fun _ => rfl) ht hw (R2.heap.objs _ _ ho)
  · rcases live i oi hi with rfl | ho
    · exact bi.elim
    rcases live j oj hj with rfl | ho'
    · exact bj.elim
    have e := R2.heap.sep _ _ _ _ b ho ho' (Obk_ren.2 bi) (Obk_ren.2 bj)
    cases i with
    | ext i =>
      cases j with
      | ext j => simpa [renN] using e
      | loc k =>
        obtain ⟨n, hn, _⟩ := newOK_get hnewo hj
        simp only [renN, hn] at e
        subst e
        have := handOK_get hhand hn
        rw [show heapOf2 post new (.ext i) = post[i]? from rfl, this] at hi
        cases hi
        exact bi.elim
    | loc k =>
      obtain ⟨n, hn, _⟩ := newOK_get hnewo hi
      cases j with
      | ext j =>
        simp only [renN, hn] at e
        subst e
        have := handOK_get hhand hn
        rw [show heapOf2 post new (.ext j) = post[j]? from rfl, this] at hj
        cases hj
        exact bj.elim
      | loc k' =>
        obtain ⟨n', hn', _⟩ := newOK_get hnewo hj
        simp only [renN, hn, hn'] at e
        subst e
        rw [(List.getElem?_inj (List.getElem?_eq_some_iff.1 hn).1 hnd).1 (hn.trans hn'.symm)]
  · rcases live i oi hi with rfl | ho
    · exact bi.elim
    · intro hx
      exact R2.heap.apart _ _ b o ho (Obk_ren.2 bi) (hX b o hx)
  · rcases live i ob hi with rfl | ho
    · exact hb.elim
    · exact ⟨_, _, ho, zone1_ren.2 hb⟩
  · have : nm[k]? = none := by simp [newOK_len hnewo]; omega
    simp only [renN, this]
    exact hN.1

theorem leave_marks {P : Program} {fn : Func} {tmps : Array Value} {R : Ending → World → Prop} : ∀ (ds : List Nat) (w : World), ds.Nodup → (∀ r ∈ ds, w.heap[r]? = some (.deferred (some []))) →
    LeavesIn Fence.wide 0 P fn tmps R [] .returning (ds.foldl (fun w r => w.putObj r (.deferred none)) w) → LeavesInM Fence.wide 0 P fn tmps R (ds.map markOf) .returning w
  | [], w, _, _, h => h
  | r :: ds, w, hn, hd, h => by
    refine ⟨by simp, .inl ⟨r, _, rfl, run_takeDeferred (hd r (by simp)), ?_⟩⟩
    refine leave_marks ds _ (List.nodup_cons.1 hn).2 (fun r' hr' => ?_) h
    exact (World.putObj_heap_other (by rintro rfl; exact (List.nodup_cons.1 hn).1 hr')).trans (hd r' (by simp [hr']))
theorem marks_apart : ∀ (ds : List Nat) (w : World), ApartW (fun b => b ∈ ds) w (ds.foldl (fun w r => w.putObj r (.deferred none)) w)
  | [], w => ⟨rfl, rfl, rfl, Nat.le_refl _, fun _ _ _ => rfl⟩
  | r :: ds, w => by
    have := marks_apart ds (w.putObj r (.deferred none))
    refine ⟨this.os, this.tape, this.output, by simpa using this.size, fun b hb hn => ?_⟩
    simp only [List.mem_cons, not_or] at hn
    exact (this.block b (by simpa using hb) hn.2).trans (World.putObj_heap_other hn.1)

theorem marks_size : ∀ (ds : List Nat) (w : World), (ds.foldl (fun w r => w.putObj r (.deferred none)) w).heap.size = w.heap.size
  | [], _ => rfl
  | r :: ds, w => by
    have := marks_size ds (w.putObj r (.deferred none))
    rw [World.putObj_size] at this
    exact this
theorem RelS.turned {C : Cx} {F : Nat → Prop} {s : Slots} {h : Heap} {g : Ghost} {a a' : Act} {w w' : World} (R : RelS C F s h g a w) {B : Nat → Prop} (A : ApartW B w w') (hs : w'.heap.size = w.heap.size) (hB : ∀ b o, B b → C.X b o) (hI : ∀ b, C.M.I.blocks b → ¬ B b) (ht : a'.tmps = a.tmps) (ro : Option Nat)
    (hro : ∀ l, ro = some l → (∃ L, w'.heap[l]? = some (.loop L)) ∧ ∀ o, C.X l o) (hd : a'.defers = []) :
    ∃ C2 : Cx, C2.M = C.M ∧ C2.nt = C.nt ∧ C2.X = C.X ∧ C2.ro = ro ∧ C2.w0 = w' ∧ C2.Z0 = zone g h ∧ C2.g0 = g ∧ C2.D = [] ∧ RelS C2 F s h g a' w' := by
  have hX : ∀ b o, C.X b o → b < w.heap.size := fun b o hx => Nat.lt_of_lt_of_le (R.xs b o hx) R.frame.size
  have noz : ∀ b, (∀ o, C.X b o) → ∀ o, ¬ zone g h b o := by
    rintro b hx o ⟨i, ob, hi, hz⟩
    exact R.heap.apart i ob b o hi hz.obk (hx o)
  have hinv : C.M.I.at w' (zor (zone g h) C.X) := by
    obtain ⟨i1, i2⟩ := R.inv
    refine ⟨C.M.I.same (fun b hb => A.block b (i2 b hb).1 (hI b hb)) i1, fun b hb => ⟨by rw [hs]; exact (i2 b hb).1, (i2 b hb).2⟩⟩
  refine ⟨{ M := C.M, nt := C.nt, w0 := w', Z0 := zone g h, X := C.X, g0 := g, hinv := hinv, ro := ro, D := [], hro := fun l hl => ⟨(hro l hl).1, noz l (hro l hl).2⟩, hD := by simp, hDn := List.nodup_nil }, rfl, rfl, rfl, rfl, rfl, rfl, rfl, rfl, ?_⟩
  refine R.restart A rfl rfl (fun i o hi => .inl hi) (fun b o hb => .inr (hB b o hb)) ?_ (fun b o hx => .inl (.inr hx)) (fun b o hx => by rw [hs]; exact hX b o hx) (fun i ob b o hi hb hx => R.heap.apart i ob b o hi hb hx) rfl (fun b o hz => hz) (fun j => .refl _) ht hd (fun n hn => (R.free n hn).2)
  intro i ob b hi hb hBb
  exact R.heap.apart i ob b 0 hi hb (hB b 0 hBb)

theorem relS_start {C : Cx} {P : Program} {sl : List (Nat × AV)} {pre : List AObj} {g : Ghost} {a : Act} {w : World} (hsz : a.tmps.size = C.nt) (hd : a.defers = C.D.map markOf) (hsl : ∀ t, RelAV w (zor (zone g (heapOf pre)) C.X) g (heapOf pre) (getS sl t) (a.tmps.getD t undef))
    (RH : RelH w C.X g (heapOf pre)) (hw0 : C.w0 = w) (hg0 : C.g0 = g) (hZ : ∀ b o, zone g (heapOf pre) b o → C.Z0 b o) (hX : ∀ b o, C.X b o → b < w.heap.size) (hg : ∀ n, g (.loc n) = undef) : RelSt C ⟨sl, extsOf pre 0, 0⟩ a w := by
  have hh : getH (extsOf pre 0) = heapOf pre := by
    funext i
    cases i with
    | ext j => have := extsOf_ext pre 0 j; rw [Nat.zero_add] at this; exact this
    | loc n =>
      cases hc : getH (extsOf pre 0) (.loc n) with
      | none => rfl
      | some o => obtain ⟨j, e, _⟩ := extsOf_get pre 0 _ o hc; simp at e
  refine ⟨g, ?_⟩
  rw [hh]
  exact ⟨hsz, hd, hsl, RH, by rw [hw0]; exact Frame'.refl _ _, fun j => by rw [hg0]; exact .refl _, fun j ob b o hj hz => .inl (hZ b o ⟨_, _, hj, hz⟩), by rw [hw0]; exact hX, fun n _ => ⟨hg n, rfl⟩⟩

theorem TripK.intro {P : Program} {I : Inv} {ti : Types} (dr : Mach → Nat → Draw) (hti : TIok P ti) (h1 : TIone ti) (hdr : ∀ C : Cx, C.P = P → DrawOK C (dr C.M C.nt)) {f : FuncId} {fn : Func} {c : Code} (hf : P.funcs[f]? = some fn) (hb : fn.body = some c)
    (hname : (fn.name == "runtime.NumGoroutine") = false) {args : List V1} {pre : List AObj} {Q : AV → List AObj → List AObj → Prop} (hargs : args.length ≤ fn.ntmps)
    (hx : ∀ M : Mach, M.P = P → M.I = I → exec M ti fn.ntmps (dr M fn.ntmps) c ⟨slotsOf args 0, extsOf pre 0, 0⟩ fun e σ => match e with
      | .exit _ => False
      | .normal => ∃ res post new, Q res post new ∧ Fin' ti fn.results.toList σ res post new
      | .ret => ∃ res post new, Q res post new ∧ Fin' ti fn.results.toList σ res post new) : TripK P I f args pre Q := by
  refine ⟨⟨fn, c, hf, hb, hname⟩, ?_⟩
  intro w X g vals hX hI RH hg hsz hargs'
  let C : Cx := { M := Mach.of P I, nt := fn.ntmps, w0 := w, Z0 := zone g (heapOf pre), X := X, g0 := g, hinv := hI, ro := none, D := [], hro := fun l hl => (by cases hl), hD := fun r hr => (by cases hr), hDn := List.nodup_nil }
  have R0 : RelSt C ⟨slotsOf args 0, extsOf pre 0, 0⟩ { tmps := vals ++ Array.replicate (fn.ntmps - vals.size) undef, defers := [] } w := by
    refine relS_start (P := P) (by simp [C]; omega) rfl (fun t => ?_) RH rfl rfl (fun _ _ h => h) hX hg
    rcases slotsOf_get args 0 t with h | ⟨x, _, h2, h3⟩
    · rw [h]; trivial
    · rw [h3]
      simp only [Nat.sub_zero] at h2
      have hlt : t < vals.size := by rw [hsz]; exact (List.getElem?_eq_some_iff.1 h2).1
      have : (vals ++ Array.replicate (fn.ntmps - vals.size) undef).getD t undef = vals[t] := by
        simp [Array.getElem?_append, hlt]
      show RelV1 w _ g _ x ((vals ++ Array.replicate (fn.ntmps - vals.size) undef).getD t undef)
      rw [this]
      exact hargs' t x _ h2 (by simp [hlt])
  refine callsIn_wide.1 (callsIn_of_wp_marks (n := 0) hf hb trivial (wpIn_mono (exec_sound (M := Mach.of P I) (ro := none) hti h1 (fun C hC hn => by
    have := hdr C (by show C.M.P = P; rw [hC]; rfl)
    rw [hC, hn] at this
    exact this) c _ _ C _ w rfl rfl rfl (hx (Mach.of P I) rfl rfl) R0) ?_))
  have fin : ∀ (C' : Cx) (σ : St) (a' : Act) (w' : World), CxLe C C' → (∃ res post new, Q res post new ∧ Fin' ti fn.results.toList σ res post new) → RelSt C' σ a' w' →
      LeavesInM Fence.wide 0 P fn a'.tmps (fun e w' => ∃ v g' res post new, Q res post new ∧ e = .returned v ∧ CallPost w X g pre res post new v w' g') a'.defers .returning w' := by
    rintro C' σ0 a' w' hle ⟨res, post, new, hQ, gs, hfin⟩ R0
    obtain ⟨σ, hweak, hfin⟩ := gh_weak hfin
    obtain ⟨g1, R1⟩ := hweak _ _ _ R0
    rw [R1.defers]
    obtain ⟨ds, hds, hds2⟩ := hle.marks
    have hds : C'.D = ds := by rw [hds]; exact List.append_nil ds
    refine leave_marks _ _ C'.hDn (fun r hr => (R1.kept (C'.hD r hr).1 (C'.hD r hr).2).1) ?_
    have A := marks_apart C'.D w'
    generalize hw2 : C'.D.foldl (fun w r => w.putObj r (.deferred none)) w' = w2 at A ⊢
    have hsz2 : w2.heap.size = w'.heap.size := by rw [← hw2]; exact marks_size _ _
    obtain ⟨C2, c1, c2, c3, c4, c5, c6, c7, c8, R2⟩ := R1.turned (a' := { tmps := a'.tmps, defers := [] }) A hsz2 (fun b o hb => (hds2 b (hds ▸ hb)).2 o) (fun b hb hd => (R1.inv.2 b hb).2 0 (.inr ((hds2 b (hds ▸ hd)).2 0))) rfl none (fun l hl => by cases hl) rfl
    have hti2 : TIok C2.P ti := by show TIok C2.M.P ti; rw [c1, hle.M]; exact hti
    have hP : C2.P = P := by show C2.M.P = P; rw [c1, hle.M]; rfl
    obtain ⟨xs, vs, ⟨nm, hnd, hres, hpost, hnewo, hhand⟩, hrun, hlen, hrel⟩ := withRes_sound (C := C2) hti2 h1 R2 _ _ hfin
    obtain ⟨f1, f2, f3, f4⟩ := finish (X := X) R2 (fun b o hx => by rw [c3]; exact hle.X b o hx) (nodupB_iff.1 hnd) hpost hnewo hhand
    obtain ⟨d1, d2, d3⟩ := hle.down R1
    have hrr := results_run (C := C2) hrun
    rw [hP] at hrr
    refine ⟨_, hrr, _, fun i => g1 (renN nm σ.next i), res, post, new, hQ, rfl, ⟨f1, ?_, ?_, fun j => d2 j, fun i ob b o hi hb => ?_, f3⟩⟩
    · refine f4 res _ ?_
      rw [← hres]
      have other : xs.length ≠ 1 → RelAV w2 (zor (zone g1 (getH σ.heap)) C2.X) g1 (getH σ.heap) (.t xs) (.tuple vs.toArray) := fun _ =>
        ⟨vs.toArray, rfl, by simpa using hlen, fun j x v hx hv => hrel j x v hx (by simpa using hv)⟩
      match xs, vs, hlen, hrel, other with
      | [x], [v], _, hrel, _ => exact hrel 0 x v rfl rfl
      | [], [], _, _, other => exact other (by simp)
      | x :: y :: xs, v :: u :: vs, hl, _, other =>
        have : ¬ (v :: u :: vs).toArray.size = 1 := by simp
        simp only [dif_neg this]
        exact other (by simp)
    · exact d1.then (Z' := fun b _ => b ∈ C'.D) ⟨A.os, A.tape, A.output, A.size, fun b hb hn => A.block b hb (hn 0), fun b o u hu hn => A.cell hu hn⟩ (fun p o hp => .inr (hds2 p (hds ▸ hp)).1)
    · obtain ⟨j, ob', hj, hz⟩ := f2 i ob b o hi hb
      exact d3 j ob' b o hj hz
  intro e a' w' hq
  cases e with
  | normal => obtain ⟨C', hle, σ, hf', hr⟩ := hq; exact fin C' σ a' w' hle hf' hr
  | ret => obtain ⟨C', hle, σ, hf', hr⟩ := hq; exact fin C' σ a' w' hle hf' hr
  | exit id => obtain ⟨C', hle, σ, hf', hr⟩ := hq; exact hf'.elim
  | goto l => exact hq.elim
  | panic ch => exact hq.elim
  | outgrown => exact hq.elim
end Go.AM

namespace Go.AM
open Go Go.RowKit

def putPs : List Tmp → List V1 → List (Nat × AV) → List (Nat × AV)
  | p :: ps, x :: xs, s => putPs ps xs ((p, .v x) :: s)
  | _, _, s => s
theorem putAll_size {ps : Array Tmp} {vals tmps : Array Value} : (putAll ps vals tmps).size = tmps.size := by
  unfold putAll
  rw [← Array.foldl_toList]
  generalize (ps.zip vals).toList = l
  induction l generalizing tmps with
  | nil => rfl
  | cons x l ih =>
    simp only [List.foldl_cons]
    exact ih.trans (by simp)
theorem putPs_rel {w : World} {Z : Zone} {g : Ghost} {h : Heap} : ∀ {ps : List Tmp} {xs : List V1} {vs : List Value} {s : List (Nat × AV)} {tmps : Array Value}, xs.length = ps.length → vs.length = xs.length → (∀ p ∈ ps, p < tmps.size) →
    (∀ (j : Nat) x v, xs[j]? = some x → vs[j]? = some v → RelV1 w Z g h x v) → (∀ t, RelAV w Z g h (getS s t) (tmps.getD t undef)) →
    ∀ t, RelAV w Z g h (getS (putPs ps xs s) t) (((ps.zip vs).foldl (fun t x => t.setIfInBounds x.1 x.2) tmps).getD t undef)
  | [], [], [], s, tmps, _, _, _, _, hs => hs
  | p :: ps, x :: xs, v :: vs, s, tmps, h1, h2, h3, h4, hs => by
    refine putPs_rel (ps := ps) (xs := xs) (vs := vs) (by simpa using h1) (by simpa using h2) (fun q hq => by simpa using h3 q (by simp [hq])) (fun j x v hx hv => h4 (j + 1) x v (by simpa using hx) (by simpa using hv)) ?_
    intro t
    rw [getS_cons]
    simp only []
    split
    · subst t
      have := h3 p (by simp)
      rw [Array.getD_eq_getD_getElem?, Array.getElem?_setIfInBounds_self_of_lt this]
      exact h4 0 x v rfl rfl
    · rename_i hne
      rw [Array.getD_eq_getD_getElem?, Array.getElem?_setIfInBounds_ne (Ne.symm hne), ← Array.getD_eq_getD_getElem?]
      exact hs t
  | [], _ :: _, _, _, _, h1, _, _, _, _ => by simp at h1
  | _ :: _, [], _, _, _, h1, _, _, _, _ => by simp at h1
  | [], [], _ :: _, _, _, _, h2, _, _, _ => by simp at h2
  | _ :: _, _ :: _, [], _, _, _, h2, _, _, _ => by simp at h2

def jumpOf : AExit → Jump
  | .normal => none
  | .ret => some none
  | .exit id => some (some id)
def FinR (σ : St) (post new : List AObj) : Prop :=
  ∃ gs, gh gs σ fun σ => ∃ nm : List Id, nodupB nm = true ∧ postOK (getH σ.heap) (renN nm σ.next) post 0 ∧ newOK (getH σ.heap) (renN nm σ.next) new nm ∧ handOK post nm

theorem RoundK.intro {P : Program} {I : Inv} {ti : Types} (dr : Mach → Nat → Draw) (hti : TIok P ti) (h1 : TIone ti) (hdr : ∀ C : Cx, C.P = P → DrawOK C (dr C.M C.nt)) {r : RF} {sl : List (Nat × AV)} {args : List V1} {pre : List AObj} {Q : Jump → List AObj → List AObj → Prop}
    (hlen : args.length = r.params.size) (hps : allB (fun p => Nat.blt p r.nt) r.params.toList = true)
    (hx : ∀ M : Mach, M.P = P → M.I = I → exec M ti r.nt (dr M r.nt) r.assign ⟨putPs r.params.toList args sl, extsOf pre 0, 0⟩ fun e σ => match e with
      | .normal => exec M ti r.nt (dr M r.nt) r.body σ fun e σ => ∃ post new, Q (jumpOf e) post new ∧ FinR σ post new
      | _ => False) : RoundK P I r sl args pre Q := by
  refine ⟨hlen, ?_⟩
  intro l L w X g vals hX hXl hl l1 l2 l3 l4 l5 l6 hI RH hg hsz hargs hsl
  have hlt : l < w.heap.size := (Array.getElem?_eq_some_iff.1 hl).1
  have noz : ∀ {X : Zone} {w : World} {g : Ghost} {h : Heap}, RelH w X g h → (∀ o, X l o) → ∀ o, ¬ zone g h l o := by
    rintro X w g h RH hx o ⟨i, ob, hi, hz⟩
    exact RH.apart i ob l o hi hz.obk (hx o)
  let C : Cx := { M := Mach.of P I, nt := r.nt, w0 := w, Z0 := zone g (heapOf pre), X := X, g0 := g, hinv := hI, ro := some l, D := [], hro := fun l' hl' => (by cases hl'; exact ⟨⟨L, hl⟩, noz RH hXl⟩), hD := fun r hr => (by cases hr), hDn := List.nodup_nil }
  have hdr' : ∀ C' : Cx, C'.M = Mach.of P I → C'.nt = r.nt → DrawOK C' (dr (Mach.of P I) r.nt) := fun C' hC hn => by
    have := hdr C' (by show C'.M.P = P; rw [hC]; rfl)
    rw [hC, hn] at this
    exact this
  have R0 : RelSt C ⟨putPs r.params.toList args sl, extsOf pre 0, 0⟩ { tmps := putAll L.params vals L.tmps, defers := [] } w := by
    refine relS_start (P := P) (by show (putAll L.params vals L.tmps).size = r.nt; rw [putAll_size]; exact l6) rfl (fun t => ?_) RH rfl rfl (fun _ _ h => h) hX hg
    have := putPs_rel (ps := r.params.toList) (xs := args) (vs := vals.toList) (s := sl) (tmps := L.tmps) (by simpa using hlen) (by simpa using hsz) (fun p hp => by
      have := allB_iff.1 hps p hp
      rw [l6]
      exact Nat.lt_of_succ_le (by simpa [Nat.blt] using this)) (fun j x v hx hv => hargs j x v hx (by simpa using hv)) hsl t
    show RelAV _ _ _ _ _ ((putAll L.params vals L.tmps).getD t undef)
    unfold putAll
    rw [l3, ← Array.foldl_toList, Array.toList_zip]
    exact this
  have h1x := hx (Mach.of P I) rfl rfl
  refine roundIn_of_wpIn (F := Fence.wide) trivial ?_
  rw [l4, l5]
  refine wpIn_mono (exec_sound (M := Mach.of P I) (ro := some l) hti h1 hdr' r.assign _ _ C _ w rfl rfl rfl h1x R0) ?_
  intro e a1 w1 hq
  cases e with
  | normal =>
    obtain ⟨C1, hle, σ1, hk1, g1, R1⟩ := hq
    obtain ⟨d1, d2, d3⟩ := hle.down R1
    have hXl1 : ∀ o, C1.X l o := fun o => hle.X l o (hXl o)
    have hl1 : w1.heap[l]? = some (.loop L) := (d1.block l hlt (noz RH hXl)).trans hl
    have hlt1 : l < w1.heap.size := (Array.getElem?_eq_some_iff.1 hl1).1
    refine ⟨w1.putObj l (.loop { L with state := .busy }), run_beginRound hl1 l1, ?_⟩
    have A : ApartW (fun b => b = l) w1 (w1.putObj l (.loop { L with state := .busy })) := ⟨rfl, rfl, rfl, by simp, fun b _ hb => World.putObj_heap_other hb⟩
    have hl2 : (w1.putObj l (.loop { L with state := .busy })).heap[l]? = some (.loop { L with state := .busy }) := World.putObj_heap_same hlt1
    obtain ⟨C2, c1, c2, c3, c4, c5, c6, c7, c8, R2⟩ := R1.turned (a' := { tmps := a1.tmps, defers := [] }) A World.putObj_size (fun b o hb => by subst hb; exact hXl1 o) (fun b hb hd => (R1.inv.2 b hb).2 0 (.inr (by subst hd; exact hXl1 0))) rfl (some l) (fun l' hl' => by cases hl'; exact ⟨⟨_, hl2⟩, hXl1⟩) rfl
    have ha1 : a1 = { tmps := a1.tmps, defers := [] } := by
      have hd := R1.defers
      rw [hle.same (by simp [C])] at hd
      show a1 = ⟨a1.tmps, []⟩
      rw [← show a1.defers = [] from hd]
    rw [ha1]
    refine wpIn_mono (exec_sound (M := Mach.of P I) (ro := some l) hti h1 hdr' r.body σ1 _ C2 _ _ (c1.trans hle.M) (c2.trans hle.nt) c4 hk1 ⟨g1, R2⟩) ?_
    have fin : ∀ (e : AExit) (a2 : Act) (w3 : World), (∃ C3, CxLe C2 C3 ∧ ∃ σ, (∃ post new, Q (jumpOf e) post new ∧ FinR σ post new) ∧ RelSt C3 σ a2 w3) →
        ∃ v w', (Instr.endRound l ((jumpOf e).map jumpCode)).run P w3 = .ok v w' ∧ ∃ jump g' post new, Q jump post new ∧ Ending.returned v = .returned (.bool jump.isNone) ∧ RoundPost l L w X g pre jump post new w' g' := by
      rintro e a2 w3 ⟨C3, hle3, σ0, ⟨post, new, hQ, gs, hfin⟩, R3⟩
      obtain ⟨σ, hweak, nm, hnd, hpost, hnewo, hhand⟩ := gh_weak hfin
      obtain ⟨g3, R3⟩ := hweak _ _ _ R3
      obtain ⟨f1, f2, f3⟩ := hle3.down R3
      have hXl3 : ∀ o, C3.X l o := fun o => hle3.X l o (by rw [c3]; exact hXl1 o)
      have hz2 : ∀ o, ¬ C2.Z0 l o := by rw [c6]; exact noz R1.heap hXl1
      have hl3 : w3.heap[l]? = some (.loop { L with state := .busy }) := by
        have := f1.block l (by rw [c5, World.putObj_size]; exact hlt1) hz2
        rw [c5] at this
        exact this.trans hl2
      have hlt3 : l < w3.heap.size := (Array.getElem?_eq_some_iff.1 hl3).1
      refine ⟨_, _, run_endRound _ hl3, ?_⟩
      have A3 : ApartW (fun b => b = l) w3 (w3.putObj l (.loop { L with state := if ((jumpOf e).map jumpCode).isNone then .ready else .done, pending := (jumpOf e).map jumpCode })) := ⟨rfl, rfl, rfl, by simp, fun b _ hb => World.putObj_heap_other hb⟩
      obtain ⟨C4, k1, k2, k3, k4, k5, k6, k7, k8, R4⟩ := R3.turned (a' := { tmps := a2.tmps, defers := [] }) A3 World.putObj_size (fun b o hb => by subst hb; exact hXl3 o) (fun b hb hd => (R3.inv.2 b hb).2 0 (.inr (by subst hd; exact hXl3 0))) rfl none (fun l' hl' => by cases hl') rfl
      obtain ⟨q1, q2, q3, _⟩ := finish (X := X) R4 (fun b o hx => by rw [k3]; exact hle3.X b o (by rw [c3]; exact hle.X b o hx)) (nodupB_iff.1 hnd) hpost hnewo hhand
      have isn : ((jumpOf e).map jumpCode).isNone = (jumpOf e).isNone := by cases jumpOf e <;> rfl
      have zin : ∀ b o, C2.Z0 b o → zone g (heapOf pre) b o ∨ w.heap.size ≤ b := by
        intro b o hz
        rw [c6] at hz
        obtain ⟨i, ob, hi, h3⟩ := hz
        exact d3 i ob b o hi h3
      have fr : Frame' (fun b o => zone g (heapOf pre) b o ∨ b = l) w (w3.putObj l (.loop { L with state := if ((jumpOf e).map jumpCode).isNone then .ready else .done, pending := (jumpOf e).map jumpCode })) := by
        have s1 : Frame' (fun b o => zone g (heapOf pre) b o ∨ b = l) w w1 := d1.weaken (fun b o h => .inl h)
        have one : ∀ {a b : World}, ApartW (fun b => b = l) a b → Frame' (fun b _ => b = l) a b := fun A => ⟨A.os, A.tape, A.output, A.size, fun b hb hn => A.block b hb (fun e => hn 0 e), fun b o u hu hn => A.cell hu hn⟩
        have s2 := s1.then (one A) (fun p o h => .inl (.inr h))
        have s3 := s2.then (by have := f1; rw [c5] at this; exact this) (fun p o h => (zin p o h).imp .inl id)
        exact s3.then (one A3) (fun p o h => .inl (.inr h))
      refine ⟨jumpOf e, fun i => g3 (renN nm σ.next i), post, new, hQ, by rw [isn], ⟨q1, fr, ?_, fun j => ?_, fun i ob b o hi hb => ?_, q3⟩⟩
      · rw [World.putObj_heap_same hlt3, isn]
      · have e1 := d2 j
        have e2 := f2 j
        rw [c7] at e2
        exact e1.trans e2
      · obtain ⟨j, ob', hj, hz⟩ := q2 i ob b o hi hb
        rcases f3 j ob' b o hj hz with h | h
        · exact zin b o h
        · rw [c5, World.putObj_size] at h
          exact .inr (Nat.le_trans d1.size h)
    intro e a2 w3 hq
    cases e with
    | normal => exact fin .normal a2 w3 hq
    | ret => exact fin .ret a2 w3 hq
    | exit id => exact fin (.exit id) a2 w3 hq
    | goto l => exact hq.elim
    | panic ch => exact hq.elim
    | outgrown => exact hq.elim
  | exit id => obtain ⟨_, _, _, hk, _⟩ := hq; exact hk.elim
  | ret => obtain ⟨_, _, _, hk, _⟩ := hq; exact hk.elim
  | goto l => exact hq.elim
  | panic ch => exact hq.elim
  | outgrown => exact hq.elim
end Go.AM

namespace Go.AM
open Go Go.RowKit

theorem draw_P {P : Program} {ti : Types} (hti : TIok P ti) (h1 : TIone ti) (hm : P.follows .mixedOrders = true) : ∀ C : Cx, C.P = P → DrawOK C (execDraw ti C.M C.nt) := fun C hC => by
  have hti' : TIok C.P ti := by rw [hC]; exact hti
  have hm' : C.P.follows .mixedOrders = true := by rw [hC]; exact hm
  exact draw_ok hti' h1 hm'
theorem TripK.of {P : Program} {I : Inv} {ti : Types} (hti : TIok P ti) (h1 : TIone ti) (hm : P.follows .mixedOrders = true) {f : FuncId} {fn : Func} {c : Code} (hf : P.funcs[f]? = some fn) (hb : fn.body = some c)
    (hname : (fn.name == "runtime.NumGoroutine") = false) {args : List V1} {pre : List AObj} {Q : AV → List AObj → List AObj → Prop} {nt : Nat} (hnt : fn.ntmps = nt) (hargs : Nat.ble args.length nt = true) {rs : List ResultVar} (hrs : fn.results.toList = rs)
    (hx : ∀ M : Mach, M.P = P → M.I = I → exec M ti nt (execDraw ti M nt) c ⟨slotsOf args 0, extsOf pre 0, 0⟩ fun e σ => match e with
      | .exit _ => False
      | .normal => ∃ res post new, Q res post new ∧ Fin' ti rs σ res post new
      | .ret => ∃ res post new, Q res post new ∧ Fin' ti rs σ res post new) : TripK P I f args pre Q := by
  subst hnt
  subst hrs
  exact TripK.intro (fun M nt => execDraw ti M nt) hti h1 (draw_P hti h1 hm) hf hb hname (Nat.le_of_ble_eq_true hargs) hx
theorem Trip.of {P : Program} {I : Inv} {ti : Types} (hti : TIok P ti) (h1 : TIone ti) (hm : P.follows .mixedOrders = true) {f : FuncId} {fn : Func} {c : Code} (hf : P.funcs[f]? = some fn) (hb : fn.body = some c)
    (hname : (fn.name == "runtime.NumGoroutine") = false) {args : List V1} {pre post new : List AObj} {res : AV} {nt : Nat} (hnt : fn.ntmps = nt) (hargs : Nat.ble args.length nt = true) {rs : List ResultVar} (hrs : fn.results.toList = rs)
    (hx : ∀ M : Mach, M.P = P → M.I = I → exec M ti nt (execDraw ti M nt) c ⟨slotsOf args 0, extsOf pre 0, 0⟩ fun e σ => match e with
      | .exit _ => False
      | .normal => ∃ r p n, (r = res ∧ p = post ∧ n = new) ∧ Fin' ti rs σ r p n
      | .ret => ∃ r p n, (r = res ∧ p = post ∧ n = new) ∧ Fin' ti rs σ r p n) : Trip P I f args pre res post new :=
  TripK.of hti h1 hm hf hb hname hnt hargs hrs hx
theorem fin_go {ti : Types} {rs : List ResultVar} {σ : St} {res : AV} {post new : List AObj} (h : withRes ti σ rs fun xs => ∃ nm : List Id, nodupB nm = true ∧ mkRes xs = res.ren (renN nm σ.next) ∧ postOK (getH σ.heap) (renN nm σ.next) post 0 ∧ newOK (getH σ.heap) (renN nm σ.next) new nm ∧ handOK post nm) :
    ∃ r p n, (r = res ∧ p = post ∧ n = new) ∧ Fin' ti rs σ r p n := ⟨_, _, _, ⟨rfl, rfl, rfl⟩, [], h⟩
theorem TripK.at {P : Program} {I : Inv} {M : Mach} {f : FuncId} {args : List V1} {pre : List AObj} {Q : AV → List AObj → List AObj → Prop} (hP : M.P = P) (hI : M.I = I) (h : TripK P I f args pre Q) : TripK M.P M.I f args pre Q := by rw [hP, hI]; exact h
theorem RoundK.of {P : Program} {I : Inv} {M : Mach} (hP : M.P = P) (hI : M.I = I) {ti : Types} (hti : TIok P ti) (h1 : TIone ti) (hm : P.follows .mixedOrders = true) {r : RF} {sl : List (Nat × AV)} {args : List V1} {pre : List AObj} {Q : Jump → List AObj → List AObj → Prop} {nt : Nat} {ps : List Tmp} {ca cb : Code}
    (hnt : r.nt = nt) (hpl : r.params.toList = ps) (ha : r.assign = ca) (hb : r.body = cb) (hlen : args.length = ps.length) (hps : allB (fun p => Nat.blt p nt) ps = true)
    (hx : ∀ M : Mach, M.P = P → M.I = I → exec M ti nt (execDraw ti M nt) ca ⟨putPs ps args sl, extsOf pre 0, 0⟩ fun e σ => match e with
      | .normal => exec M ti nt (execDraw ti M nt) cb σ fun e σ => ∃ post new, Q (jumpOf e) post new ∧ FinR σ post new
      | _ => False) : RoundK M.P M.I r sl args pre Q := by
  subst hnt
  subst hpl
  subst ha
  subst hb
  rw [hP, hI]
  exact RoundK.intro (fun M nt => execDraw ti M nt) hti h1 (draw_P hti h1 hm) (by simpa using hlen) hps hx

section
variable {M : Mach} {A : Bool → Prop}
theorem splitI {a b : Int} (h1 : a = b → A true) (h0 : a ≠ b → A false) : M.split (M.eqI a b) A := by
  rw [M.split_iff, M.eqI_eq]
  by_cases h : a = b
  · rw [beq_iff_eq.2 h]; exact h1 h
  · rw [beq_eq_false_iff_ne.2 h]; exact h0 h
theorem splitL {a b : Int} (h1 : a < b → A true) (h0 : b ≤ a → A false) : M.split (M.ltI a b) A := by
  rw [M.split_iff, M.ltI_eq]
  by_cases h : a < b
  · rw [decide_eq_true h]; exact h1 h
  · rw [decide_eq_false h]; exact h0 (by omega)
theorem splitL_f {a b : Int} (h : ¬ a < b) (h0 : A false) : M.split (M.ltI a b) A := splitL (fun e => absurd e h) (fun _ => h0)
theorem splitLe {a b : Int} (h1 : a ≤ b → A true) (h0 : b < a → A false) : M.split (M.leI a b) A := by
  rw [M.split_iff, M.leI_eq]
  by_cases h : a ≤ b
  · rw [decide_eq_true h]; exact h1 h
  · rw [decide_eq_false h]; exact h0 (by omega)
theorem splitS {a b : ByteArray} (h1 : (a.toList == b.toList) = true → A true) (h0 : (a.toList == b.toList) = false → A false) : M.split (M.eqS a b) A := by
  rw [M.split_iff, M.eqS_eq]
  cases h : (a.toList == b.toList)
  · exact h0 h
  · exact h1 h
end

section
variable {M : Mach} {f : FuncId} {args : List V1} {fresh : Nat} {h : Heap} {k : Out → Prop} {targs : List V1} {res : AV}
theorem call_pure {P : Program} {I : Inv} (hP : M.P = P) (hI : M.I = I) (ht : Trip P I f targs [] res [] []) (he : args = targs.map (V1.ren (renM [] fresh))) (hk : k ⟨res.ren (renM [] fresh), [], []⟩) :
    M.lock fun _ => outCall M.P M.I f args fresh h k :=
  (M.lock_iff _).2 ⟨[], targs, [], res, [], [], hP ▸ hI ▸ ht, he, rfl, List.nodup_nil, by simp, trivial, by simp, hk⟩

theorem opOut_call {ti : Types} {o : Oper} {c : Call} {x : Operand} {s : Slots} (ho : o.op = .call c) (hc : c.callee = .value x) (hk : withCl h (fun h' => opOut0 M ti o fresh s h') k) : opOut M ti o fresh s h k := by
  unfold opOut
  rw [ho]
  simp only []
  rw [hc]
  exact .inr (.inl hk)
theorem call_go {ti : Types} {o : Oper} {c : Call} {x : Operand} {s : Slots} {X : Prop} (ho : o.op = .call c) (hc : c.callee = .value x) (hk : opOut0 M ti o fresh s h k) : M.lock fun _ => opOut M ti o fresh s h k ∨ X :=
  (M.lock_iff _).2 <| .inl <| opOut_call ho hc ⟨[], hk⟩
theorem call_add64 {ti : Types} {o : Oper} {c : Call} {x : Operand} {s : Slots} {X : Prop} {n : FuncId} {a b d z u : Int} (ho : o.op = .call c) (hc : c.callee = .value x) (hf : opd ti s 0 x = .v (.c (.fn n [])))
    (ha : vals1 (opsArgs ti s c.args.toList c.argTypes.toList) = some [.d (.int .u64 a), .d (.int .u64 b), .d (.int .u64 d)]) (hx : isAdd64 M.P n) (hb : 0 ≤ a ∧ 0 ≤ b ∧ 0 ≤ d ∧ d ≤ 1)
    (hz : (a + b + d) % 18446744073709551616 = z) (hu : (a + b + d) / 18446744073709551616 = u) (hk : k ⟨.t [.d (.int .u64 z), .d (.int .u64 u)], [], []⟩) : M.lock fun _ => opOut M ti o fresh s h k ∨ X := by
  refine (M.lock_iff _).2 <| .inl ?_
  unfold opOut
  rw [ho]
  simp only []
  rw [hc]
  refine .inl ?_
  unfold outX
  rw [hf]
  simp only []
  rw [ha]
  exact ⟨(M.lock_iff _).2 ⟨hx, hb⟩, z, u, hz, hu, hk⟩
def preOK (h : Heap) (r : Id → Id) : List Id → List AObj → Prop
  | [], [] => True
  | i :: m, o :: pre => h i = some (o.ren r) ∧ preOK h r m pre
  | _, _ => False
theorem preOK_get {r : Id → Id} : ∀ {m : List Id} {pre : List AObj}, preOK h r m pre → m.length = pre.length ∧ ∀ (j : Nat) i o, m[j]? = some i → pre[j]? = some o → h i = some (o.ren r)
  | [], [], _ => ⟨rfl, by simp⟩
  | i :: m, o :: pre, hp => by
    obtain ⟨h1, h2⟩ := preOK_get hp.2
    refine ⟨by simp [h1], fun j i' o' hi ho => ?_⟩
    match j with
    | 0 => simp at hi ho; subst hi; subst ho; exact hp.1
    | j + 1 => simp at hi ho; exact h2 j i' o' hi ho
  | [], _ :: _, hp => hp.elim
  | _ :: _, [], hp => hp.elim
theorem call_with {P : Program} {I : Inv} (hP : M.P = P) (hI : M.I = I) (m : List Id) {pre post new : List AObj} (ht : Trip P I f targs pre res post new) (he : args = targs.map (V1.ren (renM m fresh))) (hm : m.Nodup)
    (hpre : preOK h (renM m fresh) m pre) (hkd : allKinds pre post) (hn : new.length ≤ 31) (hk : k ⟨res.ren (renM m fresh), m, wrM m (renM m fresh) post ++ wrNew fresh (renM m fresh) 0 new⟩) :
    M.lock fun _ => outCall M.P M.I f args fresh h k :=
  (M.lock_iff _).2 ⟨m, targs, pre, res, post, new, hP ▸ hI ▸ ht, he, (preOK_get hpre).1, hm, (preOK_get hpre).2, hkd, hn, hk⟩
end

theorem drawn {M : Mach} {p : Unit → Prop} {K : Prop} (hd : p ()) (hk : K) : M.lock p ∧ K := ⟨(M.lock_iff _).2 hd, hk⟩

theorem loop_inv {M : Mach} {ex : St → (AExit → St → Prop) → Prop} {σ : St} {K : AExit → St → Prop} (ks : List Nat) (is : List Id) (nx : Nat) {T : Type} (S : T → St) (I : T → Prop) (m : T → Nat) (t0 : T)
    (hI : I t0) (h0 : keep ks is nx σ (· = S t0))
    (hr : ∀ t, I t → ex (S t) fun e σ2 => match e with
      | .normal => ∃ n' σ3, n' < m t ∧ Weak σ2 σ3 ∧ ∃ t', I t' ∧ n' = m t' ∧ σ3 = S t'
      | .exit id => K (.exit id) σ2
      | .ret => K .ret σ2) : M.lock fun _ => loopP ex σ K ∨ ∃ n, unrollP ex K n σ := by
  refine (M.lock_iff _).2 <| .inl ⟨fun n σ => ∃ t, I t ∧ n = m t ∧ σ = S t, m t0, ?_, ?_⟩
  · obtain ⟨σ', hw, e⟩ := keep_weak h0
    exact ⟨σ', hw, t0, hI, rfl, e⟩
  · rintro n σ1 ⟨t, h1, rfl, rfl⟩
    exact hr t h1

theorem loop_invT {M : Mach} {ex : St → (AExit → St → Prop) → Prop} {σ : St} {K : AExit → St → Prop} (tr : List TokReq) (ks : List Nat) (is : List Id) (nx : Nat) {T : Type} (S : T → St) (I : T → Prop) (m : T → Nat) (t0 : T)
    (hI : I t0) (h0 : tokAll (fun σ => keep ks is nx σ (· = S t0)) tr σ)
    (hr : ∀ t, I t → ex (S t) fun e σ2 => match e with
      | .normal => ∃ n' σ3, n' < m t ∧ Weak σ2 σ3 ∧ ∃ t', I t' ∧ n' = m t' ∧ σ3 = S t'
      | .exit id => K (.exit id) σ2
      | .ret => K .ret σ2) : M.lock fun _ => loopP ex σ K ∨ ∃ n, unrollP ex K n σ := by
  refine (M.lock_iff _).2 <| .inl ⟨fun n σ => ∃ t, I t ∧ n = m t ∧ σ = S t, m t0, ?_, ?_⟩
  · obtain ⟨σ1, hw1, h1⟩ := tokAll_weak h0
    obtain ⟨σ', hw, e⟩ := keep_weak h1
    exact ⟨σ', Weak.trans hw1 hw, t0, hI, rfl, e⟩
  · rintro n σ1 ⟨t, h1, rfl, rfl⟩
    exact hr t h1

theorem loop_next {T : Type} {m : T → Nat} {I : T → Prop} {S : T → St} {σ2 : St} {k : Nat} (t' : T) (ks : List Nat) (is : List Id) (nx : Nat) (hI : I t') (hm : m t' < k) (hk : keep ks is nx σ2 (· = S t')) :
    ∃ n' σ3, n' < k ∧ Weak σ2 σ3 ∧ ∃ t', I t' ∧ n' = m t' ∧ σ3 = S t' := by
  obtain ⟨σ', hw, e⟩ := keep_weak hk
  exact ⟨m t', σ', hm, hw, t', hI, rfl, e⟩

section
variable {M : Mach} {L L' : List D} {N i : Int} (hN : 0 ≤ N ∧ L.length = N.toNat)
include hN
end
end Go.AM

namespace Go.AM
open Go Go.RowKit

inductive Shape (ti : Types) : TypeId → List D → Prop where
  | bool {t x} (b : Bool) (h : ti t = some x) (hd : x.desc = .bool) : Shape ti t [.bool b]
  | int {t x k} (n : Int) (h : ti t = some x) (hd : x.desc = .int k) (hw : (Lit.int k n).wf = true) : Shape ti t [.int k n]
  | str {t x} (s : ByteArray) (h : ti t = some x) (hd : x.desc = .string) (hs : s.size ≤ maxLen) : Shape ti t [.str s]
  | slice {t x e y} (rows : List D) (h : ti t = some x) (hd : x.desc = .slice e) (he : ti e = some y) (hl : rows.length ≤ maxLen)
      (hf : ∀ r ∈ rows, r.fits (rowD y.desc) y.size) (hr : ∀ r ∈ rows, Shape ti e r.cells) : Shape ti t [.list (rowD y.desc) y.size rows]
  | struct {t x fs} (ds : List D) (h : ti t = some x) (hd : x.desc = .struct fs) (hl : ds.length = x.size) (hg : ∀ c ∈ ds, c.isAgg = false)
      (hr : ∀ f ∈ fs.toList, ∀ y, ti f.type = some y → Shape ti f.type ((ds.drop f.offset).take y.size)) : Shape ti t ds

def chain (ti : Types) : Nat → List Field → Option Nat
  | off, [] => some off
  | off, f :: r => if f.offset = off then match ti f.type with
      | some y => chain ti (off + y.size) r
      | none => none
    else none
theorem chain_le {ti : Types} : ∀ {fs : List Field} {off tot : Nat}, chain ti off fs = some tot → off ≤ tot ∧ ∀ f ∈ fs, off ≤ f.offset ∧ ∃ y, ti f.type = some y
  | [], off, tot, h => by simp [chain] at h; subst h; exact ⟨Nat.le_refl _, by simp⟩
  | f :: fs, off, tot, h => by
    unfold chain at h
    split at h
    · rename_i ho
      split at h
      · rename_i y hy
        obtain ⟨h1, h2⟩ := chain_le h
        refine ⟨by omega, fun f' hf' => ?_⟩
        rcases List.mem_cons.1 hf' with rfl | hf'
        · exact ⟨by omega, y, hy⟩
        · exact ⟨by have := (h2 f' hf').1; omega, (h2 f' hf').2⟩
      · simp at h
    · simp at h

def plainB (ti : Types) (T : List TypeId) : Bool :=
  T.all fun t => match ti t with
    | some x => match x.desc with
      | .bool | .int _ | .string => x.size == 1
      | .slice e => T.contains e && (x.size == 1) && (match ti e with
        | some y => decide (0 < y.size) && (rowD y.desc || y.size == 1)
        | none => false)
      | .struct fs => (chain ti 0 fs.toList == some x.size) && fs.toList.all fun f => T.contains f.type
      | _ => false
    | none => false

theorem choose_list {Q : Nat → D → Prop} : ∀ n, (∀ i, i < n → ∃ r, Q i r) → ∃ l : List D, l.length = n ∧ ∀ i r, l[i]? = some r → Q i r
  | 0, _ => ⟨[], rfl, by simp⟩
  | n + 1, h => by
    obtain ⟨l, h1, h2⟩ := choose_list n (fun i hi => h i (by omega))
    obtain ⟨r, hr⟩ := h n (by omega)
    refine ⟨l ++ [r], by simp [h1], fun i r' hi => ?_⟩
    by_cases hl : i < l.length
    · rw [List.getElem?_append_left hl] at hi; exact h2 i r' hi
    · rw [List.getElem?_append_right (by omega)] at hi
      have hin : i = n := by
        by_cases he : i = n
        · exact he
        · rw [List.getElem?_eq_none (by simp; omega)] at hi; simp at hi
      subst hin
      rw [h1] at hi
      simp at hi
      subst hi
      exact hr

def RelDs (w : World) (Z : Zone) (ds : List D) (cs : List Value) : Prop :=
  ds.length = cs.length ∧ (∀ c ∈ ds, c.isAgg = false) ∧ ∀ (j : Nat) c u, ds[j]? = some c → cs[j]? = some u → RelD w Z c u

theorem relDs_one {w : World} {Z : Zone} {c : D} {u : Value} (hc : c.isAgg = false) (h : RelD w Z c u) : RelDs w Z [c] [u] :=
  ⟨rfl, by simpa using hc, fun j c' u' h1 h2 => by
    match j with
    | 0 => simp at h1 h2; subst h1; subst h2; exact h
    | j + 1 => simp at h1⟩

theorem conv_fields {w : World} {Z : Zone} {ti : Types} {cs : List Value} : ∀ (fs : List Field) (off tot : Nat), chain ti off fs = some tot → tot ≤ cs.length →
    (∀ f ∈ fs, ∀ y, ti f.type = some y → ∃ ds, Shape ti f.type ds ∧ RelDs w Z ds ((cs.drop f.offset).take y.size)) →
    ∃ ds, RelDs w Z ds ((cs.drop off).take (tot - off)) ∧ ∀ f ∈ fs, ∀ y, ti f.type = some y → Shape ti f.type ((ds.drop (f.offset - off)).take y.size)
  | [], off, tot, h, _, _ => by
    simp [chain] at h
    subst h
    exact ⟨[], ⟨by simp, by simp, by simp⟩, by simp⟩
  | f :: fs, off, tot, h, hl, hx => by
    unfold chain at h
    split at h
    · rename_i ho
      split at h
      · rename_i y hy
        obtain ⟨hle, hoff⟩ := chain_le h
        obtain ⟨ds', ⟨a1, a2, a3⟩, hs'⟩ := conv_fields fs _ tot h hl (fun f' hf' => hx f' (List.mem_cons_of_mem _ hf'))
        obtain ⟨p, hp, b1, b2, b3⟩ := hx f (by simp) y hy
        rw [ho] at b1 b3
        have hpl : p.length = y.size := by rw [b1]; simp; omega
        refine ⟨p ++ ds', ⟨?_, ?_, ?_⟩, fun f' hf' y' hy' => ?_⟩
        · simp at a1 ⊢; omega
        · intro c hc
          rcases List.mem_append.1 hc with hc | hc
          · exact b2 c hc
          · exact a2 c hc
        · intro j c u hc hu
          rw [List.getElem?_take] at hu
          split at hu
          · rename_i hj
            rw [List.getElem?_drop] at hu
            by_cases hjp : j < p.length
            · rw [List.getElem?_append_left hjp] at hc
              refine b3 j c u hc ?_
              rw [List.getElem?_take, if_pos (by omega), List.getElem?_drop]; exact hu
            · rw [List.getElem?_append_right (by omega)] at hc
              refine a3 (j - p.length) c u hc ?_
              rw [List.getElem?_take, if_pos (by omega), List.getElem?_drop, ← hu]
              congr 1
              omega
          · simp at hu
        · rcases List.mem_cons.1 hf' with rfl | hf'
          · rw [hy] at hy'
            obtain rfl : y = y' := by simpa using hy'
            rw [ho, Nat.sub_self, List.drop_zero, List.take_append_of_le_length (by omega), List.take_of_length_le (by omega)]
            exact hp
          · have h1 := (hoff f' hf').1
            have := hs' f' hf' y' hy'
            rw [List.drop_append, List.drop_of_length_le (by omega), List.nil_append]
            rw [show f'.offset - off - p.length = f'.offset - (off + y.size) from by omega]
            exact this
      · simp at h
    · simp at h

theorem cellsOf_ti {P : Program} {ti : Types} (hti : TIok P ti) {t : TypeId} {x : TI} (h : ti t = some x) : P.cellsOf t = x.size := by
  obtain ⟨_, i, h1, h2, _⟩ := hti t x h
  simp [Program.cellsOf, h1, h2]

theorem conv {H : Type} {enc : TypeId × Value → H} {P : Program} {ti : Types} (hti : TIok P ti) {T : List TypeId} (hT : plainB ti T = true) {w : World} {base : Nat} {spare : Nat → Bool} {held : Bool} {Z : Zone} (hZ : ∀ b o, ¬ Z b o) :
    ∀ (fuel : Nat) (t : TypeId) (cs : List Value) (d : DataW H) (ps : List MemPlace), t ∈ T → DataW.trod enc P w base spare held fuel t cs = some (d, ps) → ∃ ds, Shape ti t ds ∧ RelDs w Z ds cs
  | 0, t, cs, d, ps, _, h => by simp [DataW.trod] at h
  | fuel + 1, t, cs, d, ps, ht, h => by
    have hp := hT
    unfold plainB at hp
    have hp := List.all_eq_true.1 hp t ht
    split at hp
    · rename_i x hx
      have hu := (hti t x hx).1
      have hcs := cellsOf_ti hti hx
      split at hp
      · rename_i hd
        rw [hd] at hu
        unfold DataW.trod at h
        simp only [hu] at h
        split at h <;> simp_all
        exact ⟨_, .bool _ hx hd, relDs_one rfl (.bool _)⟩
      · rename_i k hd
        rw [hd] at hu
        unfold DataW.trod at h
        simp only [hu] at h
        split at h <;> simp_all
        obtain ⟨⟨rfl, hw⟩, _⟩ := h
        exact ⟨_, .int _ hx hd hw, relDs_one rfl (.int _ _)⟩
      · rename_i hd
        rw [hd] at hu
        unfold DataW.trod at h
        simp only [hu] at h
        split at h <;> simp_all
        exact ⟨_, .str _ hx hd h.1, relDs_one rfl (.str _)⟩
      · rename_i e hd
        rw [hd] at hu
        simp only [Bool.and_eq_true] at hp
        obtain ⟨⟨he, _⟩, hp⟩ := hp
        have he : e ∈ T := by simpa using he
        split at hp
        · rename_i y hy
          simp only [Bool.and_eq_true, decide_eq_true_eq] at hp
          have hey := cellsOf_ti hti hy
          unfold DataW.trod at h
          simp only [hu] at h
          split at h <;> rename_i hq <;> try cases hq
          · exact ⟨_, .slice [] hx hd hy (by simp) (by simp) (by simp), relDs_one rfl (relD_nil _ _)⟩
          · rename_i a len cap
            rw [hey] at h
            split at h
            · rename_i hg
              obtain ⟨elems, he1, _⟩ := Option.bind_eq_some_iff.1 h
              have hel : elems.length = len := by simpa using mapM_some_length he1
              have each : ∀ i, i < len → ∃ cs' ds, (w.cells? base (a.add (i * y.size)) y.size) = some cs' ∧ Shape ti e ds ∧ RelDs w Z ds cs' := by
                intro i hi
                have h1 := mapM_some_get he1 i i (by simp [hi])
                rw [List.getElem?_eq_getElem (by omega : i < elems.length)] at h1
                obtain ⟨cs', h2, h3⟩ := Option.bind_eq_some_iff.1 h1
                obtain ⟨ds, h4, h5⟩ := conv hti hT hZ fuel e cs' _ _ he h3
                exact ⟨cs', ds, h2, h4, h5⟩
              have hspot : 0 < len → a.spot = none := by
                intro hl
                obtain ⟨cs', _, h2, _⟩ := each 0 hl
                obtain ⟨_, h3, h4⟩ := World.cells?_some h2
                have h5 := h4 0 hp.1
                rw [List.getElem?_eq_getElem (by omega)] at h5
                simp only [Nat.zero_mul, Addr.add, if_true] at h5
                unfold World.cell? at h5
                split at h5
                · split at h5
                  · cases h5
                  · rename_i hs; simpa using hs
                · cases h5
              obtain ⟨rows, hrl, hrows⟩ := choose_list (Q := fun i r => r.fits (rowD y.desc) y.size ∧ Shape ti e r.cells ∧ ∀ (j : Nat) c, r.cells[j]? = some c →
                  ∃ u, w.cell? ⟨a.block, a.off + (i * y.size + j), none⟩ = some u ∧ RelD w Z c u) len (fun i hi => by
                obtain ⟨cs', ds, h2, h3, h4⟩ := each i hi
                obtain ⟨_, h5, h6⟩ := World.cells?_some h2
                have hdl : ds.length = y.size := h4.1.trans h5
                obtain ⟨r, hr1, hr2⟩ : ∃ r : D, r.cells = ds ∧ r.isAgg = rowD y.desc := by
                  cases hrw : rowD y.desc with
                  | true => exact ⟨.agg ds, rfl, rfl⟩
                  | false =>
                    rw [hrw] at hp
                    have : y.size = 1 := by simpa using hp.2
                    obtain ⟨c, rfl⟩ := List.length_eq_one_iff.1 (hdl.trans this)
                    have hc := h4.2.1 c (by simp)
                    exact ⟨c, by cases c <;> first | rfl | simp [D.isAgg] at hc, hc⟩
                refine ⟨r, ⟨hr2, by rw [hr1, hdl], by rw [hr1]; exact h4.2.1⟩, by rw [hr1]; exact h3, fun j c hc => ?_⟩
                rw [hr1] at hc
                have hj : j < y.size := by rw [← hdl]; exact (List.getElem?_eq_some_iff.1 hc).1
                have h7 := h6 j hj
                have ha : (a.add (i * y.size)).add j = ⟨a.block, a.off + (i * y.size + j), none⟩ := by
                  have := hspot (by omega)
                  obtain ⟨ab, ao, asp⟩ := a
                  simp only at this
                  subst this
                  unfold Addr.add
                  split <;> split <;> simp_all <;> omega
                rw [ha, List.getElem?_eq_getElem (by omega : j < cs'.length)] at h7
                exact ⟨_, h7, h4.2.2 j c _ hc (List.getElem?_eq_getElem (by omega : j < cs'.length))⟩)
              refine ⟨_, .slice rows hx hd hy (by omega) (fun r hr => ?_) (fun r hr => ?_), relDs_one rfl ?_⟩
              · obtain ⟨i, hi⟩ := List.mem_iff_getElem?.1 hr
                exact (hrows i r hi).1
              · obtain ⟨i, hi⟩ := List.mem_iff_getElem?.1 hr
                exact (hrows i r hi).2.1
              · rw [← hrl]
                refine .list _ _ rows (some a) cap a.block a.off (fun i j => (w.cell? ⟨a.block, a.off + (i * y.size + j), none⟩).getD undef) (by omega) hg.2.2 (fun r hr => ?_) (fun hne => ?_) (fun i r j c hr hc => ?_) (fun i r j c hr hc => ?_)
                · obtain ⟨i, hi⟩ := List.mem_iff_getElem?.1 hr
                  exact (hrows i r hi).1
                · have := hspot (by rw [← hrl]; exact List.length_pos_iff.2 hne)
                  obtain ⟨ab, ao, asp⟩ := a
                  simp only at this
                  rw [this]
                · obtain ⟨u, hu1, _⟩ := (hrows i r hr).2.2 j c hc
                  rw [hu1]
                  exact ⟨rfl, hZ _ _⟩
                · obtain ⟨u, hu1, hu2⟩ := (hrows i r hr).2.2 j c hc
                  rw [hu1]
                  exact hu2
            · cases h
          · cases h
        · simp at hp
      · rename_i fs hd
        rw [hd] at hu
        simp only [Bool.and_eq_true, beq_iff_eq] at hp
        obtain ⟨hch, hfs⟩ := hp
        unfold DataW.trod at h
        simp only [hu] at h
        split at h <;> rename_i hq <;> try cases hq
        · obtain ⟨xs, hxs, _⟩ := Option.map_eq_some_iff.1 h
          obtain ⟨ds, h1, h2⟩ := conv_fields (w := w) (Z := Z) (cs := cs) fs.toList 0 x.size hch (by omega) (fun f hf y hy => by
            obtain ⟨i, hi⟩ := List.mem_iff_getElem?.1 hf
            have h3 := mapM_some_get hxs i f hi
            have hil : i < xs.length := by rw [mapM_some_length hxs]; exact (List.getElem?_eq_some_iff.1 hi).1
            rw [List.getElem?_eq_getElem hil, cellsOf_ti hti hy] at h3
            have hfT : f.type ∈ T := by simpa using List.all_eq_true.1 hfs f hf
            exact conv hti hT hZ fuel f.type _ _ _ hfT h3)
          rw [List.drop_zero, Nat.sub_zero, List.take_of_length_le (by omega)] at h1
          exact ⟨ds, .struct ds hx hd (by rw [h1.1]; omega) h1.2.1 (fun f hf y hy => by simpa using h2 f hf y hy), h1⟩
        · cases h
      · simp at hp
    · simp at hp

end Go.AM

namespace Go.AM
open Go

structure AllR (L L' : List D) (r : Nat → Bool) (R : Bool) : Prop where
  len : L.length ≠ L'.length → R = false
  bad : ∀ i, i < L.length → i < L'.length → r i = false → R = false
  good : L.length = L'.length → (∀ i, i < L.length → r i = true) → R = true

theorem AllR.of (L L' : List D) (r : Nat → Bool) : AllR L L' r (decide (L.length = L'.length ∧ ∀ i, i < L.length → r i = true)) where
  len h := by simp [h]
  bad i h1 h2 h := by
    rw [decide_eq_false_iff_not]
    rintro ⟨_, h3⟩
    rw [h3 i h1] at h
    cases h
  good h1 h2 := by rw [decide_eq_true_iff]; exact ⟨h1, h2⟩

section
variable {ti : Types} {t e : TypeId} {x y : TI} {ds : List D} {fs : Array Field} {k : IntKind}
theorem Shape.str_inv (h : Shape ti t ds) (hx : ti t = some x) (hd : x.desc = .string) : ∃ s, ds = [.str s] ∧ s.size ≤ maxLen := by
  cases h <;> simp_all
theorem Shape.struct_inv (h : Shape ti t ds) (hx : ti t = some x) (hd : x.desc = .struct fs) :
    ds.length = x.size ∧ (∀ c ∈ ds, c.isAgg = false) ∧ ∀ f ∈ fs.toList, ∀ y, ti f.type = some y → Shape ti f.type ((ds.drop f.offset).take y.size) := by
  cases h with
  | struct ds h1 h2 h3 h4 h5 =>
    rw [hx] at h1
    obtain rfl := Option.some.inj h1
    rw [hd] at h2
    obtain rfl := TypeDesc.struct.inj h2
    exact ⟨h3, h4, h5⟩
  | _ => simp_all
end

open Classical in
theorem AllR.same (L L' : List D) : AllR L L' (fun i => decide (L[i]? = L'[i]?)) (decide (L = L')) where
  len h := by rw [decide_eq_false_iff_not]; rintro rfl; exact h rfl
  bad i h1 h2 h := by
    rw [decide_eq_false_iff_not] at h ⊢
    rintro rfl; exact h rfl
  good h1 h2 := by
    rw [decide_eq_true_iff]
    refine List.ext_getElem? fun i => ?_
    by_cases hi : i < L.length
    · exact of_decide_eq_true (h2 i hi)
    · rw [List.getElem?_eq_none (by omega), List.getElem?_eq_none (by omega)]

def tyD (ti : Types) (t : TypeId) : TI :=
  match ti t with
  | some x => x
  | none => ⟨.bool, 0, 0, .bool false, []⟩

theorem bytes_eq {a b : ByteArray} : (a.toList == b.toList) = true ↔ a = b := by
  constructor
  · intro h
    have h := beq_iff_eq.1 h
    rw [ByteArray.toList_eq, ByteArray.toList_eq] at h
    exact ByteArray.ext (Array.ext' h)
  · rintro rfl; simp
theorem toList_inj {a b : ByteArray} : a.toList = b.toList ↔ a = b := by rw [← bytes_eq, beq_iff_eq]
theorem bytes_ne {a b : ByteArray} : (a.toList == b.toList) = false ↔ a ≠ b := by
  rw [← Bool.not_eq_true, bytes_eq]
end Go.AM

namespace Go.AM
open Go
section
variable {α γ : Type}
def letF (z : Int) (k : Int → Option γ) : Option γ := k z
theorem letF_inv {z : Int} {k : Int → Option γ} {r : γ} (h : letF z k = some r) : ∃ y, z = y ∧ k y = some r := ⟨z, rfl, h⟩
def lenF (L : List D) (k : Int → Option γ) : Option γ := k L.length
theorem lenF_inv (M : Mach) {L : List D} {k : Int → Option γ} {r : γ} (h : lenF L k = some r) : ∃ y, M.lenI L = y ∧ k y = some r := ⟨L.length, M.lenI_eq L, h⟩
def szF (s : ByteArray) (k : Int → Option γ) : Option γ := k s.size
theorem szF_inv (M : Mach) {s : ByteArray} {k : Int → Option γ} {r : γ} (h : szF s k = some r) : ∃ y, M.szI s = y ∧ k y = some r := ⟨s.size, M.szI_eq s, h⟩
def getF (L : List D) (i : Int) (k : D → Option γ) : Option γ := if 0 ≤ i then (match L[i.toNat]? with | some x => k x | none => none) else none
theorem getF_inv {L : List D} {i : Int} {k : D → Option γ} {r : γ} (h : getF L i k = some r) : ∃ x, (0 ≤ i ∧ L[i.toNat]? = some x) ∧ k x = some r := by
  unfold getF at h
  split at h
  · rename_i h0
    split at h
    · rename_i x hx
      exact ⟨x, ⟨h0, hx⟩, h⟩
    · cases h
  · cases h
theorem getF_some {L : List D} {i : Int} {k : D → Option γ} {x : D} (h0 : 0 ≤ i) (hx : L[i.toNat]? = some x) : getF L i k = k x := by
  unfold getF
  rw [if_pos h0, hx]
def needF (p : Prop) [Decidable p] (x : Option γ) : Option γ := if p then x else none
theorem needF_inv {p : Prop} [Decidable p] {x : Option γ} {r : γ} (h : needF p x = some r) : p ∧ x = some r := by
  unfold needF at h
  split at h
  · rename_i hp
    exact ⟨hp, h⟩
  · cases h
theorem ite_t {p : Prop} [Decidable p] {x y r : Option γ} (hp : p) (h : (if p then x else y) = r) : x = r := by rwa [if_pos hp] at h
theorem ite_f {p : Prop} [Decidable p] {x y r : Option γ} (hp : ¬ p) (h : (if p then x else y) = r) : y = r := by rwa [if_neg hp] at h
def appF (b : Nat) (L M : List D) (k : List D → Option γ) : Option γ := if L.length + M.length ≤ maxLen ∧ (L.length + M.length) * b ≤ 140737488355328 then k (L ++ M) else none
theorem appF_inv {b : Nat} {L M : List D} {k : List D → Option γ} {r : γ} (h : appF b L M k = some r) : ∃ out, (L.length + M.length ≤ maxLen ∧ (L.length + M.length) * b ≤ 140737488355328) ∧ L ++ M = out ∧ k out = some r := by
  unfold appF at h
  split at h
  · rename_i hb
    exact ⟨_, hb, rfl, h⟩
  · cases h
def letL (L : List D) (k : List D → Option γ) : Option γ := k L
theorem letL_inv {L : List D} {k : List D → Option γ} {r : γ} (h : letL L k = some r) : ∃ out, L = out ∧ k out = some r := ⟨L, rfl, h⟩
def setF (L : List D) (i : Nat) (x : D) (k : List D → Option γ) : Option γ := k (L.set i x)
theorem setF_inv {L : List D} {i : Nat} {x : D} {k : List D → Option γ} {r : γ} (h : setF L i x k = some r) : ∃ out, L.set i x = out ∧ k out = some r := ⟨_, rfl, h⟩
def getN (L : List D) (i : Nat) (k : D → Option γ) : Option γ := match L[i]? with | some x => k x | none => none
theorem getN_inv {L : List D} {i : Nat} {k : D → Option γ} {r : γ} (h : getN L i k = some r) : ∃ x, L[i]? = some x ∧ k x = some r := by
  unfold getN at h
  split at h
  · rename_i x hx
    exact ⟨x, hx, h⟩
  · cases h
def subF (s : ByteArray) (l u : Int) (k : ByteArray → Option γ) : Option γ := if 0 ≤ l ∧ l ≤ u ∧ u ≤ (s.size : Int) then k (s.extract l.toNat u.toNat) else none
theorem subF_inv (M : Mach) {s : ByteArray} {l u : Int} {k : ByteArray → Option γ} {r : γ} (h : subF s l u k = some r) : ∃ out, (0 ≤ l ∧ l ≤ u ∧ u ≤ M.szI s) ∧ s.extract l.toNat u.toNat = out ∧ k out = some r := by
  unfold subF at h
  split at h
  · rename_i hb
    exact ⟨_, by rw [M.szI_eq]; exact hb, rfl, h⟩
  · cases h
def subToF (s : ByteArray) (l : Int) (k : ByteArray → Option γ) : Option γ := if 0 ≤ l ∧ l ≤ (s.size : Int) then k (s.extract l.toNat s.size) else none
theorem subToF_inv (M : Mach) {s : ByteArray} {l : Int} {k : ByteArray → Option γ} {r : γ} (h : subToF s l k = some r) : ∃ out, (0 ≤ l ∧ l ≤ M.szI s ∧ M.szI s ≤ M.szI s) ∧ s.extract l.toNat (M.szI s).toNat = out ∧ k out = some r := by
  unfold subToF at h
  split at h
  · rename_i hb
    exact ⟨_, by rw [M.szI_eq]; exact ⟨hb.1, hb.2, Int.le_refl _⟩, rfl, by rw [M.szI_eq]; simpa using h⟩
  · cases h
def atF (s : ByteArray) (i : Int) (k : Int → Option γ) : Option γ := if 0 ≤ i then (match (s[i.toNat]?).map (fun u => (u.toNat : Int)) with | some z => k z | none => none) else none
theorem atF_inv {s : ByteArray} {i : Int} {k : Int → Option γ} {r : γ} (h : atF s i k = some r) : ∃ z, (0 ≤ i ∧ (s[i.toNat]?).map (fun u => (u.toNat : Int)) = some z) ∧ k z = some r := by
  unfold atF at h
  split at h
  · rename_i h0
    split at h
    · rename_i z hz
      exact ⟨z, ⟨h0, hz⟩, h⟩
    · cases h
  · cases h
def bO1 {A1 : Type} (x : Option (A1)) (k : A1 → Option γ) : Option γ := match x with | some p => k p | none => none
theorem bO1_inv {A1 : Type} {x : Option (A1)} {k : A1 → Option γ} {r : γ} (h : bO1 x k = some r) : ∃ a1, x = some a1 ∧ k a1 = some r := by
  cases x with
  | none => cases h
  | some p => exact ⟨_, rfl, h⟩
def bO2 {A1 A2 : Type} (x : Option (A1 × A2)) (k : A1 → A2 → Option γ) : Option γ := match x with | some p => k p.1 p.2 | none => none
theorem bO2_inv {A1 A2 : Type} {x : Option (A1 × A2)} {k : A1 → A2 → Option γ} {r : γ} (h : bO2 x k = some r) : ∃ a1 a2, x = some (a1, a2) ∧ k a1 a2 = some r := by
  cases x with
  | none => cases h
  | some p => exact ⟨_, _, rfl, h⟩
theorem inj2 {A1 A2 : Type}{a1 b1 : A1} {a2 b2 : A2} (h : some (a1, a2) = some (b1, b2)) : a1 = b1 ∧ a2 = b2 := by
  cases h
  exact ⟨rfl, rfl⟩
def bO3 {A1 A2 A3 : Type} (x : Option (A1 × A2 × A3)) (k : A1 → A2 → A3 → Option γ) : Option γ := match x with | some p => k p.1 p.2.1 p.2.2 | none => none
theorem bO3_inv {A1 A2 A3 : Type} {x : Option (A1 × A2 × A3)} {k : A1 → A2 → A3 → Option γ} {r : γ} (h : bO3 x k = some r) : ∃ a1 a2 a3, x = some (a1, a2, a3) ∧ k a1 a2 a3 = some r := by
  cases x with
  | none => cases h
  | some p => exact ⟨_, _, _, rfl, h⟩
theorem inj3 {A1 A2 A3 : Type}{a1 b1 : A1} {a2 b2 : A2} {a3 b3 : A3} (h : some (a1, a2, a3) = some (b1, b2, b3)) : a1 = b1 ∧ a2 = b2 ∧ a3 = b3 := by
  cases h
  exact ⟨rfl, rfl, rfl⟩
end
end Go.AM

namespace Go.AM
open Go

def Ev {α : Type} (A : Nat → Option α) (r : α) : Prop := ∃ N, ∀ n, N ≤ n → A n = some r

section
variable {α β γ : Type}
theorem Ev.ret {r : α} : Ev (fun _ => some r) r := ⟨0, fun _ _ => rfl⟩
theorem Ev.of {A : Nat → Option α} {r : α} (h : ∀ n, A n = some r) : Ev A r := ⟨0, fun n _ => h n⟩
theorem Ev.succ {A : Nat → Option α} {r : α} (h : Ev (fun n => A (n + 1)) r) : Ev A r := by
  obtain ⟨N, h⟩ := h
  refine ⟨N + 1, fun n hn => ?_⟩
  obtain ⟨m, rfl⟩ : ∃ m, n = m + 1 := ⟨n - 1, by omega⟩
  exact h m (by omega)
theorem Ev.congr {A B : Nat → Option α} {r : α} (h : Ev A r) (e : ∀ n, A n = B n) : Ev B r := by
  obtain ⟨N, h⟩ := h
  exact ⟨N, fun n hn => (e n) ▸ h n hn⟩
theorem Ev.bO1 {A : Nat → Option α} {a : α} {k : Nat → α → Option γ} {r : γ} (ha : Ev A a) (hk : Ev (fun n => k n a) r) : Ev (fun n => bO1 (A n) (k n)) r := by
  obtain ⟨N, ha⟩ := ha
  obtain ⟨M, hk⟩ := hk
  refine ⟨N + M, fun n hn => ?_⟩
  show Go.AM.bO1 (A n) (k n) = some r
  rw [ha n (by omega)]
  exact hk n (by omega)
theorem Ev.bO2 {A : Nat → Option (α × β)} {a : α} {b : β} {k : Nat → α → β → Option γ} {r : γ} (ha : Ev A (a, b)) (hk : Ev (fun n => k n a b) r) : Ev (fun n => bO2 (A n) (k n)) r := by
  obtain ⟨N, ha⟩ := ha
  obtain ⟨M, hk⟩ := hk
  refine ⟨N + M, fun n hn => ?_⟩
  show Go.AM.bO2 (A n) (k n) = some r
  rw [ha n (by omega)]
  exact hk n (by omega)
theorem Ev.run {A : Nat → Option α} {r : α} (h : Ev A r) : ∃ n, A n = some r := let ⟨N, h⟩ := h; ⟨N, h N (Nat.le_refl _)⟩
theorem down {P : Nat → Prop} (N : Nat) (h0 : P N) (h : ∀ i, i < N → P (i + 1) → P i) : ∀ i, i ≤ N → P i := by
  intro i hi
  obtain ⟨d, hd⟩ : ∃ d, d = N - i := ⟨_, rfl⟩
  induction d generalizing i with
  | zero => obtain rfl : i = N := by omega
            exact h0
  | succ d ih => exact h i (by omega) (ih (i + 1) (by omega) (by omega))
end

section
variable {γ : Type}
theorem getF_nat {L : List D} {i : Nat} {x : D} {k : D → Option γ} (hx : L[i]? = some x) : getF L (i : Int) k = k x := getF_some (by omega) (by simpa using hx)
theorem wrap_i64' {x : Int} (h : -9223372036854775808 ≤ x ∧ x ≤ 9223372036854775807) : IntKind.i64.wrap x = x := IntWalk.i64_in x h
theorem wrap_succ {i N : Nat} (h : i < N) (hN : N ≤ maxLen) : IntKind.i64.wrap ((i : Int) + 1) = ((i + 1 : Nat) : Int) := by
  have : maxLen = 9223372036854775807 := rfl
  rw [wrap_i64' (by omega)]; omega
end

def RowS (ti : Types) (e : TypeId) (x : D) : Prop := Shape ti e x.cells ∧ ∀ y, ti e = some y → x.isAgg = rowD y.desc
def ListS (ti : Types) (e : TypeId) (L : List D) : Prop := L.length ≤ maxLen ∧ ∀ x ∈ L, RowS ti e x

theorem ListS.get {ti : Types} {e : TypeId} {L : List D} {i : Nat} (h : ListS ti e L) (hi : i < L.length) : ∃ x, L[i]? = some x ∧ x ∈ L ∧ RowS ti e x :=
  ⟨L[i], List.getElem?_eq_getElem hi, List.getElem_mem hi, h.2 _ (List.getElem_mem hi)⟩

def flatFs (ti : Types) (rec : TypeId → Option (List TypeId)) : Nat → List Field → Option (List TypeId)
  | _, [] => some []
  | off, f :: r => match Nat.beq f.offset off with
    | false => none
    | true => match ti f.type with
      | none => none
      | some y => match rec f.type with
        | none => none
        | some l => match Nat.beq l.length y.size with
          | false => none
          | true => match flatFs ti rec (off + y.size) r with
            | none => none
            | some l' => some (l ++ l')
def flatT (ti : Types) : Nat → TypeId → Option (List TypeId)
  | 0, _ => none
  | n + 1, t => match ti t with
    | none => none
    | some x => match x.desc with
      | .struct fs => match flatFs ti (flatT ti n) 0 fs.toList with
        | none => none
        | some l => match Nat.beq l.length x.size with
          | true => some l
          | false => none
      | .array .. => none
      | _ => some [t]

theorem Shape.one {ti : Types} {t : TypeId} {x : TI} {ds : List D} (h : Shape ti t ds) (hx : ti t = some x) (hd : ∀ fs, x.desc ≠ .struct fs) : ∃ c, ds = [c] := by
  cases h with
  | struct ds h1 h2 => rw [hx] at h1; obtain rfl := Option.some.inj h1; exact absurd h2 (hd _)
  | _ => exact ⟨_, rfl⟩

theorem flatFs_ok {ti : Types} {rec : TypeId → Option (List TypeId)} {ds : List D}
    (hrec : ∀ t ls cs, rec t = some ls → Shape ti t cs → cs.length = ls.length ∧ ∀ (j : Nat) c tl, cs[j]? = some c → ls[j]? = some tl → Shape ti tl [c]) :
    ∀ (fs : List Field) (off : Nat) (ls : List TypeId), flatFs ti rec off fs = some ls → (∀ f ∈ fs, ∀ y, ti f.type = some y → Shape ti f.type ((ds.drop f.offset).take y.size)) →
      ∀ (j : Nat) c tl, ds[off + j]? = some c → ls[j]? = some tl → Shape ti tl [c]
  | [], off, ls, h, _, j, c, tl, _, hl => by
    cases h; simp at hl
  | f :: fs, off, ls, h, hs, j, c, tl, hc, hl => by
    unfold flatFs at h
    split at h
    · cases h
    · rename_i ho
      have ho := Nat.eq_of_beq_eq_true ho
      split at h
      · cases h
      · rename_i y hy
        split at h
        · cases h
        · rename_i l hr
          split at h
          · cases h
          · rename_i hb
            have hb := Nat.eq_of_beq_eq_true hb
            split at h
            · cases h
            · rename_i l' hl'
              cases h
              obtain ⟨h1, h2⟩ := hrec _ _ _ hr (hs f (by simp) y hy)
              by_cases hj : j < l.length
              · rw [List.getElem?_append_left hj] at hl
                refine h2 j c tl ?_ hl
                rw [List.getElem?_take, if_pos (by omega), List.getElem?_drop, ho]
                exact hc
              · rw [List.getElem?_append_right (by omega)] at hl
                refine flatFs_ok hrec fs _ l' hl' (fun f' hf' => hs f' (List.mem_cons_of_mem _ hf')) (j - l.length) c tl ?_ hl
                rw [← hc]; congr 1; omega

theorem Shape.flat {ti : Types} :
    ∀ (n : Nat) (t : TypeId) (ls : List TypeId) (ds : List D), flatT ti n t = some ls → Shape ti t ds → ds.length = ls.length ∧ ∀ (j : Nat) c tl, ds[j]? = some c → ls[j]? = some tl → Shape ti tl [c]
  | 0, t, ls, ds, h, _ => by cases h
  | n + 1, t, ls, ds, h, hs => by
    unfold flatT at h
    split at h
    · cases h
    · rename_i x hx
      have single : (∀ fs, x.desc ≠ .struct fs) → ls = [t] → ds.length = ls.length ∧ ∀ (j : Nat) c tl, ds[j]? = some c → ls[j]? = some tl → Shape ti tl [c] := by
        rintro hd rfl
        obtain ⟨c, rfl⟩ := hs.one hx hd
        refine ⟨rfl, fun j c' tl h1 h2 => ?_⟩
        match j with
        | 0 => simp at h1 h2; subst h1; subst h2; exact hs
        | j + 1 => simp at h1
      split at h
      · rename_i fs hd
        obtain ⟨h1, _, h3⟩ := hs.struct_inv hx hd
        split at h
        · cases h
        · rename_i l hl
          split at h
          · rename_i hb
            cases h
            refine ⟨h1.trans (Nat.eq_of_beq_eq_true hb).symm, fun j c tl h4 h5 => ?_⟩
            exact flatFs_ok (fun t ls cs h6 h7 => Shape.flat n t ls cs h6 h7) fs.toList 0 ls hl h3 j c tl (by simpa using h4) h5
          · cases h
      · cases h
      · rename_i h1 h2
        cases h
        exact single h1 rfl

theorem RowS.agg {ti : Types} {e : TypeId} {x : D} {y : TI} (h : RowS ti e x) (hy : ti e = some y) (hr : rowD y.desc = true) : ∃ cs, x = .agg cs ∧ Shape ti e cs := by
  have h1 := (h.2 y hy).trans hr
  cases x <;> simp [D.isAgg] at h1
  exact ⟨_, rfl, h.1⟩
theorem RowS.flat1 {ti : Types} {e : TypeId} {x : D} {y : TI} (h : RowS ti e x) (hy : ti e = some y) (hr : rowD y.desc = false) : Shape ti e [x] := by
  have h1 := (h.2 y hy).trans hr
  have h0 := h.1
  cases x <;> simp_all [D.isAgg, D.cells]
theorem Shape.strS {ti : Types} {t : TypeId} {x : TI} {c : D} (h : Shape ti t [c]) (hx : ti t = some x) (hd : x.desc = .string) : ∃ s, c = .str s ∧ s.size ≤ maxLen := by
  obtain ⟨n, e, hw⟩ := h.str_inv hx hd
  exact ⟨n, (List.cons.inj e).1, hw⟩
end Go.AM

namespace Go.Proofs.YtjmofeakajdbiaaDoor
open Go Go.AM
def tabC0 : List (Nat × TI) := [(1, ⟨.func #[] #[] false, 1, 8, .nilFunc, [.nilf]⟩),
  (2, ⟨.int .i64, 1, 8, .int .i64 0, [.d (.int .i64 0)]⟩),
  (3, ⟨.int .i64, 1, 8, .int .i64 0, [.d (.int .i64 0)]⟩),
  (4, ⟨.bool, 1, 1, .bool false, [.d (.bool false)]⟩),
  (5, ⟨.int .u8, 1, 1, .int .u8 0, [.d (.int .u8 0)]⟩),
  (6, ⟨.int .u8, 1, 1, .int .u8 0, [.d (.int .u8 0)]⟩),
  (7, ⟨.struct #[⟨"x", 2, 0, false, "", "runtime", 0⟩, ⟨"y", 3, 1, false, "", "runtime", 8⟩, ⟨"signed", 4, 2, false, "", "runtime", 16⟩, ⟨"code", 6, 3, false, "", "runtime", 17⟩], 4, 24, .agg #[.int .i64 0, .int .i64 0, .bool false, .int .u8 0], [.d (.int .i64 0), .d (.int .i64 0), .d (.bool false), .d (.int .u8 0)]⟩),
  (8, ⟨.struct #[⟨"x", 2, 0, false, "", "runtime", 0⟩, ⟨"y", 3, 1, false, "", "runtime", 8⟩, ⟨"signed", 4, 2, false, "", "runtime", 16⟩, ⟨"code", 6, 3, false, "", "runtime", 17⟩], 4, 24, .agg #[.int .i64 0, .int .i64 0, .bool false, .int .u8 0], [.d (.int .i64 0), .d (.int .i64 0), .d (.bool false), .d (.int .u8 0)]⟩),
  (9, ⟨.string, 1, 16, .string ByteArray.empty, [.d (.str ByteArray.empty)]⟩),
  (10, ⟨.string, 1, 16, .string ByteArray.empty, [.d (.str ByteArray.empty)]⟩),
  (11, ⟨.string, 1, 16, .string ByteArray.empty, [.d (.str ByteArray.empty)]⟩),
  (12, ⟨.int .u64, 1, 8, .int .u64 0, [.d (.int .u64 0)]⟩),
  (13, ⟨.struct #[⟨"msg", 9, 0, false, "", "runtime", 0⟩, ⟨"addr", 12, 1, false, "", "runtime", 16⟩], 2, 24, .agg #[.string ByteArray.empty, .int .u64 0], [.d (.str ByteArray.empty), .d (.int .u64 0)]⟩),
  (14, ⟨.struct #[⟨"msg", 9, 0, false, "", "runtime", 0⟩, ⟨"addr", 12, 1, false, "", "runtime", 16⟩], 2, 24, .agg #[.string ByteArray.empty, .int .u64 0], [.d (.str ByteArray.empty), .d (.int .u64 0)]⟩),
  (15, ⟨.pointer 125, 1, 8, .pointer none, [.nilp]⟩)]
def tabC1 : List (Nat × TI) := [(16, ⟨.pointer 128, 1, 8, .pointer none, [.nilp]⟩),
  (17, ⟨.pointer 137, 1, 8, .pointer none, [.nilp]⟩),
  (18, ⟨.struct #[⟨"typ", 17, 0, false, "", "internal/runtime/maps", 0⟩], 1, 8, .agg #[.pointer none], [.nilp]⟩),
  (19, ⟨.struct #[⟨"typ", 17, 0, false, "", "internal/runtime/maps", 0⟩], 1, 8, .agg #[.pointer none], [.nilp]⟩),
  (21, ⟨.int .i32, 1, 4, .int .i32 0, [.d (.int .i32 0)]⟩),
  (22, ⟨.func #[9] #[4] false, 1, 8, .nilFunc, [.nilf]⟩),
  (23, ⟨.slice 25, 1, 24, .slice none 0 0, [.nils true 3]⟩),
  (24, ⟨.struct #[⟨"Kind", 5, 0, false, "", "", 0⟩, ⟨"Name", 9, 1, false, "", "", 8⟩, ⟨"Args", 23, 2, false, "", "", 24⟩], 3, 48, .agg #[.int .u8 0, .string ByteArray.empty, .slice none 0 0], [.d (.int .u8 0), .d (.str ByteArray.empty), .nils true 3]⟩),
  (25, ⟨.struct #[⟨"Kind", 5, 0, false, "", "", 0⟩, ⟨"Name", 9, 1, false, "", "", 8⟩, ⟨"Args", 23, 2, false, "", "", 24⟩], 3, 48, .agg #[.int .u8 0, .string ByteArray.empty, .slice none 0 0], [.d (.int .u8 0), .d (.str ByteArray.empty), .nils true 3]⟩),
  (26, ⟨.slice 9, 1, 24, .slice none 0 0, [.nils false 1]⟩),
  (27, ⟨.struct #[⟨"Name", 9, 0, false, "", "", 0⟩, ⟨"Path", 26, 1, false, "", "", 16⟩], 2, 40, .agg #[.string ByteArray.empty, .slice none 0 0], [.d (.str ByteArray.empty), .nils false 1]⟩),
  (28, ⟨.struct #[⟨"Name", 9, 0, false, "", "", 0⟩, ⟨"Path", 26, 1, false, "", "", 16⟩], 2, 40, .agg #[.string ByteArray.empty, .slice none 0 0], [.d (.str ByteArray.empty), .nils false 1]⟩),
  (29, ⟨.slice 31, 1, 24, .slice none 0 0, [.nils true 8]⟩),
  (30, ⟨.struct #[⟨"Op", 5, 0, false, "", "", 0⟩, ⟨"Int", 2, 1, false, "", "", 8⟩, ⟨"Name", 9, 2, false, "", "", 16⟩, ⟨"Second", 9, 3, false, "", "", 32⟩, ⟨"Place", 28, 4, false, "", "", 48⟩, ⟨"Args", 29, 6, false, "", "", 88⟩, ⟨"At", 3, 7, false, "", "", 112⟩], 8, 120, .agg #[.int .u8 0, .int .i64 0, .string ByteArray.empty, .string ByteArray.empty, .string ByteArray.empty, .slice none 0 0, .slice none 0 0, .int .i64 0], [.d (.int .u8 0), .d (.int .i64 0), .d (.str ByteArray.empty), .d (.str ByteArray.empty), .d (.str ByteArray.empty), .nils false 1, .nils true 8, .d (.int .i64 0)]⟩),
  (31, ⟨.struct #[⟨"Op", 5, 0, false, "", "", 0⟩, ⟨"Int", 2, 1, false, "", "", 8⟩, ⟨"Name", 9, 2, false, "", "", 16⟩, ⟨"Second", 9, 3, false, "", "", 32⟩, ⟨"Place", 28, 4, false, "", "", 48⟩, ⟨"Args", 29, 6, false, "", "", 88⟩, ⟨"At", 3, 7, false, "", "", 112⟩], 8, 120, .agg #[.int .u8 0, .int .i64 0, .string ByteArray.empty, .string ByteArray.empty, .string ByteArray.empty, .slice none 0 0, .slice none 0 0, .int .i64 0], [.d (.int .u8 0), .d (.int .i64 0), .d (.str ByteArray.empty), .d (.str ByteArray.empty), .d (.str ByteArray.empty), .nils false 1, .nils true 8, .d (.int .i64 0)]⟩)]
def tabC2 : List (Nat × TI) := [(32, ⟨.func #[25] #[4] false, 1, 8, .nilFunc, [.nilf]⟩),
  (33, ⟨.func #[31] #[4] false, 1, 8, .nilFunc, [.nilf]⟩),
  (34, ⟨.func #[25, 3] #[4] false, 1, 8, .nilFunc, [.nilf]⟩),
  (35, ⟨.func #[31, 3] #[4] false, 1, 8, .nilFunc, [.nilf]⟩),
  (36, ⟨.func #[28] #[4] false, 1, 8, .nilFunc, [.nilf]⟩),
  (37, ⟨.func #[25, 31] #[4] false, 1, 8, .nilFunc, [.nilf]⟩),
  (38, ⟨.slice 47, 1, 24, .slice none 0 0, [.nils true 3]⟩),
  (40, ⟨.func #[9] #[38, 3, 3] false, 1, 8, .nilFunc, [.nilf]⟩),
  (41, ⟨.slice 46, 1, 24, .slice none 0 0, [.nils true 3]⟩),
  (42, ⟨.int .i64, 1, 8, .int .i64 0, [.d (.int .i64 0)]⟩),
  (44, ⟨.func #[9] #[41, 3, 42] false, 1, 8, .nilFunc, [.nilf]⟩),
  (45, ⟨.struct #[⟨"Kind", 5, 0, false, "", "", 0⟩, ⟨"Text", 9, 1, false, "", "", 8⟩, ⟨"At", 3, 2, false, "", "", 24⟩], 3, 32, .agg #[.int .u8 0, .string ByteArray.empty, .int .i64 0], [.d (.int .u8 0), .d (.str ByteArray.empty), .d (.int .i64 0)]⟩),
  (46, ⟨.struct #[⟨"Kind", 5, 0, false, "", "", 0⟩, ⟨"Text", 9, 1, false, "", "", 8⟩, ⟨"At", 3, 2, false, "", "", 24⟩], 3, 32, .agg #[.int .u8 0, .string ByteArray.empty, .int .i64 0], [.d (.int .u8 0), .d (.str ByteArray.empty), .d (.int .i64 0)]⟩),
  (47, ⟨.struct #[⟨"Kind", 5, 0, false, "", "", 0⟩, ⟨"Text", 9, 1, false, "", "", 8⟩, ⟨"At", 3, 2, false, "", "", 24⟩], 3, 32, .agg #[.int .u8 0, .string ByteArray.empty, .int .i64 0], [.d (.int .u8 0), .d (.str ByteArray.empty), .d (.int .i64 0)]⟩)]
def tabC3 : List (Nat × TI) := [(48, ⟨.func #[] #[4] false, 1, 8, .nilFunc, [.nilf]⟩),
  (49, ⟨.slice 5, 1, 24, .slice none 0 0, [.nils false 1]⟩),
  (50, ⟨.func #[9, 9] #[4] false, 1, 8, .nilFunc, [.nilf]⟩),
  (51, ⟨.int .u64, 1, 8, .int .u64 0, [.d (.int .u64 0)]⟩),
  (52, ⟨.func #[49, 4, 51] #[4] false, 1, 8, .nilFunc, [.nilf]⟩),
  (53, ⟨.map 9 3, 1, 8, .map none, [.nilm]⟩),
  (54, ⟨.func #[] #[53] false, 1, 8, .nilFunc, [.nilf]⟩),
  (55, ⟨.func #[9, 56] #[4] false, 1, 8, .nilFunc, [.nilf]⟩),
  (56, ⟨.func #[5] #[4] false, 1, 8, .nilFunc, [.nilf]⟩),
  (57, ⟨.func #[9, 5, 5] #[4] false, 1, 8, .nilFunc, [.nilf]⟩),
  (58, ⟨.pointer 60, 1, 8, .pointer none, [.nilp]⟩),
  (59, ⟨.struct #[⟨"Left", 3, 0, false, "", "", 0⟩], 1, 8, .agg #[.int .i64 0], [.d (.int .i64 0)]⟩),
  (60, ⟨.struct #[⟨"Left", 3, 0, false, "", "", 0⟩], 1, 8, .agg #[.int .i64 0], [.d (.int .i64 0)]⟩),
  (61, ⟨.func #[25] #[] false, 1, 8, .nilFunc, [.nilf]⟩),
  (62, ⟨.func #[31] #[] false, 1, 8, .nilFunc, [.nilf]⟩),
  (63, ⟨.func #[5] #[9] false, 1, 8, .nilFunc, [.nilf]⟩)]
def tabC4 : List (Nat × TI) := [(64, ⟨.func #[9, 3] #[4] false, 1, 8, .nilFunc, [.nilf]⟩),
  (65, ⟨.func #[9, 5] #[4] false, 1, 8, .nilFunc, [.nilf]⟩),
  (66, ⟨.func #[26, 3, 22] #[4] false, 1, 8, .nilFunc, [.nilf]⟩),
  (67, ⟨.func #[9, 3] #[3] false, 1, 8, .nilFunc, [.nilf]⟩),
  (68, ⟨.func #[9] #[5] false, 1, 8, .nilFunc, [.nilf]⟩),
  (69, ⟨.func #[9] #[3] false, 1, 8, .nilFunc, [.nilf]⟩),
  (70, ⟨.func #[9] #[46] false, 1, 8, .nilFunc, [.nilf]⟩),
  (71, ⟨.func #[9] #[26] false, 1, 8, .nilFunc, [.nilf]⟩),
  (72, ⟨.func #[9, 56] #[3] false, 1, 8, .nilFunc, [.nilf]⟩),
  (73, ⟨.func #[9] #[] false, 1, 8, .nilFunc, [.nilf]⟩),
  (74, ⟨.func #[28] #[] false, 1, 8, .nilFunc, [.nilf]⟩),
  (75, ⟨.func #[23, 3, 32] #[4] false, 1, 8, .nilFunc, [.nilf]⟩),
  (76, ⟨.struct #[⟨"place", 4, 0, false, "", "weftway/tree", 0⟩, ⟨"least", 3, 1, false, "", "weftway/tree", 8⟩, ⟨"most", 3, 2, false, "", "weftway/tree", 16⟩], 3, 24, .agg #[.bool false, .int .i64 0, .int .i64 0], [.d (.bool false), .d (.int .i64 0), .d (.int .i64 0)]⟩),
  (77, ⟨.struct #[⟨"place", 4, 0, false, "", "weftway/tree", 0⟩, ⟨"least", 3, 1, false, "", "weftway/tree", 8⟩, ⟨"most", 3, 2, false, "", "weftway/tree", 16⟩], 3, 24, .agg #[.bool false, .int .i64 0, .int .i64 0], [.d (.bool false), .d (.int .i64 0), .d (.int .i64 0)]⟩),
  (79, ⟨.func #[5] #[77, 4] false, 1, 8, .nilFunc, [.nilf]⟩)]
def tabC5 : List (Nat × TI) := [(80, ⟨.func #[31, 4] #[4] false, 1, 8, .nilFunc, [.nilf]⟩),
  (81, ⟨.func #[29, 3, 33] #[4] false, 1, 8, .nilFunc, [.nilf]⟩),
  (83, ⟨.func #[9] #[2, 3] false, 1, 8, .nilFunc, [.nilf]⟩),
  (84, ⟨.func #[9, 5] #[3] false, 1, 8, .nilFunc, [.nilf]⟩),
  (86, ⟨.func #[9] #[2, 42] false, 1, 8, .nilFunc, [.nilf]⟩),
  (88, ⟨.func #[9, 89] #[26] false, 1, 8, .nilFunc, [.nilf]⟩),
  (89, ⟨.func #[21] #[4] false, 1, 8, .nilFunc, [.nilf]⟩),
  (90, ⟨.func #[26] #[] false, 1, 8, .nilFunc, [.nilf]⟩),
  (91, ⟨.func #[2, 2] #[2, 3] false, 1, 8, .nilFunc, [.nilf]⟩),
  (92, ⟨.func #[2] #[2, 3] false, 1, 8, .nilFunc, [.nilf]⟩),
  (93, ⟨.func #[9, 4] #[4] false, 1, 8, .nilFunc, [.nilf]⟩),
  (94, ⟨.struct #[⟨"lower", 4, 0, false, "", "weftway/num", 0⟩, ⟨"size", 51, 1, false, "", "weftway/num", 8⟩], 2, 16, .agg #[.bool false, .int .u64 0], [.d (.bool false), .d (.int .u64 0)]⟩),
  (95, ⟨.struct #[⟨"lower", 4, 0, false, "", "weftway/num", 0⟩, ⟨"size", 51, 1, false, "", "weftway/num", 8⟩], 2, 16, .agg #[.bool false, .int .u64 0], [.d (.bool false), .d (.int .u64 0)]⟩)]
def tabC6 : List (Nat × TI) := [(97, ⟨.func #[95] #[95, 4] false, 1, 8, .nilFunc, [.nilf]⟩),
  (98, ⟨.func #[4] #[2, 42] false, 1, 8, .nilFunc, [.nilf]⟩),
  (99, ⟨.slice 101, 1, 24, .slice none 0 0, [.nils true 2]⟩),
  (100, ⟨.struct #[⟨"start", 3, 0, false, "", "strings", 0⟩, ⟨"end", 3, 1, false, "", "strings", 8⟩], 2, 16, .agg #[.int .i64 0, .int .i64 0], [.d (.int .i64 0), .d (.int .i64 0)]⟩),
  (101, ⟨.struct #[⟨"start", 3, 0, false, "", "strings", 0⟩, ⟨"end", 3, 1, false, "", "strings", 8⟩], 2, 16, .agg #[.int .i64 0, .int .i64 0], [.d (.int .i64 0), .d (.int .i64 0)]⟩),
  (102, ⟨.int .u32, 1, 4, .int .u32 0, [.d (.int .u32 0)]⟩),
  (103, ⟨.func #[104, 21] #[4] false, 1, 8, .nilFunc, [.nilf]⟩),
  (104, ⟨.pointer 112, 1, 8, .pointer none, [.nilp]⟩),
  (105, ⟨.func #[2] #[2] false, 1, 8, .nilFunc, [.nilf]⟩),
  (107, ⟨.func #[51, 51] #[51, 51] false, 1, 8, .nilFunc, [.nilf]⟩),
  (108, ⟨.func #[51, 51, 51] #[51, 51] false, 1, 8, .nilFunc, [.nilf]⟩),
  (109, ⟨.slice 115, 1, 24, .slice none 0 0, [.nils true 3]⟩),
  (110, ⟨.slice 118, 1, 24, .slice none 0 0, [.nils true 3]⟩),
  (111, ⟨.struct #[⟨"R16", 109, 0, false, "", "", 0⟩, ⟨"R32", 110, 1, false, "", "", 24⟩, ⟨"LatinOffset", 3, 2, false, "", "", 48⟩], 3, 56, .agg #[.slice none 0 0, .slice none 0 0, .int .i64 0], [.nils true 3, .nils true 3, .d (.int .i64 0)]⟩)]
def tabC7 : List (Nat × TI) := [(112, ⟨.struct #[⟨"R16", 109, 0, false, "", "", 0⟩, ⟨"R32", 110, 1, false, "", "", 24⟩, ⟨"LatinOffset", 3, 2, false, "", "", 48⟩], 3, 56, .agg #[.slice none 0 0, .slice none 0 0, .int .i64 0], [.nils true 3, .nils true 3, .d (.int .i64 0)]⟩),
  (113, ⟨.int .u16, 1, 2, .int .u16 0, [.d (.int .u16 0)]⟩),
  (114, ⟨.struct #[⟨"Lo", 113, 0, false, "", "", 0⟩, ⟨"Hi", 113, 1, false, "", "", 2⟩, ⟨"Stride", 113, 2, false, "", "", 4⟩], 3, 6, .agg #[.int .u16 0, .int .u16 0, .int .u16 0], [.d (.int .u16 0), .d (.int .u16 0), .d (.int .u16 0)]⟩),
  (115, ⟨.struct #[⟨"Lo", 113, 0, false, "", "", 0⟩, ⟨"Hi", 113, 1, false, "", "", 2⟩, ⟨"Stride", 113, 2, false, "", "", 4⟩], 3, 6, .agg #[.int .u16 0, .int .u16 0, .int .u16 0], [.d (.int .u16 0), .d (.int .u16 0), .d (.int .u16 0)]⟩),
  (116, ⟨.func #[109, 113] #[4] false, 1, 8, .nilFunc, [.nilf]⟩),
  (117, ⟨.struct #[⟨"Lo", 102, 0, false, "", "", 0⟩, ⟨"Hi", 102, 1, false, "", "", 4⟩, ⟨"Stride", 102, 2, false, "", "", 8⟩], 3, 12, .agg #[.int .u32 0, .int .u32 0, .int .u32 0], [.d (.int .u32 0), .d (.int .u32 0), .d (.int .u32 0)]⟩),
  (118, ⟨.struct #[⟨"Lo", 102, 0, false, "", "", 0⟩, ⟨"Hi", 102, 1, false, "", "", 4⟩, ⟨"Stride", 102, 2, false, "", "", 8⟩], 3, 12, .agg #[.int .u32 0, .int .u32 0, .int .u32 0], [.d (.int .u32 0), .d (.int .u32 0), .d (.int .u32 0)]⟩),
  (119, ⟨.func #[110, 102] #[4] false, 1, 8, .nilFunc, [.nilf]⟩),
  (120, ⟨.int .u64, 1, 8, .int .u64 0, [.d (.int .u64 0)]⟩),
  (121, ⟨.pointer 115, 1, 8, .pointer none, [.nilp]⟩),
  (122, ⟨.pointer 118, 1, 8, .pointer none, [.nilp]⟩),
  (123, ⟨.func #[] #[9] false, 1, 8, .nilFunc, [.nilf]⟩),
  (124, ⟨.struct #[⟨"_interface", 17, 0, false, "", "runtime", 0⟩, ⟨"concrete", 17, 1, false, "", "runtime", 8⟩, ⟨"asserted", 17, 2, false, "", "runtime", 16⟩, ⟨"missingMethod", 9, 3, false, "", "runtime", 24⟩], 4, 40, .agg #[.pointer none, .pointer none, .pointer none, .string ByteArray.empty], [.nilp, .nilp, .nilp, .d (.str ByteArray.empty)]⟩),
  (125, ⟨.struct #[⟨"_interface", 17, 0, false, "", "runtime", 0⟩, ⟨"concrete", 17, 1, false, "", "runtime", 8⟩, ⟨"asserted", 17, 2, false, "", "runtime", 16⟩, ⟨"missingMethod", 9, 3, false, "", "runtime", 24⟩], 4, 40, .agg #[.pointer none, .pointer none, .pointer none, .string ByteArray.empty], [.nilp, .nilp, .nilp, .d (.str ByteArray.empty)]⟩)]
def tabC8 : List (Nat × TI) := [(129, ⟨.func #[] #[3] false, 1, 8, .nilFunc, [.nilf]⟩),
  (130, ⟨.int .u8, 1, 1, .int .u8 0, [.d (.int .u8 0)]⟩),
  (131, ⟨.int .u8, 1, 1, .int .u8 0, [.d (.int .u8 0)]⟩),
  (132, ⟨.func #[139, 139] #[4] false, 1, 8, .nilFunc, [.nilf]⟩),
  (133, ⟨.pointer 5, 1, 8, .pointer none, [.nilp]⟩),
  (134, ⟨.int .i32, 1, 4, .int .i32 0, [.d (.int .i32 0)]⟩),
  (135, ⟨.int .i32, 1, 4, .int .i32 0, [.d (.int .i32 0)]⟩),
  (136, ⟨.struct #[⟨"Size_", 12, 0, false, "", "", 0⟩, ⟨"PtrBytes", 12, 1, false, "", "", 8⟩, ⟨"Hash", 102, 2, false, "", "", 16⟩, ⟨"TFlag", 130, 3, false, "", "", 20⟩, ⟨"Align_", 5, 4, false, "", "", 21⟩, ⟨"FieldAlign_", 5, 5, false, "", "", 22⟩, ⟨"Kind_", 131, 6, false, "", "", 23⟩, ⟨"Equal", 132, 7, false, "", "", 24⟩, ⟨"GCData", 133, 8, false, "", "", 32⟩, ⟨"Str", 134, 9, false, "", "", 40⟩, ⟨"PtrToThis", 135, 10, false, "", "", 44⟩], 11, 48, .agg #[.int .u64 0, .int .u64 0, .int .u32 0, .int .u8 0, .int .u8 0, .int .u8 0, .int .u8 0, .nilFunc, .pointer none, .int .i32 0, .int .i32 0], [.d (.int .u64 0), .d (.int .u64 0), .d (.int .u32 0), .d (.int .u8 0), .d (.int .u8 0), .d (.int .u8 0), .d (.int .u8 0), .nilf, .nilp, .d (.int .i32 0), .d (.int .i32 0)]⟩),
  (137, ⟨.struct #[⟨"Size_", 12, 0, false, "", "", 0⟩, ⟨"PtrBytes", 12, 1, false, "", "", 8⟩, ⟨"Hash", 102, 2, false, "", "", 16⟩, ⟨"TFlag", 130, 3, false, "", "", 20⟩, ⟨"Align_", 5, 4, false, "", "", 21⟩, ⟨"FieldAlign_", 5, 5, false, "", "", 22⟩, ⟨"Kind_", 131, 6, false, "", "", 23⟩, ⟨"Equal", 132, 7, false, "", "", 24⟩, ⟨"GCData", 133, 8, false, "", "", 32⟩, ⟨"Str", 134, 9, false, "", "", 40⟩, ⟨"PtrToThis", 135, 10, false, "", "", 44⟩], 11, 48, .agg #[.int .u64 0, .int .u64 0, .int .u32 0, .int .u8 0, .int .u8 0, .int .u8 0, .int .u8 0, .nilFunc, .pointer none, .int .i32 0, .int .i32 0], [.d (.int .u64 0), .d (.int .u64 0), .d (.int .u32 0), .d (.int .u8 0), .d (.int .u8 0), .d (.int .u8 0), .d (.int .u8 0), .nilf, .nilp, .d (.int .i32 0), .d (.int .i32 0)]⟩),
  (138, ⟨.func #[] #[95] false, 1, 8, .nilFunc, [.nilf]⟩)]
def tabAll : List (List (Nat × TI)) := [tabC0, tabC1, tabC2, tabC3, tabC4, tabC5, tabC6, tabC7, tabC8]
def tab : Types := tabOf tabAll
theorem tabG0 : allGood Tryd.prog tabC0 := ⟨⟨by kernel_rfl, by kernel_rfl, by kernel_rfl⟩, ⟨by kernel_rfl, by kernel_rfl, by kernel_rfl⟩, ⟨by kernel_rfl, by kernel_rfl, by kernel_rfl⟩, ⟨by kernel_rfl, by kernel_rfl, by kernel_rfl⟩, ⟨by kernel_rfl, by kernel_rfl, by kernel_rfl⟩, ⟨by kernel_rfl, by kernel_rfl, by kernel_rfl⟩, ⟨by kernel_rfl, by kernel_rfl, by kernel_rfl⟩, ⟨by kernel_rfl, by kernel_rfl, by kernel_rfl⟩, ⟨by kernel_rfl, by kernel_rfl, by kernel_rfl⟩, ⟨by kernel_rfl, by kernel_rfl, by kernel_rfl⟩, ⟨by kernel_rfl, by kernel_rfl, by kernel_rfl⟩, ⟨by kernel_rfl, by kernel_rfl, by kernel_rfl⟩, ⟨by kernel_rfl, by kernel_rfl, by kernel_rfl⟩, ⟨by kernel_rfl, by kernel_rfl, by kernel_rfl⟩, ⟨by kernel_rfl, by kernel_rfl, by kernel_rfl⟩, trivial⟩
theorem tabG1 : allGood Tryd.prog tabC1 := ⟨⟨by kernel_rfl, by kernel_rfl, by kernel_rfl⟩, ⟨by kernel_rfl, by kernel_rfl, by kernel_rfl⟩, ⟨by kernel_rfl, by kernel_rfl, by kernel_rfl⟩, ⟨by kernel_rfl, by kernel_rfl, by kernel_rfl⟩, ⟨by kernel_rfl, by kernel_rfl, by kernel_rfl⟩, ⟨by kernel_rfl, by kernel_rfl, by kernel_rfl⟩, ⟨by kernel_rfl, by kernel_rfl, by kernel_rfl⟩, ⟨by kernel_rfl, by kernel_rfl, by kernel_rfl⟩, ⟨by kernel_rfl, by kernel_rfl, by kernel_rfl⟩, ⟨by kernel_rfl, by kernel_rfl, by kernel_rfl⟩, ⟨by kernel_rfl, by kernel_rfl, by kernel_rfl⟩, ⟨by kernel_rfl, by kernel_rfl, by kernel_rfl⟩, ⟨by kernel_rfl, by kernel_rfl, by kernel_rfl⟩, ⟨by kernel_rfl, by kernel_rfl, by kernel_rfl⟩, ⟨by kernel_rfl, by kernel_rfl, by kernel_rfl⟩, trivial⟩
theorem tabG2 : allGood Tryd.prog tabC2 := ⟨⟨by kernel_rfl, by kernel_rfl, by kernel_rfl⟩, ⟨by kernel_rfl, by kernel_rfl, by kernel_rfl⟩, ⟨by kernel_rfl, by kernel_rfl, by kernel_rfl⟩, ⟨by kernel_rfl, by kernel_rfl, by kernel_rfl⟩, ⟨by kernel_rfl, by kernel_rfl, by kernel_rfl⟩, ⟨by kernel_rfl, by kernel_rfl, by kernel_rfl⟩, ⟨by kernel_rfl, by kernel_rfl, by kernel_rfl⟩, ⟨by kernel_rfl, by kernel_rfl, by kernel_rfl⟩, ⟨by kernel_rfl, by kernel_rfl, by kernel_rfl⟩, ⟨by kernel_rfl, by kernel_rfl, by kernel_rfl⟩, ⟨by kernel_rfl, by kernel_rfl, by kernel_rfl⟩, ⟨by kernel_rfl, by kernel_rfl, by kernel_rfl⟩, ⟨by kernel_rfl, by kernel_rfl, by kernel_rfl⟩, ⟨by kernel_rfl, by kernel_rfl, by kernel_rfl⟩, trivial⟩
theorem tabG3 : allGood Tryd.prog tabC3 := ⟨⟨by kernel_rfl, by kernel_rfl, by kernel_rfl⟩, ⟨by kernel_rfl, by kernel_rfl, by kernel_rfl⟩, ⟨by kernel_rfl, by kernel_rfl, by kernel_rfl⟩, ⟨by kernel_rfl, by kernel_rfl, by kernel_rfl⟩, ⟨by kernel_rfl, by kernel_rfl, by kernel_rfl⟩, ⟨by kernel_rfl, by kernel_rfl, by kernel_rfl⟩, ⟨by kernel_rfl, by kernel_rfl, by kernel_rfl⟩, ⟨by kernel_rfl, by kernel_rfl, by kernel_rfl⟩, ⟨by kernel_rfl, by kernel_rfl, by kernel_rfl⟩, ⟨by kernel_rfl, by kernel_rfl, by kernel_rfl⟩, ⟨by kernel_rfl, by kernel_rfl, by kernel_rfl⟩, ⟨by kernel_rfl, by kernel_rfl, by kernel_rfl⟩, ⟨by kernel_rfl, by kernel_rfl, by kernel_rfl⟩, ⟨by kernel_rfl, by kernel_rfl, by kernel_rfl⟩, ⟨by kernel_rfl, by kernel_rfl, by kernel_rfl⟩, ⟨by kernel_rfl, by kernel_rfl, by kernel_rfl⟩, trivial⟩
theorem tabG4 : allGood Tryd.prog tabC4 := ⟨⟨by kernel_rfl, by kernel_rfl, by kernel_rfl⟩, ⟨by kernel_rfl, by kernel_rfl, by kernel_rfl⟩, ⟨by kernel_rfl, by kernel_rfl, by kernel_rfl⟩, ⟨by kernel_rfl, by kernel_rfl, by kernel_rfl⟩, ⟨by kernel_rfl, by kernel_rfl, by kernel_rfl⟩, ⟨by kernel_rfl, by kernel_rfl, by kernel_rfl⟩, ⟨by kernel_rfl, by kernel_rfl, by kernel_rfl⟩, ⟨by kernel_rfl, by kernel_rfl, by kernel_rfl⟩, ⟨by kernel_rfl, by kernel_rfl, by kernel_rfl⟩, ⟨by kernel_rfl, by kernel_rfl, by kernel_rfl⟩, ⟨by kernel_rfl, by kernel_rfl, by kernel_rfl⟩, ⟨by kernel_rfl, by kernel_rfl, by kernel_rfl⟩, ⟨by kernel_rfl, by kernel_rfl, by kernel_rfl⟩, ⟨by kernel_rfl, by kernel_rfl, by kernel_rfl⟩, ⟨by kernel_rfl, by kernel_rfl, by kernel_rfl⟩, trivial⟩
theorem tabG5 : allGood Tryd.prog tabC5 := ⟨⟨by kernel_rfl, by kernel_rfl, by kernel_rfl⟩, ⟨by kernel_rfl, by kernel_rfl, by kernel_rfl⟩, ⟨by kernel_rfl, by kernel_rfl, by kernel_rfl⟩, ⟨by kernel_rfl, by kernel_rfl, by kernel_rfl⟩, ⟨by kernel_rfl, by kernel_rfl, by kernel_rfl⟩, ⟨by kernel_rfl, by kernel_rfl, by kernel_rfl⟩, ⟨by kernel_rfl, by kernel_rfl, by kernel_rfl⟩, ⟨by kernel_rfl, by kernel_rfl, by kernel_rfl⟩, ⟨by kernel_rfl, by kernel_rfl, by kernel_rfl⟩, ⟨by kernel_rfl, by kernel_rfl, by kernel_rfl⟩, ⟨by kernel_rfl, by kernel_rfl, by kernel_rfl⟩, ⟨by kernel_rfl, by kernel_rfl, by kernel_rfl⟩, ⟨by kernel_rfl, by kernel_rfl, by kernel_rfl⟩, trivial⟩
theorem tabG6 : allGood Tryd.prog tabC6 := ⟨⟨by kernel_rfl, by kernel_rfl, by kernel_rfl⟩, ⟨by kernel_rfl, by kernel_rfl, by kernel_rfl⟩, ⟨by kernel_rfl, by kernel_rfl, by kernel_rfl⟩, ⟨by kernel_rfl, by kernel_rfl, by kernel_rfl⟩, ⟨by kernel_rfl, by kernel_rfl, by kernel_rfl⟩, ⟨by kernel_rfl, by kernel_rfl, by kernel_rfl⟩, ⟨by kernel_rfl, by kernel_rfl, by kernel_rfl⟩, ⟨by kernel_rfl, by kernel_rfl, by kernel_rfl⟩, ⟨by kernel_rfl, by kernel_rfl, by kernel_rfl⟩, ⟨by kernel_rfl, by kernel_rfl, by kernel_rfl⟩, ⟨by kernel_rfl, by kernel_rfl, by kernel_rfl⟩, ⟨by kernel_rfl, by kernel_rfl, by kernel_rfl⟩, ⟨by kernel_rfl, by kernel_rfl, by kernel_rfl⟩, ⟨by kernel_rfl, by kernel_rfl, by kernel_rfl⟩, trivial⟩
theorem tabG7 : allGood Tryd.prog tabC7 := ⟨⟨by kernel_rfl, by kernel_rfl, by kernel_rfl⟩, ⟨by kernel_rfl, by kernel_rfl, by kernel_rfl⟩, ⟨by kernel_rfl, by kernel_rfl, by kernel_rfl⟩, ⟨by kernel_rfl, by kernel_rfl, by kernel_rfl⟩, ⟨by kernel_rfl, by kernel_rfl, by kernel_rfl⟩, ⟨by kernel_rfl, by kernel_rfl, by kernel_rfl⟩, ⟨by kernel_rfl, by kernel_rfl, by kernel_rfl⟩, ⟨by kernel_rfl, by kernel_rfl, by kernel_rfl⟩, ⟨by kernel_rfl, by kernel_rfl, by kernel_rfl⟩, ⟨by kernel_rfl, by kernel_rfl, by kernel_rfl⟩, ⟨by kernel_rfl, by kernel_rfl, by kernel_rfl⟩, ⟨by kernel_rfl, by kernel_rfl, by kernel_rfl⟩, ⟨by kernel_rfl, by kernel_rfl, by kernel_rfl⟩, ⟨by kernel_rfl, by kernel_rfl, by kernel_rfl⟩, trivial⟩
theorem tabG8 : allGood Tryd.prog tabC8 := ⟨⟨by kernel_rfl, by kernel_rfl, by kernel_rfl⟩, ⟨by kernel_rfl, by kernel_rfl, by kernel_rfl⟩, ⟨by kernel_rfl, by kernel_rfl, by kernel_rfl⟩, ⟨by kernel_rfl, by kernel_rfl, by kernel_rfl⟩, ⟨by kernel_rfl, by kernel_rfl, by kernel_rfl⟩, ⟨by kernel_rfl, by kernel_rfl, by kernel_rfl⟩, ⟨by kernel_rfl, by kernel_rfl, by kernel_rfl⟩, ⟨by kernel_rfl, by kernel_rfl, by kernel_rfl⟩, ⟨by kernel_rfl, by kernel_rfl, by kernel_rfl⟩, ⟨by kernel_rfl, by kernel_rfl, by kernel_rfl⟩, trivial⟩
theorem tab_all : allGoods Tryd.prog tabAll := ⟨tabG0, tabG1, tabG2, tabG3, tabG4, tabG5, tabG6, tabG7, tabG8, trivial⟩
theorem tab_ok : TIok Tryd.prog tab := tabOf_ok tab_all
theorem tab_one : TIone tab := tabOf_one tab_all
end Go.Proofs.YtjmofeakajdbiaaDoor

namespace Go.AM
open Go Go.RowKit

def cvP (p : Id → Bool) : CV → Bool
  | .ptr i _ => p i
  | .fn _ cap => allB p cap
  | .lst i _ _ _ => p i
  | .sl i _ => p i
  | .map i => p i
  | .ap i _ _ _ _ => p i
  | .ow i => p i
  | .op i _ _ _ => p i
  | .yl i => p i
  | _ => true
def v1P (p : Id → Bool) : V1 → Bool
  | .d _ => true
  | .c x => cvP p x
  | .agg cs => allB (cvP p) cs
def avP (p : Id → Bool) : AV → Bool
  | .u => true
  | .v x => v1P p x
  | .t xs => allB (v1P p) xs
def objP (p : Id → Bool) : AObj → Bool
  | .cells cs => allB (cvP p) cs
  | .tok .. => true
  | .map _ _ es => allB (fun e => v1P p e.2) es
  | .arr cs1 _ _ _ cs2 => match allB (cvP p) cs1 with
    | true => allB (cvP p) cs2
    | false => false
  | .tree _ _ _ _ foc => match foc with
    | some x => allB (cvP p) x.2
    | none => true
  | .gone => true
  | .rnd _ sl => allB (fun x => avP p x.2) sl
  | .rndX _ => true

section
variable {p : Id → Bool} {f e : Id → Id} (hp : ∀ i, p i = true → f (e i) = i)
include hp
theorem ren_cv {c : CV} (h : cvP p c = true) : (c.ren e).ren f = c := by
  cases c <;> simp only [CV.ren, cvP] at h ⊢
  · rw [hp _ h]
  · rw [List.map_map]
    congr 1
    rw [allB_iff] at h
    exact map_same fun i hi => hp _ (h i hi)
  · rw [hp _ h]
  · rw [hp _ h]
  · rw [hp _ h]
  · rw [hp _ h]
  · rw [hp _ h]
  · rw [hp _ h]
  · rw [hp _ h]
theorem ren_cvs {cs : List CV} (h : allB (cvP p) cs = true) : (cs.map (CV.ren e)).map (CV.ren f) = cs := by
  rw [List.map_map]
  rw [allB_iff] at h
  exact map_same fun i hi => ren_cv hp (h i hi)
theorem ren_v1 {c : V1} (h : v1P p c = true) : (c.ren e).ren f = c := by
  cases c <;> simp only [V1.ren, v1P] at h ⊢
  · rw [ren_cv hp h]
  · rw [ren_cvs hp h]
theorem ren_av {c : AV} (h : avP p c = true) : (c.ren e).ren f = c := by
  cases c <;> simp only [AV.ren, avP] at h ⊢
  · rw [ren_v1 hp h]
  · rw [List.map_map]
    congr 1
    rw [allB_iff] at h
    exact map_same fun i hi => ren_v1 hp (h i hi)
theorem ren_obj {c : AObj} (h : objP p c = true) : (c.ren e).ren f = c := by
  cases c <;> simp only [AObj.ren, objP] at h ⊢
  · rw [ren_cvs hp h]
  · rw [List.map_map]
    congr 1
    rw [allB_iff] at h
    refine map_same fun i hi => ?_
    show (i.1, (i.2.ren e).ren f) = i
    rw [ren_v1 hp (h i hi)]
  · split at h
    · rename_i h1
      rw [ren_cvs hp h, ren_cvs hp h1]
    · cases h
  · congr 1
    split at h
    · show some (_, List.map (CV.ren f) (List.map (CV.ren e) _)) = _
      rw [ren_cvs hp h]
    · rfl
  · rw [List.map_map]
    congr 1
    rw [allB_iff] at h
    refine map_same fun i hi => ?_
    show (i.1, (i.2.ren e).ren f) = i
    rw [ren_av hp (h i hi)]
end

theorem weak_ren {σ σ' : St} (r : Id → Id) (hext : ∀ j, r (.ext j) = .ext j) (hbig : ∀ n, σ'.next ≤ n → ∃ N, σ.next ≤ N ∧ r (.loc n) = .loc N)
    (hs : ∀ t, getS σ'.slots t = .u ∨ getS σ.slots t = (getS σ'.slots t).ren r) (hh : ∀ i o, getH σ'.heap i = some o → getH σ.heap (r i) = some (o.ren r))
    (hinj : ∀ i j o o', getH σ'.heap i = some o → getH σ'.heap j = some o' → r i = r j → i = j) (hlow : ∀ n, σ'.next ≤ n → getH σ'.heap (.loc n) = none) : Weak σ σ' := by
  rintro C a w ⟨g, R⟩
  let g' : Ghost := fun i => g (r i)
  have hz : ∀ b o, zone g' (getH σ'.heap) b o → zone g (getH σ.heap) b o := by
    rintro b o ⟨i, ob, hi, h1⟩
    exact ⟨r i, _, hh i ob hi, zone1_ren.2 h1⟩
  have hzz : ∀ b o, zor (zone g' (getH σ'.heap)) C.X b o → zor (zone g (getH σ.heap)) C.X b o := fun b o hx => hx.imp (hz b o) id
  have ht : ∀ i n sz e, getH σ'.heap i = some (.tok n sz e) → getH σ.heap (r i) = some (.tok n sz e) := fun i n sz e hi => hh i _ hi
  have hw : ∀ i, isLive (getH σ'.heap i) = true → isLive (getH σ.heap (r i)) = true := by
    intro i hi
    cases hc : getH σ'.heap i with
    | none => rw [hc] at hi; cases hi
    | some o =>
      rw [hh i o hc]
      rw [hc] at hi
      exact isLive_ren.trans hi
  refine ⟨g', R.size, R.defers, fun t => ?_, ⟨fun i o hi => RelObj.pull (r := r) (g' := g') hzz (fun _ => rfl) ht hw (R.heap.objs _ _ (hh i o hi)), fun i j oi oj b hi hj bi bj => ?_, fun i oi b o hi bi => R.heap.apart _ _ b o (hh i oi hi) (Obk_ren.2 bi)⟩, R.frame, fun j => ?_,
    fun j ob b o hj hz' => R.within _ _ b o (hh j ob hj) (zone1_ren.2 hz'), R.xs, fun n hn => ⟨?_, hlow n hn⟩⟩
  · rcases hs t with e | e
    · rw [e]; trivial
    · have := R.slots t
      rw [e] at this
      exact RelAV.pull (r := r) hzz (fun _ => rfl) ht hw this
  · exact hinj i j oi oj hi hj (R.heap.sep _ _ _ _ b (hh i oi hi) (hh j oj hj) (Obk_ren.2 bi) (Obk_ren.2 bj))
  · show gsame (C.g0 (.ext j)) (g (r (.ext j)))
    rw [hext]
    exact R.ext j
  · obtain ⟨N, hN, e⟩ := hbig n hn
    show g (r (.loc n)) = undef
    rw [e]
    exact (R.free N hN).1

def fstOf : List (Nat × Nat) → Nat → Option Nat
  | [], _ => none
  | (a, b) :: l, k => match Nat.beq a k with
    | true => some b
    | false => fstOf l k
def sndOf : List (Nat × Nat) → Nat → Option Nat
  | [], _ => none
  | (a, b) :: l, k => match Nat.beq b k with
    | true => some a
    | false => sndOf l k
def invF (l : List (Nat × Nat)) : Id → Id
  | .ext j => .ext j
  | .loc k => match fstOf l k with
    | some m => .loc m
    | none => .loc k
def backF (l : List (Nat × Nat)) : Id → Id
  | .ext j => .ext j
  | .loc k => match sndOf l k with
    | some m => .loc m
    | none => .loc k
def okId (l : List (Nat × Nat)) (n : Nat) (i : Id) : Bool :=
  match Id.beq (backF l (invF l i)) i with
  | true => idB n (invF l i)
  | false => false
def renS (l : List (Nat × Nat)) : List (Nat × AV) → List (Nat × AV)
  | [] => []
  | (t, x) :: r => (t, x.ren (invF l)) :: renS l r
def renH (l : List (Nat × Nat)) : List (Id × AObj) → List (Id × AObj)
  | [] => []
  | (i, x) :: r => (invF l i, x.ren (invF l)) :: renH l r
def keepR (ks : List Nat) (is : List Id) (n : Nat) (l : List (Nat × Nat)) (σ : St) (K : St → Prop) : Prop :=
  match keepH σ.heap is with
  | none => False
  | some hp => req (allB (fun x : Nat × AV => avP (okId l n) x.2) (keepS σ.slots ks)) <| req (allB (fun x : Id × AObj => match okId l n x.1 with | true => objP (okId l n) x.2 | false => false) hp) <|
      K ⟨renS l (keepS σ.slots ks), renH l hp, n⟩

theorem renS_get {l : List (Nat × Nat)} {s : List (Nat × AV)} (t : Nat) : getS (renS l s) t = (getS s t).ren (invF l) := by
  induction s with
  | nil => rfl
  | cons x s ih =>
    obtain ⟨k, v⟩ := x
    show getS ((k, v.ren (invF l)) :: renS l s) t = _
    rw [getS_cons, getS_cons]
    simp only []
    split
    · rfl
    · exact ih
theorem renH_get {l : List (Nat × Nat)} {p : Id → Bool} {f : Id → Id} (hp : ∀ i, p i = true → f (invF l i) = i) : ∀ {s : List (Id × AObj)}, (∀ x ∈ s, p x.1 = true) → ∀ {i : Id} {o : AObj}, getH (renH l s) i = some o → p (f i) = true ∧ invF l (f i) = i ∧ ∃ o', getH s (f i) = some o' ∧ o = o'.ren (invF l)
  | [], _, i, o, h => by simp [renH, getH] at h
  | (k, v) :: s, hs, i, o, h => by
    have hk := hs (k, v) (by simp)
    rw [show renH l ((k, v) :: s) = (invF l k, v.ren (invF l)) :: renH l s from rfl, getH_cons] at h
    simp only [updO] at h
    by_cases e : i = invF l k
    · rw [if_pos e] at h
      simp at h
      have hf : f i = k := by rw [e]; exact hp k hk
      rw [hf]
      exact ⟨hk, e.symm, v, by rw [getH_cons]; simp [updO], h.symm⟩
    · rw [if_neg e] at h
      obtain ⟨h1, h2, o', h3, h4⟩ := renH_get hp (fun x hx => hs x (List.mem_cons_of_mem _ hx)) h
      refine ⟨h1, h2, o', ?_, h4⟩
      rw [getH_cons]
      simp only [updO]
      rw [if_neg]
      · exact h3
      · rintro rfl
        exact e h2.symm
theorem getH_all {q : Id × AObj → Bool} {l : List (Id × AObj)} (h : allB q l = true) {i : Id} {o : AObj} (hi : getH l i = some o) : q (i, o) = true := by
  induction l with
  | nil => simp [getH] at hi
  | cons x l ih =>
    obtain ⟨k, v⟩ := x
    rw [allB_iff] at h
    rw [getH_cons] at hi
    simp only [updO] at hi
    split at hi
    · rename_i e
      cases hi
      rw [e]
      exact h _ (List.mem_cons_self ..)
    · exact ih (allB_iff.2 fun x hx => h x (by simp [hx])) hi

theorem keepR_weak {ks : List Nat} {is : List Id} {n : Nat} {l : List (Nat × Nat)} {σ : St} {K : St → Prop} (h : keepR ks is n l σ K) : ∃ σ', Weak σ σ' ∧ K σ' := by
  unfold keepR at h
  split at h
  · exact h.elim
  · rename_i hp hhp
    obtain ⟨h1, h⟩ := req_iff.1 h
    obtain ⟨h2, h⟩ := req_iff.1 h
    let N := max σ.next n
    let f : Id → Id := fun i => if idB n i = true then backF l i else .loc N
    have hpf : ∀ i, okId l n i = true → f (invF l i) = i := by
      intro i hi
      unfold okId at hi
      split at hi
      · rename_i hb
        show (if idB n (invF l i) = true then _ else _) = i
        rw [if_pos hi]
        exact Id.beq_iff.1 hb
      · cases hi
    have hk2 : ∀ x ∈ hp, okId l n x.1 = true ∧ objP (okId l n) x.2 = true := by
      intro x hx
      have := allB_iff.1 h2 x hx
      split at this
      · rename_i hb; exact ⟨hb, this⟩
      · cases this
    have hnew : ∀ i o, getH (renH l hp) i = some o → okId l n (f i) = true ∧ invF l (f i) = i ∧ ∃ o', getH hp (f i) = some o' ∧ o = o'.ren (invF l) := fun i o hi => renH_get hpf (fun x hx => (hk2 x hx).1) hi
    refine ⟨_, weak_ren f (fun j => by show (if idB n (.ext j) = true then _ else _) = _; simp [idB, backF]) (fun m hm => ⟨N, Nat.le_max_left _ _, ?_⟩) (fun t => ?_) (fun i o hi => ?_) (fun i j o o' hi hj e => ?_) (fun m hm => ?_), h⟩
    · have hm : n ≤ m := hm
      have : idB n (.loc m) = false := by
        cases hb : idB n (.loc m) with
        | false => rfl
        | true => simp [idB] at hb; omega
      show (if idB n (.loc m) = true then _ else _) = _
      rw [this]; rfl
    · rw [renS_get]
      rcases keepS_get (l := σ.slots) (ks := ks) t with e | e
      · rw [e]; exact .inl rfl
      · right
        rw [← e]
        exact (ren_av hpf (getS_all (p := avP (okId l n)) rfl h1 t)).symm
    · obtain ⟨p1, p2, o', p3, rfl⟩ := hnew i o hi
      have hq := getH_all (q := fun x => objP (okId l n) x.2) (allB_iff.2 fun x hx => (hk2 x hx).2) p3
      rw [ren_obj hpf hq]
      exact (keepH_get hhp _ _ p3).1
    · obtain ⟨_, p2, _⟩ := hnew i o hi
      obtain ⟨_, q2, _⟩ := hnew j o' hj
      rw [← p2, ← q2, e]
    · cases hc : getH (renH l hp) (.loc m) with
      | none => rfl
      | some o =>
        obtain ⟨p1, p2, _⟩ := hnew _ o hc
        have hm : n ≤ m := hm
        unfold okId at p1
        split at p1
        · rw [p2] at p1
          simp [idB] at p1
          omega
        · cases p1
end Go.AM

namespace Go.AM
open Go Go.RowKit

theorem loop_invG {M : Mach} {ex : St → (AExit → St → Prop) → Prop} {σ : St} {K : AExit → St → Prop} (gs : List Gh) (l : List (Nat × Nat)) (ks : List Nat) (is : List Id) (nx : Nat) {T : Type} (S : T → St) (I : T → Prop) (m : T → Nat) (t0 : T)
    (hI : I t0) (h0 : gh gs σ fun σ => keepR ks is nx l σ (· = S t0))
    (hr : ∀ t, I t → ex (S t) fun e σ2 => match e with
      | .normal => ∃ n' σ3, n' < m t ∧ Weak σ2 σ3 ∧ ∃ t', I t' ∧ n' = m t' ∧ σ3 = S t'
      | .exit id => K (.exit id) σ2
      | .ret => K .ret σ2) : M.lock fun _ => loopP ex σ K ∨ ∃ n, unrollP ex K n σ := by
  refine (M.lock_iff _).2 <| .inl ⟨fun n σ => ∃ t, I t ∧ n = m t ∧ σ = S t, m t0, ?_, ?_⟩
  · obtain ⟨σ1, hw1, h1⟩ := gh_weak h0
    obtain ⟨σ', hw, e⟩ := keepR_weak h1
    exact ⟨σ', Weak.trans hw1 hw, t0, hI, rfl, e⟩
  · rintro n σ1 ⟨t, h1, rfl, rfl⟩
    exact hr t h1
theorem loop_nextG {T : Type} {m : T → Nat} {I : T → Prop} {S : T → St} {σ2 : St} {k : Nat} (t' : T) (gs : List Gh) (l : List (Nat × Nat)) (ks : List Nat) (is : List Id) (nx : Nat) (hI : I t') (hm : m t' < k)
    (hk : gh gs σ2 fun σ => keepR ks is nx l σ (· = S t')) : ∃ n' σ3, n' < k ∧ Weak σ2 σ3 ∧ ∃ t', I t' ∧ n' = m t' ∧ σ3 = S t' := by
  obtain ⟨σ1, hw1, h1⟩ := gh_weak hk
  obtain ⟨σ', hw, e⟩ := keepR_weak h1
  exact ⟨m t', σ', hm, Weak.trans hw1 hw, t', hI, rfl, e⟩

section
variable {w : World} {Z Z' X : Zone} {g g' : Ghost} {h h' : Heap}

end

end Go.AM

namespace Go.AM
open Go Go.RowKit

theorem Trip.ofCalls {P : Program} {I : Inv} {f : FuncId} {xs : List D} {res : V1} (hf : ∃ fn c, P.funcs[f]? = some fn ∧ fn.body = some c ∧ (fn.name == "runtime.NumGoroutine") = false)
    (h : ∀ (w : World) (Z : Zone) (vals : Array Value), I.rel w → vals.size = xs.length → (∀ (j : Nat) x v, xs[j]? = some x → vals[j]? = some v → RelD w Z x v) →
      Calls P f vals w fun e w' => ∃ v, e = .returned v ∧ ApartW (fun _ => False) w w' ∧ ∀ Z' g' h', RelV1 w' Z' g' h' res v) : Trip P I f (xs.map V1.d) [] (.v res) [] [] := by
  refine Trip.mk' hf fun w X g vals hX hI RH hg hsz hargs => ?_
  have none : ∀ {i o}, heapOf [] i = some o → False := by
    intro i o h
    cases i <;> simp [heapOf] at h
  have none2 : ∀ {i o}, heapOf2 [] [] i = some o → False := by
    intro i o h
    cases i <;> simp [heapOf2] at h
  refine (h w (zor (zone g (heapOf [])) X) vals hI.1 (by simpa using hsz) (fun j x v hx hv => hargs j (.d x) v (by simp [hx]) hv)).mono ?_
  rintro e w' ⟨v, rfl, A, hr⟩
  refine ⟨v, g, rfl, ⟨⟨fun i o hi => (none2 hi).elim, fun i j oi oj b hi => (none2 hi).elim, fun i oi b o hi => (none2 hi).elim⟩, hr _ _ _, ?_, fun j => .refl _, fun i ob b o hi => (none2 hi).elim, fun k _ => hg k⟩⟩
  exact ⟨A.os, A.tape, A.output, A.size, fun b hb _ => A.block b hb id, fun b o u hu _ => A.cell hu id⟩

theorem Trip.ofCallsT {P : Program} {I : Inv} {f : FuncId} {xs : List D} {res : AV} (hf : ∃ fn c, P.funcs[f]? = some fn ∧ fn.body = some c ∧ (fn.name == "runtime.NumGoroutine") = false)
    (h : ∀ (w : World) (Z : Zone) (vals : Array Value), I.rel w → vals.size = xs.length → (∀ (j : Nat) x v, xs[j]? = some x → vals[j]? = some v → RelD w Z x v) →
      Calls P f vals w fun e w' => ∃ v, e = .returned v ∧ ApartW (fun _ => False) w w' ∧ ∀ Z' g' h', (∀ b o, Z' b o → b < w.heap.size) → RelAV w' Z' g' h' res v) : Trip P I f (xs.map V1.d) [] res [] [] := by
  refine Trip.mk' hf fun w X g vals hX hI RH hg hsz hargs => ?_
  have none : ∀ {i o}, heapOf [] i = some o → False := by
    intro i o h
    cases i <;> simp [heapOf] at h
  have none2 : ∀ {i o}, heapOf2 [] [] i = some o → False := by
    intro i o h
    cases i <;> simp [heapOf2] at h
  refine (h w (zor (zone g (heapOf [])) X) vals hI.1 (by simpa using hsz) (fun j x v hx hv => hargs j (.d x) v (by simp [hx]) hv)).mono ?_
  rintro e w' ⟨v, rfl, A, hr⟩
  refine ⟨v, g, rfl, ⟨⟨fun i o hi => (none2 hi).elim, fun i j oi oj b hi => (none2 hi).elim, fun i oi b o hi => (none2 hi).elim⟩, hr _ _ _ ?_, ?_, fun j => .refl _, fun i ob b o hi => (none2 hi).elim, fun k _ => hg k⟩⟩
  · rintro b o (⟨i, ob, hi, _⟩ | hx)
    · exact (none2 hi).elim
    · exact hX b o hx
  · exact ⟨A.os, A.tape, A.output, A.size, fun b hb _ => A.block b hb id, fun b o u hu _ => A.cell hu id⟩

theorem grow_apart {w w' : World} (h : w'.os = w.os) (h1 : w'.tape = w.tape) (h2 : w'.output = w.output) (h3 : w.heap.size ≤ w'.heap.size) (h4 : ∀ b, b < w.heap.size → w'.heap[b]? = w.heap[b]?) : ApartW (fun _ => False) w w' :=
  ⟨h, h1, h2, h3, fun b hb _ => h4 b hb⟩
end Go.AM

namespace Go.AM
open Go Go.RowKit

section
variable {α β γ : Type}
end

section
variable {γ : Type}
def letB (b : Bool) (k : Bool → Option γ) : Option γ := k b
theorem letB_inv {b : Bool} {k : Bool → Option γ} {r : γ} (h : letB b k = some r) : ∃ y, b = y ∧ k y = some r := ⟨b, rfl, h⟩
def findF (e : Bool) (key : D) (rows : List D) (k1 : D → Option γ) (k0 : Option γ) : Option γ :=
  match findR e key rows with
  | some (some y) => k1 y
  | some none => k0
  | none => none
theorem findF_inv {e : Bool} {key : D} {rows : List D} {k1 : D → Option γ} {k0 : Option γ} {r : γ} (h : findF e key rows k1 k0 = some r) : (∃ y, findR e key rows = some (some y) ∧ k1 y = some r) ∨ (findR e key rows = some none ∧ k0 = some r) := by
  unfold findF at h
  split at h
  · rename_i y hy
    exact .inl ⟨y, hy, h⟩
  · rename_i hy
    exact .inr ⟨hy, h⟩
  · cases h
def putF (key : D) (ws rows : List D) (k : List D → Option γ) : Option γ :=
  match putR key ws rows with
  | some r => k r
  | none => none
theorem putF_inv {key : D} {ws rows : List D} {k : List D → Option γ} {r : γ} (h : putF key ws rows k = some r) : ∃ out, putR key ws rows = some out ∧ k out = some r := by
  unfold putF at h
  split at h
  · rename_i out ho
    exact ⟨out, ho, h⟩
  · cases h
def addF (x y c : Int) (k : Int → Int → Option γ) : Option γ :=
  if 0 ≤ x ∧ 0 ≤ y ∧ 0 ≤ c ∧ c ≤ 1 then k ((x + y + c) % 18446744073709551616) ((x + y + c) / 18446744073709551616) else none
theorem addF_inv {x y c : Int} {k : Int → Int → Option γ} {r : γ} (h : addF x y c k = some r) : ∃ z u, (0 ≤ x ∧ 0 ≤ y ∧ 0 ≤ c ∧ c ≤ 1) ∧ (x + y + c) % 18446744073709551616 = z ∧ (x + y + c) / 18446744073709551616 = u ∧ k z u = some r := by
  unfold addF at h
  split at h
  · rename_i hb
    exact ⟨_, _, hb, rfl, rfl, h⟩
  · cases h
end
theorem eqv_eq {a b q : Bool} (h : (a == b) = q) : eqvB a b = q := (eqvB_eq a b).trans h
theorem eqv_ne {a b q : Bool} (h : (!(a == b)) = q) : notB (eqvB a b) = q := by rw [eqvB_eq, notB_eq]; exact h
theorem not_eq' {a q : Bool} (h : (!a) = q) : notB a = q := by rw [notB_eq]; exact h

theorem seq_go {M : Mach} {ea eb : St → (AExit → St → Prop) → Prop} {σ : St} {K : AExit → St → Prop} (h : ea σ fun e σ' => match e with
    | .normal => eb σ' K
    | .exit id => K (.exit id) σ'
    | .ret => K .ret σ') : M.lock fun _ => seqP ea eb σ K := (M.lock_iff _).2 (.inl h)
theorem seq_join {M : Mach} {ea eb : St → (AExit → St → Prop) → Prop} {σ : St} {K : AExit → St → Prop} {T : Type} (S : T → St) (I : T → Prop)
    (ha : ea σ fun e σ' => match e with
      | .normal => ∃ σ'', Weak σ' σ'' ∧ ∃ t, I t ∧ σ'' = S t
      | .exit id => K (.exit id) σ'
      | .ret => K .ret σ') (hb : ∀ t, I t → eb (S t) K) : M.lock fun _ => seqP ea eb σ K := by
  refine (M.lock_iff _).2 (.inr ⟨fun σ => ∃ t, I t ∧ σ = S t, ha, ?_⟩)
  rintro σ2 ⟨t, hi, rfl⟩
  exact hb t hi
theorem join_next {T : Type} {I : T → Prop} {S : T → St} {σ2 : St} (t' : T) (ks : List Nat) (is : List Id) (nx : Nat) (hI : I t') (hk : keep ks is nx σ2 (· = S t')) :
    ∃ σ'', Weak σ2 σ'' ∧ ∃ t, I t ∧ σ'' = S t := by
  obtain ⟨σ', hw, e⟩ := keep_weak hk
  exact ⟨σ', hw, t', hI, e⟩

section
variable {M : Mach} {P : Program} {I : Inv}

theorem op_pl {ti : Types} {o : Oper} {fresh : Nat} {σ : St} {K : St → Prop} (hk : plOp M ti o fresh σ K) : M.lock fun _ => plOp M ti o fresh σ K ∨ ghOp M ti o fresh σ K := (M.lock_iff _).2 (.inl hk)
end
end Go.AM

namespace Go.Proofs.YtjmofeakajdbiaaDoor
open Go Go.AM
theorem fol : Tryd.prog.follows .mixedOrders = true := by kernel_rfl
theorem var_same {P : Program} {name : String} {g : Nat} (hg : P.globalNamed name = some g) {w w' : World} (h : w'.heap[g]? = w.heap[g]?) : w'.var? P name = w.var? P name := by
  unfold World.var?
  rw [hg]
  simp only [Option.bind_some, h]
theorem space_no : ∃ g, Tryd.prog.globalNamed "strings.asciiSpace" = some g := ⟨0, by kernel_rfl⟩
def inv : Inv := ⟨fun b => Tryd.prog.globalNamed "strings.asciiSpace" = some b, fun w => Lib.TabIs Tryd.prog w "strings.asciiSpace" .u8 Lib.asciiSpaceTab, fun h hr => by
  obtain ⟨g, hg⟩ := space_no
  unfold Lib.TabIs at hr ⊢
  rw [var_same hg (h g hg)]
  exact hr⟩
end Go.Proofs.YtjmofeakajdbiaaDoor
