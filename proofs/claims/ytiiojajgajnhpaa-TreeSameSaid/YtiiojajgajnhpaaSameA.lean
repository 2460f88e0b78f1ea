/- TreeSame: whether any two programs, types, expressions are the same is what the chapter says. No condition. (Part 1 of 4: AmA, AmB, AmC, AmD, AmE, AmF, AmG, AmH, AmHB, AmI, AmJ, AmK, AmL, AmM.) -/
import Derived.WalkKit
import Derived.Orders
import Derived.Deep.MidRow
import Derived.Laws.Tables
set_option linter.unusedVariables false
set_option linter.unusedSimpArgs false
/- The abstract machine, part A: abstract values, abstract objects, and what it means that a concrete world holds them. No condition. -/
namespace Go.AM
open Go Go.RowKit

/-- Deep data by value: what a value of plain data is, whatever memory it lies in. A struct is the flat row of its cells. -/
inductive D where
  | int (k : IntKind) (n : Int)
  | bool (b : Bool)
  | str (s : ByteArray)
  | agg (cs : List D)
  | list (ag : Bool) (sz : Nat) (rows : List D)

def D.cells : D → List D
  | .agg cs => cs
  | x => [x]
def D.isAgg : D → Bool
  | .agg _ => true
  | _ => false
/-- A row of a list whose elements are (ag) structs of sz cells, or (not ag) single cells. -/
def D.fits (ag : Bool) (sz : Nat) (x : D) : Prop := x.isAgg = ag ∧ x.cells.length = sz ∧ ∀ c ∈ x.cells, c.isAgg = false

abbrev Zone := Nat → Nat → Prop

/-- The value v is the datum x in w; every cell that is read lies outside of Z. -/
inductive RelD (w : World) (Z : Zone) : D → Value → Prop where
  | int (k : IntKind) (n : Int) : RelD w Z (.int k n) (.int k n)
  | bool (b : Bool) : RelD w Z (.bool b) (.bool b)
  | str (s : ByteArray) : RelD w Z (.str s) (.string s)
  | agg (cs : List D) (vs : Array Value) (hs : vs.size = cs.length) (h1 : ∀ c ∈ cs, c.isAgg = false)
      (h : ∀ (j : Nat) c v, cs[j]? = some c → vs[j]? = some v → RelD w Z c v) : RelD w Z (.agg cs) (.agg vs)
  | list (ag : Bool) (sz : Nat) (rows : List D) (a : Option Addr) (cap b o : Nat) (U : Nat → Nat → Value)
      (hcap : rows.length ≤ cap) (hmax : cap ≤ maxLen) (hfit : ∀ r ∈ rows, r.fits ag sz)
      (ha : rows ≠ [] → a = some ⟨b, o, none⟩)
      (hc : ∀ (i : Nat) r (j : Nat) c, rows[i]? = some r → r.cells[j]? = some c → w.cell? ⟨b, o + (i * sz + j), none⟩ = some (U i j) ∧ ¬ Z b (o + (i * sz + j)))
      (hr : ∀ (i : Nat) r (j : Nat) c, rows[i]? = some r → r.cells[j]? = some c → RelD w Z c (U i j)) : RelD w Z (.list ag sz rows) (.slice a rows.length cap)

theorem RelD.mono {w w' : World} {Z Z' : Zone} (hw : ∀ b o u, w.cell? ⟨b, o, none⟩ = some u → ¬ Z b o → w'.cell? ⟨b, o, none⟩ = some u ∧ ¬ Z' b o)
    {x : D} {v : Value} (h : RelD w Z x v) : RelD w' Z' x v := by
  induction h with
  | int k n => exact .int k n
  | bool b => exact .bool b
  | str s => exact .str s
  | agg cs vs hs h1 _ ih => exact .agg cs vs hs h1 ih
  | list ag sz rows a cap b o U hcap hmax hfit ha hc _ ih =>
    exact .list ag sz rows a cap b o U hcap hmax hfit ha (fun i r j c h1 h2 => hw _ _ _ (hc i r j c h1 h2).1 (hc i r j c h1 h2).2) ih

theorem RelD.oneCell {w : World} {Z : Zone} {x : D} {v : Value} (h : RelD w Z x v) (hx : x.isAgg = false) : v.oneCell' = true := by
  cases h <;> first | rfl | simp [D.isAgg] at hx

/-- A row as a value: its cells. -/
theorem RelD.cellsOf {w : World} {Z : Zone} {x : D} {v : Value} (h : RelD w Z x v) :
    v.cells.size = x.cells.length ∧ (∀ (j : Nat) c u, x.cells[j]? = some c → v.cells[j]? = some u → RelD w Z c u ∧ c.isAgg = false) := by
  cases h with
  | agg cs vs hs h1 h =>
    refine ⟨hs, fun j c u hc hu => ⟨h j c u hc hu, h1 c (List.mem_of_getElem? hc)⟩⟩
  | _ =>
    refine ⟨rfl, fun j c u hc hu => ?_⟩
    match j with
    | 0 =>
      simp [D.cells, Value.cells] at hc hu
      subst hc; subst hu
      exact ⟨by constructor <;> assumption, rfl⟩
    | j + 1 => simp [D.cells] at hc

inductive Id where
  | loc (n : Nat)
  | ext (n : Nat)

def Id.beq : Id → Id → Bool
  | .loc a, .loc b => Nat.beq a b
  | .ext a, .ext b => Nat.beq a b
  | _, _ => false
theorem Id.beq_iff {i j : Id} : Id.beq i j = true ↔ i = j := by
  cases i <;> cases j <;> simp [Id.beq]
theorem Id.beq_false {i j : Id} : Id.beq i j = false ↔ i ≠ j := by
  rw [← Bool.not_eq_true, Id.beq_iff]
instance : DecidableEq Id := fun i j => if h : Id.beq i j = true then .isTrue (Id.beq_iff.1 h) else .isFalse (fun e => h (Id.beq_iff.2 e))

/-- One cell's content. -/
inductive CV where
  | un
  | d (x : D)
  | ptr (i : Id) (o : Nat)
  | row (ag : Bool) (sz : Nat) (x : D)
  | rp (cs : List D)
  | nilp
  | fn (f : Nat) (cap : List Id)
  | nilf
  | nils (ag : Bool) (sz : Nat)
  | lst (i : Id) (ag : Bool) (sz : Nat) (rows : List D)
  | map (i : Id)
  | nilm

inductive V1 where
  | d (x : D)
  | c (x : CV)
  | agg (cs : List CV)

inductive AV where
  | u
  | v (x : V1)
  | t (xs : List V1)

inductive AObj where
  | cells (cs : List CV)
  | tok (n sz : Nat) (e : TypeId)
  | map (kt et : TypeId) (es : List (D × V1))

def CV.ren (m : Id → Id) : CV → CV
  | .ptr i o => .ptr (m i) o
  | .fn f cap => .fn f (cap.map m)
  | .lst i ag sz rows => .lst (m i) ag sz rows
  | .map i => .map (m i)
  | c => c
def V1.ren (m : Id → Id) : V1 → V1
  | .d x => .d x
  | .c x => .c (x.ren m)
  | .agg cs => .agg (cs.map (CV.ren m))
def AV.ren (m : Id → Id) : AV → AV
  | .u => .u
  | .v x => .v (x.ren m)
  | .t xs => .t (xs.map (V1.ren m))
def AObj.ren (m : Id → Id) : AObj → AObj
  | .cells cs => .cells (cs.map (CV.ren m))
  | .tok n sz e => .tok n sz e
  | .map kt et es => .map kt et (es.map fun e => (e.1, e.2.ren m))

abbrev Ghost := Id → Value
abbrev Heap := Id → Option AObj

def ptrAt : Value → Nat → Value
  | .pointer (some a), o => .pointer (some ⟨a.block, o, none⟩)
  | v, _ => v

def blk : Value → Option Nat
  | .pointer (some a) => some a.block
  | .slice (some a) _ _ => some a.block
  | .map (some r) => some r
  | _ => none

def isSl : Value → Prop
  | .slice _ _ _ => True
  | _ => False

def RelC (w : World) (Z : Zone) (g : Ghost) (h : Heap) : CV → Value → Prop
  | .un, v => v.oneCell' = true
  | .d x, v => RelD w Z x v ∧ x.isAgg = false
  | .ptr i o, v => (∃ b, g i = .pointer (some ⟨b, 0, none⟩)) ∧ v = ptrAt (g i) o
  | .row ag sz x, v => x.fits ag sz ∧ ∃ b o, v = .pointer (some ⟨b, o, none⟩) ∧ ∃ U : Nat → Value, ∀ (j : Nat) c, x.cells[j]? = some c → w.cell? ⟨b, o + j, none⟩ = some (U j) ∧ ¬ Z b (o + j) ∧ RelD w Z c (U j)
  | .rp cs, v => (∀ c ∈ cs, c.isAgg = false) ∧ ∃ b o, v = .pointer (some ⟨b, o, none⟩) ∧ ∃ U : Nat → Value, ∀ (j : Nat) c, cs[j]? = some c → w.cell? ⟨b, o + j, none⟩ = some (U j) ∧ ¬ Z b (o + j) ∧ RelD w Z c (U j)
  | .nilp, v => v = .pointer none
  | .fn f cap, v => v = .func (.func f) #[] (cap.map (fun i => ptrAt (g i) 0)).toArray ∧ ∀ i ∈ cap, ∃ b, g i = .pointer (some ⟨b, 0, none⟩)
  | .nilf, v => v = .nilFunc
  | .nils _ _, v => v = .slice none 0 0
  | .lst i ag sz rows, v => RelD w Z (.list ag sz rows) v ∧ isSl (g i) ∧ ∀ n sz' e, h i = some (.tok n sz' e) → sz' = sz ∧ rows.length ≤ n ∧ (rows.length = n → v = g i)
  | .map i, v => v = g i ∧ ∃ r, g i = .map (some r)
  | .nilm, v => v = .map none

def RelV1 (w : World) (Z : Zone) (g : Ghost) (h : Heap) : V1 → Value → Prop
  | .d x, v => RelD w Z x v
  | .c x, v => RelC w Z g h x v
  | .agg cs, v => ∃ vs : Array Value, v = .agg vs ∧ vs.size = cs.length ∧ ∀ (j : Nat) c u, cs[j]? = some c → vs[j]? = some u → RelC w Z g h c u

def RelAV (w : World) (Z : Zone) (g : Ghost) (h : Heap) : AV → Value → Prop
  | .u, _ => True
  | .v x, v => RelV1 w Z g h x v
  | .t xs, v => ∃ vs : Array Value, v = .tuple vs ∧ vs.size = xs.length ∧ ∀ (j : Nat) c u, xs[j]? = some c → vs[j]? = some u → RelV1 w Z g h c u

def RelObj (w : World) (Z : Zone) (g : Ghost) (h : Heap) : AObj → Value → Prop
  | .cells cs, gv => ∃ b c e, gv = .pointer (some ⟨b, 0, none⟩) ∧ w.heap[b]? = some (.cells c e (0, 0)) ∧ c.size = cs.length ∧
      ∀ (j : Nat) x u, cs[j]? = some x → c[j]? = some u → RelC w Z g h x u
  | .tok n sz e, gv => 0 < sz ∧ ∃ xs, w.ownsRow 0 e sz gv n xs
  | .map _ _ es, gv => ∃ r m clock, gv = .map (some r) ∧ w.heap[r]? = some (.map m clock) ∧ m.size = es.length ∧ (∀ e ∈ m, e.born < clock) ∧
      ∀ (j : Nat) x (u : MapEntry), es[j]? = some x → m[j]? = some u → RelD w Z x.1 u.key ∧ RelV1 w Z g h x.2 u.val

/-- The cells that may still be written by way of one object. -/
def zone1 (gv : Value) (ob : AObj) : Zone := fun b o => blk gv = some b ∧ (match ob with | .tok n sz _ => n * sz ≤ o | _ => True)
/-- The cells that may still be written by way of the objects of h. -/
def zone (g : Ghost) (h : Heap) : Zone := fun b o => ∃ i ob, h i = some ob ∧ zone1 (g i) ob b o

def zor (Z X : Zone) : Zone := fun b o => Z b o ∨ X b o

structure RelH (w : World) (X : Zone) (g : Ghost) (h : Heap) : Prop where
  objs : ∀ i o, h i = some o → RelObj w (zor (zone g h) X) g h o (g i)
  sep : ∀ i j oi oj b, h i = some oi → h j = some oj → blk (g i) = some b → blk (g j) = some b → i = j
  apart : ∀ i oi b o, h i = some oi → blk (g i) = some b → ¬ X b o

/-- What a call may have turned: the cells of Z, and new blocks. -/
structure Frame' (Z : Zone) (w w' : World) : Prop where
  os : w'.os = w.os
  tape : w'.tape = w.tape
  output : w'.output = w.output
  size : w.heap.size ≤ w'.heap.size
  block : ∀ b, b < w.heap.size → (∀ o, ¬ Z b o) → w'.heap[b]? = w.heap[b]?
  cell : ∀ b o u, w.cell? ⟨b, o, none⟩ = some u → ¬ Z b o → w'.cell? ⟨b, o, none⟩ = some u

theorem Frame'.refl (Z : Zone) (w : World) : Frame' Z w w := ⟨rfl, rfl, rfl, Nat.le_refl _, fun _ _ _ => rfl, fun _ _ _ h _ => h⟩
theorem Frame'.trans {Z : Zone} {a b c : World} (h : Frame' Z a b) (k : Frame' Z b c) : Frame' Z a c :=
  ⟨k.os.trans h.os, k.tape.trans h.tape, k.output.trans h.output, Nat.le_trans h.size k.size,
   fun i hi hz => (k.block i (Nat.lt_of_lt_of_le hi h.size) hz).trans (h.block i hi hz), fun i o u hu hz => k.cell i o u (h.cell i o u hu hz) hz⟩
theorem Frame'.weaken {Z Z' : Zone} {a b : World} (h : Frame' Z a b) (hz : ∀ b o, Z b o → Z' b o) : Frame' Z' a b :=
  ⟨h.os, h.tape, h.output, h.size, fun i hi hn => h.block i hi (fun o hz' => hn o (hz _ _ hz')), fun i o u hu hn => h.cell i o u hu (fun hz' => hn (hz _ _ hz'))⟩

/-- The context of one call: the world in which it began, the cells that it may not keep or touch, the outer objects' places. -/
structure Mach where
  P : Program
  split : Bool → (Bool → Prop) → Prop
  split_iff : ∀ c A, split c A ↔ A c
  lock : (Unit → Prop) → Prop
  lock_iff : ∀ p, lock p ↔ p ()
  eqI : Int → Int → Bool
  eqI_eq : ∀ a b, eqI a b = (a == b)
  ltI : Int → Int → Bool
  ltI_eq : ∀ a b, ltI a b = decide (a < b)
  leI : Int → Int → Bool
  leI_eq : ∀ a b, leI a b = decide (a ≤ b)
  eqS : ByteArray → ByteArray → Bool
  eqS_eq : ∀ a b, eqS a b = (a.toList == b.toList)
  ltS : ByteArray → ByteArray → Bool
  ltS_eq : ∀ a b, ltS a b = Op.bytesLess a.toList b.toList
  lenI : List D → Int
  lenI_eq : ∀ l, lenI l = (l.length : Int)
  szI : ByteArray → Int
  szI_eq : ∀ s, szI s = (s.size : Int)

structure Cx where
  M : Mach
  nt : Nat
  w0 : World
  Z0 : Zone
  X : Zone
  g0 : Ghost

abbrev Cx.P (C : Cx) : Program := C.M.P

abbrev Slots := Nat → AV

structure RelS (C : Cx) (F : Nat → Prop) (s : Slots) (h : Heap) (g : Ghost) (a : Act) (w : World) : Prop where
  size : a.tmps.size = C.nt
  defers : a.defers = []
  slots : ∀ t, RelAV w (zor (zone g h) C.X) g h (s t) (a.tmps.getD t undef)
  heap : RelH w C.X g h
  frame : Frame' C.Z0 C.w0 w
  ext : ∀ j, g (.ext j) = C.g0 (.ext j)
  own : ∀ n o b, h (.loc n) = some o → blk (g (.loc n)) = some b → C.w0.heap.size ≤ b
  outer : ∀ j ob b o, h (.ext j) = some ob → zone1 (g (.ext j)) ob b o → C.Z0 b o
  xs : ∀ b o, C.X b o → b < C.w0.heap.size
  free : ∀ n, F n → g (.loc n) = undef ∧ h (.loc n) = none

def Rel (C : Cx) (F : Nat → Prop) (s : Slots) (h : Heap) (a : Act) (w : World) : Prop := ∃ g, RelS C F s h g a w

end Go.AM

/- The abstract machine, part B: how the relation between abstract and concrete state is kept when the world moves on. No condition. -/
namespace Go.AM
open Go Go.RowKit

structure Evo (w : World) (Z : Zone) (g : Ghost) (h : Heap) (w' : World) (Z' : Zone) (g' : Ghost) (h' : Heap) : Prop where
  cell : ∀ b o u, w.cell? ⟨b, o, none⟩ = some u → ¬ Z b o → w'.cell? ⟨b, o, none⟩ = some u ∧ ¬ Z' b o
  ptr : ∀ i b, g i = .pointer (some ⟨b, 0, none⟩) → g' i = g i
  map : ∀ i r, g i = .map (some r) → g' i = g i
  sl : ∀ i, isSl (g i) → isSl (g' i)
  tok : ∀ i n sz e, isSl (g i) → h' i = some (.tok n sz e) → ∃ n0, n0 ≤ n ∧ h i = some (.tok n0 sz e) ∧ (n0 = n → g' i = g i)

section
variable {w w' : World} {Z Z' : Zone} {g g' : Ghost} {h h' : Heap}

theorem Evo.relD (E : Evo w Z g h w' Z' g' h') {x : D} {v : Value} (r : RelD w Z x v) : RelD w' Z' x v := r.mono E.cell

theorem Evo.relC (E : Evo w Z g h w' Z' g' h') {c : CV} {v : Value} (r : RelC w Z g h c v) : RelC w' Z' g' h' c v := by
  cases c with
  | un => exact r
  | d x => exact ⟨E.relD r.1, r.2⟩
  | ptr i o =>
    obtain ⟨⟨b, hb⟩, hv⟩ := r
    have e := E.ptr i b hb
    exact ⟨⟨b, by rw [e]; exact hb⟩, by rw [e]; exact hv⟩
  | row ag sz x =>
    obtain ⟨hf, b, o, hv, U, hU⟩ := r
    exact ⟨hf, b, o, hv, U, fun j c hc => ⟨(E.cell _ _ _ (hU j c hc).1 (hU j c hc).2.1).1, (E.cell _ _ _ (hU j c hc).1 (hU j c hc).2.1).2, E.relD (hU j c hc).2.2⟩⟩
  | rp cs =>
    obtain ⟨hf, b, o, hv, U, hU⟩ := r
    exact ⟨hf, b, o, hv, U, fun j c hc => ⟨(E.cell _ _ _ (hU j c hc).1 (hU j c hc).2.1).1, (E.cell _ _ _ (hU j c hc).1 (hU j c hc).2.1).2, E.relD (hU j c hc).2.2⟩⟩
  | nilp => exact r
  | fn f cap =>
    obtain ⟨hv, hc⟩ := r
    refine ⟨?_, fun i hi => ?_⟩
    · rw [hv]
      congr 2
      refine List.map_congr_left fun i hi => ?_
      obtain ⟨b, hb⟩ := hc i hi
      rw [E.ptr i b hb]
    · obtain ⟨b, hb⟩ := hc i hi
      exact ⟨b, by rw [E.ptr i b hb]; exact hb⟩
  | nilf => exact r
  | nils ag sz => exact r
  | lst i ag sz rows =>
    obtain ⟨hd, hs, ht⟩ := r
    refine ⟨E.relD hd, E.sl i hs, fun n sz' e hn => ?_⟩
    obtain ⟨n0, hle, h0, heq⟩ := E.tok i n sz' e hs hn
    obtain ⟨h1, h2, h3⟩ := ht n0 sz' e h0
    exact ⟨h1, Nat.le_trans h2 hle, fun hl => by
      have : n0 = n := by omega
      rw [heq this]; exact h3 (by omega)⟩
  | map i =>
    obtain ⟨hv, m, hm⟩ := r
    have e := E.map i m hm
    exact ⟨by rw [e]; exact hv, m, by rw [e]; exact hm⟩
  | nilm => exact r

theorem Evo.relV1 (E : Evo w Z g h w' Z' g' h') {c : V1} {v : Value} (r : RelV1 w Z g h c v) : RelV1 w' Z' g' h' c v := by
  cases c with
  | d x => exact E.relD r
  | c x => exact E.relC r
  | agg cs =>
    obtain ⟨vs, hv, hs, hr⟩ := r
    exact ⟨vs, hv, hs, fun j c u hc hu => E.relC (hr j c u hc hu)⟩

theorem Evo.relAV (E : Evo w Z g h w' Z' g' h') {c : AV} {v : Value} (r : RelAV w Z g h c v) : RelAV w' Z' g' h' c v := by
  cases c with
  | u => trivial
  | v x => exact E.relV1 r
  | t cs =>
    obtain ⟨vs, hv, hs, hr⟩ := r
    exact ⟨vs, hv, hs, fun j c u hc hu => E.relV1 (hr j c u hc hu)⟩

theorem ownsRow_same {e : TypeId} {sz : Nat} {v : Value} {n : Nat} {xs : List Value} (h : w.ownsRow 0 e sz v n xs)
    (hb : ∀ b, blk v = some b → w'.heap[b]? = w.heap[b]?) : w'.ownsRow 0 e sz v n xs := by
  obtain ⟨h1, h2⟩ := h
  refine ⟨h1, ?_⟩
  rcases h2 with h2 | ⟨q, cap, cur, hv, hg, hh, r⟩
  · exact .inl h2
  · exact .inr ⟨q, cap, cur, hv, hg, by rw [hb q (by rw [hv]; rfl)]; exact hh, r⟩

theorem RelObj.evo (E : Evo w Z g h w' Z' g' h') {o : AObj} {gv : Value} (r : RelObj w Z g h o gv)
    (hb : ∀ b, blk gv = some b → w'.heap[b]? = w.heap[b]?) : RelObj w' Z' g' h' o gv := by
  cases o with
  | cells cs =>
    obtain ⟨b, c, e, hv, hh, hs, hr⟩ := r
    exact ⟨b, c, e, hv, by rw [hb b (by rw [hv]; rfl)]; exact hh, hs, fun j x u hx hu => E.relC (hr j x u hx hu)⟩
  | tok n sz e =>
    obtain ⟨h0, xs, hx⟩ := r
    exact ⟨h0, xs, ownsRow_same hx hb⟩
  | map kt et es =>
    obtain ⟨q, m, cl, hv, hh, hs, hbn, hr⟩ := r
    exact ⟨q, m, cl, hv, by rw [hb q (by rw [hv]; rfl)]; exact hh, hs, hbn, fun j x u hx hu => ⟨E.relD (hr j x u hx hu).1, E.relV1 (hr j x u hx hu).2⟩⟩

theorem RelObj.lt {o : AObj} {gv : Value} (r : RelObj w Z g h o gv) {b : Nat} (hb : blk gv = some b) : b < w.heap.size := by
  cases o with
  | cells cs =>
    obtain ⟨b', c, e, hv, hh, _⟩ := r
    rw [hv] at hb
    simp [blk] at hb
    subst hb
    exact (Array.getElem?_eq_some_iff.1 hh).1
  | tok n sz e =>
    obtain ⟨_, xs, _, h2⟩ := r
    rcases h2 with ⟨hv, _⟩ | ⟨q, cap, cur, hv, hg, hh, _⟩
    · rw [hv] at hb; simp [blk] at hb
    · rw [hv] at hb
      simp [blk] at hb
      subst hb
      exact (Array.getElem?_eq_some_iff.1 hh).1
  | map kt et es =>
    obtain ⟨q, m, cl, hv, hh, _⟩ := r
    rw [hv] at hb
    simp [blk] at hb
    subst hb
    exact (Array.getElem?_eq_some_iff.1 hh).1

theorem RelH.upd {X : Zone} (R : RelH w X g h) (T : Id → Prop) (hX : ∀ b o, X b o → b < w.heap.size)
    (E : Evo w (zor (zone g h) X) g h w' (zor (zone g' h') X) g' h')
    (hsame : ∀ i, ¬ T i → h' i = h i ∧ g' i = g i)
    (hworld : ∀ i o b, ¬ T i → h i = some o → blk (g i) = some b → w'.heap[b]? = w.heap[b]?)
    (hobj : ∀ i o, T i → h' i = some o → RelObj w' (zor (zone g' h') X) g' h' o (g' i))
    (hblk : ∀ i o b, T i → h' i = some o → blk (g' i) = some b → (∃ o0, h i = some o0 ∧ blk (g i) = some b) ∨ w.heap.size ≤ b)
    (hsep : ∀ i j oi oj b, T i → T j → h' i = some oi → h' j = some oj → blk (g' i) = some b → blk (g' j) = some b → i = j) :
    RelH w' X g' h' := by
  have lt : ∀ i o b, h i = some o → blk (g i) = some b → b < w.heap.size := fun i o b ho hb => (R.objs i o ho).lt hb
  have mixed : ∀ i j oi oj b, T i → ¬ T j → h' i = some oi → h' j = some oj → blk (g' i) = some b → blk (g' j) = some b → i = j := by
    intro i j oi oj b ti tj hi hj bi bj
    rw [(hsame j tj).1] at hj
    rw [(hsame j tj).2] at bj
    rcases hblk i oi b ti hi bi with ⟨o0, h0, b0⟩ | hge
    · exact R.sep i j o0 oj b h0 hj b0 bj
    · exact absurd (lt j oj b hj bj) (by omega)
  refine ⟨fun i o ho => ?_, fun i j oi oj b hi hj bi bj => ?_, fun i oi b o hi bi hx => ?_⟩
  · by_cases ti : T i
    · exact hobj i o ti ho
    · rw [(hsame i ti).1] at ho
      rw [(hsame i ti).2]
      exact (R.objs i o ho).evo E (fun b hb => hworld i o b ti ho hb)
  · by_cases ti : T i
    · by_cases tj : T j
      · exact hsep i j oi oj b ti tj hi hj bi bj
      · exact mixed i j oi oj b ti tj hi hj bi bj
    · by_cases tj : T j
      · exact (mixed j i oj oi b tj ti hj hi bj bi).symm
      · rw [(hsame i ti).1] at hi
        rw [(hsame i ti).2] at bi
        rw [(hsame j tj).1] at hj
        rw [(hsame j tj).2] at bj
        exact R.sep i j oi oj b hi hj bi bj
  · by_cases ti : T i
    · rcases hblk i oi b ti hi bi with ⟨o0, h0, b0⟩ | hge
      · exact R.apart i o0 b o h0 b0 hx
      · exact absurd (hX b o hx) (by omega)
    · rw [(hsame i ti).1] at hi
      rw [(hsame i ti).2] at bi
      exact R.apart i oi b o hi bi hx

end

def updS (s : Slots) (d : Option Tmp) (v : AV) : Slots :=
  match d with
  | some d => fun t => if t = d then v else s t
  | none => s
def updG (g : Ghost) (i : Id) (v : Value) : Ghost := fun j => if j = i then v else g j
def updO (h : Heap) (i : Id) (o : AObj) : Heap := fun j => if j = i then some o else h j

/-- The general step: some objects have been turned, the frame's slots are as they were. -/
theorem RelS.step {C : Cx} {F F' : Nat → Prop} {s : Slots} {h h' : Heap} {g g' : Ghost} {a : Act} {w w' : World} (R : RelS C F s h g a w) (T : Id → Prop)
    (E : Evo w (zor (zone g h) C.X) g h w' (zor (zone g' h') C.X) g' h')
    (hF : Frame' (zone g h) w w')
    (hsame : ∀ i, ¬ T i → h' i = h i ∧ g' i = g i)
    (hworld : ∀ i o b, ¬ T i → h i = some o → blk (g i) = some b → w'.heap[b]? = w.heap[b]?)
    (hobj : ∀ i o, T i → h' i = some o → RelObj w' (zor (zone g' h') C.X) g' h' o (g' i))
    (hblk : ∀ i o b, T i → h' i = some o → blk (g' i) = some b → (∃ o0, h i = some o0 ∧ blk (g i) = some b) ∨ w.heap.size ≤ b)
    (hsep : ∀ i j oi oj b, T i → T j → h' i = some oi → h' j = some oj → blk (g' i) = some b → blk (g' j) = some b → i = j)
    (hext : ∀ j, T (.ext j) → g' (.ext j) = g (.ext j) ∧ (∀ ob, h' (.ext j) = some ob → ∃ ob0, h (.ext j) = some ob0 ∧ ∀ b o, zone1 (g (.ext j)) ob b o → zone1 (g (.ext j)) ob0 b o))
    (hfree : ∀ n, F' n → g' (.loc n) = undef ∧ h' (.loc n) = none) :
    RelS C F' s h' g' a w' := by
  have hX : ∀ b o, C.X b o → b < w.heap.size := fun b o hx => Nat.lt_of_lt_of_le (R.xs b o hx) R.frame.size
  have hnz : ∀ b o, b < C.w0.heap.size → ¬ C.Z0 b o → ¬ zone g h b o := by
    rintro b o hb hz ⟨i, ob, hi, h1⟩
    cases i with
    | loc n => exact absurd (R.own n ob b hi h1.1) (by omega)
    | ext j => exact hz (R.outer j ob b o hi h1)
  have hfr : Frame' C.Z0 C.w0 w' :=
    ⟨hF.os.trans R.frame.os, hF.tape.trans R.frame.tape, hF.output.trans R.frame.output, Nat.le_trans R.frame.size hF.size,
     fun b hb hz => (hF.block b (Nat.lt_of_lt_of_le hb R.frame.size) (fun o => hnz b o hb (hz o))).trans (R.frame.block b hb hz),
     fun b o u hu hz => hF.cell b o u (R.frame.cell b o u hu hz) (hnz b o (World.block_lt_of_cell? C.w0 ⟨b, o, none⟩ hu) hz)⟩
  refine ⟨R.size, R.defers, fun t => E.relAV (R.slots t), R.heap.upd T hX E hsame hworld hobj hblk hsep, hfr, fun j => ?_, fun n o b hn hb => ?_, fun j ob b o hj hz => ?_, R.xs, hfree⟩
  · by_cases tj : T (.ext j)
    · exact (hext j tj).1.trans (R.ext j)
    · exact (hsame _ tj).2.trans (R.ext j)
  · by_cases tn : T (.loc n)
    · rcases hblk _ o b tn hn hb with ⟨o0, h0, b0⟩ | hge
      · exact R.own n o0 b h0 b0
      · exact Nat.le_trans R.frame.size hge
    · rw [(hsame _ tn).1] at hn
      rw [(hsame _ tn).2] at hb
      exact R.own n o b hn hb
  · by_cases tj : T (.ext j)
    · obtain ⟨he, hk⟩ := hext j tj
      obtain ⟨ob0, h0, hz0⟩ := hk ob hj
      rw [he] at hz
      exact R.outer j ob0 b o h0 (hz0 b o hz)
    · rw [(hsame _ tj).1] at hj
      rw [(hsame _ tj).2] at hz
      exact R.outer j ob b o hj hz

end Go.AM

/- The abstract machine, part C: contracts of functions ('Trip'), and what one operation does. No condition. -/
namespace Go.AM
open Go Go.RowKit

/-! ### Types -/
structure TI where
  desc : TypeDesc
  size : Nat
  bytes : Nat
  zero : Value
  zc : List CV

def ZRel : CV → Value → Prop
  | .d (.int k n), .int k' m => k = k' ∧ n = m
  | .d (.bool b), .bool b' => b = b'
  | .d (.str s), .string s' => s = s'
  | .nils _ _, .slice none 0 0 => True
  | .nilp, .pointer none => True
  | .nilf, .nilFunc => True
  | .nilm, .map none => True
  | .un, v => v.oneCell' = true
  | _, _ => False

abbrev Types := TypeId → Option TI

def TIok (P : Program) (ti : Types) : Prop := ∀ t x, ti t = some x → P.underlying t = some x.desc ∧
  ∃ i, P.info? t = some i ∧ i.size = x.size ∧ i.bytes = x.bytes ∧ i.zero = some x.zero ∧ x.zero.cells.size = x.size ∧ x.zc.length = x.size ∧
    ∀ (j : Nat) c u, x.zc[j]? = some c → x.zero.cells[j]? = some u → ZRel c u

def rowD : TypeDesc → Bool
  | .struct _ | .array _ _ => true
  | _ => false

/-! ### Values -/
def V1.ofC : CV → V1
  | .d x => .d x
  | y => .c y
def V1.cells : V1 → List CV
  | .d x => x.cells.map CV.d
  | .c x => [x]
  | .agg cs => cs
def allD : List CV → Option (List D)
  | [] => some []
  | .d x :: r => match allD r with
    | some ds => some (x :: ds)
    | none => none
  | _ :: _ => none
def allN : List CV → Option (List D)
  | [] => some []
  | .d x :: r => match allN r with
    | some ds => some (x :: ds)
    | none => none
  | .nils ag sz :: r => match allN r with
    | some ds => some (.list ag sz [] :: ds)
    | none => none
  | .lst _ ag sz rows :: r => match allN r with
    | some ds => some (.list ag sz rows :: ds)
    | none => none
  | _ :: _ => none
def V1.ofCells (ag : Bool) (cs : List CV) : V1 :=
  match ag with
  | true => match allD cs with
    | some ds => .d (.agg ds)
    | none => .agg cs
  | false => match cs with
    | [y] => V1.ofC y
    | _ => .c .un
def V1.norm : V1 → V1
  | .c (.nils ag sz) => .d (.list ag sz [])
  | .c (.lst _ ag sz rows) => .d (.list ag sz rows)
  | .agg cs => match allN cs with
    | some ds => .d (.agg ds)
    | none => .agg cs
  | x => x

section
variable {w : World} {Z : Zone} {g : Ghost} {h : Heap}

theorem RelV1.ofC {c : CV} {v : Value} (r : RelC w Z g h c v) : RelV1 w Z g h (V1.ofC c) v := by
  cases c <;> first | exact r | exact r.1

theorem relD_nil (ag : Bool) (sz : Nat) : RelD w Z (.list ag sz []) (.slice none 0 0) :=
  .list ag sz [] none 0 0 0 (fun _ _ => undef) (Nat.le_refl _) (Nat.zero_le _) (by simp) (by simp) (by simp) (by simp)

theorem oneCell_cells {v : Value} (h : v.oneCell' = true) : v.cells = #[v] := by
  cases v <;> first | rfl | simp [Value.oneCell'] at h

theorem RelC.oneCell {c : CV} {v : Value} (r : RelC w Z g h c v) : v.oneCell' = true := by
  cases c with
  | un => exact r
  | d x => exact r.1.oneCell r.2
  | ptr i o =>
    obtain ⟨⟨b, hb⟩, rfl⟩ := r
    rw [hb]; rfl
  | row ag sz x => obtain ⟨_, b, o, rfl, _⟩ := r; rfl
  | rp cs => obtain ⟨_, b, o, rfl, _⟩ := r; rfl
  | nilp => rw [show v = _ from r]; rfl
  | fn f cap => rw [r.1]; rfl
  | nilf => rw [show v = _ from r]; rfl
  | nils ag sz => rw [show v = _ from r]; rfl
  | lst i ag sz rows => exact r.1.oneCell rfl
  | map i =>
    obtain ⟨rfl, m, hm⟩ := r
    rw [hm]; rfl
  | nilm => rw [show v = _ from r]; rfl

theorem RelV1.cells {x : V1} {v : Value} (r : RelV1 w Z g h x v) :
    v.cells.size = x.cells.length ∧ ∀ (j : Nat) c u, x.cells[j]? = some c → v.cells[j]? = some u → RelC w Z g h c u := by
  cases x with
  | d x =>
    obtain ⟨h1, h2⟩ := RelD.cellsOf r
    refine ⟨by simpa [V1.cells] using h1, fun j c u hc hu => ?_⟩
    simp only [V1.cells, List.getElem?_map, Option.map_eq_some_iff] at hc
    obtain ⟨d, hd, rfl⟩ := hc
    exact h2 j d u hd hu
  | c x =>
    have hv : v.cells = #[v] := oneCell_cells (RelC.oneCell r)
    rw [hv]
    refine ⟨rfl, fun j c u hc hu => ?_⟩
    match j with
    | 0 => simp [V1.cells] at hc hu; subst hc; subst hu; exact r
    | j + 1 => simp [V1.cells] at hc
  | agg cs =>
    obtain ⟨vs, rfl, hs, hr⟩ := r
    exact ⟨hs, hr⟩

theorem allD_rel {cs : List CV} {ds : List D} (he : allD cs = some ds) : cs = ds.map CV.d := by
  induction cs generalizing ds with
  | nil => simp [allD] at he; subst he; rfl
  | cons c r ih =>
    cases c <;> simp only [allD] at he <;> try (exact absurd he (by simp))
    split at he
    · rename_i ds' hd
      simp at he
      subst he
      rw [ih hd]; rfl
    · simp at he

/-- A value as it is put together of cells. -/
theorem RelV1.ofCells {ag : Bool} {cs : List CV} {vs : Array Value} (hs : vs.size = cs.length)
    (hr : ∀ (j : Nat) c u, cs[j]? = some c → vs[j]? = some u → RelC w Z g h c u) :
    (ag = true → RelV1 w Z g h (V1.ofCells ag cs) (.agg vs)) ∧ (ag = false → ∀ v, vs = #[v] → RelV1 w Z g h (V1.ofCells ag cs) v) := by
  constructor
  · rintro rfl
    unfold V1.ofCells
    simp only []
    split
    · rename_i ds hd
      have e := allD_rel hd
      subst e
      refine .agg ds vs (by simpa using hs) (fun c hc => ?_) (fun j c v hc hv => ?_)
      · obtain ⟨j, hj⟩ := List.mem_iff_getElem?.1 hc
        have hlt : j < vs.size := by
          have := (List.getElem?_eq_some_iff.1 hj).1
          simp at hs; omega
        exact (hr j (.d c) vs[j] (by simp [hj]) (by simp [hlt])).2
      · exact (hr j (.d c) v (by simp [hc]) hv).1
    · exact ⟨vs, rfl, hs, hr⟩
  · rintro rfl v rfl
    have h1 : cs.length = 1 := by simpa using hs.symm
    match cs, h1 with
    | [c], _ => exact RelV1.ofC (hr 0 c v rfl rfl)

theorem allN_rel {cs : List CV} {ds : List D} (he : allN cs = some ds) :
    ds.length = cs.length ∧ ∀ (j : Nat) x c v, ds[j]? = some x → cs[j]? = some c → RelC w Z g h c v → RelD w Z x v ∧ x.isAgg = false := by
  induction cs generalizing ds with
  | nil => simp [allN] at he; subst he; exact ⟨rfl, by simp⟩
  | cons c r ih =>
    have main : ∀ y, (∀ v, RelC w Z g h c v → RelD w Z y v ∧ y.isAgg = false) →
        (match allN r with | some ds => some (y :: ds) | none => none) = some ds →
        ds.length = (c :: r).length ∧ ∀ (j : Nat) x c' v, ds[j]? = some x → (c :: r)[j]? = some c' → RelC w Z g h c' v → RelD w Z x v ∧ x.isAgg = false := by
      intro y hy he
      split at he
      · rename_i ds' hd
        simp at he
        subst he
        obtain ⟨h1, h2⟩ := ih hd
        refine ⟨by simp [h1], fun j x c' v hx hc hr => ?_⟩
        match j with
        | 0 => simp at hx hc; subst hx; subst hc; exact hy v hr
        | j + 1 => simp at hx hc; exact h2 j x c' v hx hc hr
      · simp at he
    cases c <;> simp only [allN] at he <;> try (exact absurd he (by simp))
    · exact main _ (fun v hr => hr) he
    · exact main _ (fun v hr => by rw [show v = _ from hr]; exact ⟨relD_nil _ _, rfl⟩) he
    · exact main _ (fun v hr => ⟨hr.1, rfl⟩) he

theorem RelV1.norm {x : V1} {v : Value} (r : RelV1 w Z g h x v) : RelV1 w Z g h x.norm v := by
  cases x with
  | d x => exact r
  | c x =>
    cases x <;> first
      | exact r
      | (rw [show v = _ from r]; exact relD_nil _ _)
      | exact r.1
  | agg cs =>
    obtain ⟨vs, rfl, hs, hr⟩ := r
    show RelV1 w Z g h (match allN cs with | some ds => .d (.agg ds) | none => .agg cs) (.agg vs)
    cases hd : allN cs with
    | some ds =>
        obtain ⟨h1, h2⟩ := allN_rel (w := w) (Z := Z) (g := g) (h := h) hd
        have get : ∀ j, j < cs.length → ∃ c u, cs[j]? = some c ∧ vs[j]? = some u := fun j hj => ⟨cs[j], vs[j], by simp [hj], by simp [hs, hj]⟩
        refine .agg ds vs (by omega) (fun c hc => ?_) (fun j c v hc hv => ?_)
        · obtain ⟨j, hj⟩ := List.mem_iff_getElem?.1 hc
          obtain ⟨c', u, h3, h4⟩ := get j (by have := (List.getElem?_eq_some_iff.1 hj).1; omega)
          exact (h2 j c c' u hj h3 (hr j c' u h3 h4)).2
        · obtain ⟨c', u, h3, h4⟩ := get j (by have := (List.getElem?_eq_some_iff.1 hc).1; omega)
          rw [hv] at h4
          simp at h4
          subst h4
          exact (h2 j c c' v hc h3 (hr j c' v h3 hv)).1
    | none => exact ⟨vs, rfl, hs, hr⟩
end

/-! ### Contracts -/
def heapOf (pre : List AObj) : Heap
  | .ext j => pre[j]?
  | .loc _ => none
def heapOf2 (post new : List AObj) : Heap
  | .ext j => post[j]?
  | .loc k => new[k]?

def sameKind : AObj → AObj → Prop
  | .cells _, .cells _ => True
  | .tok n sz e, .tok n' sz' e' => n = n' ∧ sz = sz' ∧ e = e'
  | .map .., .map .. => True
  | _, _ => False

def allKinds : List AObj → List AObj → Prop
  | [], [] => True
  | a :: al, b :: bs => sameKind a b ∧ allKinds al bs
  | _, _ => False

structure CallPost (w : World) (X : Zone) (g : Ghost) (pre : List AObj) (res : AV) (post new : List AObj) (v : Value) (w' : World) (g' : Ghost) : Prop where
  heap : RelH w' X g' (heapOf2 post new)
  res : RelAV w' (zor (zone g' (heapOf2 post new)) X) g' (heapOf2 post new) res v
  frame : Frame' (zone g (heapOf pre)) w w'
  ext : ∀ j, g' (.ext j) = g (.ext j)
  fresh : ∀ k b, blk (g' (.loc k)) = some b → w.heap.size ≤ b
  none : ∀ k, new.length ≤ k → g' (.loc k) = undef

/-- The contract: called with these arguments, over these objects, the function returns this, and leaves the objects so (and new ones). -/
def Trip (P : Program) (f : FuncId) (args : List V1) (pre : List AObj) (res : AV) (post new : List AObj) : Prop :=
  (∃ fn c, P.funcs[f]? = some fn ∧ fn.body = some c ∧ (fn.name == "runtime.NumGoroutine") = false) ∧
  ∀ w X g (vals : Array Value), (∀ b o, X b o → b < w.heap.size) → RelH w X g (heapOf pre) → (∀ n, g (.loc n) = undef) → vals.size = args.length →
    (∀ (j : Nat) x v, args[j]? = some x → vals[j]? = some v → RelV1 w (zor (zone g (heapOf pre)) X) g (heapOf pre) x v) →
    Calls P f vals w fun e w' => ∃ v g', e = .returned v ∧ CallPost w X g pre res post new v w' g'

/-! ### Renaming -/
section
variable {w : World} {Z Z' : Zone} {g g' : Ghost} {h h' : Heap} {r : Id → Id}

/-- Down: what holds of the renamed, over the greater heap, holds of the unrenamed over its own. -/
theorem RelC.pull (hz : ∀ b o, Z' b o → Z b o) (hg : ∀ i, g' i = g (r i)) (ht : ∀ i n sz e, h' i = some (.tok n sz e) → h (r i) = some (.tok n sz e))
    {c : CV} {v : Value} (q : RelC w Z g h (c.ren r) v) : RelC w Z' g' h' c v := by
  have hd : ∀ {x : D} {u : Value}, RelD w Z x u → RelD w Z' x u := fun q => q.mono (fun b o u hu hn => ⟨hu, fun hz' => hn (hz _ _ hz')⟩)
  cases c with
  | un => exact q
  | d x => exact ⟨hd q.1, q.2⟩
  | ptr i o => simp only [CV.ren, RelC, ← hg] at q ⊢; exact q
  | row ag sz x =>
    obtain ⟨hf, b, o, hv, U, hU⟩ := q
    exact ⟨hf, b, o, hv, U, fun j c hc => ⟨(hU j c hc).1, fun hz' => (hU j c hc).2.1 (hz _ _ hz'), hd (hU j c hc).2.2⟩⟩
  | rp cs =>
    obtain ⟨hf, b, o, hv, U, hU⟩ := q
    exact ⟨hf, b, o, hv, U, fun j c hc => ⟨(hU j c hc).1, fun hz' => (hU j c hc).2.1 (hz _ _ hz'), hd (hU j c hc).2.2⟩⟩
  | nilp => exact q
  | fn f cap =>
    simp only [CV.ren, RelC, List.map_map, List.forall_mem_map] at q ⊢
    refine ⟨?_, fun i hi => by rw [hg]; exact q.2 i hi⟩
    rw [q.1]
    congr 2
    exact List.map_congr_left fun i _ => by simp [hg]
  | nilf => exact q
  | nils ag sz => exact q
  | lst i ag sz rows =>
    obtain ⟨q1, q2, q3⟩ := q
    exact ⟨hd q1, by rw [hg]; exact q2, fun n sz' e hn => by rw [hg]; exact q3 n sz' e (ht i n sz' e hn)⟩
  | map i => simp only [CV.ren, RelC, ← hg] at q ⊢; exact q
  | nilm => exact q

/-- Up. -/
theorem RelC.push (hz : ∀ b o u, w.cell? ⟨b, o, none⟩ = some u → ¬ Z' b o → ¬ Z b o) (hg : ∀ i, g' i = g (r i)) (ht : ∀ i n sz e, h (r i) = some (.tok n sz e) → h' i = some (.tok n sz e))
    {c : CV} {v : Value} (q : RelC w Z' g' h' c v) : RelC w Z g h (c.ren r) v := by
  have hd : ∀ {x : D} {u : Value}, RelD w Z' x u → RelD w Z x u := fun q => q.mono (fun b o u hu hn => ⟨hu, hz b o u hu hn⟩)
  cases c with
  | un => exact q
  | d x => exact ⟨hd q.1, q.2⟩
  | ptr i o => simp only [CV.ren, RelC, hg] at q ⊢; exact q
  | row ag sz x =>
    obtain ⟨hf, b, o, hv, U, hU⟩ := q
    exact ⟨hf, b, o, hv, U, fun j c hc => ⟨(hU j c hc).1, hz _ _ _ (hU j c hc).1 (hU j c hc).2.1, hd (hU j c hc).2.2⟩⟩
  | rp cs =>
    obtain ⟨hf, b, o, hv, U, hU⟩ := q
    exact ⟨hf, b, o, hv, U, fun j c hc => ⟨(hU j c hc).1, hz _ _ _ (hU j c hc).1 (hU j c hc).2.1, hd (hU j c hc).2.2⟩⟩
  | nilp => exact q
  | fn f cap =>
    simp only [CV.ren, RelC, List.map_map, List.forall_mem_map] at q ⊢
    refine ⟨?_, fun i hi => by rw [← hg]; exact q.2 i hi⟩
    rw [q.1]
    congr 2
    exact List.map_congr_left fun i _ => by simp [hg]
  | nilf => exact q
  | nils ag sz => exact q
  | lst i ag sz rows =>
    obtain ⟨q1, q2, q3⟩ := q
    exact ⟨hd q1, by rw [← hg]; exact q2, fun n sz' e hn => by rw [← hg]; exact q3 n sz' e (ht i n sz' e hn)⟩
  | map i => simp only [CV.ren, RelC, hg] at q ⊢; exact q
  | nilm => exact q

theorem RelV1.pull (hz : ∀ b o, Z' b o → Z b o) (hg : ∀ i, g' i = g (r i)) (ht : ∀ i n sz e, h' i = some (.tok n sz e) → h (r i) = some (.tok n sz e))
    {c : V1} {v : Value} (q : RelV1 w Z g h (c.ren r) v) : RelV1 w Z' g' h' c v := by
  cases c with
  | d x => exact RelD.mono (fun b o u hu hn => ⟨hu, fun hz' => hn (hz _ _ hz')⟩) q
  | c x => exact RelC.pull (r := r) hz hg ht q
  | agg cs =>
    obtain ⟨vs, hv, hs, hr⟩ := q
    refine ⟨vs, hv, by simpa using hs, fun j c u hc hu => RelC.pull (r := r) hz hg ht (hr j (c.ren r) u (by simp [hc]) hu)⟩

theorem RelV1.push (hz : ∀ b o u, w.cell? ⟨b, o, none⟩ = some u → ¬ Z' b o → ¬ Z b o) (hg : ∀ i, g' i = g (r i)) (ht : ∀ i n sz e, h (r i) = some (.tok n sz e) → h' i = some (.tok n sz e))
    {c : V1} {v : Value} (q : RelV1 w Z' g' h' c v) : RelV1 w Z g h (c.ren r) v := by
  cases c with
  | d x => exact RelD.mono (fun b o u hu hn => ⟨hu, hz b o u hu hn⟩) q
  | c x => exact RelC.push (r := r) hz hg ht q
  | agg cs =>
    obtain ⟨vs, hv, hs, hr⟩ := q
    refine ⟨vs, hv, by simpa using hs, fun j c u hc hu => ?_⟩
    simp only [List.getElem?_map, Option.map_eq_some_iff] at hc
    obtain ⟨c', hc', rfl⟩ := hc
    exact RelC.push (r := r) hz hg ht (hr j c' u hc' hu)

theorem RelAV.push (hz : ∀ b o u, w.cell? ⟨b, o, none⟩ = some u → ¬ Z' b o → ¬ Z b o) (hg : ∀ i, g' i = g (r i)) (ht : ∀ i n sz e, h (r i) = some (.tok n sz e) → h' i = some (.tok n sz e))
    {c : AV} {v : Value} (q : RelAV w Z' g' h' c v) : RelAV w Z g h (c.ren r) v := by
  cases c with
  | u => trivial
  | v x => exact RelV1.push (r := r) hz hg ht q
  | t xs =>
    obtain ⟨vs, hv, hs, hr⟩ := q
    refine ⟨vs, hv, by simpa using hs, fun j c u hc hu => ?_⟩
    simp only [List.getElem?_map, Option.map_eq_some_iff] at hc
    obtain ⟨c', hc', rfl⟩ := hc
    exact RelV1.push (r := r) hz hg ht (hr j c' u hc' hu)

theorem RelAV.pull (hz : ∀ b o, Z' b o → Z b o) (hg : ∀ i, g' i = g (r i)) (ht : ∀ i n sz e, h' i = some (.tok n sz e) → h (r i) = some (.tok n sz e))
    {c : AV} {v : Value} (q : RelAV w Z g h (c.ren r) v) : RelAV w Z' g' h' c v := by
  cases c with
  | u => trivial
  | v x => exact RelV1.pull (r := r) hz hg ht q
  | t xs =>
    obtain ⟨vs, hv, hs, hr⟩ := q
    refine ⟨vs, hv, by simpa using hs, fun j c u hc hu => RelV1.pull (r := r) hz hg ht (hr j (c.ren r) u (by simp [hc]) hu)⟩

theorem RelObj.pull (hz : ∀ b o, Z' b o → Z b o) (hg : ∀ i, g' i = g (r i)) (ht : ∀ i n sz e, h' i = some (.tok n sz e) → h (r i) = some (.tok n sz e))
    {ob : AObj} {v : Value} (q : RelObj w Z g h (ob.ren r) v) : RelObj w Z' g' h' ob v := by
  cases ob with
  | cells cs =>
    obtain ⟨b, c, e, hv, hh, hs, hr⟩ := q
    exact ⟨b, c, e, hv, hh, by simpa using hs, fun j x u hx hu => RelC.pull (r := r) hz hg ht (hr j (x.ren r) u (by simp [hx]) hu)⟩
  | tok n sz e => exact q
  | map kt et es =>
    obtain ⟨m, ms, cl, hv, hh, hs, hb, hr⟩ := q
    refine ⟨m, ms, cl, hv, hh, by simpa using hs, hb, fun j x u hx hu => ?_⟩
    obtain ⟨q1, q2⟩ := hr j (x.1, x.2.ren r) u (by simp [hx]) hu
    exact ⟨RelD.mono (fun b o u hu hn => ⟨hu, fun hz' => hn (hz _ _ hz')⟩) q1, RelV1.pull (r := r) hz hg ht q2⟩

theorem RelObj.push (hz : ∀ b o u, w.cell? ⟨b, o, none⟩ = some u → ¬ Z' b o → ¬ Z b o) (hg : ∀ i, g' i = g (r i)) (ht : ∀ i n sz e, h (r i) = some (.tok n sz e) → h' i = some (.tok n sz e))
    {ob : AObj} {v : Value} (q : RelObj w Z' g' h' ob v) : RelObj w Z g h (ob.ren r) v := by
  cases ob with
  | cells cs =>
    obtain ⟨b, c, e, hv, hh, hs, hr⟩ := q
    refine ⟨b, c, e, hv, hh, by simpa using hs, fun j x u hx hu => ?_⟩
    simp only [List.getElem?_map, Option.map_eq_some_iff] at hx
    obtain ⟨x', hx', rfl⟩ := hx
    exact RelC.push (r := r) hz hg ht (hr j x' u hx' hu)
  | tok n sz e => exact q
  | map kt et es =>
    obtain ⟨m, ms, cl, hv, hh, hs, hb, hr⟩ := q
    refine ⟨m, ms, cl, hv, hh, by simpa using hs, hb, fun j x u hx hu => ?_⟩
    simp only [List.getElem?_map, Option.map_eq_some_iff] at hx
    obtain ⟨x', hx', rfl⟩ := hx
    obtain ⟨q1, q2⟩ := hr j x' u hx' hu
    exact ⟨RelD.mono (fun b o u hu hn => ⟨hu, hz b o u hu hn⟩) q1, RelV1.push (r := r) hz hg ht q2⟩

theorem zone1_ren {gv : Value} {ob : AObj} {b o : Nat} : zone1 gv (ob.ren r) b o ↔ zone1 gv ob b o := by
  cases ob <;> rfl
end

end Go.AM

/- The abstract machine, part D: what one operation does, abstractly. No condition. -/
namespace Go.AM
open Go Go.RowKit

structure Out where
  val : AV
  rd : List Id
  wr : List (Id × AObj)

def updW (h : Heap) : List (Id × AObj) → Heap
  | [] => h
  | (i, o) :: r => updW (updO h i o) r

def req (c : Bool) (K : Prop) : Prop :=
  match c with
  | true => K
  | false => False
theorem req_iff {c : Bool} {K : Prop} : req c K ↔ c = true ∧ K := by cases c <;> simp [req]

def constV (ti : Types) (t : TypeId) : Value → CV
  | .int k n => .d (.int k n)
  | .bool b => .d (.bool b)
  | .string s => .d (.str s)
  | .pointer none => .nilp
  | .nilFunc => .nilf
  | .map none => .nilm
  | .slice none 0 0 => match ti t with
    | some x => match x.desc with
      | .slice e => match ti e with
        | some y => .nils (rowD y.desc) y.size
        | none => .nils false 1
      | _ => .nils false 1
    | none => .nils false 1
  | _ => .un

def isUn : CV → Bool
  | .un => true
  | _ => false
def constA (c : CV) : AV :=
  match c with
  | .un => .u
  | c => .v (V1.ofC c)

def opd (ti : Types) (s : Slots) (t : TypeId) : Operand → AV
  | .tmp x => s x
  | .const v => constA (constV ti t v)
  | .func f => .v (.c (.fn f []))
  | .global _ => .u

def withV (x : AV) (k : V1 → Prop) : Prop :=
  match x with
  | .v y => k y
  | _ => False
def withB (x : AV) (k : Bool → Prop) : Prop :=
  match x with
  | .v (.d (.bool b)) => k b
  | _ => False
def withI (x : AV) (k : IntKind → Int → Prop) : Prop :=
  match x with
  | .v (.d (.int q n)) => k q n
  | _ => False
def withT (ti : Types) (t : TypeId) (k : TI → Prop) : Prop :=
  match ti t with
  | some x => k x
  | none => False
def withL (x : AV) (k : Bool → Nat → List D → Prop) : Prop :=
  match x with
  | .v (.d (.list ag sz rows)) => k ag sz rows
  | .v (.c (.lst _ ag sz rows)) => k ag sz rows
  | .v (.c (.nils ag sz)) => k ag sz []
  | _ => False

def outLoad (ti : Types) (t : TypeId) (x : AV) (h : Heap) (k : Out → Prop) : Prop :=
  withT ti t fun i =>
  match x with
  | .v (.c (.ptr id o)) => match h id with
    | some (.cells cs) => req (Nat.ble (o + i.size) cs.length) (k ⟨.v (V1.ofCells (rowD i.desc) ((cs.drop o).take i.size)), [id], []⟩)
    | _ => False
  | .v (.c (.row ag sz d)) => req (rowD i.desc == ag) (req (Nat.beq sz i.size) (k ⟨.v (.d d), [], []⟩))
  | .v (.c (.rp cs)) => req (Nat.ble i.size cs.length) (k ⟨.v (V1.ofCells (rowD i.desc) ((cs.take i.size).map CV.d)), [], []⟩)
  | _ => False

def outStore (ti : Types) (t : TypeId) (x y : AV) (h : Heap) (k : Out → Prop) : Prop :=
  withT ti t fun i => withV y fun y =>
  match x with
  | .v (.c (.ptr id o)) => match h id with
    | some (.cells cs) => req (Nat.ble (o + i.size) cs.length) (req (Nat.beq y.cells.length i.size)
        (k ⟨.u, [id], [(id, .cells (cs.take o ++ y.cells ++ cs.drop (o + i.size)))]⟩))
    | _ => False
  | _ => False

def outField (ti : Types) (t : TypeId) (x : AV) (f : Nat) (k : Out → Prop) : Prop :=
  withT ti t fun i =>
  match i.desc with
  | .struct fs => match fs[f]? with
    | some fd => withT ti fd.type fun j => req (Nat.blt 0 j.size) <|
      match x with
      | .v (.c (.ptr id o)) => k ⟨.v (.c (.ptr id (o + fd.offset))), [], []⟩
      | .v (.c (.row _ _ d)) => k ⟨.v (.c (.rp (d.cells.drop fd.offset))), [], []⟩
      | .v (.c (.rp cs)) => k ⟨.v (.c (.rp (cs.drop fd.offset))), [], []⟩
      | _ => False
    | none => False
  | _ => False

def outIndex (ti : Types) (t : TypeId) (x i : AV) (k : Out → Prop) : Prop :=
  withI i fun _ n => withT ti t fun q =>
  match q.desc with
  | .slice e => withT ti e fun j => withL x fun ag sz rows => req (rowD j.desc == ag) <| req (Nat.beq sz j.size) <|
      ∃ r, 0 ≤ n ∧ rows[n.toNat]? = some r ∧ k ⟨.v (.c (.row ag sz r)), [], []⟩
  | .array len e => withT ti e fun j =>
    match x with
    | .v (.c (.ptr id o)) => 0 ≤ n ∧ n < len ∧ k ⟨.v (.c (.ptr id (o + n.toNat * j.size))), [], []⟩
    | _ => False
  | _ => False

def outLen (M : Mach) (ti : Types) (t : TypeId) (x : AV) (k : Out → Prop) : Prop :=
  withT ti t fun q =>
  match q.desc with
  | .slice _ => withL x fun _ _ rows => ∃ z : Int, M.lenI rows = z ∧ k ⟨.v (.d (.int .i64 z)), [], []⟩
  | .string => match x with
    | .v (.d (.str s)) => ∃ z : Int, M.szI s = z ∧ k ⟨.v (.d (.int .i64 z)), [], []⟩
    | _ => False
  | .array n _ => k ⟨.v (.d (.int .i64 n)), [], []⟩
  | _ => False

def notB : Bool → Bool
  | true => false
  | false => true
def eqvB : Bool → Bool → Bool
  | true, b => b
  | false, b => notB b

def intOp (M : Mach) (op : BinOp) (q : IntKind) (a b : Int) (k : D → Prop) : Prop :=
  match op with
  | .add => ∃ z, q.wrap (a + b) = z ∧ k (.int q z)
  | .sub => ∃ z, q.wrap (a - b) = z ∧ k (.int q z)
  | .mul => ∃ z, q.wrap (a * b) = z ∧ k (.int q z)
  | .quo => ∃ z, b ≠ 0 ∧ q.wrap (a.tdiv b) = z ∧ k (.int q z)
  | .rem => ∃ z, b ≠ 0 ∧ a.tmod b = z ∧ k (.int q z)
  | .eql => M.split (M.eqI a b) fun q => k (.bool q)
  | .neq => M.split (M.eqI a b) fun q => k (.bool (notB q))
  | .lss => M.split (M.ltI a b) fun q => k (.bool q)
  | .leq => M.split (M.leI a b) fun q => k (.bool q)
  | .gtr => M.split (M.ltI b a) fun q => k (.bool q)
  | .geq => M.split (M.leI b a) fun q => k (.bool q)
  | _ => False

def strOp (M : Mach) (op : BinOp) (a b : ByteArray) (k : D → Prop) : Prop :=
  match op with
  | .add => ((a.size + b.size : Nat) : Int) ≤ IntKind.i64.max ∧ k (.str (a ++ b))
  | .eql => M.split (M.eqS a b) fun q => k (.bool q)
  | .neq => M.split (M.eqS a b) fun q => k (.bool (notB q))
  | .lss => M.split (M.ltS a b) fun q => k (.bool q)
  | _ => False

def eqOpL (op : BinOp) (c : Bool) (k : D → Prop) : Prop :=
  match op with
  | .eql => k (.bool c)
  | .neq => k (.bool (notB c))
  | _ => False

def outBin (M : Mach) (ti : Types) (op : BinOp) (t : TypeId) (x y : AV) (k : Out → Prop) : Prop :=
  let kd (d : D) : Prop := k ⟨.v (.d d), [], []⟩
  match x, y with
  | .v (.d (.int q a)), .v (.d (.int q' b)) => req (decide (q = q')) (intOp M op q a b kd)
  | .v (.d (.str a)), .v (.d (.str b)) => strOp M op a b kd
  | .v (.d (.bool a)), .v (.d (.bool b)) => withT ti t fun i => match i.desc with
    | .bool => eqOpL op (eqvB a b) kd
    | _ => False
  | .v (.c (.ptr _ _)), .v (.c .nilp) => withT ti t fun i => match i.desc with
    | .pointer _ => eqOpL op false kd
    | _ => False
  | .v (.c .nilp), .v (.c .nilp) => withT ti t fun i => match i.desc with
    | .pointer _ => eqOpL op true kd
    | _ => False
  | .v (.c (.map _)), .v (.c .nilm) => withT ti t fun i => match i.desc with
    | .map _ _ => eqOpL op false kd
    | _ => False
  | .v (.c .nilm), .v (.c .nilm) => withT ti t fun i => match i.desc with
    | .map _ _ => eqOpL op true kd
    | _ => False
  | _, _ => False

def outUn (op : UnOp) (x : AV) (k : Out → Prop) : Prop :=
  match op, x with
  | .not, .v (.d (.bool b)) => k ⟨.v (.d (.bool (notB b))), [], []⟩
  | .neg, .v (.d (.int q a)) => ∃ z, q.wrap (0 - a) = z ∧ k ⟨.v (.d (.int q z)), [], []⟩
  | _, _ => False

def caps : List AV → Option (List Id)
  | [] => some []
  | .v (.c (.ptr i 0)) :: r => match caps r with
    | some l => some (i :: l)
    | none => none
  | _ :: _ => none

/-- Reading where an id of a contract leads in the caller's objects. -/
def renM (m : List Id) (fresh : Nat) : Id → Id
  | .ext j => match m[j]? with
    | some i => i
    | none => .loc (fresh + 7)
  | .loc k => .loc (fresh + (if k < 7 then k else 7))

def vals1 : List AV → Option (List V1)
  | [] => some []
  | .v x :: r => match vals1 r with
    | some l => some (x.norm :: l)
    | none => none
  | _ :: _ => none

def wrM (m : List Id) (r : Id → Id) : List AObj → List (Id × AObj)
  | [] => []
  | o :: os => match m with
    | i :: is => (i, o.ren r) :: wrM is r os
    | [] => []
def wrNew (fresh : Nat) (r : Id → Id) : Nat → List AObj → List (Id × AObj)
  | _, [] => []
  | k, o :: os => (.loc (fresh + k), o.ren r) :: wrNew fresh r (k + 1) os

def outCall (P : Program) (f : FuncId) (args : List V1) (fresh : Nat) (h : Heap) (k : Out → Prop) : Prop :=
  ∃ (m : List Id) (targs : List V1) (pre : List AObj) (res : AV) (post new : List AObj),
    Trip P f targs pre res post new ∧ args = targs.map (V1.ren (renM m fresh)) ∧ m.length = pre.length ∧ m.Nodup ∧
    (∀ (j : Nat) i o, m[j]? = some i → pre[j]? = some o → h i = some (o.ren (renM m fresh))) ∧ allKinds pre post ∧ new.length ≤ 7 ∧
    k ⟨res.ren (renM m fresh), m, wrM m (renM m fresh) post ++ wrNew fresh (renM m fresh) 0 new⟩

def withArgs (l : List AV) (k : List V1 → Prop) : Prop :=
  match vals1 l with
  | some xs => k xs
  | none => False

def outCallV (M : Mach) (f : AV) (args : List AV) (fresh : Nat) (h : Heap) (k : Out → Prop) : Prop :=
  match f with
  | .v (.c (.fn n cap)) => withArgs args fun xs => M.lock fun _ => outCall M.P n (xs ++ cap.map (fun i => V1.c (.ptr i 0))) fresh h k
  | _ => False

def opsArgs (ti : Types) (s : Slots) : List Operand → List TypeId → List AV
  | x :: xs, t :: ts => opd ti s t x :: opsArgs ti s xs ts
  | x :: xs, [] => opd ti s 0 x :: opsArgs ti s xs []
  | [], _ => []

def ptrTo (n : Nat) : AV := .v (.c (.ptr (.loc n) 0))

def pickAV (q : Bool) (a b : AV) : AV :=
  match q with
  | true => a
  | false => b

def tiAll (ti : Types) : List Field → Bool
  | [] => true
  | f :: r => match ti f.type with
    | some _ => tiAll ti r
    | none => false

def fillP (ti : Types) (s : Slots) (fs : List Field) (cs : List CV) : List (Nat × Operand) → (List CV → Prop) → Prop
  | [], k => k cs
  | (i, x) :: r, k => match fs[i]? with
    | some fd => withT ti fd.type fun j => withV (opd ti s fd.type x) fun y => req (Nat.beq y.cells.length j.size) <| req (Nat.ble (fd.offset + j.size) cs.length) <|
        fillP ti s fs (cs.take fd.offset ++ y.cells ++ cs.drop (fd.offset + j.size)) r k
    | none => False

def outBuild (ti : Types) (s : Slots) (t : TypeId) (parts : List (Nat × Operand)) (k : Out → Prop) : Prop :=
  withT ti t fun q => match q.desc with
  | .struct fs => req (tiAll ti fs.toList) <| fillP ti s fs.toList q.zc parts fun cs => k ⟨.v (V1.ofCells true cs), [], []⟩
  | _ => False

def opOut (M : Mach) (ti : Types) (o : Oper) (fresh : Nat) (s : Slots) (h : Heap) (k : Out → Prop) : Prop :=
  match o.op with
  | .move x | .assign x => k ⟨opd ti s o.type x, [], []⟩
  | .pick c a b => withB (opd ti s 0 c) fun q => k ⟨pickAV q (opd ti s o.type a) (opd ti s o.type b), [], []⟩
  | .alloc t => withT ti t fun i => k ⟨ptrTo fresh, [], [(.loc fresh, .cells i.zc)]⟩
  | .box t x => withV (opd ti s t x) fun y => k ⟨ptrTo fresh, [], [(.loc fresh, .cells y.cells)]⟩
  | .load t x => outLoad ti t (opd ti s 0 x) h k
  | .store t x y => outStore ti t (opd ti s 0 x) (opd ti s t y) h k
  | .fieldAddr t x f => outField ti t (opd ti s 0 x) f k
  | .indexAddr t x i => outIndex ti t (opd ti s t x) (opd ti s 3 i) k
  | .nilCheck x => match opd ti s 0 x with
    | .v (.c (.ptr i q)) => k ⟨.v (.c (.ptr i q)), [], []⟩
    | _ => False
  | .binOp op t x y _ => outBin M ti op t (opd ti s t x) (opd ti s t y) k
  | .unOp op _ x => outUn op (opd ti s o.type x) k
  | .makeFunc fn first captured => match fn, first.toList with
    | .func f, [] => match caps (captured.toList.map (opd ti s 0)) with
      | some l => k ⟨.v (.c (.fn f l)), [], []⟩
      | none => False
    | _, _ => False
  | .build t parts => outBuild ti s t parts.toList k
  | .call c => match c.callee with
    | .builtin .len => match c.args.toList, c.argTypes.toList with
      | [x], [t] => outLen M ti t (opd ti s t x) k
      | _, _ => False
    | .value f => outCallV M (opd ti s 0 f) (opsArgs ti s c.args.toList c.argTypes.toList) fresh h k
    | _ => False
  | _ => False

end Go.AM

/- The abstract machine, part E: each operation's abstract outcome is what the model does. No condition. -/
namespace Go.AM
open Go Go.RowKit

section
variable {C : Cx} {F : Nat → Prop} {s : Slots} {h : Heap} {g : Ghost} {a : Act} {w : World}

theorem RelS.put {dst : Option Tmp} {v : AV} {u : Value} (R : RelS C F s h g a w) (hd : ∀ d, dst = some d → d < C.nt)
    (hr : RelAV w (zor (zone g h) C.X) g h v u) : RelS C F (updS s dst v) h g (a.put dst u) w := by
  cases dst with
  | none => exact R
  | some d =>
    have hlt := hd d rfl
    refine { R with size := by simpa [Act.put] using R.size, defers := R.defers, slots := fun t => ?_ }
    simp only [updS, Act.put]
    by_cases ht : t = d
    · subst ht
      have : (a.tmps.setIfInBounds t u).getD t undef = u := by simp [R.size, hlt]
      rw [this, if_pos rfl]
      exact hr
    · have : (a.tmps.setIfInBounds d u).getD t undef = a.tmps.getD t undef := by
        simp [Ne.symm ht]
      rw [this, if_neg ht]
      exact R.slots t

theorem RelS.free_mono {F' : Nat → Prop} (R : RelS C F s h g a w) (hF : ∀ n, F' n → F n) : RelS C F' s h g a w :=
  { R with free := fun n hn => R.free n (hF n hn) }

theorem zone_lt {X : Zone} (R : RelH w X g h) {b o : Nat} (hz : zone g h b o) : b < w.heap.size := by
  obtain ⟨i, ob, hi, h1⟩ := hz
  exact (R.objs i ob hi).lt h1.1

theorem RelS.alloc (R : RelS C F s h g a w) {n : Nat} (hf : F n) (c : Array Value) (e : TypeId) (cs : List CV) (hs : c.size = cs.length)
    (hr : ∀ (j : Nat) x u, cs[j]? = some x → c[j]? = some u → RelC w (zor (zone g h) C.X) g h x u) :
    RelS C (fun k => F k ∧ k ≠ n) s (updO h (.loc n) (.cells cs)) (updG g (.loc n) (.pointer (some ⟨w.heap.size, 0, none⟩))) a (w.alloc (.cells c e)) := by
  have hX : ∀ b o, C.X b o → b < w.heap.size := fun b o hx => Nat.lt_of_lt_of_le (R.xs b o hx) R.frame.size
  obtain ⟨hgn, hhn⟩ := R.free n hf
  have hne : ∀ {i : Id} {v : Value}, g i = v → v ≠ undef → i ≠ .loc n := by
    rintro i v hv hu rfl
    exact hu (hv ▸ hgn)
  have E : Evo w (zor (zone g h) C.X) g h (w.alloc (.cells c e)) (zor (zone (updG g (.loc n) (.pointer (some ⟨w.heap.size, 0, none⟩))) (updO h (.loc n) (.cells cs))) C.X)
      (updG g (.loc n) (.pointer (some ⟨w.heap.size, 0, none⟩))) (updO h (.loc n) (.cells cs)) := by
    refine ⟨fun b o u hu hz => ?_, fun i b hb => ?_, fun i q hq => ?_, fun i hi => ?_, fun i k sz e' hi hk => ?_⟩
    · have hlt := World.block_lt_of_cell? w ⟨b, o, none⟩ hu
      refine ⟨(World.cell?_alloc_lt w _ ⟨b, o, none⟩ hlt).trans hu, ?_⟩
      rintro (⟨i, ob, hi, h1⟩ | hx)
      · by_cases hin : i = .loc n
        · subst hin
          have := h1.1
          simp [updG, blk] at this
          simp at hlt
          omega
        · simp only [updO, updG, if_neg hin] at hi h1
          exact hz (.inl ⟨i, ob, hi, h1⟩)
      · exact hz (.inr hx)
    · exact if_neg (hne hb (by simp [undef]))
    · exact if_neg (hne hq (by simp [undef]))
    · have : i ≠ .loc n := by rintro rfl; rw [hgn] at hi; exact hi
      simpa [updG, this] using hi
    · have : i ≠ .loc n := by rintro rfl; rw [hgn] at hi; exact hi
      refine ⟨k, Nat.le_refl _, by simpa [updO, this] using hk, fun _ => by simp [updG, this]⟩
  refine R.step (F' := fun k => F k ∧ k ≠ n) (fun i => i = .loc n) E ?_ ?_ ?_ ?_ ?_ ?_ ?_ ?_
  · exact ⟨rfl, rfl, rfl, by simp, fun b hb _ => Below.heap_alloc w _ b hb, fun b o u hu _ => (World.cell?_alloc_lt w _ ⟨b, o, none⟩ (World.block_lt_of_cell? w ⟨b, o, none⟩ hu)).trans hu⟩
  · intro i hi
    simp [updO, updG, hi]
  · intro i o b _ hi hb
    exact Below.heap_alloc w _ b ((R.heap.objs i o hi).lt hb)
  · rintro i o rfl ho
    simp [updO] at ho
    subst ho
    exact ⟨w.heap.size, c, e, by simp [updG], heap_alloc_new w _, hs, fun j x u hx hu => E.relC (hr j x u hx hu)⟩
  · rintro i o b rfl _ hb
    simp [updG, blk] at hb
    exact .inr (by omega)
  · rintro i j _ _ _ rfl rfl _ _ _ _
    rfl
  · intro j hj
    exact absurd hj (by simp)
  · rintro k ⟨hk, hkn⟩
    have := R.free k hk
    simp [updG, updO, hkn, this]

theorem RelS.store (R : RelS C F s h g a w) {id : Id} {cs cs' : List CV} (hid : h id = some (.cells cs)) {b : Nat} {c c' : Array Value} {e : TypeId}
    (hg : g id = .pointer (some ⟨b, 0, none⟩)) (hb : w.heap[b]? = some (.cells c e (0, 0))) (hs : c'.size = cs'.length)
    (hr : ∀ (j : Nat) x u, cs'[j]? = some x → c'[j]? = some u → RelC w (zor (zone g h) C.X) g h x u) :
    RelS C F s (updO h id (.cells cs')) g a (w.setRow b c') := by
  have hzb : ∀ o, zone g h b o := fun o => ⟨id, _, hid, by simp [zone1, hg, blk]⟩
  have hz1 : ∀ i ob b' o, updO h id (.cells cs') i = some ob → zone1 (g i) ob b' o → zone g h b' o := by
    intro i ob b' o hi h1
    by_cases hin : i = id
    · subst hin
      exact ⟨i, _, hid, h1.1, trivial⟩
    · simp only [updO, if_neg hin] at hi
      exact ⟨i, ob, hi, h1⟩
  have hcell : ∀ b' o u, w.cell? ⟨b', o, none⟩ = some u → ¬ zone g h b' o → (w.setRow b c').cell? ⟨b', o, none⟩ = some u := by
    intro b' o u hu hz
    have hne : b' ≠ b := by rintro rfl; exact hz (hzb o)
    exact (cell_setRow_other w b c' ⟨b', o, none⟩ hne).trans hu
  have E : Evo w (zor (zone g h) C.X) g h (w.setRow b c') (zor (zone g (updO h id (.cells cs'))) C.X) g (updO h id (.cells cs')) := by
    refine ⟨fun b' o u hu hz => ⟨hcell b' o u hu (fun hz' => hz (.inl hz')), ?_⟩, fun _ _ _ => rfl, fun _ _ _ => rfl, fun _ hi => hi, fun i k sz e' _ hk => ?_⟩
    · rintro (⟨i, ob, hi, h1⟩ | hx)
      · exact hz (.inl (hz1 i ob b' o hi h1))
      · exact hz (.inr hx)
    · have hin : i ≠ id := by rintro rfl; simp [updO] at hk
      exact ⟨k, Nat.le_refl _, by simpa [updO, hin] using hk, fun _ => rfl⟩
  refine R.step (fun i => i = id) E ?_ ?_ ?_ ?_ ?_ ?_ ?_ ?_
  · exact ⟨rfl, rfl, rfl, by simp, fun b' _ hz => setRow_other w b b' c' (fun e => hz 0 (e ▸ hzb 0)), hcell⟩
  · intro i hi
    simp [updO, hi]
  · intro i o b' hi ho hb'
    refine setRow_other w b b' c' ?_
    rintro rfl
    exact hi (R.heap.sep i id o _ b' ho hid hb' (by rw [hg]; rfl))
  · rintro i o rfl ho
    simp [updO] at ho
    subst ho
    exact ⟨b, c', e, hg, setRow_heap w b c c' e _ hb, hs, fun j x u hx hu => E.relC (hr j x u hx hu)⟩
  · rintro i o b' rfl _ hb'
    exact .inl ⟨_, hid, hb'⟩
  · rintro i j _ _ _ rfl rfl _ _ _ _
    rfl
  · rintro j rfl
    refine ⟨rfl, fun ob hob => ⟨_, hid, fun b' o hz => ?_⟩⟩
    simp [updO] at hob
    subst hob
    exact hz
  · intro k hk
    obtain ⟨h1, h2⟩ := R.free k hk
    have hin : Id.loc k ≠ id := by rintro rfl; rw [h2] at hid; simp at hid
    exact ⟨h1, by simp [updO, hin, h2]⟩

end

/-- What one operation does, whatever else the state holds. -/
def OKop (C : Cx) (o : Oper) (fresh : Nat) (s : Slots) (h : Heap) (out : Out) : Prop :=
  ∀ (F : Nat → Prop) (σs : Slots) (σh : Heap) a w Q, Rel C F σs σh a w → (∀ t, Operand.tmp t ∈ o.op.operands.toList → σs t = s t) → (∀ i ∈ out.rd, σh i = h i) →
    (∀ k, k < 8 → F (fresh + k)) → (∀ d, o.dst = some d → d < C.nt) →
    o.wp C.P a w (fun a' w' => Rel C (fun n => F n ∧ ¬ (fresh ≤ n ∧ n < fresh + 8)) (updS σs o.dst out.val) (updW σh out.wr) a' w') Q

theorem okop_value {C : Cx} {o : Oper} {fresh : Nat} {s : Slots} {h : Heap} {v : AV} {rd : List Id}
    (hr : ∀ F σs σh g a w, RelS C F σs σh g a w → (∀ t, Operand.tmp t ∈ o.op.operands.toList → σs t = s t) → (∀ i ∈ rd, σh i = h i) →
      ∃ u, (execOp a.eval o).run C.P w = .ok (.value u) w ∧ RelAV w (zor (zone g σh) C.X) g σh v u) : OKop C o fresh s h ⟨v, rd, []⟩ := by
  rintro F σs σh a w Q ⟨g, R⟩ ho hrd hF hd
  obtain ⟨u, hu, hv⟩ := hr F σs σh g a w R ho hrd
  unfold Oper.wp
  rw [hu]
  exact ⟨g, (R.put hd hv).free_mono (fun n hn => hn.1)⟩

theorem okop_alloc {C : Cx} {o : Oper} {fresh : Nat} {s : Slots} {h : Heap} {cs : List CV}
    (hr : ∀ F σs σh g a w, RelS C F σs σh g a w → (∀ t, Operand.tmp t ∈ o.op.operands.toList → σs t = s t) →
      ∃ c e, (execOp a.eval o).run C.P w = .ok (.value (.pointer (some ⟨w.heap.size, 0, none⟩))) (w.alloc (.cells c e)) ∧ c.size = cs.length ∧
        ∀ (j : Nat) x u, cs[j]? = some x → c[j]? = some u → RelC w (zor (zone g σh) C.X) g σh x u) : OKop C o fresh s h ⟨ptrTo fresh, [], [(.loc fresh, .cells cs)]⟩ := by
  rintro F σs σh a w Q ⟨g, R⟩ ho hrd hF hd
  obtain ⟨c, e, hu, hs, hc⟩ := hr F σs σh g a w R ho
  unfold Oper.wp
  rw [hu]
  have R' := R.alloc (n := fresh) (hF 0 (by omega)) c e cs hs hc
  refine ⟨_, (R'.put hd (v := ptrTo fresh) ⟨⟨w.heap.size, by simp [updG]⟩, by simp [updG, ptrAt]⟩).free_mono (fun n hn => ⟨hn.1, fun e => hn.2 (by omega)⟩)⟩

theorem constV_rel {w : World} {Z : Zone} {g : Ghost} {h : Heap} (ti : Types) (t : TypeId) (v : Value) : RelAV w Z g h (constA (constV ti t v)) v := by
  unfold constV
  split <;> first
    | exact RelD.int _ _
    | exact RelD.bool _
    | exact RelD.str _
    | exact rfl
    | (split
       · split
         · split <;> exact rfl
         · exact rfl
       · exact rfl)
    | exact trivial

theorem opd_rel {C : Cx} {F : Nat → Prop} {s σs : Slots} {σh : Heap} {g : Ghost} {a : Act} {w : World} (ti : Types) (t : TypeId) (x : Operand)
    (R : RelS C F σs σh g a w) (hx : ∀ k, x = .tmp k → σs k = s k) : RelAV w (zor (zone g σh) C.X) g σh (opd ti s t x) (a.eval x) := by
  cases x with
  | tmp k =>
    have := R.slots k
    rw [hx k rfl] at this
    exact this
  | const v => exact constV_rel ti t v
  | func f => exact ⟨rfl, by simp⟩
  | global q => trivial

section
variable {C : Cx} {ti : Types} {o : Oper} {fresh : Nat} {s : Slots} {h : Heap} {k : Out → Prop}

theorem run_value {P : Program} {w w' : World} {q : Sem Value} {v : Value} (h : q.run P w = .ok v w') :
    (do pure (Next.value (← q)) : Sem Next).run P w = .ok (.value v) w' := by
  simp [h]

theorem withT_iff {t : TypeId} {k : TI → Prop} : withT ti t k ↔ ∃ i, ti t = some i ∧ k i := by
  unfold withT
  split <;> simp_all
theorem withV_iff {x : AV} {k : V1 → Prop} : withV x k ↔ ∃ y, x = .v y ∧ k y := by
  unfold withV
  split <;> simp_all
theorem withB_iff {x : AV} {k : Bool → Prop} : withB x k ↔ ∃ y, x = .v (.d (.bool y)) ∧ k y := by
  unfold withB
  split <;> simp_all
theorem withI_iff {x : AV} {k : IntKind → Int → Prop} : withI x k ↔ ∃ q n, x = .v (.d (.int q n)) ∧ k q n := by
  unfold withI
  split
  · rename_i q n
    constructor
    · exact fun h => ⟨q, n, rfl, h⟩
    · rintro ⟨q', n', he, hk⟩
      cases he
      exact hk
  · rename_i hh
    constructor
    · exact fun h => h.elim
    · rintro ⟨q, n, rfl, _⟩; exact hh q n rfl
theorem withL_iff {x : AV} {k : Bool → Nat → List D → Prop} (hk : withL x k) :
    ∃ ag sz rows, (∀ {w : World} {Z : Zone} {g : Ghost} {h : Heap} {v : Value}, RelAV w Z g h x v → RelD w Z (.list ag sz rows) v) ∧ k ag sz rows := by
  unfold withL at hk
  split at hk
  · exact ⟨_, _, _, fun r => r, hk⟩
  · exact ⟨_, _, _, fun r => r.1, hk⟩
  · exact ⟨_, _, _, fun r => by rw [show _ = _ from r]; exact relD_nil _ _, hk⟩
  · exact hk.elim

theorem relB {w : World} {Z : Zone} {g : Ghost} {h : Heap} {b : Bool} {v : Value} (r : RelAV w Z g h (.v (.d (.bool b))) v) : v = .bool b := by
  cases (show RelD w Z (.bool b) v from r); rfl
theorem relI {w : World} {Z : Zone} {g : Ghost} {h : Heap} {q : IntKind} {n : Int} {v : Value} (r : RelAV w Z g h (.v (.d (.int q n))) v) : v = .int q n := by
  cases (show RelD w Z (.int q n) v from r); rfl
theorem relSt {w : World} {Z : Zone} {g : Ghost} {h : Heap} {b : ByteArray} {v : Value} (r : RelAV w Z g h (.v (.d (.str b))) v) : v = .string b := by
  cases (show RelD w Z (.str b) v from r); rfl

theorem ok_move (x : Operand) (ho : o.op = .move x ∨ o.op = .assign x) : OKop C o fresh s h ⟨opd ti s o.type x, [], []⟩ := by
  refine okop_value fun F σs σh g a w R hs _ => ⟨a.eval x, ?_, opd_rel ti o.type x R (fun t ht => hs t ?_)⟩
  · rcases ho with ho | ho <;> simp [execOp, ho]
  · subst ht
    rcases ho with ho | ho <;> simp [ho, Op.operands]

theorem ok_pick (c x y : Operand) (ho : o.op = .pick c x y) {q : Bool} (hq : opd ti s 0 c = .v (.d (.bool q))) :
    OKop C o fresh s h ⟨pickAV q (opd ti s o.type x) (opd ti s o.type y), [], []⟩ := by
  refine okop_value fun F σs σh g a w R hs _ => ?_
  have hc := opd_rel ti 0 c R (s := s) (fun t ht => hs t (by subst ht; simp [ho, Op.operands]))
  rw [hq] at hc
  have hc := relB hc
  refine ⟨if q then a.eval x else a.eval y, ?_, ?_⟩
  · simp [execOp, ho, hc, asBool]
  · cases q
    · exact opd_rel ti o.type y R (fun t ht => hs t (by subst ht; simp [ho, Op.operands]))
    · exact opd_rel ti o.type x R (fun t ht => hs t (by subst ht; simp [ho, Op.operands]))

theorem zrel_rel {w : World} {Z : Zone} {g : Ghost} {h : Heap} {c : CV} {u : Value} (q : ZRel c u) : RelC w Z g h c u := by
  revert q
  unfold ZRel
  split <;> intro hz
  · rw [hz.1, hz.2]; exact ⟨.int _ _, rfl⟩
  · rw [hz]; exact ⟨.bool _, rfl⟩
  · rw [hz]; exact ⟨.str _, rfl⟩
  · exact rfl
  · exact rfl
  · exact rfl
  · exact rfl
  · exact hz
  · exact hz.elim

theorem ok_alloc (hti : TIok C.P ti) (t : TypeId) (ho : o.op = .alloc t) {i : TI} (hi : ti t = some i) : OKop C o fresh s h ⟨ptrTo fresh, [], [(.loc fresh, .cells i.zc)]⟩ := by
  refine okop_alloc fun F σs σh g a w R hs => ?_
  obtain ⟨hu, ii, h1, h2, h3, h4, h5, h6, h7⟩ := hti t i hi
  refine ⟨i.zero.cells, t, ?_, by rw [h5, h6], fun j c u hc hu => ?_⟩
  · simp [execOp, ho, Instr.alloc, zeroValue, typeInfo, h1, h4, newVar, newRow]
  · have := h7 j c u hc hu
    revert this
    unfold ZRel
    split <;> intro hz
    · rw [hz.1, hz.2]; exact ⟨.int _ _, rfl⟩
    · rw [hz]; exact ⟨.bool _, rfl⟩
    · rw [hz]; exact ⟨.str _, rfl⟩
    · exact rfl
    · exact rfl
    · exact rfl
    · exact rfl
    · exact hz
    · exact hz.elim

theorem ok_box (t : TypeId) (x : Operand) (ho : o.op = .box t x) {y : V1} (hy : opd ti s t x = .v y) : OKop C o fresh s h ⟨ptrTo fresh, [], [(.loc fresh, .cells y.cells)]⟩ := by
  refine okop_alloc fun F σs σh g a w R hs => ?_
  have hx := opd_rel ti t x R (s := s) (fun k hk => hs k (by subst hk; simp [ho, Op.operands]))
  rw [hy] at hx
  obtain ⟨h1, h2⟩ := RelV1.cells hx
  exact ⟨(a.eval x).cells, t, by simp [execOp, ho, Instr.box, newVar, newRow], h1, h2⟩

end
end Go.AM

/- The abstract machine, part F: each operation's abstract outcome is what the model does (loads, stores, places, arithmetic). No condition. -/
namespace Go.AM
open Go Go.RowKit

section
variable {C : Cx} {ti : Types} {o : Oper} {fresh : Nat} {s : Slots} {h : Heap} {k : Out → Prop}

/-- What the table of types must say besides: what is no row is one cell. -/
def TIone (ti : Types) : Prop := ∀ t x, ti t = some x → rowD x.desc = false → x.size = 1

theorem rangeArr_get {n : Nat} {U : Nat → Value} {j : Nat} {u : Value} (h : (((List.range n).map U).toArray)[j]? = some u) : j < n ∧ u = U j := by
  simp only [List.getElem?_toArray, List.getElem?_map, Option.map_eq_some_iff] at h
  obtain ⟨x, hx, rfl⟩ := h
  obtain ⟨hlt, hx⟩ := List.getElem?_eq_some_iff.1 hx
  simp at hlt hx
  subst hx
  exact ⟨hlt, rfl⟩

/-- A load at a place whose cells are known. -/
theorem run_load_cells {P : Program} {w : World} {t : TypeId} {i : TI} (hti : TIok P ti) (h1 : TIone ti) (hi : ti t = some i) {b q : Nat} {vs : Array Value} (hs : vs.size = i.size)
    (hc : ∀ (j : Nat) u, vs[j]? = some u → w.cell? ⟨b, q + j, none⟩ = some u) :
    ∃ v, (Instr.loadAt t (.pointer (some ⟨b, q, none⟩))).run P w = .ok v w ∧ (rowD i.desc = true → v = .agg vs) ∧ (rowD i.desc = false → vs = #[v]) := by
  obtain ⟨hu, ii, hii, hsz, _⟩ := hti t i hi
  cases hr : rowD i.desc with
  | true =>
    refine ⟨.agg vs, ?_, fun _ => rfl, fun e => by cases e⟩
    have := run_loadAt_mid (P := P) w b q t vs.toList i.desc (fun j v hv => hc j v (by simpa using hv)) hu (by revert hr; cases i.desc <;> simp [rowD, TypeDesc.isRow]) (by simp [hii, hsz, hs])
    simpa using this
  | false =>
    have e1 := h1 t i hi hr
    obtain ⟨v, hv⟩ : ∃ v, vs = #[v] := by
      have : vs.size = 1 := by omega
      exact ⟨vs[0], by
        apply Array.ext
        · simp [this]
        · intro k h1 h2
          obtain rfl : k = 0 := by omega
          rfl⟩
    subst hv
    refine ⟨v, ?_, fun e => (by cases e), fun _ => rfl⟩
    have hag : (isAgg t).run P w = .ok false w := by
      unfold isAgg
      rw [Sem.run_bind, run_underlying hu w]
      revert hr
      cases i.desc <;> simp [rowD]
    have := hc 0 v rfl
    simp only [Nat.add_zero] at this
    simp [Instr.loadAt, Instr.sureAddr, loadVar, hag, this]

theorem load_core (hti : TIok C.P ti) (h1 : TIone ti) (t : TypeId) (X : AV) (hk : outLoad ti t X h k) : ∃ out, k out ∧ out.wr = [] ∧
    ∀ F σs σh g a w u, RelS C F σs σh g a w → RelAV w (zor (zone g σh) C.X) g σh X u → (∀ i ∈ out.rd, σh i = h i) →
      ∃ v, (Instr.loadAt t u).run C.P w = .ok v w ∧ RelAV w (zor (zone g σh) C.X) g σh out.val v := by
  unfold outLoad at hk
  obtain ⟨i, hi, hk2⟩ := withT_iff.1 hk
  clear hk
  have fin : ∀ (cs : List CV) (rd : List Id), cs.length = i.size →
      (∀ F σs σh g a w u, RelS C F σs σh g a w → RelAV w (zor (zone g σh) C.X) g σh X u → (∀ i ∈ rd, σh i = h i) →
        ∃ b q, ∃ vs : Array Value, u = .pointer (some ⟨b, q, none⟩) ∧ vs.size = i.size ∧ (∀ (j : Nat) u, vs[j]? = some u → w.cell? ⟨b, q + j, none⟩ = some u) ∧
          ∀ (j : Nat) c u, cs[j]? = some c → vs[j]? = some u → RelC w (zor (zone g σh) C.X) g σh c u) →
      ∀ F σs σh g a w u, RelS C F σs σh g a w → RelAV w (zor (zone g σh) C.X) g σh X u → (∀ i ∈ rd, σh i = h i) →
        ∃ v, (Instr.loadAt t u).run C.P w = .ok v w ∧ RelAV w (zor (zone g σh) C.X) g σh (.v (V1.ofCells (rowD i.desc) cs)) v := by
    intro cs rd hl H F σs σh g a w u R hu hrd
    obtain ⟨b, q, vs, he, hvs, hc, hr⟩ := H F σs σh g a w u R hu hrd
    obtain ⟨v, hv, ha, hb⟩ := run_load_cells (P := C.P) (w := w) hti h1 hi hvs hc
    refine ⟨v, by rw [he]; exact hv, ?_⟩
    have := RelV1.ofCells (ag := rowD i.desc) (by omega) hr
    cases hrow : rowD i.desc with
    | true => rw [ha hrow]; rw [hrow] at this; exact this.1 rfl
    | false => rw [hrow] at this; exact this.2 rfl v (hb hrow)
  split at hk2
  · rename_i id q
    split at hk2
    · rename_i cs hcs
      obtain ⟨hle, hk⟩ := req_iff.1 hk2
      have hle : q + i.size ≤ cs.length := by simpa using hle
      refine ⟨_, hk, rfl, fin _ _ (by simp; omega) fun F σs σh g a w u R hv hrd => ?_⟩
      obtain ⟨⟨b, hb⟩, hv⟩ := hv
      rw [hb] at hv
      have hh : σh id = some (.cells cs) := (hrd id (by simp)).trans hcs
      obtain ⟨b', c, e, hg, hheap, hsz, hr⟩ := R.heap.objs id _ hh
      rw [hb] at hg
      obtain rfl : b = b' := by simpa using hg
      have hget : ∀ (j : Nat) u, (c.extract q (q + i.size))[j]? = some u → c[q + j]? = some u ∧ j < i.size := by
        intro j u hu
        have hlt := (Array.getElem?_eq_some_iff.1 hu).1
        simp at hlt
        refine ⟨?_, by omega⟩
        rw [← hu, Array.getElem?_extract]
        rw [if_pos (by omega)]
      refine ⟨b, q, c.extract q (q + i.size), hv, by simp; omega, fun j u hu => ?_, fun j x u hx' hu => ?_⟩
      · rw [cell_of_row w b (q + j) c e (0, 0) hheap]
        exact (hget j u hu).1
      · obtain ⟨h1', h2'⟩ := hget j u hu
        refine hr (q + j) x u ?_ h1'
        simpa [List.getElem?_take, h2'] using hx'
    · exact hk2.elim
  · rename_i ag sz d
    obtain ⟨hag, hk⟩ := req_iff.1 hk2
    obtain ⟨hsz, hk⟩ := req_iff.1 hk
    have hag : rowD i.desc = ag := by simpa using hag
    have hsz : sz = i.size := by simpa using hsz
    refine ⟨_, hk, rfl, fun F σs σh g a w u R hv _ => ?_⟩
    obtain ⟨⟨f1, f2, f3⟩, b, q, hv, U, hU⟩ := hv
    let vs : Array Value := ((List.range d.cells.length).map U).toArray
    have hget : ∀ (j : Nat) u, vs[j]? = some u → ∃ c, d.cells[j]? = some c ∧ u = U j := by
      intro j u hu
      obtain ⟨hlt, rfl⟩ := rangeArr_get hu
      exact ⟨d.cells[j], by simp [hlt], rfl⟩
    obtain ⟨v, hrun, ha, hb⟩ := run_load_cells (P := C.P) (w := w) (vs := vs) (b := b) (q := q) hti h1 hi (by simp [vs]; omega) (fun j u hu => by
      obtain ⟨c, hc, rfl⟩ := hget j u hu
      exact (hU j c hc).1)
    refine ⟨v, by rw [hv]; exact hrun, ?_⟩
    cases hrow : rowD i.desc with
    | true =>
      rw [ha hrow]
      have hd : d.isAgg = true := by rw [f1, ← hag, hrow]
      obtain ⟨cs, rfl⟩ : ∃ cs, d = .agg cs := by cases d <;> first | exact ⟨_, rfl⟩ | simp [D.isAgg] at hd
      refine RelD.agg cs vs (by simp [vs, D.cells]) f3 (fun j c u hc hu => ?_)
      obtain ⟨c', hc', rfl⟩ := hget j u hu
      exact (hU j c hc).2.2
    | false =>
      have hd : d.isAgg = false := by rw [f1, ← hag, hrow]
      have hcell : d.cells = [d] := by cases d <;> first | rfl | simp [D.isAgg] at hd
      have hvv := hb hrow
      obtain ⟨c', hc', he⟩ := hget 0 v (by rw [hvv]; rfl)
      rw [he]
      exact (hU 0 d (by rw [hcell]; rfl)).2.2
  · rename_i cs
    obtain ⟨hle, hk⟩ := req_iff.1 hk2
    have hle : i.size ≤ cs.length := by simpa using hle
    refine ⟨_, hk, rfl, fin _ _ (by simp; omega) fun F σs σh g a w u R hv _ => ?_⟩
    obtain ⟨f1, b, q, hv, U, hU⟩ := hv
    refine ⟨b, q, ((List.range i.size).map U).toArray, hv, by simp, fun j u hu => ?_, fun j c u hc hu => ?_⟩
    · obtain ⟨hlt, rfl⟩ := rangeArr_get hu
      exact (hU j cs[j] (by simp)).1
    · obtain ⟨hlt, rfl⟩ := rangeArr_get hu
      simp only [List.getElem?_map, List.getElem?_take, hlt, if_true, Option.map_eq_some_iff] at hc
      obtain ⟨d, hd, rfl⟩ := hc
      exact ⟨(hU j d hd).2.2, f1 d (List.mem_of_getElem? hd)⟩
  · exact hk2.elim

theorem ok_load (hti : TIok C.P ti) (h1 : TIone ti) (t : TypeId) (x : Operand) (ho : o.op = .load t x) (hk : outLoad ti t (opd ti s 0 x) h k) : ∃ out, k out ∧ OKop C o fresh s h out := by
  obtain ⟨⟨val, rd, wr⟩, hko, hwr, H⟩ := load_core (C := C) hti h1 t _ hk
  simp only [] at hwr
  subst hwr
  refine ⟨_, hko, okop_value fun F σs σh g a w R hs hrd => ?_⟩
  have hx := opd_rel ti 0 x R (s := s) (fun k hk => hs k (by subst hk; simp [ho, Op.operands]))
  obtain ⟨v, hv, hr⟩ := H F σs σh g a w _ R hx hrd
  exact ⟨v, by simp only [execOp, ho]; exact run_value hv, hr⟩

theorem addr_add (b q n : Nat) : (⟨b, q, none⟩ : Addr).add n = ⟨b, q + n, none⟩ := by unfold Addr.add; split <;> simp_all

theorem ok_store (hti : TIok C.P ti) (t : TypeId) (x y : Operand) (ho : o.op = .store t x y) (hd : o.dst = none) (hk : outStore ti t (opd ti s 0 x) (opd ti s t y) h k) : ∃ out, k out ∧ OKop C o fresh s h out := by
  unfold outStore at hk
  obtain ⟨i, hi, hk⟩ := withT_iff.1 hk
  obtain ⟨yv, hyv, hk⟩ := withV_iff.1 hk
  split at hk
  · rename_i id q hop
    split at hk
    · rename_i cs hcs
      obtain ⟨hle, hk⟩ := req_iff.1 hk
      obtain ⟨hlen, hk⟩ := req_iff.1 hk
      have hle : q + i.size ≤ cs.length := by simpa using hle
      have hlen : yv.cells.length = i.size := by simpa using hlen
      refine ⟨_, hk, ?_⟩
      rintro F σs σh a w Q ⟨g, R⟩ hs hrd hF _
      have hx := opd_rel ti 0 x R (s := s) (fun k hk => hs k (by subst hk; simp [ho, Op.operands]))
      have hy := opd_rel ti t y R (s := s) (fun k hk => hs k (by subst hk; simp [ho, Op.operands]))
      rw [hop] at hx
      rw [hyv] at hy
      obtain ⟨⟨b, hb⟩, hx⟩ := hx
      rw [hb] at hx
      obtain ⟨hy1, hy2⟩ := RelV1.cells hy
      have hh : σh id = some (.cells cs) := (hrd id (by simp)).trans hcs
      obtain ⟨b', c, e, hg, hheap, hsz, hr⟩ := R.heap.objs id _ hh
      rw [hb] at hg
      obtain rfl : b = b' := by simpa using hg
      have hone : ∀ v ∈ (a.eval y).cells.toList, v.oneCell' = true := by
        intro v hv
        obtain ⟨j, hj⟩ := List.mem_iff_getElem?.1 hv
        have hlt := (List.getElem?_eq_some_iff.1 hj).1
        simp at hlt hj
        exact RelC.oneCell (hy2 j yv.cells[j] v (by simp) (by simpa using hj))
      have hst := run_storeCells_at C.P b q e (a.eval y).cells.toList 0 c w hheap (by simp; omega) hone
      simp only [Nat.add_zero, Array.length_toList] at hst
      obtain ⟨_, ii, hii, hsi, _⟩ := hti t i hi
      have hrun : (execOp a.eval o).run C.P w = .ok .skip (w.setRow b (c.toList.take q ++ (a.eval y).cells.toList ++ c.toList.drop (q + (a.eval y).cells.size)).toArray) := by
        simp only [execOp, ho, hx, ptrAt, Instr.storeAt, Instr.sureAddr, storeVar, sizeOf, typeInfo, Sem.run_bind, run_program, Result.andThen_ok, Sem.run_pure, hii, hsi, hy1, hlen]
        simp [hst]
        rw [hy1, hlen]
      unfold Oper.wp
      rw [hrun]
      have R' := R.store (cs' := cs.take q ++ yv.cells ++ cs.drop (q + i.size)) (c' := (c.toList.take q ++ (a.eval y).cells.toList ++ c.toList.drop (q + (a.eval y).cells.size)).toArray) hh hb hheap
        (by simp; omega) (fun j z u hz hu => ?_)
      · refine ⟨g, ?_⟩
        rw [hd]
        exact (R'.put (dst := none) (v := .u) (u := undef) (fun d e => by cases e) trivial).free_mono (fun n hn => hn.1)
      · simp only [List.getElem?_toArray, List.append_assoc] at hu hz
        by_cases h1 : j < q
        · rw [List.getElem?_append_left (by simp; omega), List.getElem?_take, if_pos h1] at hu hz
          exact hr j z u hz (by simpa using hu)
        · rw [List.getElem?_append_right (by simp; omega)] at hu hz
          have e1 : (cs.take q).length = q := by simp; omega
          have e2 : (c.toList.take q).length = q := by simp; omega
          rw [e1] at hz
          rw [e2] at hu
          by_cases h2 : j - q < i.size
          · rw [List.getElem?_append_left (by omega)] at hz
            rw [List.getElem?_append_left (by simp; omega)] at hu
            exact hy2 (j - q) z u hz (by simpa using hu)
          · rw [List.getElem?_append_right (by omega), List.getElem?_drop] at hz
            rw [List.getElem?_append_right (by simp; omega), List.getElem?_drop] at hu
            simp only [Array.length_toList] at hu
            refine hr _ z u hz ?_
            rw [hy1] at hu
            rw [← hlen]
            simpa [hlen] using hu
    · exact hk.elim
  · exact hk.elim

end
end Go.AM

/- The abstract machine, part G: each operation's abstract outcome is what the model does (places, lengths, arithmetic). No condition. -/
namespace Go.AM
open Go Go.RowKit

section
variable {C : Cx} {ti : Types} {o : Oper} {fresh : Nat} {s : Slots} {h : Heap} {k : Out → Prop}

theorem tsize {P : Program} (hti : TIok P ti) {t : TypeId} {i : TI} (hi : ti t = some i) (w : World) : (sizeOf t).run P w = .ok i.size w := by
  obtain ⟨_, ii, hii, hsi, _⟩ := hti t i hi
  simp [sizeOf, typeInfo, hii, hsi]
theorem tund {P : Program} (hti : TIok P ti) {t : TypeId} {i : TI} (hi : ti t = some i) (w : World) : (underlying t).run P w = .ok i.desc w :=
  run_underlying (hti t i hi).1 w

theorem ok_field (hti : TIok C.P ti) (t : TypeId) (x : Operand) (f : Nat) (ho : o.op = .fieldAddr t x f) (hk : outField ti t (opd ti s 0 x) f k) : ∃ out, k out ∧ OKop C o fresh s h out := by
  unfold outField at hk
  obtain ⟨i, hi, hk⟩ := withT_iff.1 hk
  split at hk
  · rename_i fs hfs
    split at hk
    · rename_i fd hfd
      obtain ⟨j, hj, hk⟩ := withT_iff.1 hk
      obtain ⟨hpos, hk⟩ := req_iff.1 hk
      have hpos : j.size ≠ 0 := by
        have : 0 < j.size := by simpa using hpos
        omega
      have hrun : ∀ (b q : Nat) (a : Act) (w : World), a.eval x = .pointer (some ⟨b, q, none⟩) →
          (execOp a.eval o).run C.P w = .ok (.value (.pointer (some ⟨b, q + fd.offset, none⟩))) w := by
        intro b q a w he
        have h1 := tund hti hi w
        rw [hfs] at h1
        have h2 := tsize hti hj w
        simp only [execOp, ho, he]
        refine run_value ?_
        simp [Instr.fieldAt, h1, hfd, Instr.sureAddr, fieldPlace, h2, hpos, addr_add]
      have hx := fun (F : Nat → Prop) (σs : Slots) (σh : Heap) (g : Ghost) (a : Act) (w : World) (R : RelS C F σs σh g a w) (hs : ∀ t, Operand.tmp t ∈ o.op.operands.toList → σs t = s t) =>
        opd_rel ti 0 x R (s := s) (fun k hk => hs k (by subst hk; simp [ho, Op.operands]))
      split at hk
      · rename_i id q hop
        refine ⟨_, hk, okop_value fun F σs σh g a w R hs _ => ?_⟩
        have hv := hx F σs σh g a w R hs
        rw [hop] at hv
        obtain ⟨⟨b, hb⟩, hv⟩ := hv
        rw [hb] at hv
        exact ⟨_, hrun b q a w hv, ⟨b, hb⟩, by rw [hb]; rfl⟩
      · rename_i ag sz d hop
        refine ⟨_, hk, okop_value fun F σs σh g a w R hs _ => ?_⟩
        have hv := hx F σs σh g a w R hs
        rw [hop] at hv
        obtain ⟨hf, b, q, hv, U, hU⟩ := hv
        refine ⟨_, hrun b q a w hv, fun c hc => hf.2.2 c (List.mem_of_mem_drop hc), b, _, rfl, fun n => U (fd.offset + n), fun n c hc => ?_⟩
        rw [List.getElem?_drop] at hc
        have := hU _ c hc
        rw [show q + fd.offset + n = q + (fd.offset + n) from by omega]
        exact this
      · rename_i cs hop
        refine ⟨_, hk, okop_value fun F σs σh g a w R hs _ => ?_⟩
        have hv := hx F σs σh g a w R hs
        rw [hop] at hv
        obtain ⟨hf, b, q, hv, U, hU⟩ := hv
        refine ⟨_, hrun b q a w hv, fun c hc => hf c (List.mem_of_mem_drop hc), b, _, rfl, fun n => U (fd.offset + n), fun n c hc => ?_⟩
        rw [List.getElem?_drop] at hc
        have := hU _ c hc
        rw [show q + fd.offset + n = q + (fd.offset + n) from by omega]
        exact this
      · exact hk.elim
    · exact hk.elim
  · exact hk.elim

/-- What a list is in memory: its length, and its rows. -/
theorem relList {w : World} {Z : Zone} {ag : Bool} {sz : Nat} {rows : List D} {v : Value} (r : RelD w Z (.list ag sz rows) v) :
    ∃ a cap, v = .slice a rows.length cap ∧ rows.length ≤ cap ∧ cap ≤ maxLen ∧ (∀ r ∈ rows, r.fits ag sz) ∧
      ∃ b o, (rows ≠ [] → a = some ⟨b, o, none⟩) ∧ ∃ U : Nat → Nat → Value, ∀ (i : Nat) r (j : Nat) c, rows[i]? = some r → r.cells[j]? = some c →
        w.cell? ⟨b, o + (i * sz + j), none⟩ = some (U i j) ∧ ¬ Z b (o + (i * sz + j)) ∧ RelD w Z c (U i j) := by
  cases r with
  | list ag sz rows a cap b o U hcap hmax hfit ha hc hr =>
    exact ⟨a, cap, rfl, hcap, hmax, hfit, b, o, ha, U, fun i r j c h1 h2 => ⟨(hc i r j c h1 h2).1, (hc i r j c h1 h2).2, hr i r j c h1 h2⟩⟩

theorem ok_index (hti : TIok C.P ti) (t : TypeId) (x y : Operand) (ho : o.op = .indexAddr t x y) (hk : outIndex ti t (opd ti s t x) (opd ti s 3 y) k) : ∃ out, k out ∧ OKop C o fresh s h out := by
  unfold outIndex at hk
  obtain ⟨q, n, hyv, hk⟩ := withI_iff.1 hk
  obtain ⟨i, hi, hk⟩ := withT_iff.1 hk
  have hx := fun (F : Nat → Prop) (σs : Slots) (σh : Heap) (g : Ghost) (a : Act) (w : World) (R : RelS C F σs σh g a w) (hs : ∀ t, Operand.tmp t ∈ o.op.operands.toList → σs t = s t) =>
    And.intro (opd_rel ti t x R (s := s) (fun k hk => hs k (by subst hk; simp [ho, Op.operands]))) (opd_rel ti 3 y R (s := s) (fun k hk => hs k (by subst hk; simp [ho, Op.operands])))
  split at hk
  · rename_i e hdesc
    obtain ⟨j, hj, hk⟩ := withT_iff.1 hk
    obtain ⟨ag, sz, rows, hrel, hk⟩ := withL_iff hk
    obtain ⟨hag, hk⟩ := req_iff.1 hk
    obtain ⟨hsz, hk⟩ := req_iff.1 hk
    obtain ⟨r, h0, hr, hk⟩ := hk
    have hsz : sz = j.size := by simpa using hsz
    subst hsz
    refine ⟨_, hk, okop_value fun F σs σh g a w R hs _ => ?_⟩
    obtain ⟨hv, hn⟩ := hx F σs σh g a w R hs
    rw [hyv] at hn
    have hn := relI hn
    obtain ⟨A, cap, hv, hcap, hmax, hfit, b, o', hA, U, hU⟩ := relList (hrel hv)
    have hlt : n.toNat < rows.length := (List.getElem?_eq_some_iff.1 hr).1
    have hA := hA (by intro e; rw [e] at hlt; simp at hlt)
    subst hA
    refine ⟨.pointer (some ⟨b, o' + n.toNat * j.size, none⟩), ?_, hfit r (List.mem_of_getElem? hr), b, _, rfl, fun c => U n.toNat c, fun c z hz => ?_⟩
    · have h1 := tund hti hi w
      rw [hdesc] at h1
      have h2 := tsize hti hj w
      simp only [execOp, ho, hv, hn]
      refine run_value ?_
      have h3 : 0 ≤ n ∧ n < (rows.length : Int) := by omega
      simp [Instr.indexAt, asIntOf, h1, h2, h3, addr_add]
    · have := hU n.toNat r c z hr hz
      rw [show o' + n.toNat * j.size + c = o' + (n.toNat * j.size + c) from by omega]
      exact this
  · rename_i len e hdesc
    obtain ⟨j, hj, hk⟩ := withT_iff.1 hk
    split at hk
    · rename_i id q' hop
      obtain ⟨h0, hl, hk⟩ := hk
      refine ⟨_, hk, okop_value fun F σs σh g a w R hs _ => ?_⟩
      obtain ⟨hv, hn⟩ := hx F σs σh g a w R hs
      rw [hyv] at hn
      have hn := relI hn
      rw [hop] at hv
      obtain ⟨⟨b, hb⟩, hv⟩ := hv
      rw [hb] at hv
      refine ⟨.pointer (some ⟨b, q' + n.toNat * j.size, none⟩), ?_, ⟨b, hb⟩, by rw [hb]; rfl⟩
      have h1 := tund hti hi w
      rw [hdesc] at h1
      have h2 := tsize hti hj w
      simp only [execOp, ho, hv, hn, ptrAt]
      refine run_value ?_
      simp [Instr.indexAt, asIntOf, h1, h2, h0, hl, addr_add, Instr.sureAddr]
    · exact hk.elim
  · exact hk.elim

theorem ok_len (hti : TIok C.P ti) (t : TypeId) (x : Operand) (ho : o.op = .call { callee := .builtin .len, args := #[x], argTypes := #[t] }) (hk : outLen C.M ti t (opd ti s t x) k) : ∃ out, k out ∧ OKop C o fresh s h out := by
  unfold outLen at hk
  obtain ⟨i, hi, hk⟩ := withT_iff.1 hk
  have hx := fun (F : Nat → Prop) (σs : Slots) (σh : Heap) (g : Ghost) (a : Act) (w : World) (R : RelS C F σs σh g a w) (hs : ∀ t, Operand.tmp t ∈ o.op.operands.toList → σs t = s t) =>
    opd_rel ti t x R (s := s) (fun k hk => hs k (by subst hk; simp [ho, Op.operands, Call.operands]))
  split at hk
  · rename_i e hdesc
    obtain ⟨ag, sz, rows, hrel, z, hz, hk⟩ := withL_iff hk
    refine ⟨_, hk, okop_value fun F σs σh g a w R hs _ => ?_⟩
    obtain ⟨A, cap, hv, _⟩ := relList (hrel (hx F σs σh g a w R hs))
    rw [← hz, C.M.lenI_eq]
    refine ⟨.int .i64 rows.length, ?_, .int _ _⟩
    have h1 := tund hti hi w
    rw [hdesc] at h1
    simp [execOp, ho, resolve, invoke, builtin, Builtin.len_, h1, hv, goInt]
  · rename_i hdesc
    split at hk
    · rename_i b hop
      obtain ⟨z, hz, hk⟩ := hk
      refine ⟨_, hk, okop_value fun F σs σh g a w R hs _ => ?_⟩
      have hv := hx F σs σh g a w R hs
      rw [hop] at hv
      have hv := relSt hv
      rw [← hz, C.M.szI_eq]
      refine ⟨.int .i64 b.size, ?_, .int _ _⟩
      have h1 := tund hti hi w
      rw [hdesc] at h1
      simp [execOp, ho, resolve, invoke, builtin, Builtin.len_, h1, hv, goInt]
    · exact hk.elim
  · rename_i n e hdesc
    refine ⟨_, hk, okop_value fun F σs σh g a w R hs _ => ?_⟩
    refine ⟨.int .i64 n, ?_, .int _ _⟩
    have h1 := tund hti hi w
    rw [hdesc] at h1
    simp [execOp, ho, resolve, invoke, builtin, Builtin.len_, h1, goInt]
  · exact hk.elim

theorem notB_eq (b : Bool) : notB b = !b := by cases b <;> rfl
theorem eqvB_eq (a b : Bool) : eqvB a b = (a == b) := by cases a <;> cases b <;> rfl

theorem ok_un (op : UnOp) (t : TypeId) (x : Operand) (ho : o.op = .unOp op t x) (hk : outUn op (opd ti s o.type x) k) : ∃ out, k out ∧ OKop C o fresh s h out := by
  unfold outUn at hk
  have hx := fun (F : Nat → Prop) (σs : Slots) (σh : Heap) (g : Ghost) (a : Act) (w : World) (R : RelS C F σs σh g a w) (hs : ∀ t, Operand.tmp t ∈ o.op.operands.toList → σs t = s t) =>
    opd_rel ti o.type x R (s := s) (fun k hk => hs k (by subst hk; simp [ho, Op.operands]))
  split at hk
  · rename_i b hop
    refine ⟨_, hk, okop_value fun F σs σh g a w R hs _ => ?_⟩
    have hv := hx F σs σh g a w R hs
    rw [hop] at hv
    have hv := relB hv
    rw [notB_eq]
    exact ⟨.bool !b, by simp [execOp, ho, hv, Op.unary], .bool _⟩
  · rename_i q n hop
    obtain ⟨z, rfl, hk⟩ := hk
    refine ⟨_, hk, okop_value fun F σs σh g a w R hs _ => ?_⟩
    have hv := hx F σs σh g a w R hs
    rw [hop] at hv
    have hv := relI hv
    exact ⟨.int q (q.wrap (0 - n)), by simp [execOp, ho, hv, Op.unary, Op.intArith], .int _ _⟩
  · exact hk.elim

theorem ok_nilCheck (x : Operand) (ho : o.op = .nilCheck x) {i : Id} {q : Nat} (hop : opd ti s 0 x = .v (.c (.ptr i q))) : OKop C o fresh s h ⟨.v (.c (.ptr i q)), [], []⟩ := by
  refine okop_value fun F σs σh g a w R hs _ => ?_
  have hv := opd_rel ti 0 x R (s := s) (fun k hk => hs k (by subst hk; simp [ho, Op.operands]))
  rw [hop] at hv
  have hv' := hv
  obtain ⟨⟨b, hb⟩, hv⟩ := hv
  rw [hb] at hv
  exact ⟨a.eval x, by simp [execOp, ho, hv, ptrAt], hv'⟩

theorem caps_rel {w : World} {Z : Zone} {g : Ghost} {h : Heap} {xs : List AV} {vs : List Value} {l : List Id} (he : caps xs = some l) (hl : vs.length = xs.length)
    (hr : ∀ (j : Nat) x v, xs[j]? = some x → vs[j]? = some v → RelAV w Z g h x v) : vs = l.map (fun i => ptrAt (g i) 0) ∧ ∀ i ∈ l, ∃ b, g i = .pointer (some ⟨b, 0, none⟩) := by
  induction xs generalizing vs l with
  | nil =>
    simp [caps] at he
    subst he
    match vs, hl with
    | [], _ => exact ⟨rfl, by simp⟩
  | cons x xs ih =>
    match vs, hl with
    | v :: vs, hl =>
      unfold caps at he
      split at he
      · rename_i e; simp at e
      · rename_i i r e
        simp at e
        obtain ⟨rfl, rfl⟩ := e
        split at he
        · rename_i l' hl'
          simp at he
          subst he
          obtain ⟨h1, h2⟩ := ih hl' (by simpa using hl) (fun j x v hx hv => hr (j + 1) x v (by simpa using hx) (by simpa using hv))
          obtain ⟨hb, hv⟩ := hr 0 _ v rfl rfl
          refine ⟨by rw [List.map_cons, ← h1, hv], fun i' hi => ?_⟩
          rcases List.mem_cons.1 hi with rfl | hi
          · exact hb
          · exact h2 i' hi
        · simp at he
      · simp at he

theorem ok_makeFunc (fn : Fn) (first captured : Array Operand) (ho : o.op = .makeFunc fn first captured) {f : Nat} (hf : fn = .func f) (hfi : first.toList = []) {l : List Id}
    (hl : caps (captured.toList.map (opd ti s 0)) = some l) : OKop C o fresh s h ⟨.v (.c (.fn f l)), [], []⟩ := by
  refine okop_value fun F σs σh g a w R hs _ => ?_
  have hfi : first = #[] := by simpa using hfi
  subst hfi
  have := caps_rel (w := w) (Z := zor (zone g σh) C.X) (g := g) (h := σh) (vs := captured.toList.map a.eval) hl (by simp) (fun j x v hx hv => by
    simp only [List.getElem?_map, Option.map_eq_some_iff] at hx hv
    obtain ⟨p, hp, rfl⟩ := hx
    obtain ⟨p', hp', rfl⟩ := hv
    rw [hp] at hp'
    obtain rfl : p = p' := by simpa using hp'
    refine opd_rel ti 0 p R (s := s) (fun k hk => hs k ?_)
    subst hk
    have := List.mem_of_getElem? hp
    simp only [ho, Op.operands]
    simpa using this)
  refine ⟨.func (.func f) #[] (captured.map a.eval), by simp [execOp, ho, hf, Instr.makeFunc], ?_, this.2⟩
  rw [← this.1]
  apply congrArg
  apply Array.ext'
  simp

theorem run_equalD_bool {P : Program} {t : TypeId} (h : P.underlying t = some .bool) (a b : Bool) (w : World) (d : Nat) : (Op.equalIn (d + 1) t (.bool a) (.bool b)).run P w = .ok (a == b) w := by
  simp [Op.equalIn, run_underlying h w]
theorem run_equalD_pn {P : Program} {t e : TypeId} (h : P.underlying t = some (.pointer e)) (a : Option Addr) (w : World) (d : Nat) : (Op.equalIn (d + 1) t (.pointer a) (.pointer none)).run P w = .ok a.isNone w := by
  cases a <;> simp [Op.equalIn, run_underlying h w]
theorem run_equalD_mn {P : Program} {t e k : TypeId} (h : P.underlying t = some (.map k e)) (a : Option Nat) (w : World) (d : Nat) : (Op.equalIn (d + 1) t (.map a) (.map none)).run P w = .ok a.isNone w := by
  cases a <;> simp [Op.equalIn, run_underlying h w]
theorem run_equal_bool {P : Program} {t : TypeId} (h : P.underlying t = some .bool) (a b : Bool) (w : World) : (Op.equal t (.bool a) (.bool b)).run P w = .ok (a == b) w :=
  run_equalD_bool h a b w 9999
theorem run_equal_pn {P : Program} {t e : TypeId} (h : P.underlying t = some (.pointer e)) (a : Option Addr) (w : World) : (Op.equal t (.pointer a) (.pointer none)).run P w = .ok a.isNone w :=
  run_equalD_pn h a w 9999
theorem run_equal_mn {P : Program} {t e k : TypeId} (h : P.underlying t = some (.map k e)) (a : Option Nat) (w : World) : (Op.equal t (.map a) (.map none)).run P w = .ok a.isNone w :=
  run_equalD_mn h a w 9999

theorem ok_bin (hti : TIok C.P ti) (op : BinOp) (t t' : TypeId) (x y : Operand) (ho : o.op = .binOp op t x y t') (hk : outBin C.M ti op t (opd ti s t x) (opd ti s t y) k) : ∃ out, k out ∧ OKop C o fresh s h out := by
  have hx := fun (F : Nat → Prop) (σs : Slots) (σh : Heap) (g : Ghost) (a : Act) (w : World) (R : RelS C F σs σh g a w) (hs : ∀ t, Operand.tmp t ∈ o.op.operands.toList → σs t = s t) =>
    And.intro (opd_rel ti t x R (s := s) (fun k hk => hs k (by subst hk; simp [ho, Op.operands]))) (opd_rel ti t y R (s := s) (fun k hk => hs k (by subst hk; simp [ho, Op.operands])))
  unfold outBin at hk
  simp only [] at hk
  split at hk
  · rename_i q n q' m hop hop'
    obtain ⟨hq, hk2⟩ := req_iff.1 hk
    clear hk
    obtain rfl : q = q' := by simpa using hq
    have fin : ∀ (d : D) (v : Value), (∀ (a : Act) (w : World), a.eval x = .int q n → a.eval y = .int q m → (execOp a.eval o).run C.P w = .ok (.value v) w) → (∀ w Z, RelD w Z d v) → OKop C o fresh s h ⟨.v (.d d), [], []⟩ := by
      intro d v H1 H2
      refine okop_value fun F σs σh g a w R hs _ => ?_
      obtain ⟨h1, h2⟩ := hx F σs σh g a w R hs
      rw [hop] at h1
      rw [hop'] at h2
      exact ⟨v, H1 a w (relI h1) (relI h2), H2 _ _⟩
    unfold intOp at hk2
    split at hk2
    all_goals first
      | exact hk2.elim
      | (obtain ⟨z, hz, hk3⟩ := hk2
         subst hz
         exact ⟨_, hk3, fin _ _ (fun a w h1 h2 => by (simp [execOp, ho, h1, h2, eqGuard, binOp, Op.intArith]; try rfl)) (fun _ _ => .int _ _)⟩)
      | (obtain ⟨z, hne, hz, hk3⟩ := hk2
         subst hz
         exact ⟨_, hk3, fin _ _ (fun a w h1 h2 => by (simp [execOp, ho, h1, h2, eqGuard, binOp, Op.intDiv, hne]; try rfl)) (fun _ _ => .int _ _)⟩)
      | exact ⟨_, (C.M.split_iff _ _).1 hk2, by
          simp only [notB_eq, C.M.eqI_eq, C.M.ltI_eq, C.M.leI_eq]
          exact fin _ _ (fun a w h1 h2 => by (simp [execOp, ho, h1, h2, eqGuard, binOp, Op.intCmp]; try rfl)) (fun _ _ => .bool _)⟩
  · rename_i b b' hop hop'
    have fin : ∀ (d : D) (v : Value), (∀ (a : Act) (w : World), a.eval x = .string b → a.eval y = .string b' → (execOp a.eval o).run C.P w = .ok (.value v) w) → (∀ w Z, RelD w Z d v) → OKop C o fresh s h ⟨.v (.d d), [], []⟩ := by
      intro d v H1 H2
      refine okop_value fun F σs σh g a w R hs _ => ?_
      obtain ⟨h1, h2⟩ := hx F σs σh g a w R hs
      rw [hop] at h1
      rw [hop'] at h2
      exact ⟨v, H1 a w (relSt h1) (relSt h2), H2 _ _⟩
    unfold strOp at hk
    split at hk
    · obtain ⟨hsz, hk⟩ := hk
      refine ⟨_, hk, fin _ (.string (b ++ b')) (fun a w h1 h2 => ?_) (fun _ _ => .str _)⟩
      have : ¬ ((b.size : Int) + b'.size > IntKind.i64.max) := by simpa using hsz
      simp [execOp, ho, h1, h2, eqGuard, binOp, Op.stringOp]
      simp at this
      omega
    · exact ⟨_, (C.M.split_iff _ _).1 hk, by
          simp only [notB_eq, C.M.eqS_eq, C.M.ltS_eq]
          exact fin _ _ (fun a w h1 h2 => by (simp [execOp, ho, h1, h2, eqGuard, binOp, Op.stringOp]; try rfl)) (fun _ _ => .bool _)⟩
    · exact ⟨_, (C.M.split_iff _ _).1 hk, by
          simp only [notB_eq, C.M.eqS_eq, C.M.ltS_eq]
          exact fin _ _ (fun a w h1 h2 => by (simp [execOp, ho, h1, h2, eqGuard, binOp, Op.stringOp]; try rfl)) (fun _ _ => .bool _)⟩
    · exact ⟨_, (C.M.split_iff _ _).1 hk, by
          simp only [notB_eq, C.M.eqS_eq, C.M.ltS_eq]
          exact fin _ _ (fun a w h1 h2 => by (simp [execOp, ho, h1, h2, eqGuard, binOp, Op.stringOp]; try rfl)) (fun _ _ => .bool _)⟩
    · exact hk.elim
  all_goals first
    | exact hk.elim
    | skip
  · rename_i b b' hop hop'
    obtain ⟨i, hi, hk⟩ := withT_iff.1 hk
    split at hk
    · rename_i hdesc
      have hu := (hti t i hi).1
      rw [hdesc] at hu
      unfold eqOpL at hk
      split at hk
      · refine ⟨_, hk, okop_value fun F σs σh g a w R hs _ => ?_⟩
        obtain ⟨h1, h2⟩ := hx F σs σh g a w R hs
        rw [hop] at h1
        rw [hop'] at h2
        rw [eqvB_eq]
        exact ⟨.bool (b == b'), by simp [execOp, ho, relB h1, relB h2, eqGuard, binOp, run_equal_bool hu], .bool _⟩
      · refine ⟨_, hk, okop_value fun F σs σh g a w R hs _ => ?_⟩
        obtain ⟨h1, h2⟩ := hx F σs σh g a w R hs
        rw [hop] at h1
        rw [hop'] at h2
        rw [notB_eq, eqvB_eq]
        exact ⟨.bool (!(b == b')), by simp [execOp, ho, relB h1, relB h2, eqGuard, binOp, run_equal_bool hu], .bool _⟩
      · exact hk.elim
    · exact hk.elim
  · rename_i id q hop hop'
    obtain ⟨i, hi, hk⟩ := withT_iff.1 hk
    split at hk
    · rename_i e hdesc
      have hu := (hti t i hi).1
      rw [hdesc] at hu
      have fin : ∀ F σs σh g a w, RelS C F σs σh g a w → (∀ t, Operand.tmp t ∈ o.op.operands.toList → σs t = s t) → ∃ A, a.eval x = .pointer (some A) ∧ a.eval y = .pointer none := by
        intro F σs σh g a w R hs
        obtain ⟨h1, h2⟩ := hx F σs σh g a w R hs
        rw [hop] at h1
        rw [hop'] at h2
        obtain ⟨⟨b, hb⟩, h1⟩ := h1
        rw [hb] at h1
        exact ⟨_, h1, h2⟩
      unfold eqOpL at hk
      split at hk
      · refine ⟨_, hk, okop_value fun F σs σh g a w R hs _ => ?_⟩
        obtain ⟨A, h1, h2⟩ := fin F σs σh g a w R hs
        exact ⟨.bool false, by simp [execOp, ho, h1, h2, eqGuard, binOp, run_equal_pn hu], .bool _⟩
      · refine ⟨_, hk, okop_value fun F σs σh g a w R hs _ => ?_⟩
        obtain ⟨A, h1, h2⟩ := fin F σs σh g a w R hs
        exact ⟨.bool true, by simp [execOp, ho, h1, h2, eqGuard, binOp, run_equal_pn hu], .bool _⟩
      · exact hk.elim
    · exact hk.elim
  · rename_i hop hop'
    obtain ⟨i, hi, hk⟩ := withT_iff.1 hk
    split at hk
    · rename_i e hdesc
      have hu := (hti t i hi).1
      rw [hdesc] at hu
      unfold eqOpL at hk
      split at hk
      · refine ⟨_, hk, okop_value fun F σs σh g a w R hs _ => ?_⟩
        obtain ⟨h1, h2⟩ := hx F σs σh g a w R hs
        rw [hop] at h1
        rw [hop'] at h2
        exact ⟨.bool true, by simp [execOp, ho, show a.eval x = _ from h1, show a.eval y = _ from h2, eqGuard, binOp, run_equal_pn hu], .bool _⟩
      · refine ⟨_, hk, okop_value fun F σs σh g a w R hs _ => ?_⟩
        obtain ⟨h1, h2⟩ := hx F σs σh g a w R hs
        rw [hop] at h1
        rw [hop'] at h2
        exact ⟨.bool false, by simp [execOp, ho, show a.eval x = _ from h1, show a.eval y = _ from h2, eqGuard, binOp, run_equal_pn hu], .bool _⟩
      · exact hk.elim
    · exact hk.elim
  · rename_i id hop hop'
    obtain ⟨i, hi, hk⟩ := withT_iff.1 hk
    split at hk
    · rename_i kt e hdesc
      have hu := (hti t i hi).1
      rw [hdesc] at hu
      have fin : ∀ F σs σh g a w, RelS C F σs σh g a w → (∀ t, Operand.tmp t ∈ o.op.operands.toList → σs t = s t) → ∃ A, a.eval x = .map (some A) ∧ a.eval y = .map none := by
        intro F σs σh g a w R hs
        obtain ⟨h1, h2⟩ := hx F σs σh g a w R hs
        rw [hop] at h1
        rw [hop'] at h2
        obtain ⟨h1, b, hb⟩ := h1
        rw [hb] at h1
        exact ⟨_, h1, h2⟩
      unfold eqOpL at hk
      split at hk
      · refine ⟨_, hk, okop_value fun F σs σh g a w R hs _ => ?_⟩
        obtain ⟨A, h1, h2⟩ := fin F σs σh g a w R hs
        exact ⟨.bool false, by simp [execOp, ho, h1, h2, eqGuard, binOp, run_equal_mn hu], .bool _⟩
      · refine ⟨_, hk, okop_value fun F σs σh g a w R hs _ => ?_⟩
        obtain ⟨A, h1, h2⟩ := fin F σs σh g a w R hs
        exact ⟨.bool true, by simp [execOp, ho, h1, h2, eqGuard, binOp, run_equal_mn hu], .bool _⟩
      · exact hk.elim
    · exact hk.elim
  · rename_i hop hop'
    obtain ⟨i, hi, hk⟩ := withT_iff.1 hk
    split at hk
    · rename_i kt e hdesc
      have hu := (hti t i hi).1
      rw [hdesc] at hu
      unfold eqOpL at hk
      split at hk
      · refine ⟨_, hk, okop_value fun F σs σh g a w R hs _ => ?_⟩
        obtain ⟨h1, h2⟩ := hx F σs σh g a w R hs
        rw [hop] at h1
        rw [hop'] at h2
        exact ⟨.bool true, by simp [execOp, ho, show a.eval x = _ from h1, show a.eval y = _ from h2, eqGuard, binOp, run_equal_mn hu], .bool _⟩
      · refine ⟨_, hk, okop_value fun F σs σh g a w R hs _ => ?_⟩
        obtain ⟨h1, h2⟩ := hx F σs σh g a w R hs
        rw [hop] at h1
        rw [hop'] at h2
        exact ⟨.bool false, by simp [execOp, ho, show a.eval x = _ from h1, show a.eval y = _ from h2, eqGuard, binOp, run_equal_mn hu], .bool _⟩
      · exact hk.elim
    · exact hk.elim

end
end Go.AM

/- The abstract machine, part H: a call by its contract. No condition. -/
namespace Go.AM
open Go Go.RowKit

theorem updW_notin {l : List (Id × AObj)} {i : Id} : ∀ {h : Heap}, i ∉ l.map (·.1) → updW h l i = h i := by
  induction l with
  | nil => intro h _; rfl
  | cons x l ih =>
    intro h hi
    simp only [List.map_cons, List.mem_cons, not_or] at hi
    show updW (updO h x.1 x.2) l i = _
    rw [ih hi.2]
    simp [updO, hi.1]
theorem updW_in {l : List (Id × AObj)} {i : Id} {o : AObj} : ∀ {h : Heap}, (l.map (·.1)).Nodup → (i, o) ∈ l → updW h l i = some o := by
  induction l with
  | nil => intro h _ hi; simp at hi
  | cons x l ih =>
    intro h hn hi
    simp only [List.map_cons, List.nodup_cons] at hn
    show updW (updO h x.1 x.2) l i = _
    rcases List.mem_cons.1 hi with rfl | hi
    · rw [updW_notin hn.1]
      simp [updO]
    · exact ih hn.2 hi

theorem wrM_keys {r : Id → Id} : ∀ {m : List Id} {post : List AObj}, m.length = post.length → (wrM m r post).map (·.1) = m
  | [], [], _ => rfl
  | i :: m, o :: post, h => by simp [wrM, wrM_keys (m := m) (post := post) (by simpa using h)]
theorem wrM_mem {r : Id → Id} : ∀ {m : List Id} {post : List AObj} {j : Nat} {i : Id} {o : AObj}, m[j]? = some i → post[j]? = some o → (i, o.ren r) ∈ wrM m r post
  | i :: m, o :: post, 0, _, _, h1, h2 => by simp at h1 h2; subst h1; subst h2; simp [wrM]
  | i :: m, o :: post, j + 1, i', o', h1, h2 => by
    simp at h1 h2
    simp only [wrM, List.mem_cons]
    exact .inr (wrM_mem h1 h2)
theorem wrNew_keys {r : Id → Id} {fresh : Nat} : ∀ {new : List AObj} {k : Nat}, (wrNew fresh r k new).map (·.1) = (List.range' k new.length).map (fun n => Id.loc (fresh + n))
  | [], k => rfl
  | o :: new, k => by simp [wrNew, wrNew_keys (new := new) (k := k + 1), List.range'_succ]
theorem wrNew_mem {r : Id → Id} {fresh : Nat} : ∀ {new : List AObj} {k j : Nat} {o : AObj}, new[j]? = some o → (Id.loc (fresh + (k + j)), o.ren r) ∈ wrNew fresh r k new
  | o :: new, k, 0, _, h => by simp at h; subst h; simp [wrNew]
  | o :: new, k, j + 1, o', h => by
    simp at h
    have := wrNew_mem (r := r) (fresh := fresh) (k := k + 1) h
    simp only [wrNew, List.mem_cons]
    exact .inr (by rw [show k + (j + 1) = k + 1 + j from by omega]; exact this)

theorem allKinds_get : ∀ {pre post : List AObj} {j : Nat} {o : AObj}, allKinds pre post → post[j]? = some o → ∃ o0, pre[j]? = some o0 ∧ sameKind o0 o
  | a :: pre, b :: post, 0, o, h, hj => by simp at hj; subst hj; exact ⟨a, rfl, h.1⟩
  | a :: pre, b :: post, j + 1, o, h, hj => by
    simp at hj
    obtain ⟨o0, h1, h2⟩ := allKinds_get (j := j) h.2 hj
    exact ⟨o0, by simpa using h1, h2⟩
  | [], [], j, o, h, hj => by simp at hj
theorem allKinds_length : ∀ {pre post : List AObj}, allKinds pre post → post.length = pre.length
  | [], [], _ => rfl
  | _ :: _, _ :: _, h => by simp [allKinds_length h.2]
theorem sameKind_zone {gv : Value} {a b : AObj} {x y : Nat} (h : sameKind a b) (z : zone1 gv b x y) : zone1 gv a x y := by
  cases a <;> cases b <;> simp [sameKind] at h
  · exact z
  · obtain ⟨rfl, rfl, rfl⟩ := h; exact z
  · exact z

theorem call_core {C : Cx} {F : Nat → Prop} {σs : Slots} {σh : Heap} {g : Ghost} {a : Act} {w : World} {f : FuncId} {fresh : Nat}
    {m : List Id} {targs : List V1} {pre post new : List AObj} {res : AV} {vals : Array Value} {dst : Option Tmp} {Q : Exit → Act → World → Prop}
    (R : RelS C F σs σh g a w) (ht : Trip C.P f targs pre res post new) (hlen : m.length = pre.length) (hnd : m.Nodup)
    (hpre : ∀ (j : Nat) i o, m[j]? = some i → pre[j]? = some o → σh i = some (o.ren (renM m fresh))) (hk : allKinds pre post) (hnew : new.length ≤ 7)
    (hF : ∀ k, k < 8 → F (fresh + k)) (hd : ∀ d, dst = some d → d < C.nt) (hsz : vals.size = targs.length)
    (hargs : ∀ (j : Nat) x v, (targs.map (V1.ren (renM m fresh)))[j]? = some x → vals[j]? = some v → RelV1 w (zor (zone g σh) C.X) g σh x v) :
    Calls C.P f vals w fun
      | .returned v, w'' => Rel C (fun n => F n ∧ ¬ (fresh ≤ n ∧ n < fresh + 8)) (updS σs dst (res.ren (renM m fresh))) (updW σh (wrM m (renM m fresh) post ++ wrNew fresh (renM m fresh) 0 new)) (a.put dst v) w''
      | .panicked chain, w'' => Q (.panic chain) a w''
      | .outgrown, _ => LetsOut Q := by
  let r := renM m fresh
  have hr : r = renM m fresh := rfl
  let gc : Ghost := fun i => g (r i)
  let hc : Heap := heapOf pre
  let Xc : Zone := fun b o => C.X b o ∨ ∃ i ob, σh i = some ob ∧ i ∉ m ∧ zone1 (g i) ob b o
  have rin : ∀ j i, m[j]? = some i → r (.ext j) = i := fun j i hj => by simp [hr, renM, hj]
  have rout : ∀ j, m[j]? = none → r (.ext j) = .loc (fresh + 7) := fun j hj => by simp [hr, renM, hj]
  have rloc : ∀ k, k < 7 → r (.loc k) = .loc (fresh + k) := fun k hk => by simp [hr, renM, hk]
  have rloc7 : ∀ k, 7 ≤ k → r (.loc k) = .loc (fresh + 7) := fun k hk => by simp [hr, renM, show ¬ k < 7 from by omega]
  have free : ∀ k, k < 8 → g (.loc (fresh + k)) = undef ∧ σh (.loc (fresh + k)) = none := fun k hk => R.free _ (hF k hk)
  have gcl : ∀ n, gc (.loc n) = undef := by
    intro n
    by_cases hn : n < 7
    · show g (r (.loc n)) = _
      rw [rloc n hn]; exact (free n (by omega)).1
    · show g (r (.loc n)) = _
      rw [rloc7 n (by omega)]; exact (free 7 (by omega)).1
  have hcs : ∀ i o, hc i = some o → ∃ j, i = .ext j ∧ m[j]? = some (r i) ∧ pre[j]? = some o ∧ σh (r i) = some (o.ren r) := by
    intro i o hi
    cases i with
    | loc n => simp [hc, heapOf] at hi
    | ext j =>
      have hi' : pre[j]? = some o := hi
      have hlt : j < m.length := by rw [hlen]; exact (List.getElem?_eq_some_iff.1 hi').1
      have hm : m[j]? = some m[j] := by simp [hlt]
      exact ⟨j, rfl, by rw [rin j _ hm]; exact hm, hi', by rw [rin j _ hm]; exact hpre j _ o hm hi'⟩
  have hzc : ∀ b o, zone gc hc b o → zone g σh b o := by
    rintro b o ⟨i, ob, hi, h1⟩
    obtain ⟨j, rfl, hm, _, hs⟩ := hcs i ob hi
    exact ⟨_, _, hs, zone1_ren.2 h1⟩
  have hz : ∀ b o, zor (zone gc hc) Xc b o → zor (zone g σh) C.X b o := by
    rintro b o (h1 | h1 | ⟨i, ob, hi, _, h1⟩)
    · exact .inl (hzc b o h1)
    · exact .inr h1
    · exact .inl ⟨i, ob, hi, h1⟩
  have htok : ∀ i n sz e, hc i = some (.tok n sz e) → σh (r i) = some (.tok n sz e) := by
    intro i n sz e hi
    obtain ⟨j, rfl, hm, _, hs⟩ := hcs i _ hi
    exact hs
  have hXlt : ∀ b o, Xc b o → b < w.heap.size := by
    rintro b o (h1 | ⟨i, ob, hi, _, h1⟩)
    · exact Nat.lt_of_lt_of_le (R.xs b o h1) R.frame.size
    · exact (R.heap.objs i ob hi).lt h1.1
  have RH : RelH w Xc gc hc := by
    refine ⟨fun i o hi => ?_, fun i i' oi oi' b hi hi' bi bi' => ?_, fun i oi b o hi bi hx => ?_⟩
    · obtain ⟨j, rfl, hm, _, hs⟩ := hcs i o hi
      exact RelObj.pull (r := r) hz (fun _ => rfl) htok (R.heap.objs _ _ hs)
    · obtain ⟨j, rfl, hm, _, hs⟩ := hcs i oi hi
      obtain ⟨j', rfl, hm', _, hs'⟩ := hcs i' oi' hi'
      have e := R.heap.sep _ _ _ _ b hs hs' bi bi'
      rw [e] at hm
      have := (List.getElem?_inj (List.getElem?_eq_some_iff.1 hm).1 hnd).1 (hm.trans hm'.symm)
      rw [this]
    · obtain ⟨j, rfl, hm, _, hs⟩ := hcs i oi hi
      rcases hx with hx | ⟨i', ob, hi', hni, h1⟩
      · exact R.heap.apart _ _ b o hs bi hx
      · have e := R.heap.sep _ _ _ _ b hs hi' bi h1.1
        exact hni (e ▸ List.mem_of_getElem? hm)
  refine (ht.2 w Xc gc vals hXlt RH gcl hsz (fun j x v hx hv => ?_)).mono ?_
  · exact RelV1.pull (r := r) hz (fun _ => rfl) htok (hargs j (x.ren r) v (by simp [hx, hr]) hv)
  rintro e w' ⟨v, g', rfl, CP⟩
  show Rel C _ _ _ _ w'
  -- the new ghost, the new heap
  let g2 : Ghost := fun i => if i ∈ m then g i else match i with
    | .loc n => if fresh ≤ n ∧ n < fresh + 8 then g' (.loc (n - fresh)) else g i
    | .ext j => g (.ext j)
  let hc2 : Heap := heapOf2 post new
  let h2 : Heap := updW σh (wrM m (renM m fresh) post ++ wrNew fresh (renM m fresh) 0 new)
  have mlive : ∀ i, i ∈ m → σh i ≠ none := by
    intro i hi
    obtain ⟨j, hj⟩ := List.mem_iff_getElem?.1 hi
    have hlt : j < pre.length := by rw [← hlen]; exact (List.getElem?_eq_some_iff.1 hj).1
    rw [hpre j i pre[j] hj (by simp [hlt])]
    simp
  have mfresh : ∀ k, k < 8 → Id.loc (fresh + k) ∉ m := fun k hk hm => mlive _ hm (free k hk).2
  have plen : post.length = pre.length := allKinds_length hk
  have keys : ((wrM m (renM m fresh) post ++ wrNew fresh (renM m fresh) 0 new).map (·.1)) = m ++ (List.range' 0 new.length).map (fun n => Id.loc (fresh + n)) := by
    rw [List.map_append, wrM_keys (by omega), wrNew_keys]
  have knd : ((wrM m (renM m fresh) post ++ wrNew fresh (renM m fresh) 0 new).map (·.1)).Nodup := by
    rw [keys]
    refine List.nodup_append.2 ⟨hnd, ?_, ?_⟩
    · refine List.Pairwise.map _ (fun x y (hxy : x ≠ y) he => hxy ?_) (List.nodup_range' (s := 0) (n := new.length))
      simp at he
      omega
    · intro x hx y hy he
      subst he
      simp only [List.mem_map, List.mem_range'_1] at hy
      obtain ⟨n, hn, rfl⟩ := hy
      exact mfresh n (by omega) hx
  have h2m : ∀ (j : Nat) (i : Id) (o : AObj), m[j]? = some i → post[j]? = some o → h2 i = some (o.ren r) := fun j i o h1 h3 => updW_in knd (List.mem_append.2 (.inl (wrM_mem h1 h3)))
  have h2n : ∀ (k : Nat) (o : AObj), new[k]? = some o → h2 (.loc (fresh + k)) = some (o.ren r) := fun k o h1 => updW_in knd (List.mem_append.2 (.inr (by simpa using wrNew_mem (k := 0) h1)))
  have h2o : ∀ i, i ∉ m → (∀ k, k < new.length → i ≠ .loc (fresh + k)) → h2 i = σh i := by
    intro i h1 h3
    refine updW_notin ?_
    rw [keys]
    simp only [List.mem_append, List.mem_map, List.mem_range'_1, not_or, not_exists, not_and]
    exact ⟨h1, fun k hk e => h3 k (by omega) e.symm⟩
  have g2m : ∀ i, i ∈ m → g2 i = g i := fun i hi => if_pos hi
  have g2f : ∀ k, k < 8 → g2 (.loc (fresh + k)) = g' (.loc k) := by
    intro k hk
    show (if _ then _ else _) = _
    rw [if_neg (mfresh k hk)]
    show (if _ then _ else _) = _
    rw [if_pos (by omega), show fresh + k - fresh = k from by omega]
  have g2o : ∀ i, (∀ k, k < 8 → i ≠ .loc (fresh + k)) → g2 i = g i := by
    intro i hi
    show (if _ then _ else _) = _
    split
    · rfl
    · cases i with
      | ext j => rfl
      | loc n =>
        show (if _ then _ else _) = _
        rw [if_neg]
        rintro ⟨h1, h3⟩
        exact hi (n - fresh) (by omega) (by congr 1; omega)
  have hg2 : ∀ i, g' i = g2 (r i) := by
    intro i
    cases i with
    | ext j =>
      rw [CP.ext j]
      show g (r (.ext j)) = _
      cases hj : m[j]? with
      | some i => rw [rin j i hj, g2m i (List.mem_of_getElem? hj)]
      | none => rw [rout j hj, (free 7 (by omega)).1, g2f 7 (by omega), CP.none 7 hnew]
    | loc k =>
      by_cases hk : k < 7
      · rw [rloc k hk, g2f k (by omega)]
      · rw [rloc7 k (by omega), g2f 7 (by omega), CP.none k (by omega), CP.none 7 hnew]
  have ht2 : ∀ i n sz e, h2 (r i) = some (.tok n sz e) → hc2 i = some (.tok n sz e) := by
    intro i n sz e hi
    have tr : ∀ o : AObj, some (o.ren r) = some (.tok n sz e) → o = .tok n sz e := by
      intro o ho
      cases o <;> simp [AObj.ren] at ho
      obtain ⟨rfl, rfl, rfl⟩ := ho; rfl
    cases i with
    | ext j =>
      cases hj : m[j]? with
      | some i =>
        rw [rin j i hj] at hi
        have hlt : j < post.length := by rw [plen, ← hlen]; exact (List.getElem?_eq_some_iff.1 hj).1
        rw [h2m j i post[j] hj (by simp [hlt])] at hi
        show post[j]? = _
        rw [← tr _ hi]; simp [hlt]
      | none =>
        rw [rout j hj, h2o _ (mfresh 7 (by omega)) (fun k hk => by simp; omega), (free 7 (by omega)).2] at hi
        simp at hi
    | loc k =>
      by_cases hk : k < new.length
      · rw [rloc k (by omega), h2n k new[k] (by simp [hk])] at hi
        show new[k]? = _
        rw [← tr _ hi]; simp [hk]
      · exfalso
        by_cases hk7 : k < 7
        · rw [rloc k hk7, h2o _ (mfresh k (by omega)) (fun k' hk' => by simp; omega), (free k (by omega)).2] at hi
          simp at hi
        · rw [rloc7 k (by omega), h2o _ (mfresh 7 (by omega)) (fun k' hk' => by simp; omega), (free 7 (by omega)).2] at hi
          simp at hi
  -- where an object of the new heap comes from
  have cases2 : ∀ (i : Id) (o : AObj), h2 i = some o → (∃ (j : Nat) (o' : AObj), m[j]? = some i ∧ post[j]? = some o' ∧ o = o'.ren r) ∨ (∃ (k : Nat) (o' : AObj), k < 7 ∧ i = .loc (fresh + k) ∧ new[k]? = some o' ∧ o = o'.ren r) ∨
      (i ∉ m ∧ (∀ k, k < 8 → i ≠ .loc (fresh + k)) ∧ σh i = some o) := by
    intro i o hi
    by_cases him : i ∈ m
    · obtain ⟨j, hj⟩ := List.mem_iff_getElem?.1 him
      have hlt : j < post.length := by rw [plen, ← hlen]; exact (List.getElem?_eq_some_iff.1 hj).1
      rw [h2m j i post[j] hj (by simp [hlt])] at hi
      exact .inl ⟨j, post[j], hj, by simp [hlt], by simpa using hi.symm⟩
    · by_cases hn : ∃ k, k < new.length ∧ i = .loc (fresh + k)
      · obtain ⟨k, hk, rfl⟩ := hn
        rw [h2n k new[k] (by simp [hk])] at hi
        exact .inr (.inl ⟨k, new[k], by omega, rfl, by simp [hk], by simpa using hi.symm⟩)
      · rw [h2o i him (fun k hk e => hn ⟨k, hk, e⟩)] at hi
        refine .inr (.inr ⟨him, fun k hk e => ?_, hi⟩)
        rw [e, (free k hk).2] at hi
        simp at hi
  have hcj : ∀ (j : Nat) (o' : AObj), post[j]? = some o' → hc2 (.ext j) = some o' := fun j o' h1 => h1
  have hck : ∀ (k : Nat) (o' : AObj), new[k]? = some o' → hc2 (.loc k) = some o' := fun k o' h1 => h1
  have hz2 : ∀ b o, zor (zone g2 h2) C.X b o → zor (zone g' hc2) Xc b o := by
    rintro b o (⟨i, ob, hi, h1⟩ | h1)
    · rcases cases2 i ob hi with ⟨j, o', hj, hp, rfl⟩ | ⟨k, o', hk7, rfl, hp, rfl⟩ | ⟨h3, h4, h5⟩
      · refine .inl ⟨.ext j, o', hcj j o' hp, ?_⟩
        rw [hg2, rin j i hj]
        exact zone1_ren.1 h1
      · refine .inl ⟨.loc k, o', hck k o' hp, ?_⟩
        rw [hg2, rloc k hk7]
        exact zone1_ren.1 h1
      · rw [g2o i h4] at h1
        exact .inr (.inr ⟨i, ob, h5, h3, h1⟩)
    · exact .inr (.inl h1)
  have hz2' : ∀ b o u, w'.cell? ⟨b, o, none⟩ = some u → ¬ zor (zone g' hc2) Xc b o → ¬ zor (zone g2 h2) C.X b o := fun b o _ _ hn hy => hn (hz2 b o hy)
  have E : Evo w (zor (zone g σh) C.X) g σh w' (zor (zone g2 h2) C.X) g2 h2 := by
    refine ⟨fun b o u hu hn => ⟨CP.frame.cell b o u hu (fun hy => hn (.inl (hzc b o hy))), ?_⟩, fun i b hb => ?_, fun i q hq => ?_, fun i hi => ?_, fun i n sz e hi hn => ?_⟩
    · rintro (⟨i, ob, hi, h1⟩ | h1)
      · rcases cases2 i ob hi with ⟨j, o', hj, hp, rfl⟩ | ⟨k, o', hk7, rfl, hp, rfl⟩ | ⟨h3, h4, h5⟩
        · obtain ⟨o0, h6, h7⟩ := allKinds_get hk hp
          refine hn (.inl ⟨i, _, hpre j i o0 hj h6, zone1_ren.2 (sameKind_zone h7 ?_)⟩)
          rw [g2m i (List.mem_of_getElem? hj)] at h1
          exact zone1_ren.1 h1
        · have := h1.1
          rw [g2f k (by omega)] at this
          have h9 := CP.fresh k b this
          have := World.block_lt_of_cell? w ⟨b, o, none⟩ hu
          simp at this
          omega
        · rw [g2o i h4] at h1
          exact hn (.inl ⟨i, ob, h5, h1⟩)
      · exact hn (.inr h1)
    · refine g2o i ?_
      rintro k hk rfl
      rw [(free k hk).1] at hb
      simp [undef] at hb
    · refine g2o i ?_
      rintro k hk rfl
      rw [(free k hk).1] at hq
      simp [undef] at hq
    · rw [g2o i (by
        rintro k hk rfl
        rw [(free k hk).1] at hi
        exact hi)]
      exact hi
    · have hgi := g2o i (by
        rintro k hk rfl
        rw [(free k hk).1] at hi
        exact hi)
      rcases cases2 i _ hn with ⟨j, o', hj, hp, ho⟩ | ⟨k, o', hk7, rfl, hp, ho⟩ | ⟨h3, h4, h5⟩
      · obtain ⟨o0, h6, h7⟩ := allKinds_get hk hp
        have := hpre j i o0 hj h6
        cases o' <;> simp [AObj.ren] at ho
        obtain ⟨rfl, rfl, rfl⟩ := ho
        cases o0 <;> simp [sameKind] at h7
        obtain ⟨rfl, rfl, rfl⟩ := h7
        exact ⟨_, Nat.le_refl _, this, fun _ => hgi⟩
      · rw [(free k (by omega)).1] at hi
        exact hi.elim
      · exact ⟨n, Nat.le_refl _, h5, fun _ => hgi⟩
  have R2 : RelS C (fun n => F n ∧ ¬ (fresh ≤ n ∧ n < fresh + 8)) σs h2 g2 a w' := by
    refine R.step (fun i => i ∈ m ∨ ∃ k, k < 8 ∧ i = .loc (fresh + k)) E (CP.frame.weaken hzc) ?_ ?_ ?_ ?_ ?_ ?_ ?_
    · intro i hi
      simp only [not_or, not_exists, not_and] at hi
      exact ⟨h2o i hi.1 (fun k hk => hi.2 k (by omega)), g2o i hi.2⟩
    · intro i o b hi ho hb
      simp only [not_or, not_exists, not_and] at hi
      refine CP.frame.block b ((R.heap.objs i o ho).lt hb) ?_
      rintro o' ⟨i', ob, hi', h1⟩
      obtain ⟨j, rfl, hm, _, hs⟩ := hcs i' ob hi'
      have e := R.heap.sep _ _ _ _ b ho hs hb h1.1
      exact hi.1 (e ▸ List.mem_of_getElem? hm)
    · intro i o hi ho
      rcases cases2 i o ho with ⟨j, o', hj, hp, rfl⟩ | ⟨k, o', hk7, rfl, hp, rfl⟩ | ⟨h3, h4, _⟩
      · have := CP.heap.objs (.ext j) o' (hcj j o' hp)
        rw [hg2, rin j i hj] at this
        exact RelObj.push (r := r) hz2' hg2 ht2 this
      · have := CP.heap.objs (.loc k) o' (hck k o' hp)
        rw [hg2, rloc k hk7] at this
        exact RelObj.push (r := r) hz2' hg2 ht2 this
      · rcases hi with hi | ⟨k, hk, rfl⟩
        · exact absurd hi h3
        · exact absurd rfl (h4 k hk)
    · intro i o b hi ho hb
      rcases cases2 i o ho with ⟨j, o', hj, hp, rfl⟩ | ⟨k, o', hk7, rfl, hp, rfl⟩ | ⟨h3, h4, _⟩
      · obtain ⟨o0, h6, h7⟩ := allKinds_get hk hp
        rw [g2m i (List.mem_of_getElem? hj)] at hb
        exact .inl ⟨_, hpre j i o0 hj h6, hb⟩
      · rw [g2f k (by omega)] at hb
        exact .inr (CP.fresh k b hb)
      · rcases hi with hi | ⟨k, hk, rfl⟩
        · exact absurd hi h3
        · exact absurd rfl (h4 k hk)
    · intro i i' oi oi' b hi hi' ho ho' hb hb'
      have pre1 : ∀ (i : Id) (o : AObj), (i ∈ m ∨ ∃ k, k < 8 ∧ i = .loc (fresh + k)) → h2 i = some o → ∃ i0 o0, hc2 i0 = some o0 ∧ r i0 = i ∧ g' i0 = g2 i := by
        intro i o hi ho
        rcases cases2 i o ho with ⟨j, o', hj, hp, rfl⟩ | ⟨k, o', hk7, rfl, hp, rfl⟩ | ⟨h3, h4, _⟩
        · exact ⟨.ext j, o', hcj j o' hp, rin j i hj, by rw [hg2, rin j i hj]⟩
        · exact ⟨.loc k, o', hck k o' hp, rloc k hk7, by rw [hg2, rloc k hk7]⟩
        · rcases hi with hi | ⟨k, hk, rfl⟩
          · exact absurd hi h3
          · exact absurd rfl (h4 k hk)
      obtain ⟨i0, o0, q1, q2, q3⟩ := pre1 i oi hi ho
      obtain ⟨i1, o1, p1, p2, p3⟩ := pre1 i' oi' hi' ho'
      rw [← q3] at hb
      rw [← p3] at hb'
      have := CP.heap.sep i0 i1 o0 o1 b q1 p1 hb hb'
      rw [← q2, ← p2, this]
    · rintro j (hj | ⟨k, hk, e⟩)
      · refine ⟨g2m _ hj, fun ob hob => ?_⟩
        rcases cases2 _ ob hob with ⟨j', o', hj', hp, rfl⟩ | ⟨k, o', hk7, e, hp, rfl⟩ | ⟨h3, h4, _⟩
        · obtain ⟨o0, h6, h7⟩ := allKinds_get hk hp
          exact ⟨_, hpre j' _ o0 hj' h6, fun b o z => zone1_ren.2 (sameKind_zone h7 (zone1_ren.1 z))⟩
        · simp at e
        · exact absurd hj h3
      · simp at e
    · rintro n ⟨hn, hn2⟩
      obtain ⟨h3, h4⟩ := R.free n hn
      have hne : ∀ k, k < 8 → Id.loc n ≠ .loc (fresh + k) := fun k hk e => hn2 (by simp at e; omega)
      have hnm : Id.loc n ∉ m := fun hm => mlive _ hm h4
      exact ⟨(g2o _ hne).trans h3, (h2o _ hnm (fun k hk => hne k (by omega))).trans h4⟩
  exact ⟨g2, R2.put hd (RelAV.push (r := r) hz2' hg2 ht2 CP.res)⟩

end Go.AM

/- The abstract machine, part HB: structs that are put together ('build'). No condition. -/
namespace Go.AM
open Go Go.RowKit

def RelCs (w : World) (Z : Zone) (g : Ghost) (h : Heap) (cs : List CV) (vs : Array Value) : Prop :=
  vs.size = cs.length ∧ ∀ (j : Nat) c u, cs[j]? = some c → vs[j]? = some u → RelC w Z g h c u

/-- What is laid into a row, cell by cell. -/
theorem foldl_set (off : Nat) : ∀ (l : List Value) (n : Nat) (cells : Array Value),
    ((l.zipIdx n).foldl (fun cs x => cs.setIfInBounds (off + x.2) x.1) cells).size = cells.size ∧
    ∀ k, k < cells.size → ((l.zipIdx n).foldl (fun cs x => cs.setIfInBounds (off + x.2) x.1) cells)[k]? = if off + n ≤ k ∧ k < off + n + l.length then l[k - (off + n)]? else cells[k]?
  | [], n, cells => ⟨rfl, fun k hk => by rw [if_neg (by simp only [List.length_nil]; omega)]; rfl⟩
  | v :: l, n, cells => by
    obtain ⟨h1, h2⟩ := foldl_set off l (n + 1) (cells.setIfInBounds (off + n) v)
    refine ⟨by simpa using h1, fun k hk => ?_⟩
    have := h2 k (by simpa using hk)
    simp only [List.zipIdx_cons, List.foldl_cons]
    rw [this]
    by_cases he : k = off + n
    · subst he
      rw [if_neg (by omega), if_pos (by simp)]
      simp [hk]
    · by_cases hr : off + n ≤ k ∧ k < off + n + (v :: l).length
      · rw [if_pos hr, if_pos (by simp at hr; omega)]
        obtain ⟨d, hd⟩ : ∃ d, k = off + n + 1 + d := ⟨k - (off + n + 1), by omega⟩
        rw [show k - (off + n) = d + 1 from by omega, show k - (off + (n + 1)) = d from by omega]
        rfl
      · rw [if_neg hr, if_neg (by simp at hr; omega)]
        rw [Array.getElem?_setIfInBounds_ne (by omega)]

theorem fill_cs {w : World} {Z : Zone} {g : Ghost} {h : Heap} {cs ys : List CV} {vs us : Array Value} {off : Nat} (hc : RelCs w Z g h cs vs) (hy : RelCs w Z g h ys us) (hb : off + ys.length ≤ cs.length) :
    RelCs w Z g h (cs.take off ++ ys ++ cs.drop (off + ys.length)) (us.zipIdx.foldl (fun cs (c, j) => cs.setIfInBounds (off + j) c) vs) := by
  have e : us.zipIdx.foldl (fun cs (c, j) => cs.setIfInBounds (off + j) c) vs = (us.toList.zipIdx 0).foldl (fun cs x => cs.setIfInBounds (off + x.2) x.1) vs := by
    rw [← Array.foldl_toList, Array.toList_zipIdx]
  rw [e]
  obtain ⟨h1, h2⟩ := foldl_set off us.toList 0 vs
  refine ⟨by rw [h1, hc.1]; simp; omega, fun j c u hj hu => ?_⟩
  have hlt : j < vs.size := by rw [← h1]; exact (Array.getElem?_eq_some_iff.1 hu).1
  rw [h2 j hlt] at hu
  have hl := hy.1
  by_cases ha : j < off
  · rw [if_neg (by omega)] at hu
    rw [List.append_assoc, List.getElem?_append_left (by simp; omega), List.getElem?_take_of_lt ha] at hj
    exact hc.2 j c u hj hu
  · by_cases hb' : j < off + ys.length
    · rw [if_pos (by simp; omega)] at hu
      rw [List.getElem?_append_left (by simp; omega), List.getElem?_append_right (by simp; omega)] at hj
      have e1 : j - (cs.take off).length = j - (off + 0) := by simp; omega
      rw [e1] at hj
      exact hy.2 _ c u hj (by simpa using hu)
    · rw [if_neg (by simp; omega)] at hu
      rw [List.getElem?_append_right (by simp; omega), List.getElem?_drop] at hj
      have e1 : off + ys.length + (j - (cs.take off ++ ys).length) = j := by simp; omega
      rw [e1] at hj
      exact hc.2 j c u hj hu

theorem mapM_get {α β : Type} {f : α → Option β} : ∀ {l : List α} {ps : List β}, l.mapM f = some ps → ∀ (i : Nat) a, l[i]? = some a → f a = ps[i]?
  | [], ps, _, i, a, ha => by simp at ha
  | x :: l, ps, h, i, a, ha => by
    simp only [List.mapM_cons, Option.bind_eq_bind, Option.pure_def] at h
    cases hx : f x with
    | none => simp [hx] at h
    | some y =>
      cases hl : l.mapM f with
      | none => simp [hx, hl] at h
      | some ys =>
        simp [hx, hl] at h
        subst h
        match i with
        | 0 => simp at ha; subst ha; simpa using hx
        | i + 1 => simp at ha; simpa using mapM_get hl i a ha

theorem fillP_ok {P : Program} {ti : Types} (hti : TIok P ti) {s : Slots} {fs : List Field} {places : List (Nat × Nat)} (hp : fs.mapM (fun f => (P.info? f.type).map fun i => (f.offset, i.size)) = some places) {k : List CV → Prop} :
    ∀ (L : List (Nat × Operand)) (cs : List CV), fillP ti s fs cs L k → ∃ cs', k cs' ∧ ∀ (w : World) (Z : Zone) (g : Ghost) (h : Heap) (ev : Operand → Value) (vs : Array Value),
      (∀ t i p, (i, p) ∈ L → RelAV w Z g h (opd ti s t p) (ev p)) → RelCs w Z g h cs vs →
      ∃ vs', Instr.fill (places.toArray[·]?) vs (L.map fun x => (x.1, ev x.2)) = some vs' ∧ RelCs w Z g h cs' vs'
  | [], cs, hk => ⟨cs, hk, fun w Z g h ev vs _ hc => ⟨vs, rfl, hc⟩⟩
  | (i, x) :: L, cs, hk => by
    unfold fillP at hk
    split at hk
    · rename_i fd hfd
      obtain ⟨j, hj, hk⟩ := withT_iff.1 hk
      obtain ⟨y, hy, hk⟩ := withV_iff.1 hk
      obtain ⟨hl, hk⟩ := req_iff.1 hk
      obtain ⟨hb, hk⟩ := req_iff.1 hk
      have hl := Nat.eq_of_beq_eq_true hl
      have hb := Nat.le_of_ble_eq_true hb
      obtain ⟨cs', h1, h2⟩ := fillP_ok hti hp L _ hk
      refine ⟨cs', h1, fun w Z g h ev vs hev hc => ?_⟩
      have hr := hev fd.type i x (by simp)
      rw [hy] at hr
      obtain ⟨hs1, hs2⟩ := RelV1.cells hr
      obtain ⟨_, ii, hi1, hi2, _⟩ := hti _ _ hj
      have hpl : places[i]? = some (fd.offset, j.size) := by
        rw [← mapM_get hp i fd hfd, hi1]
        simp [hi2]
      rw [← hl] at h2
      obtain ⟨vs', h3, h4⟩ := h2 w Z g h ev _ (fun t i' p hp' => hev t i' p (List.mem_cons_of_mem _ hp')) (fill_cs (off := fd.offset) hc ⟨hs1, hs2⟩ (by omega))
      refine ⟨vs', ?_, h4⟩
      have e : places.toArray[i]? = some (fd.offset, j.size) := by simpa using hpl
      simp only [List.map_cons, Instr.fill, e]
      rw [if_neg (by rw [hs1, hc.1]; simp; omega)]
      exact h3
    · exact hk.elim

theorem tiAll_ok {P : Program} {ti : Types} (hti : TIok P ti) : ∀ (fs : List Field), tiAll ti fs = true → ∃ places, fs.mapM (fun f => (P.info? f.type).map fun i => (f.offset, i.size)) = some places
  | [], _ => ⟨[], rfl⟩
  | f :: fs, h => by
    unfold tiAll at h
    split at h
    · rename_i x hx
      obtain ⟨l, hl⟩ := tiAll_ok hti fs h
      obtain ⟨_, ii, hi1, _⟩ := hti _ _ hx
      exact ⟨(f.offset, ii.size) :: l, by simp [List.mapM_cons, hi1, hl]⟩
    · simp at h

section
variable {C : Cx} {ti : Types} {o : Oper} {fresh : Nat} {s : Slots} {h : Heap} {k : Out → Prop}

theorem ok_build (hti : TIok C.P ti) (t : TypeId) (parts : Array (Nat × Operand)) (ho : o.op = .build t parts) (hk : outBuild ti s t parts.toList k) : ∃ out, k out ∧ OKop C o fresh s h out := by
  unfold outBuild at hk
  obtain ⟨q, hq, hk⟩ := withT_iff.1 hk
  split at hk
  · rename_i fs hd
    obtain ⟨ha, hk⟩ := req_iff.1 hk
    obtain ⟨places, hp⟩ := tiAll_ok hti _ ha
    obtain ⟨cs', hk, hx⟩ := fillP_ok hti hp _ _ hk
    refine ⟨_, hk, okop_value fun F σs σh g a w R hs _ => ?_⟩
    obtain ⟨hu, ii, h1, h2, h3, h4, h5, h6, h7⟩ := hti t q hq
    obtain ⟨vs', hf, hr⟩ := hx w (zor (zone g σh) C.X) g σh a.eval q.zero.cells (fun t' i p hp' => opd_rel ti t' p R (s := s) (fun k hk => hs k (by
      subst hk
      simp only [ho, Op.operands]
      simp
      exact ⟨i, by simpa using hp'⟩))) ⟨by rw [h5, h6], fun j c u hc hu => zrel_rel (h7 j c u hc hu)⟩
    refine ⟨.agg vs', ?_, (RelV1.ofCells hr.1 hr.2).1 rfl⟩
    have hb : C.P.built t (parts.map fun (i, x) => (i, a.eval x)).toList = some vs' := by
      unfold Program.built
      rw [h1, hu, hd]
      simp only [h4, hp]
      simpa using hf
    have := run_build w t _ vs' hb
    simp [execOp, ho, this]
  · exact hk.elim
end
end Go.AM

/- The abstract machine, part I: the executor of code over abstract states, and that it tells what the model does. No condition. -/
namespace Go.AM
open Go Go.RowKit

section
variable {C : Cx} {ti : Types} {o : Oper} {fresh : Nat} {s : Slots} {h : Heap} {k : Out → Prop}

theorem opsArgs_rel {F : Nat → Prop} {σs : Slots} {σh : Heap} {g : Ghost} {a : Act} {w : World} (R : RelS C F σs σh g a w) :
    ∀ (l : List Operand) (ts : List TypeId) (xs : List V1), (∀ t, Operand.tmp t ∈ l → σs t = s t) → vals1 (opsArgs ti s l ts) = some xs →
      xs.length = l.length ∧ ∀ (j : Nat) x p, xs[j]? = some x → l[j]? = some p → RelV1 w (zor (zone g σh) C.X) g σh x (a.eval p)
  | [], ts, xs, _, he => by
    have : xs = [] := by cases ts <;> simpa [opsArgs, vals1] using he.symm
    subst this
    exact ⟨rfl, by simp⟩
  | p :: l, ts, xs, hs, he => by
    have main : ∀ (t : TypeId) (ts' : List TypeId), vals1 (opd ti s t p :: opsArgs ti s l ts') = some xs →
        xs.length = (p :: l).length ∧ ∀ (j : Nat) x q, xs[j]? = some x → (p :: l)[j]? = some q → RelV1 w (zor (zone g σh) C.X) g σh x (a.eval q) := by
      intro t ts' he
      unfold vals1 at he
      split at he
      · rename_i e; simp at e
      · rename_i y r e
        simp at e
        obtain ⟨e1, rfl⟩ := e
        split at he
        · rename_i l' hl'
          simp at he
          subst he
          obtain ⟨h1, h2⟩ := opsArgs_rel R l ts' l' (fun t ht => hs t (List.mem_cons_of_mem _ ht)) hl'
          refine ⟨by simp [h1], fun j x q hx hq => ?_⟩
          match j with
          | 0 =>
            simp at hx hq
            subst hx; subst hq
            have := opd_rel ti t p R (s := s) (fun k hk => hs k (by simp [hk]))
            rw [e1] at this
            exact RelV1.norm this
          | j + 1 => simp at hx hq; exact h2 j x q hx hq
        · simp at he
      · simp at he
    match ts with
    | [] => exact main 0 [] he
    | t :: ts' => exact main t ts' he

theorem ok_call (c : Call) (f : Operand) (ho : o.op = .call c) (hc : c.callee = .value f)
    (hk : outCallV C.M (opd ti s 0 f) (opsArgs ti s c.args.toList c.argTypes.toList) fresh h k) : ∃ out, k out ∧ OKop C o fresh s h out := by
  unfold outCallV at hk
  split at hk
  · rename_i n cap hop
    unfold withArgs at hk
    split at hk
    · rename_i xs hxs
      obtain ⟨m, targs, pre, res, post, new, htrip, hargs, hlen, hnd, hpre, hkinds, hnew, hk⟩ := (C.M.lock_iff _).1 hk
      refine ⟨_, hk, ?_⟩
      rintro F σs σh a w Q ⟨g, R⟩ hs hrd hF hd
      have hf := opd_rel ti 0 f R (s := s) (fun k hk => hs k (by subst hk; simp [ho, hc, Op.operands, Call.operands]))
      rw [hop] at hf
      obtain ⟨hfv, hcap⟩ := hf
      obtain ⟨h1, h2⟩ := opsArgs_rel (ti := ti) R c.args.toList c.argTypes.toList xs (fun t ht => hs t (by simp [ho, hc, Op.operands, Call.operands]; right; simpa using ht)) hxs
      obtain ⟨⟨fn, body, hfn, hb, hname⟩, _⟩ := htrip
      have hrun : (execOp a.eval o).run C.P w = .ok (.enter n (c.args.map a.eval ++ (cap.map (fun i => ptrAt (g i) 0)).toArray)) w := by
        have hn' : ¬ fn.name = "runtime.NumGoroutine" := by simpa using hname
        simp [execOp, ho, resolve, hc, hfv, Deferred.ofValue, invoke, callFunc, hfn, hb, hn']
      have hpre' : ∀ (j : Nat) i o, m[j]? = some i → pre[j]? = some o → σh i = some (o.ren (renM m fresh)) := fun j i o' hm hp =>
        (hrd i (List.mem_of_getElem? hm)).trans (hpre j i o' hm hp)
      unfold Oper.wp
      rw [hrun, Oper.upon_enter]
      refine call_core R ⟨⟨fn, body, hfn, hb, hname⟩, by assumption⟩ hlen hnd hpre' hkinds hnew hF hd ?_ ?_
      · have := congrArg List.length hargs
        simp [h1] at this
        simp
        omega
      · intro j x v hx hv
        rw [← hargs] at hx
        simp only [Array.getElem?_append, Array.size_map, List.getElem?_toArray] at hv
        by_cases hj : j < c.args.size
        · rw [if_pos hj] at hv
          rw [List.getElem?_append_left (by rw [h1]; simpa using hj)] at hx
          simp only [Array.getElem?_map, Option.map_eq_some_iff] at hv
          obtain ⟨p, hp, rfl⟩ := hv
          exact h2 j x p hx (by simpa using hp)
        · rw [if_neg hj] at hv
          rw [List.getElem?_append_right (by rw [h1]; simpa using hj), h1] at hx
          simp only [List.getElem?_map, Option.map_eq_some_iff, Array.length_toList] at hx hv
          obtain ⟨i, hi, rfl⟩ := hx
          obtain ⟨i', hi', rfl⟩ := hv
          rw [hi] at hi'
          obtain rfl : i = i' := by simpa using hi'
          obtain ⟨b, hb'⟩ := hcap i (List.mem_of_getElem? hi)
          exact ⟨⟨b, hb'⟩, rfl⟩
    · exact hk.elim
  · exact hk.elim

/-- All operations. -/
theorem opOut_sound (hti : TIok C.P ti) (h1 : TIone ti) (hst : ∀ t x y, o.op = .store t x y → o.dst = none) (hk : opOut C.M ti o fresh s h k) : ∃ out, k out ∧ OKop C o fresh s h out := by
  unfold opOut at hk
  split at hk
  · rename_i x ho; exact ⟨_, hk, ok_move x (.inl ho)⟩
  · rename_i x ho; exact ⟨_, hk, ok_move x (.inr ho)⟩
  · rename_i c x y ho
    obtain ⟨q, hq, hk⟩ := withB_iff.1 hk
    exact ⟨_, hk, ok_pick c x y ho hq⟩
  · rename_i t ho
    obtain ⟨i, hi, hk⟩ := withT_iff.1 hk
    exact ⟨_, hk, ok_alloc hti t ho hi⟩
  · rename_i t x ho
    obtain ⟨y, hy, hk⟩ := withV_iff.1 hk
    exact ⟨_, hk, ok_box t x ho hy⟩
  · rename_i t x ho; exact ok_load hti h1 t x ho hk
  · rename_i t x y ho; exact ok_store hti t x y ho (hst t x y ho) hk
  · rename_i t x f ho; exact ok_field hti t x f ho hk
  · rename_i t x y ho; exact ok_index hti t x y ho hk
  · rename_i x ho
    split at hk
    · rename_i i q hop; exact ⟨_, hk, ok_nilCheck x ho hop⟩
    · exact hk.elim
  · rename_i op t x y t' ho; exact ok_bin hti op t t' x y ho hk
  · rename_i op t x ho; exact ok_un op t x ho hk
  · rename_i fn first captured ho
    split at hk
    · rename_i f hfi
      split at hk
      · rename_i l hl; exact ⟨_, hk, ok_makeFunc _ first captured ho rfl hfi hl⟩
      · exact hk.elim
    · exact hk.elim
  · rename_i t parts ho; exact ok_build hti t parts ho hk
  · rename_i c ho
    split at hk
    · rename_i hc
      split at hk
      · rename_i x t hx ht
        refine ok_len hti t x ?_ hk
        obtain ⟨callee, args, argTypes⟩ := c
        have e1 : args = #[x] := by apply Array.ext'; simpa using hx
        have e2 : argTypes = #[t] := by apply Array.ext'; simpa using ht
        subst e1; subst e2
        simp only [] at hc
        subst hc
        exact ho
      · exact hk.elim
    · rename_i f hc; exact ok_call c f ho hc hk
    · exact hk.elim
  · exact hk.elim

end
end Go.AM

/- The abstract machine, part J: abstract states, the executor of regions and code. No condition. -/
namespace Go.AM
open Go Go.RowKit

structure St where
  slots : List (Nat × AV)
  heap : List (Id × AObj)
  next : Nat

def getS : List (Nat × AV) → Slots
  | [], _ => .u
  | (k, v) :: r, t => match Nat.beq k t with
    | true => v
    | false => getS r t
def getH : List (Id × AObj) → Heap
  | [], _ => none
  | (k, v) :: r, i => match Id.beq k i with
    | true => some v
    | false => getH r i
def setH : List (Id × AObj) → Id → AObj → List (Id × AObj)
  | [], i, o => [(i, o)]
  | (k, v) :: r, i, o => match Id.beq k i with
    | true => (i, o) :: r
    | false => (k, v) :: setH r i o
def setW (l : List (Id × AObj)) : List (Id × AObj) → List (Id × AObj)
  | [] => l
  | (i, o) :: r => setW (setH l i o) r
def putS (l : List (Nat × AV)) (d : Option Tmp) (v : AV) : List (Nat × AV) :=
  match d with
  | some d => (d, v) :: l
  | none => l

theorem getS_cons (k : Nat) (v : AV) (l : List (Nat × AV)) : getS ((k, v) :: l) = fun t => if t = k then v else getS l t := by
  funext t
  show (match Nat.beq k t with | true => v | false => getS l t) = _
  cases hb : Nat.beq k t with
  | true => rw [if_pos (Nat.eq_of_beq_eq_true hb).symm]
  | false => rw [if_neg (fun e => Nat.ne_of_beq_eq_false hb e.symm)]
theorem getS_putS (l : List (Nat × AV)) (d : Option Tmp) (v : AV) : getS (putS l d v) = updS (getS l) d v := by
  cases d with
  | none => rfl
  | some d => exact getS_cons d v l
theorem getH_cons (k : Id) (v : AObj) (l : List (Id × AObj)) : getH ((k, v) :: l) = updO (getH l) k v := by
  funext i
  show (match Id.beq k i with | true => some v | false => getH l i) = if i = k then some v else getH l i
  cases hb : Id.beq k i with
  | true => rw [if_pos (Id.beq_iff.1 hb).symm]
  | false => rw [if_neg (fun e => Id.beq_false.1 hb e.symm)]
theorem getH_setH (l : List (Id × AObj)) (i : Id) (o : AObj) : getH (setH l i o) = updO (getH l) i o := by
  induction l with
  | nil => exact getH_cons i o []
  | cons x l ih =>
    obtain ⟨k, v⟩ := x
    unfold setH
    cases hb : Id.beq k i with
    | true =>
      have := Id.beq_iff.1 hb
      subst this
      simp only [getH_cons]
      funext j
      simp only [updO]
      split <;> rfl
    | false =>
      have := Id.beq_false.1 hb
      simp only [getH_cons, ih]
      funext j
      simp only [updO]
      by_cases h1 : j = k
      · subst h1; simp [this]
      · simp [h1]
theorem getH_setW (wr : List (Id × AObj)) : ∀ l : List (Id × AObj), getH (setW l wr) = updW (getH l) wr := by
  induction wr with
  | nil => intro l; rfl
  | cons x wr ih =>
    intro l
    show getH (setW (setH l x.1 x.2) wr) = updW (updO (getH l) x.1 x.2) wr
    rw [ih, getH_setH]

def dstOK (nt : Nat) (d : Option Tmp) (K : Prop) : Prop :=
  match d with
  | none => K
  | some d => req (Nat.blt d nt) K
def storeOK (o : Oper) (K : Prop) : Prop :=
  match o.op with
  | .store .. => match o.dst with
    | some _ => False
    | none => K
  | _ => K

def stepOp (M : Mach) (ti : Types) (nt : Nat) (o : Oper) (fresh : Nat) (σ : St) (K : St → Prop) : Prop :=
  storeOK o <| dstOK nt o.dst <| opOut M ti o fresh (getS σ.slots) (getH σ.heap) fun out =>
    K ⟨putS σ.slots o.dst out.val, setW σ.heap out.wr, σ.next⟩

def guarded (ops : Array Oper) (o : Oper) (σ : St) (K1 K0 : St → Prop) : Prop :=
  match o.guard with
  | none => K1 σ
  | some (j, want) => match (ops[j]?).bind (·.dst) with
    | none => False
    | some d => match getS σ.slots d with
      | .v (.d (.bool c)) => match want with
        | true => match c with
          | true => K1 σ
          | false => K0 σ
        | false => match c with
          | true => K0 σ
          | false => K1 σ
      | .t [] => K0 σ
      | _ => False

def execOps (M : Mach) (ti : Types) (nt : Nat) (ops : Array Oper) (base : Nat) : List Oper → Nat → St → (St → Prop) → Prop
  | [], i, σ, K => K ⟨σ.slots, σ.heap, base + 8 * i⟩
  | o :: r, i, σ, K => guarded ops o σ
      (fun σ1 => stepOp M ti nt o (base + 8 * i) σ1 fun σ2 => execOps M ti nt ops base r (i + 1) σ2 K)
      (fun σ1 => dstOK nt o.dst (execOps M ti nt ops base r (i + 1) ⟨putS σ1.slots o.dst (.t []), σ1.heap, σ1.next⟩ K))

inductive AExit where
  | normal
  | exit (id : Nat)
  | ret

def RelSt (C : Cx) (σ : St) (a : Act) (w : World) : Prop := Rel C (fun n => σ.next ≤ n) (getS σ.slots) (getH σ.heap) a w
def Weak (σ σ' : St) : Prop := ∀ C a w, RelSt C σ a w → RelSt C σ' a w

/-- How a region that draws its order is executed (part K): here a parameter. -/
abbrev Draw := Array Oper → St → (St → Prop) → Prop

/-- A loop: what holds at each round's head, and a number that goes down. -/
def loopP (ex : St → (AExit → St → Prop) → Prop) (σ : St) (K : AExit → St → Prop) : Prop :=
  ∃ (I : Nat → St → Prop) (m : Nat), (∃ σ0, Weak σ σ0 ∧ I m σ0) ∧ ∀ n σ1, I n σ1 → ex σ1 fun e σ2 => match e with
    | .normal => ∃ n' σ3, n' < n ∧ Weak σ2 σ3 ∧ I n' σ3
    | .exit id => K (.exit id) σ2
    | .ret => K .ret σ2

def exec (M : Mach) (ti : Types) (nt : Nat) (dr : Draw) : Code → St → (AExit → St → Prop) → Prop
  | .skip, σ, K => K .normal σ
  | .region _ ops draw, σ, K => match draw with
    | false => execOps M ti nt ops σ.next ops.toList 0 σ fun σ' => K .normal σ'
    | true => dr ops σ fun σ' => K .normal σ'
  | .seq a b, σ, K => exec M ti nt dr a σ fun e σ' => match e with
    | .normal => exec M ti nt dr b σ' K
    | .exit id => K (.exit id) σ'
    | .ret => K .ret σ'
  | .cond c a b, σ, K => withB (opd ti (getS σ.slots) 0 c) fun q => match q with
    | true => exec M ti nt dr a σ K
    | false => exec M ti nt dr b σ K
  | .block id c, σ, K => exec M ti nt dr c σ fun e σ' => match e with
    | .normal => K .normal σ'
    | .exit id' => match Nat.beq id' id with
      | true => K .normal σ'
      | false => K (.exit id') σ'
    | .ret => K .ret σ'
  | .loop c, σ, K => M.lock fun _ => loopP (fun σ K => exec M ti nt dr c σ K) σ K
  | .exit id, σ, K => K (.exit id) σ
  | .ret, σ, K => K .ret σ
  | _, _, _ => False

def Qof (C : Cx) (K : AExit → St → Prop) : Exit → Act → World → Prop
  | .normal, a, w => ∃ σ, K .normal σ ∧ RelSt C σ a w
  | .exit id, a, w => ∃ σ, K (.exit id) σ ∧ RelSt C σ a w
  | .ret, a, w => ∃ σ, K .ret σ ∧ RelSt C σ a w
  | _, _, _ => False

theorem Rel.free_mono {C : Cx} {F F' : Nat → Prop} {s : Slots} {h : Heap} {a : Act} {w : World} (R : Rel C F s h a w) (hF : ∀ n, F' n → F n) : Rel C F' s h a w :=
  let ⟨g, r⟩ := R
  ⟨g, r.free_mono hF⟩

section
variable {C : Cx} {ti : Types} {dr : Draw}

theorem dstOK_iff {nt : Nat} {d : Option Tmp} {K : Prop} : dstOK nt d K ↔ (∀ x, d = some x → x < nt) ∧ K := by
  unfold dstOK
  split
  · simp
  · simp [req_iff]
theorem storeOK_iff {o : Oper} {K : Prop} (h : storeOK o K) : (∀ t x y, o.op = .store t x y → o.dst = none) ∧ K := by
  unfold storeOK at h
  split at h
  · split at h
    · exact h.elim
    · rename_i hd
      exact ⟨fun _ _ _ _ => hd, h⟩
  · rename_i hne
    exact ⟨fun t x y e => absurd e (hne t x y), h⟩

/-- The truth of a guard: what the concrete frame yields. -/
theorem yields {F : Nat → Prop} {σ : St} {a : Act} {w : World} {ops : Array Oper} {j d : Nat} {c : Bool} (R : Rel C F (getS σ.slots) (getH σ.heap) a w)
    (hd : (ops[j]?).bind (·.dst) = some d) (hc : getS σ.slots d = .v (.d (.bool c))) : yielded ops a.tmps j = some c := by
  obtain ⟨g, R⟩ := R
  have := R.slots d
  rw [hc] at this
  have hv := relB this
  unfold yielded
  rw [hd]
  have : a.tmps[d]? = some (.bool c) := by
    rw [Array.getD_eq_getD_getElem?] at hv
    cases h : a.tmps[d]? with
    | none => rw [h] at hv; simp [undef] at hv
    | some v => rw [h] at hv; simpa using hv
  simp [this]

/-- What an operation that was passed over yields. -/
theorem yields_none' {ops : Array Oper} {a : Act} {j d : Nat} (hd : (ops[j]?).bind (·.dst) = some d) (h : ∃ vs : Array Value, a.tmps.getD d undef = .tuple vs) : yielded ops a.tmps j = none := by
  obtain ⟨vs, hv⟩ := h
  unfold yielded
  rw [hd]
  rw [Array.getD_eq_getD_getElem?] at hv
  cases h : a.tmps[d]? with
  | none => simp [h]
  | some v =>
    rw [h] at hv
    have hv : v = .tuple vs := by simpa using hv
    subst hv
    simp [h]
theorem yields_none {F : Nat → Prop} {σ : St} {a : Act} {w : World} {ops : Array Oper} {j d : Nat} (R : Rel C F (getS σ.slots) (getH σ.heap) a w)
    (hd : (ops[j]?).bind (·.dst) = some d) (hc : getS σ.slots d = .t []) : yielded ops a.tmps j = none := by
  obtain ⟨g, R⟩ := R
  have := R.slots d
  rw [hc] at this
  obtain ⟨vs, hv, _⟩ := this
  exact yields_none' hd ⟨vs, hv⟩

theorem rel_set_same {F : Nat → Prop} {σ : St} {a : Act} {w : World} {d : Nat} {v : AV} (R : Rel C F (getS σ.slots) (getH σ.heap) a w) (hc : getS σ.slots d = v) :
    Rel C F (getS ((d, v) :: σ.slots)) (getH σ.heap) a w := by
  have : getS ((d, v) :: σ.slots) = getS σ.slots := by
    rw [getS_cons]
    funext t
    split
    · subst t; exact hc.symm
    · rfl
  rw [this]
  exact R

/-- A guard, both ways. -/
theorem guarded_sound {F : Nat → Prop} {σ : St} {a : Act} {w : World} {ops : Array Oper} {o : Oper} {K1 K0 : St → Prop} (R : Rel C F (getS σ.slots) (getH σ.heap) a w)
    (hk : guarded ops o σ K1 K0) : ∃ σ', σ'.heap = σ.heap ∧ Rel C F (getS σ'.slots) (getH σ'.heap) a w ∧
      ((Region.wanted o (yielded ops a.tmps) = true ∧ K1 σ') ∨ (Region.wanted o (yielded ops a.tmps) = false ∧ K0 σ')) := by
  unfold guarded at hk
  split at hk
  · rename_i hg
    exact ⟨σ, rfl, R, .inl ⟨by simp [Region.wanted, hg], hk⟩⟩
  · rename_i j want hg
    split at hk
    · exact hk.elim
    · rename_i d hd
      split at hk
      · rename_i c hc
        have hy := yields R hd hc
        cases want <;> cases c
        · exact ⟨σ, rfl, R, .inl ⟨by simp [Region.wanted, hg, hy], hk⟩⟩
        · exact ⟨σ, rfl, R, .inr ⟨by simp [Region.wanted, hg, hy], hk⟩⟩
        · exact ⟨σ, rfl, R, .inr ⟨by simp [Region.wanted, hg, hy], hk⟩⟩
        · exact ⟨σ, rfl, R, .inl ⟨by simp [Region.wanted, hg, hy], hk⟩⟩
      · rename_i hc
        have hy := yields_none R hd hc
        exact ⟨σ, rfl, R, .inr ⟨by simp [Region.wanted, hg, hy], hk⟩⟩
      · exact hk.elim

theorem execOps_sound (hti : TIok C.P ti) (h1 : TIone ti) {ops : Array Oper} {base : Nat} {K : St → Prop} {Q : Exit → Act → World → Prop}
    (hQ : ∀ σ a w, K σ → RelSt C σ a w → Q .normal a w) : ∀ (l : List Oper) (i : Nat) (σ : St) (a : Act) (w : World), ops.toList.drop i = l →
      execOps C.M ti C.nt ops base l i σ K → Rel C (fun n => base + 8 * i ≤ n) (getS σ.slots) (getH σ.heap) a w → wpOps C.P ops Q (List.range' i l.length) a w
  | [], i, σ, a, w, _, hk, R => hQ _ a w hk R
  | o :: r, i, σ, a, w, hl, hk, R => by
    have hi : ops[i]? = some o := by
      have := congrArg (fun l => l[0]?) hl
      simpa using this
    have hr : ops.toList.drop (i + 1) = r := by
      have := congrArg List.tail hl
      simpa using this
    simp only [List.length_cons, List.range'_succ]
    rw [wpOps_cons]
    unfold wpOp
    rw [hi]
    simp only []
    obtain ⟨σ', hh, R', ⟨hw, hk⟩ | ⟨hw, hk⟩⟩ := guarded_sound R hk
    · rw [if_pos hw]
      obtain ⟨hst, hk⟩ := storeOK_iff hk
      obtain ⟨hd, hk⟩ := dstOK_iff.1 hk
      obtain ⟨out, hk, hok⟩ := opOut_sound hti h1 hst hk
      refine .inl ?_
      refine Oper.wp_mono ?_ (hok _ _ _ a w Q R' (fun _ _ => rfl) (fun _ _ => rfl) (fun k hk => by omega) hd)
      intro a' w' R2
      refine execOps_sound hti h1 hQ r (i + 1) _ a' w' hr hk ?_
      rw [getS_putS, getH_setW]
      exact R2.free_mono (fun n hn => by omega)
    · rw [if_neg (by simp [hw])]
      obtain ⟨hd, hk⟩ := dstOK_iff.1 hk
      refine execOps_sound hti h1 hQ r (i + 1) _ _ w hr hk ?_
      obtain ⟨g, R'⟩ := R'
      rw [getS_putS]
      exact ⟨g, (R'.put hd (v := .t []) ⟨#[], rfl, rfl, by simp⟩).free_mono (fun n hn => by omega)⟩

/-- What a way to execute a region that draws must tell. -/
def DrawOK (C : Cx) (dr : Draw) : Prop := ∀ (id : Nat) (ops : Array Oper) (σ : St) (K : St → Prop) (Q : Exit → Act → World → Prop) (a : Act) (w : World),
  (∀ σ a w, K σ → RelSt C σ a w → Q .normal a w) → dr ops σ K → RelSt C σ a w → (Code.region id ops true).wp C.P Q a w

theorem least {p : Nat → Prop} (h : ∃ n, p n) : ∃ n, p n ∧ ∀ m, p m → n ≤ m := by
  obtain ⟨n, hn⟩ := h
  induction n using Nat.strongRecOn with
  | _ n ih =>
    by_cases hx : ∃ m, m < n ∧ p m
    · obtain ⟨m, hm, hp⟩ := hx
      exact ih m hm hp
    · exact ⟨n, hn, fun m hp => Nat.le_of_not_lt (fun hlt => hx ⟨m, hlt, hp⟩)⟩

theorem exec_sound (hti : TIok C.P ti) (h1 : TIone ti) (hdr : DrawOK C dr) : ∀ (c : Code) (σ : St) (K : AExit → St → Prop) (a : Act) (w : World),
    exec C.M ti C.nt dr c σ K → RelSt C σ a w → c.wp C.P (Qof C K) a w
  | .skip, σ, K, a, w, hk, R => wp_skip ⟨σ, hk, R⟩
  | .region id ops draw, σ, K, a, w, hk, R => by
    cases draw with
    | false =>
      refine wp_region ?_
      have := execOps_sound (Q := Qof C K) hti h1 (fun σ a w hk R => ⟨σ, hk, R⟩) ops.toList 0 σ a w rfl hk (R.free_mono (fun n hn => by omega))
      simpa [List.range_eq_range'] using this
    | true => exact hdr id ops σ _ (Qof C K) a w (fun σ a w hk R => ⟨σ, hk, R⟩) hk R
  | .seq x y, σ, K, a, w, hk, R => by
    refine wp_seq (wp_mono (exec_sound hti h1 hdr x σ _ a w hk R) ?_)
    intro e a' w' hq
    cases e with
    | normal =>
      obtain ⟨σ', hk', R'⟩ := hq
      exact exec_sound hti h1 hdr y σ' K a' w' hk' R'
    | exit id => exact hq
    | ret => exact hq
    | goto l => exact hq
    | panic ch => exact hq
    | outgrown => exact hq
  | .cond c x y, σ, K, a, w, hk, R => by
    obtain ⟨q, hq, hk⟩ := withB_iff.1 hk
    have hc : a.eval c = .bool q := by
      obtain ⟨g, R'⟩ := R
      have := opd_rel ti 0 c R' (s := getS σ.slots) (fun _ _ => rfl)
      rw [hq] at this
      exact relB this
    refine wp_cond hc ?_
    cases q with
    | true => exact exec_sound hti h1 hdr x σ K a w hk R
    | false => exact exec_sound hti h1 hdr y σ K a w hk R
  | .block id c, σ, K, a, w, hk, R => by
    refine wp_block (wp_mono (exec_sound hti h1 hdr c σ _ a w hk R) ?_)
    intro e a' w' hq
    cases e with
    | normal => exact hq
    | exit id' =>
      obtain ⟨σ', hk', R'⟩ := hq
      show if id' = id then Qof C K .normal a' w' else Qof C K (.exit id') a' w'
      revert hk'
      simp only []
      cases hb : Nat.beq id' id with
      | true =>
        intro hk'
        rw [if_pos (Nat.eq_of_beq_eq_true hb)]
        exact ⟨σ', hk', R'⟩
      | false =>
        intro hk'
        rw [if_neg (Nat.ne_of_beq_eq_false hb)]
        exact ⟨σ', hk', R'⟩
    | ret => exact hq
    | goto l => exact hq
    | panic ch => exact hq
    | outgrown => exact hq
  | .loop c, σ, K, a, w, hk, R => by
    obtain ⟨I, m, ⟨σ0, hw, hI⟩, hround⟩ := (C.M.lock_iff _).1 hk
    classical
    let J : Act → World → Prop := fun a w => ∃ n σ, I n σ ∧ RelSt C σ a w
    let μ : Act → World → Nat := fun a w => if h : ∃ n σ, I n σ ∧ RelSt C σ a w then Classical.choose (least h) else 0
    have hμ : ∀ a w n σ, I n σ → RelSt C σ a w → μ a w ≤ n := by
      intro a w n σ hi hr
      have hh : ∃ n σ, I n σ ∧ RelSt C σ a w := ⟨n, σ, hi, hr⟩
      show (if h : ∃ n σ, I n σ ∧ RelSt C σ a w then Classical.choose (least h) else 0) ≤ n
      rw [dif_pos hh]
      exact (Classical.choose_spec (least hh)).2 n ⟨σ, hi, hr⟩
    refine wp_loop J μ ⟨m, σ0, hI, hw _ _ _ R⟩ ?_
    rintro a w ⟨n0, σ1, hi0, hr0⟩
    have hh : ∃ n σ, I n σ ∧ RelSt C σ a w := ⟨n0, σ1, hi0, hr0⟩
    obtain ⟨σ2, hi, hr⟩ := (Classical.choose_spec (least hh)).1
    have hμa : μ a w = Classical.choose (least hh) := dif_pos hh
    refine wp_mono (exec_sound hti h1 hdr c σ2 _ a w (hround _ σ2 hi) hr) ?_
    intro e a' w' hq
    cases e with
    | normal =>
      obtain ⟨σ', ⟨n', σ3, hlt, hwk, hi3⟩, R'⟩ := hq
      exact ⟨⟨n', σ3, hi3, hwk _ _ _ R'⟩, by
        have := hμ a' w' n' σ3 hi3 (hwk _ _ _ R')
        omega⟩
    | exit id => exact hq
    | ret => exact hq
    | goto l => exact hq
    | panic ch => exact hq
    | outgrown => exact hq
  | .exit id, σ, K, a, w, hk, R => wp_exit ⟨σ, hk, R⟩
  | .ret, σ, K, a, w, hk, R => wp_ret ⟨σ, hk, R⟩
  | .rangeFunc .., _, _, _, _, hk, _ => hk.elim
  | .scope _, _, _, _, _, hk, _ => hk.elim
  | .label _, _, _, _, _, hk, _ => hk.elim
  | .goto _, _, _, _, _, hk, _ => hk.elim
  | .refuse _, _, _, _, _, hk, _ => hk.elim
end
end Go.AM

/- The abstract machine, part K: a contract from the executor; states made smaller. No condition. -/
namespace Go.AM
open Go Go.RowKit

/-! ### A state made smaller: slots, objects forgotten; numbers of objects taken back -/
def idB (n : Nat) : Id → Bool
  | .loc k => Nat.blt k n
  | .ext _ => true
def allB {α : Type} (p : α → Bool) : List α → Bool
  | [] => true
  | x :: r => match p x with
    | true => allB p r
    | false => false
def cvB (n : Nat) : CV → Bool
  | .ptr i _ => idB n i
  | .fn _ cap => allB (idB n) cap
  | .lst i _ _ _ => idB n i
  | .map i => idB n i
  | _ => true
def v1B (n : Nat) : V1 → Bool
  | .d _ => true
  | .c x => cvB n x
  | .agg cs => allB (cvB n) cs
def avB (n : Nat) : AV → Bool
  | .u => true
  | .v x => v1B n x
  | .t xs => allB (v1B n) xs
def objB (n : Nat) : AObj → Bool
  | .cells cs => allB (cvB n) cs
  | .tok .. => true
  | .map _ _ es => allB (fun e => v1B n e.2) es

theorem allB_iff {α : Type} {p : α → Bool} {l : List α} : allB p l = true ↔ ∀ x ∈ l, p x = true := by
  induction l with
  | nil => simp [allB]
  | cons x l ih =>
    unfold allB
    cases h : p x <;> simp [h, ih]

theorem map_same {α : Type} {f : α → α} {l : List α} (h : ∀ x ∈ l, f x = x) : l.map f = l := by
  induction l with
  | nil => rfl
  | cons x l ih => simp [h x (by simp), ih (fun y hy => h y (by simp [hy]))]

section
variable {n N : Nat}
def low (n N : Nat) : Id → Id
  | .loc k => if k < n then .loc k else .loc N
  | .ext j => .ext j
theorem low_id {i : Id} (h : idB n i = true) : low n N i = i := by
  cases i with
  | ext j => rfl
  | loc k =>
    have : k < n := by simpa [idB] using h
    simp [low, this]
theorem low_cv {c : CV} (h : cvB n c = true) : c.ren (low n N) = c := by
  cases c <;> simp only [CV.ren, cvB] at h ⊢
  · rw [low_id h]
  · congr 1
    rw [allB_iff] at h
    exact map_same fun i hi => low_id (h i hi)
  · rw [low_id h]
  · rw [low_id h]
theorem low_v1 {c : V1} (h : v1B n c = true) : c.ren (low n N) = c := by
  cases c <;> simp only [V1.ren, v1B] at h ⊢
  · rw [low_cv h]
  · congr 1
    rw [allB_iff] at h
    exact map_same fun i hi => low_cv (h i hi)
theorem low_av {c : AV} (h : avB n c = true) : c.ren (low n N) = c := by
  cases c <;> simp only [AV.ren, avB] at h ⊢
  · rw [low_v1 h]
  · congr 1
    rw [allB_iff] at h
    exact map_same fun i hi => low_v1 (h i hi)
theorem low_obj {c : AObj} (h : objB n c = true) : c.ren (low n N) = c := by
  cases c <;> simp only [AObj.ren, objB] at h ⊢
  · congr 1
    rw [allB_iff] at h
    exact map_same fun i hi => low_cv (h i hi)
  · congr 1
    rw [allB_iff] at h
    exact map_same fun i hi => by rw [low_v1 (h i hi)]
end

/-- σ' holds a part of what σ holds, and no object from its own 'next' on. -/
def Part (σ σ' : St) : Prop :=
  (∀ t, getS σ'.slots t = .u ∨ getS σ'.slots t = getS σ.slots t) ∧ (∀ i o, getH σ'.heap i = some o → getH σ.heap i = some o) ∧
  (∀ t, avB σ'.next (getS σ'.slots t) = true) ∧ (∀ i o, getH σ'.heap i = some o → idB σ'.next i = true ∧ objB σ'.next o = true)

theorem weak_part {σ σ' : St} (h : Part σ σ') : Weak σ σ' := by
  obtain ⟨hs, hh, hb, ho⟩ := h
  rintro C a w ⟨g, R⟩
  let N := max σ.next σ'.next
  let r := low σ'.next N
  let g' : Ghost := fun i => g (r i)
  have hN := R.free N (Nat.le_max_left _ _)
  have hz : ∀ b o, zone g' (getH σ'.heap) b o → zone g (getH σ.heap) b o := by
    rintro b o ⟨i, ob, hi, h1⟩
    refine ⟨i, ob, hh i ob hi, ?_⟩
    have : g' i = g i := by show g (low _ _ i) = g i; rw [low_id (ho i ob hi).1]
    rw [← this]; exact h1
  have hzz : ∀ b o, zor (zone g' (getH σ'.heap)) C.X b o → zor (zone g (getH σ.heap)) C.X b o := fun b o hx => hx.imp (hz b o) id
  have ht : ∀ i n sz e, getH σ'.heap i = some (.tok n sz e) → getH σ.heap (r i) = some (.tok n sz e) := by
    intro i n sz e hi
    rw [show r i = i from low_id (ho i _ hi).1]
    exact hh i _ hi
  refine ⟨g', R.size, R.defers, fun t => ?_, ⟨fun i o hi => ?_, fun i j oi oj b hi hj bi bj => ?_, fun i oi b o hi bi => ?_⟩, R.frame, fun j => R.ext j, fun n o b hn hb' => ?_, fun j ob b o hj hz' => ?_, R.xs, fun n hn => ⟨?_, ?_⟩⟩
  · rcases hs t with e | e
    · rw [e]; trivial
    · have := R.slots t
      rw [← e, ← low_av (N := N) (hb t)] at this
      exact RelAV.pull (r := r) hzz (fun _ => rfl) ht this
  · have h1 := R.heap.objs i o (hh i o hi)
    rw [← low_obj (N := N) (ho i o hi).2] at h1
    have := RelObj.pull (r := r) (g' := g') hzz (fun _ => rfl) ht h1
    rw [show g' i = g i from by show g (low _ _ i) = g i; rw [low_id (ho i o hi).1]]
    exact this
  · have e1 : g' i = g i := by show g (low _ _ i) = g i; rw [low_id (ho i oi hi).1]
    have e2 : g' j = g j := by show g (low _ _ j) = g j; rw [low_id (ho j oj hj).1]
    rw [e1] at bi
    rw [e2] at bj
    exact R.heap.sep i j oi oj b (hh i oi hi) (hh j oj hj) bi bj
  · have e1 : g' i = g i := by show g (low _ _ i) = g i; rw [low_id (ho i oi hi).1]
    rw [e1] at bi
    exact R.heap.apart i oi b o (hh i oi hi) bi
  · have e1 : g' (.loc n) = g (.loc n) := by show g (low _ _ _) = _; rw [low_id (ho _ o hn).1]
    rw [e1] at hb'
    exact R.own n o b (hh _ o hn) hb'
  · exact R.outer j ob b o (hh _ ob hj) hz'
  · have : ¬ n < σ'.next := by omega
    show g (low _ _ (.loc n)) = undef
    simp only [low, if_neg this]
    exact hN.1
  · cases hc : getH σ'.heap (.loc n) with
    | none => rfl
    | some o =>
      have := (ho _ o hc).1
      simp [idB] at this
      omega

/-- The same, reckoned: keep these slots, these objects, number on from n. -/
def keepS (l : List (Nat × AV)) : List Nat → List (Nat × AV)
  | [] => []
  | k :: ks => (k, getS l k) :: keepS l ks
def keepH (l : List (Id × AObj)) : List Id → Option (List (Id × AObj))
  | [] => some []
  | i :: is => match getH l i with
    | some o => match keepH l is with
      | some r => some ((i, o) :: r)
      | none => none
    | none => none
def keep (ks : List Nat) (is : List Id) (n : Nat) (σ : St) (K : St → Prop) : Prop :=
  match keepH σ.heap is with
  | none => False
  | some hp => req (allB (fun x => avB n x.2) (keepS σ.slots ks)) <| req (allB (fun x : Id × AObj => match idB n x.1 with | true => objB n x.2 | false => false) hp) <|
      K ⟨keepS σ.slots ks, hp, n⟩

theorem keepS_get {l : List (Nat × AV)} {ks : List Nat} (t : Nat) : getS (keepS l ks) t = .u ∨ getS (keepS l ks) t = getS l t := by
  induction ks with
  | nil => exact .inl rfl
  | cons k ks ih =>
    show getS ((k, getS l k) :: keepS l ks) t = _ ∨ getS ((k, getS l k) :: keepS l ks) t = _
    rw [getS_cons]
    simp only []
    split
    · subst t; exact .inr rfl
    · exact ih
theorem getS_all {p : AV → Bool} (hu : p .u = true) {l : List (Nat × AV)} (h : allB (fun x => p x.2) l = true) (t : Nat) : p (getS l t) = true := by
  induction l with
  | nil => exact hu
  | cons x l ih =>
    obtain ⟨k, v⟩ := x
    rw [allB_iff] at h
    rw [getS_cons]
    simp only []
    split
    · exact h (k, v) (by simp)
    · exact ih (allB_iff.2 fun x hx => h x (by simp [hx]))
theorem keepH_get {l : List (Id × AObj)} : ∀ {is : List Id} {r : List (Id × AObj)}, keepH l is = some r → ∀ i o, getH r i = some o → getH l i = some o ∧ (i, o) ∈ r
  | [], r, h, i, o, hi => by simp [keepH] at h; subst h; simp [getH] at hi
  | j :: is, r, h, i, o, hi => by
    unfold keepH at h
    split at h
    · rename_i o' ho
      split at h
      · rename_i r' hr
        simp at h
        subst h
        rw [getH_cons] at hi
        simp only [updO] at hi
        split at hi
        · simp at hi
          subst hi
          subst i
          exact ⟨ho, by simp⟩
        · obtain ⟨h1, h2⟩ := keepH_get hr i o hi
          exact ⟨h1, by simp [h2]⟩
      · simp at h
    · simp at h

theorem keep_weak {ks : List Nat} {is : List Id} {n : Nat} {σ : St} {K : St → Prop} (h : keep ks is n σ K) : ∃ σ', Weak σ σ' ∧ K σ' := by
  unfold keep at h
  split at h
  · exact h.elim
  · rename_i hp hhp
    obtain ⟨h1, h⟩ := req_iff.1 h
    obtain ⟨h2, h⟩ := req_iff.1 h
    refine ⟨_, weak_part ⟨fun t => keepS_get t, fun i o hi => (keepH_get hhp i o hi).1, fun t => getS_all rfl h1 t, fun i o hi => ?_⟩, h⟩
    have := allB_iff.1 h2 _ (keepH_get hhp i o hi).2
    simp only [] at this
    split at this
    · rename_i hb; exact ⟨hb, this⟩
    · simp at this

/-! ### A contract from the executor -/
def slotsOf : List V1 → Nat → List (Nat × AV)
  | [], _ => []
  | x :: r, i => (i, .v x) :: slotsOf r (i + 1)
def extsOf : List AObj → Nat → List (Id × AObj)
  | [], _ => []
  | x :: r, i => (.ext i, x) :: extsOf r (i + 1)

theorem slotsOf_get : ∀ (l : List V1) (i t : Nat), getS (slotsOf l i) t = .u ∨ ∃ x, i ≤ t ∧ l[t - i]? = some x ∧ getS (slotsOf l i) t = .v x
  | [], i, t => .inl rfl
  | x :: r, i, t => by
    show getS ((i, .v x) :: slotsOf r (i + 1)) t = _ ∨ ∃ y, i ≤ t ∧ (x :: r)[t - i]? = some y ∧ getS ((i, .v x) :: slotsOf r (i + 1)) t = .v y
    rw [getS_cons]
    simp only []
    split
    · subst t; exact .inr ⟨x, Nat.le_refl _, by simp, rfl⟩
    · rcases slotsOf_get r (i + 1) t with h | ⟨y, h1, h2, h3⟩
      · exact .inl h
      · refine .inr ⟨y, by omega, ?_, h3⟩
        rw [show t - i = (t - (i + 1)) + 1 from by omega]
        simpa using h2
theorem extsOf_get : ∀ (l : List AObj) (i : Nat) (x : Id) (o : AObj), getH (extsOf l i) x = some o → ∃ j, x = .ext j ∧ i ≤ j ∧ l[j - i]? = some o
  | [], i, x, o, h => by simp [extsOf, getH] at h
  | y :: r, i, x, o, h => by
    rw [show extsOf (y :: r) i = (.ext i, y) :: extsOf r (i + 1) from rfl, getH_cons] at h
    simp only [updO] at h
    split at h
    · simp at h; subst h; subst x; exact ⟨i, rfl, Nat.le_refl _, by simp⟩
    · obtain ⟨j, h1, h2, h3⟩ := extsOf_get r (i + 1) x o h
      refine ⟨j, h1, by omega, ?_⟩
      rw [show j - i = (j - (i + 1)) + 1 from by omega]
      simpa using h3
theorem extsOf_ext : ∀ (l : List AObj) (i j : Nat), getH (extsOf l i) (.ext (i + j)) = l[j]?
  | [], i, j => by simp [extsOf, getH]
  | y :: r, i, j => by
    rw [show extsOf (y :: r) i = (.ext i, y) :: extsOf r (i + 1) from rfl, getH_cons]
    simp only [updO]
    cases j with
    | zero => simp
    | succ j =>
      rw [if_neg (by simp), show i + (j + 1) = i + 1 + j from by omega, extsOf_ext r (i + 1) j]
      simp

/-- What the results are. -/
def withRes (ti : Types) (σ : St) : List ResultVar → (List V1 → Prop) → Prop
  | [], K => K []
  | .tmp t :: r, K => withV (getS σ.slots t) fun x => withRes ti σ r fun xs => K (x.norm :: xs)
  | .cell a t :: r, K => outLoad ti t (getS σ.slots a) (getH σ.heap) fun out => withV out.val fun x => withRes ti σ r fun xs => K (x.norm :: xs)

def mkRes : List V1 → AV
  | [x] => .v x
  | xs => .t xs

def renN (nm : List Nat) (N : Nat) : Id → Id
  | .ext j => .ext j
  | .loc k => match nm[k]? with
    | some n => .loc n
    | none => .loc N

def postOK (h : Heap) (r : Id → Id) : List AObj → Nat → Prop
  | [], _ => True
  | o :: l, j => h (.ext j) = some (o.ren r) ∧ postOK h r l (j + 1)
def newOK (h : Heap) (r : Id → Id) : List AObj → List Nat → Prop
  | [], [] => True
  | o :: l, n :: nm => h (.loc n) = some (o.ren r) ∧ newOK h r l nm
  | _, _ => False

def Fin' (ti : Types) (rs : List ResultVar) (σ : St) (res : AV) (post new : List AObj) : Prop :=
  withRes ti σ rs fun xs => ∃ nm : List Nat, nm.Nodup ∧ mkRes xs = res.ren (renN nm σ.next) ∧ postOK (getH σ.heap) (renN nm σ.next) post 0 ∧ newOK (getH σ.heap) (renN nm σ.next) new nm

theorem postOK_get {h : Heap} {r : Id → Id} : ∀ {l : List AObj} {i j : Nat} {o : AObj}, postOK h r l i → l[j]? = some o → h (.ext (i + j)) = some (o.ren r)
  | o :: l, i, 0, _, hp, hj => by simp at hj; subst hj; exact hp.1
  | o :: l, i, j + 1, _, hp, hj => by
    simp at hj
    have := postOK_get (j := j) hp.2 hj
    rw [show i + (j + 1) = i + 1 + j from by omega]
    exact this
theorem newOK_get {h : Heap} {r : Id → Id} : ∀ {l : List AObj} {nm : List Nat} {j : Nat} {o : AObj}, newOK h r l nm → l[j]? = some o → ∃ n, nm[j]? = some n ∧ h (.loc n) = some (o.ren r)
  | o :: l, n :: nm, 0, _, hp, hj => by simp at hj; subst hj; exact ⟨n, rfl, hp.1⟩
  | o :: l, n :: nm, j + 1, _, hp, hj => by
    simp at hj
    obtain ⟨m, h1, h2⟩ := newOK_get (j := j) hp.2 hj
    exact ⟨m, by simpa using h1, h2⟩
  | [], [], j, _, _, hj => by simp at hj
  | [], _ :: _, _, _, hp, _ => hp.elim
  | _ :: _, [], _, _, hp, _ => hp.elim
theorem newOK_len {h : Heap} {r : Id → Id} : ∀ {l : List AObj} {nm : List Nat}, newOK h r l nm → nm.length = l.length
  | o :: l, n :: nm, hp => by simp [newOK_len hp.2]
  | [], [], _ => rfl
  | [], _ :: _, hp => hp.elim
  | _ :: _, [], hp => hp.elim

section
variable {C : Cx} {ti : Types} {σ : St} {g : Ghost} {a : Act} {w : World} {F : Nat → Prop}

/-- One load, whatever the operation: the place's value. -/
theorem loadVal (hti : TIok C.P ti) (h1 : TIone ti) (R : RelS C F (getS σ.slots) (getH σ.heap) g a w) {p : Tmp} {t : TypeId} {k : Out → Prop}
    (hk : outLoad ti t (getS σ.slots p) (getH σ.heap) k) : ∃ out v ad, k out ∧ a.tmps.getD p undef = .pointer (some ad) ∧ (loadVar t ad).run C.P w = .ok v w ∧ RelAV w (zor (zone g (getH σ.heap)) C.X) g (getH σ.heap) out.val v := by
  obtain ⟨out, hko, _, H⟩ := load_core (C := C) hti h1 t _ hk
  obtain ⟨v, hv, hr⟩ := H F _ _ g a w _ R (R.slots p) (fun _ _ => rfl)
  refine ⟨out, v, ?_⟩
  revert hv
  generalize a.tmps.getD p undef = u
  intro hv
  cases u with
  | pointer ad =>
    cases ad with
    | none => simp [Instr.loadAt, Instr.sureAddr] at hv
    | some ad => exact ⟨ad, hko, rfl, by simpa [Instr.loadAt, Instr.sureAddr] using hv, hr⟩
  | _ => simp [Instr.loadAt, Instr.sureAddr] at hv

def oneRes (tmps : Array Value) : ResultVar → Sem Value
  | .tmp t => pure (tmps.getD t undef)
  | .cell a t => do loadVar t (← asAddr (tmps.getD a undef))

theorem withRes_sound (hti : TIok C.P ti) (h1 : TIone ti) (R : RelS C F (getS σ.slots) (getH σ.heap) g a w) : ∀ (rs : List ResultVar) (K : List V1 → Prop), withRes ti σ rs K →
    ∃ xs vs, K xs ∧ (rs.mapM (oneRes a.tmps)).run C.P w = .ok vs w ∧ vs.length = xs.length ∧ ∀ (j : Nat) x v, xs[j]? = some x → vs[j]? = some v → RelV1 w (zor (zone g (getH σ.heap)) C.X) g (getH σ.heap) x v
  | [], K, hk => ⟨[], [], hk, rfl, rfl, by simp⟩
  | .tmp t :: r, K, hk => by
    obtain ⟨y, hy, hk⟩ := withV_iff.1 hk
    obtain ⟨xs, vs, h2, h3, h4, h5⟩ := withRes_sound hti h1 R r _ hk
    refine ⟨y.norm :: xs, a.tmps.getD t undef :: vs, h2, by simp [List.mapM_cons, oneRes, h3], by simp [h4], fun j x v hx hv => ?_⟩
    match j with
    | 0 =>
      simp only [List.getElem?_cons_zero, Option.some.injEq] at hx hv
      subst hx; subst hv
      have := R.slots t
      rw [hy] at this
      exact RelV1.norm this
    | j + 1 => simp at hx hv; exact h5 j x v hx hv
  | .cell p t :: r, K, hk => by
    obtain ⟨out, v0, ad, hk, hp, hl, hr⟩ := loadVal hti h1 R hk
    obtain ⟨y, hy, hk⟩ := withV_iff.1 hk
    obtain ⟨xs, vs, h2, h3, h4, h5⟩ := withRes_sound hti h1 R r _ hk
    refine ⟨y.norm :: xs, v0 :: vs, h2, by simp only [List.mapM_cons, oneRes, hp, asAddr]; simp [hl, h3], by simp [h4], fun j x v hx hv => ?_⟩
    match j with
    | 0 =>
      simp only [List.getElem?_cons_zero, Option.some.injEq] at hx hv
      subst hx; subst hv
      rw [hy] at hr
      exact RelV1.norm hr
    | j + 1 => simp at hx hv; exact h5 j x v hx hv

theorem results_run {fn : Func} {vs : List Value} (h : (fn.results.toList.mapM (oneRes a.tmps)).run C.P w = .ok vs w) :
    (results fn a.tmps).run C.P w = .ok (if h : vs.toArray.size = 1 then vs.toArray[0] else .tuple vs.toArray) w := by
  have e : results fn a.tmps = (do let vs ← fn.results.mapM (oneRes a.tmps); pure (if h : vs.size = 1 then vs[0] else .tuple vs)) := by
    unfold results
    congr 1
  rw [e, Array.mapM_eq_mapM_toList, Sem.run_bind, Sem.run_map, h]
  rfl

end

def Mach.of (P : Program) : Mach where
  P := P
  split := fun c A => A c
  split_iff := fun _ _ => Iff.rfl
  lock := fun p => p ()
  lock_iff := fun _ => Iff.rfl
  eqI := fun a b => a == b
  eqI_eq := fun _ _ => rfl
  ltI := fun a b => decide (a < b)
  ltI_eq := fun _ _ => rfl
  leI := fun a b => decide (a ≤ b)
  leI_eq := fun _ _ => rfl
  eqS := fun a b => a.toList == b.toList
  eqS_eq := fun _ _ => rfl
  ltS := fun a b => Op.bytesLess a.toList b.toList
  ltS_eq := fun _ _ => rfl
  lenI := fun l => l.length
  lenI_eq := fun _ => rfl
  szI := fun s => s.size
  szI_eq := fun _ => rfl

/-- The contract out of the executor. -/
theorem Trip.intro {P : Program} {ti : Types} (dr : Mach → Nat → Draw) (hti : TIok P ti) (h1 : TIone ti) (hdr : ∀ C : Cx, C.P = P → DrawOK C (dr C.M C.nt)) {f : FuncId} {fn : Func} {c : Code} (hf : P.funcs[f]? = some fn) (hb : fn.body = some c)
    (hname : (fn.name == "runtime.NumGoroutine") = false) {args : List V1} {pre post new : List AObj} {res : AV} (hargs : args.length ≤ fn.ntmps)
    (hx : ∀ M : Mach, M.P = P → exec M ti fn.ntmps (dr M fn.ntmps) c ⟨slotsOf args 0, extsOf pre 0, 0⟩ fun e σ => match e with
      | .exit _ => False
      | .normal => Fin' ti fn.results.toList σ res post new
      | .ret => Fin' ti fn.results.toList σ res post new) : Trip P f args pre res post new := by
  refine ⟨⟨fn, c, hf, hb, hname⟩, ?_⟩
  intro w X g vals hX RH hg hsz hargs'
  let C : Cx := ⟨Mach.of P, fn.ntmps, w, zone g (heapOf pre), X, g⟩
  have hh : getH (extsOf pre 0) = heapOf pre := by
    funext i
    cases i with
    | ext j => have := extsOf_ext pre 0 j; rw [Nat.zero_add] at this; exact this
    | loc n =>
      cases hc : getH (extsOf pre 0) (.loc n) with
      | none => rfl
      | some o => obtain ⟨j, e, _⟩ := extsOf_get pre 0 _ o hc; simp at e
  have R0 : RelS C (fun n => 0 ≤ n) (getS (slotsOf args 0)) (getH (extsOf pre 0)) g { tmps := vals ++ Array.replicate (fn.ntmps - vals.size) undef, defers := [] } w := by
    rw [hh]
    refine ⟨by simp [C]; omega, rfl, fun t => ?_, RH, Frame'.refl _ _, fun _ => rfl, fun n o b hn => by simp [heapOf] at hn, fun j ob b o hj hz => ⟨_, _, hj, hz⟩, hX, fun n _ => ⟨hg n, rfl⟩⟩
    rcases slotsOf_get args 0 t with h | ⟨x, _, h2, h3⟩
    · rw [h]; trivial
    · rw [h3]
      simp only [Nat.sub_zero] at h2
      have hlt : t < vals.size := by rw [hsz]; exact (List.getElem?_eq_some_iff.1 h2).1
      have : (vals ++ Array.replicate (fn.ntmps - vals.size) undef).getD t undef = vals[t] := by
        simp [Array.getElem?_append, hlt]
      show RelV1 w _ g _ x ((vals ++ Array.replicate (fn.ntmps - vals.size) undef).getD t undef)
      rw [this]
      exact hargs' t x _ h2 (by simp [hlt])
  refine calls_of_wp hf hb (wp_mono (exec_sound (C := C) hti h1 (hdr C rfl) c _ _ _ w (hx (Mach.of P) rfl) ⟨g, R0⟩) ?_)
  have fin : ∀ (σ : St) (a' : Act) (w' : World), Fin' ti fn.results.toList σ res post new → RelSt C σ a' w' →
      a'.defers = [] ∧ ∃ v, (results fn a'.tmps).run P w' = .ok v w' ∧ ∃ v' g', Ending.returned v = .returned v' ∧ CallPost w X g pre res post new v' w' g' := by
    rintro σ a' w' hfin ⟨g2, R2⟩
    obtain ⟨xs, vs, ⟨nm, hnd, hres, hpost, hnewo⟩, hrun, hlen, hrel⟩ := withRes_sound (C := C) hti h1 R2 _ _ hfin
    refine ⟨R2.defers, _, results_run (C := C) hrun, _, fun i => g2 (renN nm σ.next i), rfl, ?_⟩
    have hz : ∀ b o, zor (zone (fun i => g2 (renN nm σ.next i)) (heapOf2 post new)) X b o → zor (zone g2 (getH σ.heap)) X b o := by
      rintro b o (⟨i, ob, hi, h1⟩ | hx)
      · cases i with
        | ext j => exact .inl ⟨.ext j, _, by simpa using postOK_get hpost hi, zone1_ren.2 h1⟩
        | loc k =>
          obtain ⟨n, hn, ho⟩ := newOK_get hnewo hi
          refine .inl ⟨.loc n, _, ho, zone1_ren.2 ?_⟩
          simpa [renN, hn] using h1
      · exact .inr hx
    have live : ∀ i o, heapOf2 post new i = some o → getH σ.heap (renN nm σ.next i) = some (o.ren (renN nm σ.next)) := by
      intro i o hi
      cases i with
      | ext j => have := postOK_get hpost hi; rw [Nat.zero_add] at this; exact this
      | loc k =>
        obtain ⟨n, hn, ho⟩ := newOK_get hnewo hi
        simpa [renN, hn] using ho
    have ht : ∀ i n sz e, heapOf2 post new i = some (.tok n sz e) → getH σ.heap (renN nm σ.next i) = some (.tok n sz e) := fun i n sz e hi => live i _ hi
    have hN := R2.free σ.next (Nat.le_refl _)
    refine ⟨⟨fun i o hi => ?_, fun i j oi oj b hi hj bi bj => ?_, fun i oi b o hi bi => R2.heap.apart _ _ b o (live i oi hi) bi⟩, ?_, R2.frame, fun j => R2.ext j, fun k b hb => ?_, fun k hk => ?_⟩
    · exact RelObj.pull (r := renN nm σ.next) hz (fun _ => rfl) ht (R2.heap.objs _ _ (live i o hi))
    · have e := R2.heap.sep _ _ _ _ b (live i oi hi) (live j oj hj) bi bj
      cases i with
      | ext i =>
        cases j with
        | ext j => simpa [renN] using e
        | loc k =>
          obtain ⟨n, hn, _⟩ := newOK_get hnewo hj
          simp [renN, hn] at e
      | loc k =>
        obtain ⟨n, hn, _⟩ := newOK_get hnewo hi
        cases j with
        | ext j => simp [renN, hn] at e
        | loc k' =>
          obtain ⟨n', hn', _⟩ := newOK_get hnewo hj
          simp only [renN, hn, hn', Id.loc.injEq] at e
          subst e
          rw [(List.getElem?_inj (List.getElem?_eq_some_iff.1 hn).1 hnd).1 (hn.trans hn'.symm)]
    · refine RelAV.pull (r := renN nm σ.next) (g := g2) (h := getH σ.heap) hz (fun _ => rfl) ht ?_
      rw [← hres]
      have other : xs.length ≠ 1 → RelAV w' (zor (zone g2 (getH σ.heap)) X) g2 (getH σ.heap) (.t xs) (.tuple vs.toArray) := fun _ =>
        ⟨vs.toArray, rfl, by simpa using hlen, fun j x v hx hv => hrel j x v hx (by simpa using hv)⟩
      match xs, vs, hlen, hrel, other with
      | [x], [v], _, hrel, _ => exact hrel 0 x v rfl rfl
      | [], [], _, _, other => exact other (by simp)
      | x :: y :: xs, v :: u :: vs, hl, _, other =>
        have : ¬ (v :: u :: vs).toArray.size = 1 := by simp
        simp only [dif_neg this]
        exact other (by simp)
    · revert hb
      show blk (g2 (renN nm σ.next (.loc k))) = some b → _
      cases hn : nm[k]? with
      | none => simp only [renN, hn]; rw [hN.1]; simp [undef, blk]
      | some n =>
        simp only [renN, hn]
        intro hb
        have hlt : k < new.length := by rw [← newOK_len hnewo]; exact (List.getElem?_eq_some_iff.1 hn).1
        obtain ⟨n', hn', ho⟩ := newOK_get (j := k) (o := new[k]) hnewo (by simp [hlt])
        rw [hn] at hn'
        obtain rfl : n = n' := by simpa using hn'
        exact R2.own n _ b ho hb
    · show g2 (renN nm σ.next (.loc k)) = undef
      have : nm[k]? = none := by simp [newOK_len hnewo]; omega
      simp only [renN, this]
      exact hN.1
  intro e a' w' hq
  cases e with
  | normal => obtain ⟨σ, hf', hr⟩ := hq; exact fin σ a' w' hf' hr
  | ret => obtain ⟨σ, hf', hr⟩ := hq; exact fin σ a' w' hf' hr
  | exit id => obtain ⟨σ, hf', hr⟩ := hq; exact hf'.elim
  | goto l => exact hq.elim
  | panic ch => exact hq.elim
  | outgrown => exact hq.elim
end Go.AM

/- The abstract machine, part L: tables of types. No condition. -/
namespace Go.AM
open Go Go.RowKit

def zrelB : CV → Value → Bool
  | .d (.int k n), .int k' m => decide (k = k') && decide (n = m)
  | .d (.bool b), .bool b' => b == b'
  | .d (.str s), .string s' => s.data.toList.isEmpty && s'.data.toList.isEmpty
  | .nils _ _, .slice none 0 0 => true
  | .nilp, .pointer none => true
  | .nilf, .nilFunc => true
  | .nilm, .map none => true
  | _, _ => false
def zrels : List CV → List Value → Bool
  | [], [] => true
  | c :: cs, v :: vs => zrelB c v && zrels cs vs
  | _, _ => false

def Good (P : Program) (t : TypeId) (x : TI) : Prop :=
  P.underlying t = some x.desc ∧ (P.info? t).map (fun i => (i.size, i.bytes, i.zero)) = some (x.size, x.bytes, some x.zero) ∧
  (zrels x.zc x.zero.cells.toList && (Nat.beq x.zc.length x.size && (rowD x.desc || Nat.beq x.size 1))) = true

def allGood (P : Program) : List (Nat × TI) → Prop
  | [] => True
  | p :: l => Good P p.1 p.2 ∧ allGood P l
def allGoods (P : Program) : List (List (Nat × TI)) → Prop
  | [] => True
  | p :: l => allGood P p ∧ allGoods P l

def assoc : List (Nat × TI) → Nat → Option TI
  | [], _ => none
  | (k, x) :: l, t => match Nat.beq k t with
    | true => some x
    | false => assoc l t
def nth {α : Type} : List (List α) → Nat → List α
  | [], _ => []
  | x :: l, n => match n with
    | 0 => x
    | n + 1 => nth l n
def tabOf (l : List (List (Nat × TI))) : Types := fun t => assoc (nth l (t / 16)) t

theorem zrelB_ok {c : CV} {v : Value} (h : zrelB c v = true) : ZRel c v := by
  unfold zrelB at h
  split at h
  · simp at h; exact h
  · simpa [ZRel] using h
  · simp only [Bool.and_eq_true, List.isEmpty_iff] at h
    have e : ∀ s : ByteArray, s.data.toList = [] → s = ByteArray.empty := by
      intro s hs
      apply ByteArray.ext
      apply Array.ext'
      rw [hs]; rfl
    rw [e _ h.1, e _ h.2]; rfl
  · trivial
  · trivial
  · trivial
  · trivial
  · simp at h
theorem zrels_ok : ∀ {cs : List CV} {vs : List Value}, zrels cs vs = true → vs.length = cs.length ∧ ∀ (j : Nat) c u, cs[j]? = some c → vs[j]? = some u → ZRel c u
  | [], [], _ => ⟨rfl, by simp⟩
  | c :: cs, v :: vs, h => by
    simp only [zrels, Bool.and_eq_true] at h
    obtain ⟨h1, h2⟩ := zrels_ok h.2
    refine ⟨by simp [h1], fun j c' u hc hu => ?_⟩
    match j with
    | 0 => simp at hc hu; subst hc; subst hu; exact zrelB_ok h.1
    | j + 1 => simp at hc hu; exact h2 j c' u hc hu
  | [], _ :: _, h => by simp [zrels] at h
  | _ :: _, [], h => by simp [zrels] at h

theorem assoc_good {P : Program} : ∀ {l : List (Nat × TI)} {t : Nat} {x : TI}, allGood P l → assoc l t = some x → Good P t x
  | [], t, x, _, h => by simp [assoc] at h
  | (k, y) :: l, t, x, hg, h => by
    unfold assoc at h
    split at h
    · rename_i hb
      simp at h
      subst h
      have := Nat.eq_of_beq_eq_true hb
      subst this
      exact hg.1
    · exact assoc_good hg.2 h
theorem nth_good {P : Program} : ∀ {l : List (List (Nat × TI))} {n : Nat}, allGoods P l → allGood P (nth l n)
  | [], _, _ => trivial
  | x :: l, 0, h => h.1
  | x :: l, n + 1, h => nth_good (l := l) (n := n) h.2
theorem tabOf_good {P : Program} {l : List (List (Nat × TI))} (h : allGoods P l) {t : Nat} {x : TI} (hx : tabOf l t = some x) : Good P t x := assoc_good (nth_good h) hx

theorem tabOf_ok {P : Program} {l : List (List (Nat × TI))} (h : allGoods P l) : TIok P (tabOf l) := by
  intro t x hx
  obtain ⟨h1, h2, h3⟩ := tabOf_good h hx
  refine ⟨h1, ?_⟩
  simp only [Option.map_eq_some_iff] at h2
  obtain ⟨i, hi, he⟩ := h2
  simp only [Prod.mk.injEq] at he
  simp only [Bool.and_eq_true, Nat.beq_eq] at h3
  obtain ⟨z1, z2⟩ := zrels_ok h3.1
  refine ⟨i, hi, he.1, he.2.1, he.2.2, ?_, h3.2.1, fun j c u hc hu => z2 j c u hc (by simpa using hu)⟩
  rw [← h3.2.1, ← z1]
  simp
theorem tabOf_one {P : Program} {l : List (List (Nat × TI))} (h : allGoods P l) : TIone (tabOf l) := by
  intro t x hx hr
  obtain ⟨_, _, h3⟩ := tabOf_good h hx
  simp only [Bool.and_eq_true, Bool.or_eq_true, Nat.beq_eq] at h3
  rcases h3.2.2 with h4 | h4
  · rw [hr] at h4; simp at h4
  · exact h4
end Go.AM

/- The abstract machine, part M: a region that draws its order: one run in the order of the text serves, where operations that touch one thing are ordered. No condition. -/
namespace Go.AM
open Go Go.RowKit

/-! ### Which operations are ahead of which -/
def maskOf (acc : List Nat) : List Edge → Nat
  | [] => 0
  | e :: r => match Region.binds .any e with
    | true => Nat.lor (Nat.lor (2 ^ e.on) (acc.getD e.on 0)) (maskOf acc r)
    | false => maskOf acc r
def masks : List Oper → List Nat → List Nat
  | [], acc => acc
  | o :: r, acc => masks r (acc ++ [maskOf acc o.after.toList])

inductive Ahead (ops : List Oper) : Nat → Nat → Prop where
  | edge {i j : Nat} {o : Oper} {e : Edge} (hj : ops[j]? = some o) (he : e ∈ o.after.toList) (hb : Region.binds .any e = true) (hi : e.on = i) : Ahead ops i j
  | trans {i j k : Nat} (h1 : Ahead ops i j) (h2 : Ahead ops j k) : Ahead ops i k

theorem maskOf_bit {ops : List Oper} {acc : List Nat} {j : Nat} {o : Oper} (hj : ops[j]? = some o) (hacc : ∀ k i, (acc.getD k 0).testBit i = true → Ahead ops i k) :
    ∀ (l : List Edge), (∀ e ∈ l, e ∈ o.after.toList) → ∀ i, (maskOf acc l).testBit i = true → Ahead ops i j
  | [], _, i, h => by simp [maskOf] at h
  | e :: r, hl, i, h => by
    have ih := maskOf_bit hj hacc r (fun e he => hl e (List.mem_cons_of_mem _ he)) i
    unfold maskOf at h
    split at h
    · rename_i hb
      rw [show ∀ a b : Nat, Nat.lor a b = a ||| b from fun _ _ => rfl, show ∀ a b : Nat, Nat.lor a b = a ||| b from fun _ _ => rfl] at h
      simp only [Nat.testBit_or, Bool.or_eq_true, Nat.testBit_two_pow, decide_eq_true_eq] at h
      rcases h with (h | h) | h
      · exact .edge hj (hl e (by simp)) hb h
      · exact .trans (hacc _ i h) (.edge hj (hl e (by simp)) hb rfl)
      · exact ih h
    · exact ih h

theorem masks_bit {ops : List Oper} : ∀ (l : List Oper) (acc : List Nat), ops.drop acc.length = l → (∀ k i, (acc.getD k 0).testBit i = true → Ahead ops i k) →
    ∀ k i, ((masks l acc).getD k 0).testBit i = true → Ahead ops i k
  | [], acc, _, hacc, k, i, h => hacc k i h
  | o :: r, acc, hl, hacc, k, i, h => by
    have hj : ops[acc.length]? = some o := by
      have := congrArg (fun l => l[0]?) hl
      simpa using this
    refine masks_bit r (acc ++ [maskOf acc o.after.toList]) ?_ ?_ k i h
    · have := congrArg List.tail hl
      simpa using this
    · intro k i hk
      by_cases h1 : k < acc.length
      · refine hacc k i ?_
        simpa [List.getD, List.getElem?_append_left h1] using hk
      · by_cases h2 : k = acc.length
        · subst h2
          refine maskOf_bit hj hacc o.after.toList (fun e he => he) i ?_
          simpa [List.getD] using hk
        · have : (acc ++ [maskOf acc o.after.toList])[k]? = none := by simp; omega
          simp [List.getD, this] at hk

/-! ### What touches what -/
def tmpsOf : List Operand → List Nat
  | [] => []
  | .tmp t :: r => t :: tmpsOf r
  | _ :: r => tmpsOf r
def readsT (ops : Array Oper) (o : Oper) : List Nat :=
  tmpsOf o.op.operands.toList ++ (match o.guard with
    | some (j, _) => ((ops[j]?).bind (·.dst)).toList
    | none => [])
def meet (a b : List Nat) : Bool := a.any fun x => b.any fun y => Nat.beq x y
def meetI (a b : List Id) : Bool := a.any fun x => b.any fun y => Id.beq x y
def slotConf (ops : Array Oper) (a b : Oper) : Bool :=
  meet a.dst.toList (readsT ops b) || meet a.dst.toList b.dst.toList || meet (readsT ops a) b.dst.toList
abbrev Fp := List Id × List Id
def idConf (a b : Fp) : Bool := meetI a.2 b.1 || meetI a.2 b.2 || meetI a.1 b.2
def pairsOK (ops : Array Oper) (ms : List Nat) (l : List (Nat × Oper × Fp)) : Bool :=
  l.all fun x => l.all fun y => !(Nat.blt x.1 y.1) || !(slotConf ops x.2.1 y.2.1 || idConf x.2.2 y.2.2) || (ms.getD y.1 0).testBit x.1
def backOK : List Oper → Nat → Bool
  | [], _ => true
  | o :: r, i => o.after.toList.all (fun e => !(Region.binds .any e) || Nat.blt e.on i) && backOK r (i + 1)
def number : List Oper → List Fp → Nat → List (Nat × Oper × Fp)
  | o :: r, f :: fs, i => (i, o, f) :: number r fs (i + 1)
  | _, _, _ => []
def drawB (ops : Array Oper) (fps : List Fp) : Bool :=
  Nat.beq fps.length ops.size && (backOK ops.toList 0 && pairsOK ops (masks ops.toList []) (number ops.toList fps 0))

/-! ### The run -/
def drawOps (M : Mach) (ti : Types) (nt : Nat) (ops : Array Oper) (base : Nat) : List Oper → Nat → St → List Fp → (St → List Fp → Prop) → Prop
  | [], i, σ, fps, K => K ⟨σ.slots, σ.heap, base + 8 * i⟩ fps
  | o :: r, i, σ, fps, K => guarded ops o σ
      (fun σ1 => storeOK o <| dstOK nt o.dst <| opOut M ti o (base + 8 * i) (getS σ1.slots) (getH σ1.heap) fun out =>
        drawOps M ti nt ops base r (i + 1) ⟨putS σ1.slots o.dst out.val, setW σ1.heap out.wr, σ1.next⟩ (fps ++ [(out.rd, out.wr.map (·.1))]) K)
      (fun σ1 => dstOK nt o.dst (drawOps M ti nt ops base r (i + 1) ⟨putS σ1.slots o.dst (.t []), σ1.heap, σ1.next⟩ (fps ++ [([], [])]) K))

def execDraw (ti : Types) (M : Mach) (nt : Nat) (ops : Array Oper) (σ : St) (K : St → Prop) : Prop :=
  drawOps M ti nt ops σ.next ops.toList 0 σ [] fun σ' fps => M.lock (fun _ => drawB ops fps = true) ∧ K σ'

/-! ### Why it serves -/
structure Ent where
  o : Oper
  run : Bool
  val : AV
  rd : List Id
  wr : List (Id × AObj)

def guardIs (ops : Array Oper) (e : Ent) (s : Slots) : Prop :=
  match e.o.guard with
  | none => e.run = true
  | some (j, want) => ∃ d, (ops[j]?).bind (·.dst) = some d ∧ (s d = .v (.d (.bool (if e.run then want else !want))) ∨ (e.run = false ∧ s d = .t []))

def LexOK (C : Cx) (ops : Array Oper) (base : Nat) : List Ent → Nat → Slots → Heap → Prop
  | [], _, _, _ => True
  | e :: r, i, s, h => ops[i]? = some e.o ∧ (∀ d, e.o.dst = some d → d < C.nt) ∧ guardIs ops e s ∧ (e.run = true → OKop C e.o (base + 8 * i) s h ⟨e.val, e.rd, e.wr⟩) ∧
      (e.run = false → e.val = .t [] ∧ e.wr = [] ∧ e.rd = []) ∧ LexOK C ops base r (i + 1) (updS s e.o.dst e.val) (updW h e.wr)

def endS : List Ent → Slots → Slots
  | [], s => s
  | e :: r, s => endS r (updS s e.o.dst e.val)
def endH : List Ent → Heap → Heap
  | [], h => h
  | e :: r, h => endH r (updW h e.wr)

section
variable {C : Cx} {ti : Types}

theorem drawOps_ents (hti : TIok C.P ti) (h1 : TIone ti) {ops : Array Oper} {base : Nat} {K : St → List Fp → Prop} : ∀ (l : List Oper) (i : Nat) (σ : St) (fps : List Fp),
    ops.toList.drop i = l → drawOps C.M ti C.nt ops base l i σ fps K →
    ∃ (es : List Ent) (σ' : St), es.map (·.o) = l ∧ LexOK C ops base es i (getS σ.slots) (getH σ.heap) ∧ getS σ'.slots = endS es (getS σ.slots) ∧ getH σ'.heap = endH es (getH σ.heap) ∧
      σ'.next = base + 8 * (i + l.length) ∧ K σ' (fps ++ es.map fun e => (e.rd, e.wr.map (·.1)))
  | [], i, σ, fps, _, hk => ⟨[], ⟨σ.slots, σ.heap, base + 8 * i⟩, rfl, trivial, rfl, rfl, by simp, by simpa using (show K ⟨σ.slots, σ.heap, base + 8 * i⟩ fps from hk)⟩
  | o :: r, i, σ, fps, hl, hk => by
    have hi : ops[i]? = some o := by
      have := congrArg (fun l => l[0]?) hl
      simpa using this
    have hr : ops.toList.drop (i + 1) = r := by
      have := congrArg List.tail hl
      simpa using this
    have run : ∀ (g : guardIs ops ⟨o, true, .u, [], []⟩ (getS σ.slots)), (storeOK o <| dstOK C.nt o.dst <| opOut C.M ti o (base + 8 * i) (getS σ.slots) (getH σ.heap) fun out =>
        drawOps C.M ti C.nt ops base r (i + 1) ⟨putS σ.slots o.dst out.val, setW σ.heap out.wr, σ.next⟩ (fps ++ [(out.rd, out.wr.map (·.1))]) K) →
        ∃ (es : List Ent) (σ' : St), es.map (·.o) = o :: r ∧ LexOK C ops base es i (getS σ.slots) (getH σ.heap) ∧ getS σ'.slots = endS es (getS σ.slots) ∧ getH σ'.heap = endH es (getH σ.heap) ∧
          σ'.next = base + 8 * (i + (o :: r).length) ∧ K σ' (fps ++ es.map fun e => (e.rd, e.wr.map (·.1))) := by
      intro g hk
      obtain ⟨hst, hk⟩ := storeOK_iff hk
      obtain ⟨hd, hk⟩ := dstOK_iff.1 hk
      obtain ⟨out, hk, hok⟩ := opOut_sound hti h1 hst hk
      obtain ⟨es, σ', e1, e2, e3, e4, e5, e6⟩ := drawOps_ents hti h1 r (i + 1) _ _ hr hk
      rw [getS_putS] at e2 e3
      rw [getH_setW] at e2 e4
      refine ⟨⟨o, true, out.val, out.rd, out.wr⟩ :: es, σ', by simp [e1], ⟨hi, hd, g, fun _ => hok, fun e => by simp at e, e2⟩, e3, e4, by rw [e5]; simp; omega, ?_⟩
      simpa using e6
    have skip : ∀ (g : guardIs ops ⟨o, false, .t [], [], []⟩ (getS σ.slots)), (dstOK C.nt o.dst (drawOps C.M ti C.nt ops base r (i + 1) ⟨putS σ.slots o.dst (.t []), σ.heap, σ.next⟩ (fps ++ [([], [])]) K)) →
        ∃ (es : List Ent) (σ' : St), es.map (·.o) = o :: r ∧ LexOK C ops base es i (getS σ.slots) (getH σ.heap) ∧ getS σ'.slots = endS es (getS σ.slots) ∧ getH σ'.heap = endH es (getH σ.heap) ∧
          σ'.next = base + 8 * (i + (o :: r).length) ∧ K σ' (fps ++ es.map fun e => (e.rd, e.wr.map (·.1))) := by
      intro g hk
      obtain ⟨hd, hk⟩ := dstOK_iff.1 hk
      obtain ⟨es, σ', e1, e2, e3, e4, e5, e6⟩ := drawOps_ents hti h1 r (i + 1) _ _ hr hk
      rw [getS_putS] at e2 e3
      refine ⟨⟨o, false, .t [], [], []⟩ :: es, σ', by simp [e1], ⟨hi, hd, g, fun e => by simp at e, fun _ => ⟨rfl, rfl, rfl⟩, e2⟩, e3, e4, by rw [e5]; simp; omega, ?_⟩
      simpa using e6
    have hk' : guarded ops o σ _ _ := hk
    unfold guarded at hk'
    split at hk'
    · rename_i hg
      exact run (by simp [guardIs, hg]) hk'
    · rename_i j want hg
      split at hk'
      · exact hk'.elim
      · rename_i d hd
        split at hk'
        · rename_i c hc
          cases want <;> cases c
          · exact run (by simp only [guardIs, hg]; exact ⟨d, hd, .inl hc⟩) hk'
          · exact skip (by simp only [guardIs, hg]; exact ⟨d, hd, .inl hc⟩) hk'
          · exact skip (by simp only [guardIs, hg]; exact ⟨d, hd, .inl hc⟩) hk'
          · exact run (by simp only [guardIs, hg]; exact ⟨d, hd, .inl hc⟩) hk'
        · rename_i hc
          exact skip (by simp only [guardIs, hg]; exact ⟨d, hd, .inr ⟨trivial, hc⟩⟩) hk'
        · exact hk'.elim

/-! #### The state when the operations of a set S have been carried out -/
def setS (S : Nat → Bool) : List Ent → Nat → Slots → Slots
  | [], _, s => s
  | e :: r, i, s => setS S r (i + 1) (if S i then updS s e.o.dst e.val else s)
def setHp (S : Nat → Bool) : List Ent → Nat → Heap → Heap
  | [], _, h => h
  | e :: r, i, h => setHp S r (i + 1) (if S i then updW h e.wr else h)

theorem updS_at {s s' : Slots} {d : Option Tmp} {v : AV} {t : Nat} (h : d ≠ some t → s t = s' t) : updS s d v t = updS s' d v t := by
  cases d with
  | none => exact h (by simp)
  | some d =>
    simp only [updS]
    by_cases ht : t = d
    · simp [ht]
    · simp only [if_neg ht]; exact h (by simp; exact fun e => ht e.symm)
theorem updS_off {s : Slots} {d : Option Tmp} {v : AV} {t : Nat} (h : d ≠ some t) : updS s d v t = s t := by
  cases d with
  | none => rfl
  | some d =>
    simp only [updS]
    rw [if_neg]
    exact fun e => h (by rw [e])
theorem updW_at {h h' : Heap} {i : Id} : ∀ {wr : List (Id × AObj)}, (i ∉ wr.map (·.1) → h i = h' i) → updW h wr i = updW h' wr i := by
  intro wr
  induction wr generalizing h h' with
  | nil => intro hh; exact hh (by simp)
  | cons x wr ih =>
    intro hh
    refine ih fun hn => ?_
    simp only [updO]
    by_cases hi : i = x.1
    · simp [hi]
    · simp only [if_neg hi]
      exact hh (by simp [hi]; simpa using hn)

/-- Two sets that agree on all who write a slot leave the same there. -/
theorem setS_agree {S S' : Nat → Bool} {t : Nat} : ∀ (es : List Ent) (i : Nat) (s s' : Slots), s t = s' t → (∀ k e, es[k]? = some e → e.o.dst = some t → S (i + k) = S' (i + k)) →
    setS S es i s t = setS S' es i s' t
  | [], i, s, s', h, _ => h
  | e :: r, i, s, s', h, hw => by
    refine setS_agree r (i + 1) _ _ ?_ (fun k e' hk hd => by have := hw (k + 1) e' (by simpa using hk) hd; rw [show i + 1 + k = i + (k + 1) from by omega]; exact this)
    by_cases hd : e.o.dst = some t
    · have := hw 0 e rfl hd
      simp only [Nat.add_zero] at this
      rw [this]
      cases S' i
      · exact h
      · exact updS_at (fun _ => h)
    · cases S i <;> cases S' i <;> simp [updS_off hd, h]
theorem setHp_agree {S S' : Nat → Bool} {x : Id} : ∀ (es : List Ent) (i : Nat) (h h' : Heap), h x = h' x → (∀ k e, es[k]? = some e → x ∈ e.wr.map (·.1) → S (i + k) = S' (i + k)) →
    setHp S es i h x = setHp S' es i h' x
  | [], i, h, h', hh, _ => hh
  | e :: r, i, h, h', hh, hw => by
    refine setHp_agree r (i + 1) _ _ ?_ (fun k e' hk hd => by have := hw (k + 1) e' (by simpa using hk) hd; rw [show i + 1 + k = i + (k + 1) from by omega]; exact this)
    by_cases hd : x ∈ e.wr.map (·.1)
    · have := hw 0 e rfl hd
      simp only [Nat.add_zero] at this
      rw [this]
      cases S' i
      · exact hh
      · exact updW_at (fun _ => hh)
    · have e1 : updW h e.wr x = h x := updW_notin hd
      have e2 : updW h' e.wr x = h' x := updW_notin hd
      cases S i <;> cases S' i <;> simp [e1, e2, hh]

/-- One more is carried out, behind whom nobody of the set writes the same: as if it came last. -/
theorem setS_add {S S' : Nat → Bool} {t : Nat} {n : Nat} {en : Ent} : ∀ (es : List Ent) (i : Nat) (s : Slots), es[n]? = some en → S (i + n) = false → S' (i + n) = true → (∀ k, k ≠ i + n → S' k = S k) →
    (en.o.dst = some t → ∀ k e, es[k]? = some e → e.o.dst = some t → n < k → S (i + k) = false) → setS S' es i s t = updS (setS S es i s) en.o.dst en.val t
  | [], i, s, hn, _, _, _, _ => by simp at hn
  | e :: r, i, s, hn, h0, h1, hS, hb => by
    cases n with
    | zero =>
      simp at hn
      subst hn
      simp only [Nat.add_zero] at h0 h1
      show setS S' r (i + 1) (if S' i then updS s e.o.dst e.val else s) t = updS (setS S r (i + 1) (if S i then updS s e.o.dst e.val else s)) e.o.dst e.val t
      rw [h0, h1]
      simp only [if_true, Bool.false_eq_true, if_false]
      have same : ∀ s', setS S' r (i + 1) s' t = setS S r (i + 1) s' t := fun s' => setS_agree r (i + 1) s' s' rfl (fun k e' _ _ => hS _ (by omega))
      rw [same]
      by_cases hd : e.o.dst = some t
      · have none : ∀ s' : Slots, setS S r (i + 1) s' t = s' t := by
          intro s'
          have z : ∀ (l : List Ent) (m : Nat) (s' : Slots), (∀ k e, l[k]? = some e → e.o.dst = some t → S (m + k) = false) → setS S l m s' t = s' t := by
            intro l
            induction l with
            | nil => intro m s' _; rfl
            | cons e l ih =>
              intro m s' hz
              show setS S l (m + 1) (if S m then updS s' e.o.dst e.val else s') t = _
              rw [ih (m + 1) _ (fun k e' hk hd => by have := hz (k + 1) e' (by simpa using hk) hd; rw [show m + 1 + k = m + (k + 1) from by omega]; exact this)]
              by_cases hd : e.o.dst = some t
              · have := hz 0 e rfl hd
                simp only [Nat.add_zero] at this
                simp [this]
              · split
                · exact updS_off hd
                · rfl
          exact z r (i + 1) s' (fun k e' hk hd' => by
            have := hb hd (k + 1) e' (by simpa using hk) hd' (by omega)
            rw [show i + 1 + k = i + (k + 1) from by omega]; exact this)
        rw [none, hd]
        simp [updS]
      · rw [updS_off hd]
        exact setS_agree r (i + 1) _ _ (updS_off hd) (fun _ _ _ _ => rfl)
    | succ n =>
      have e1 : S' i = S i := hS i (by omega)
      show setS S' r (i + 1) (if S' i then updS s e.o.dst e.val else s) t = _
      rw [e1]
      refine setS_add r (i + 1) _ (by simpa using hn) (by rw [show i + 1 + n = i + (n + 1) from by omega]; exact h0) (by rw [show i + 1 + n = i + (n + 1) from by omega]; exact h1)
        (fun k hk => hS k (by omega)) (fun hd k e' hk hd' hlt => ?_)
      have := hb hd (k + 1) e' (by simpa using hk) hd' (by omega)
      rw [show i + 1 + k = i + (k + 1) from by omega]; exact this
theorem setHp_add {S S' : Nat → Bool} {x : Id} {n : Nat} {en : Ent} : ∀ (es : List Ent) (i : Nat) (s : Heap), es[n]? = some en → S (i + n) = false → S' (i + n) = true → (∀ k, k ≠ i + n → S' k = S k) →
    (x ∈ en.wr.map (·.1) → ∀ k e, es[k]? = some e → x ∈ e.wr.map (·.1) → n < k → S (i + k) = false) → setHp S' es i s x = updW (setHp S es i s) en.wr x
  | [], i, s, hn, _, _, _, _ => by simp at hn
  | e :: r, i, s, hn, h0, h1, hS, hb => by
    cases n with
    | zero =>
      simp at hn
      subst hn
      simp only [Nat.add_zero] at h0 h1
      show setHp S' r (i + 1) (if S' i then updW s e.wr else s) x = updW (setHp S r (i + 1) (if S i then updW s e.wr else s)) e.wr x
      rw [h0, h1]
      simp only [if_true, Bool.false_eq_true, if_false]
      have same : ∀ s', setHp S' r (i + 1) s' x = setHp S r (i + 1) s' x := fun s' => setHp_agree r (i + 1) s' s' rfl (fun k e' _ _ => hS _ (by omega))
      rw [same]
      by_cases hd : x ∈ e.wr.map (·.1)
      · have none : ∀ s' : Heap, setHp S r (i + 1) s' x = s' x := by
          intro s'
          have z : ∀ (l : List Ent) (m : Nat) (s' : Heap), (∀ k e, l[k]? = some e → x ∈ e.wr.map (·.1) → S (m + k) = false) → setHp S l m s' x = s' x := by
            intro l
            induction l with
            | nil => intro m s' _; rfl
            | cons e l ih =>
              intro m s' hz
              show setHp S l (m + 1) (if S m then updW s' e.wr else s') x = _
              rw [ih (m + 1) _ (fun k e' hk hd => by have := hz (k + 1) e' (by simpa using hk) hd; rw [show m + 1 + k = m + (k + 1) from by omega]; exact this)]
              by_cases hd : x ∈ e.wr.map (·.1)
              · have := hz 0 e rfl hd
                simp only [Nat.add_zero] at this
                simp [this]
              · split
                · exact updW_notin hd
                · rfl
          exact z r (i + 1) s' (fun k e' hk hd' => by
            have := hb hd (k + 1) e' (by simpa using hk) hd' (by omega)
            rw [show i + 1 + k = i + (k + 1) from by omega]; exact this)
        rw [none]
        exact updW_at (fun hn => absurd hd hn)
      · rw [updW_notin hd]
        exact setHp_agree r (i + 1) _ _ (updW_notin hd) (fun _ _ _ _ => rfl)
    | succ n =>
      have e1 : S' i = S i := hS i (by omega)
      show setHp S' r (i + 1) (if S' i then updW s e.wr else s) x = _
      rw [e1]
      refine setHp_add r (i + 1) _ (by simpa using hn) (by rw [show i + 1 + n = i + (n + 1) from by omega]; exact h0) (by rw [show i + 1 + n = i + (n + 1) from by omega]; exact h1)
        (fun k hk => hS k (by omega)) (fun hd k e' hk hd' hlt => ?_)
      have := hb hd (k + 1) e' (by simpa using hk) hd' (by omega)
      rw [show i + 1 + k = i + (k + 1) from by omega]; exact this

end
end Go.AM
