/- HeapNil: a heap that nobody made is none. No condition. (Part 1 of 4: AmA, AmB, AmC, AmD, AmE, AmF, AmG, AmH, AmHB, AmHC, AmHD, AmHE.) -/
import Derived.WalkKit
import Derived.Orders
import Derived.Deep.MidRow
import Derived.Laws.Tables
import Derived.ArgAppend
import Derived.Laws.AppendOwn
import Derived.Laws.IdiomCopy
set_option linter.unusedVariables false
set_option linter.unusedSimpArgs false
/- The abstract machine, part A: abstract values, abstract objects, and what it means that a concrete world holds them. No condition. -/
namespace Go.AM
open Go Go.RowKit

/-- Deep data by value: what a value of plain data is, whatever memory it lies in. A struct is the flat row of its cells. -/
inductive D where
  | int (k : IntKind) (n : Int)
  | bool (b : Bool)
  | str (s : ByteArray)
  | agg (cs : List D)
  | list (ag : Bool) (sz : Nat) (rows : List D)

def D.cells : D → List D
  | .agg cs => cs
  | x => [x]
def D.isAgg : D → Bool
  | .agg _ => true
  | _ => false
/-- A row of a list whose elements are (ag) structs of sz cells, or (not ag) single cells. -/
def D.fits (ag : Bool) (sz : Nat) (x : D) : Prop := x.isAgg = ag ∧ x.cells.length = sz ∧ ∀ c ∈ x.cells, c.isAgg = false

abbrev Zone := Nat → Nat → Prop

/-- The value v is the datum x in w; every cell that is read lies outside of Z. -/
inductive RelD (w : World) (Z : Zone) : D → Value → Prop where
  | int (k : IntKind) (n : Int) : RelD w Z (.int k n) (.int k n)
  | bool (b : Bool) : RelD w Z (.bool b) (.bool b)
  | str (s : ByteArray) : RelD w Z (.str s) (.string s)
  | agg (cs : List D) (vs : Array Value) (hs : vs.size = cs.length) (h1 : ∀ c ∈ cs, c.isAgg = false)
      (h : ∀ (j : Nat) c v, cs[j]? = some c → vs[j]? = some v → RelD w Z c v) : RelD w Z (.agg cs) (.agg vs)
  | list (ag : Bool) (sz : Nat) (rows : List D) (a : Option Addr) (cap b o : Nat) (U : Nat → Nat → Value)
      (hcap : rows.length ≤ cap) (hmax : cap ≤ maxLen) (hfit : ∀ r ∈ rows, r.fits ag sz)
      (ha : rows ≠ [] → a = some ⟨b, o, none⟩)
      (hc : ∀ (i : Nat) r (j : Nat) c, rows[i]? = some r → r.cells[j]? = some c → w.cell? ⟨b, o + (i * sz + j), none⟩ = some (U i j) ∧ ¬ Z b (o + (i * sz + j)))
      (hr : ∀ (i : Nat) r (j : Nat) c, rows[i]? = some r → r.cells[j]? = some c → RelD w Z c (U i j)) : RelD w Z (.list ag sz rows) (.slice a rows.length cap)

theorem RelD.mono {w w' : World} {Z Z' : Zone} (hw : ∀ b o u, w.cell? ⟨b, o, none⟩ = some u → ¬ Z b o → w'.cell? ⟨b, o, none⟩ = some u ∧ ¬ Z' b o)
    {x : D} {v : Value} (h : RelD w Z x v) : RelD w' Z' x v := by
  induction h with
  | int k n => exact .int k n
  | bool b => exact .bool b
  | str s => exact .str s
  | agg cs vs hs h1 _ ih => exact .agg cs vs hs h1 ih
  | list ag sz rows a cap b o U hcap hmax hfit ha hc _ ih =>
    exact .list ag sz rows a cap b o U hcap hmax hfit ha (fun i r j c h1 h2 => hw _ _ _ (hc i r j c h1 h2).1 (hc i r j c h1 h2).2) ih

theorem RelD.oneCell {w : World} {Z : Zone} {x : D} {v : Value} (h : RelD w Z x v) (hx : x.isAgg = false) : v.oneCell' = true := by
  cases h <;> first | rfl | simp [D.isAgg] at hx

/-- A row as a value: its cells. -/
theorem RelD.cellsOf {w : World} {Z : Zone} {x : D} {v : Value} (h : RelD w Z x v) :
    v.cells.size = x.cells.length ∧ (∀ (j : Nat) c u, x.cells[j]? = some c → v.cells[j]? = some u → RelD w Z c u ∧ c.isAgg = false) := by
  cases h with
  | agg cs vs hs h1 h =>
    refine ⟨hs, fun j c u hc hu => ⟨h j c u hc hu, h1 c (List.mem_of_getElem? hc)⟩⟩
  | _ =>
    refine ⟨rfl, fun j c u hc hu => ?_⟩
    match j with
    | 0 =>
      simp [D.cells, Value.cells] at hc hu
      subst hc; subst hu
      exact ⟨by constructor <;> assumption, rfl⟩
    | j + 1 => simp [D.cells] at hc

inductive Id where
  | loc (n : Nat)
  | ext (n : Nat)

def Id.beq : Id → Id → Bool
  | .loc a, .loc b => Nat.beq a b
  | .ext a, .ext b => Nat.beq a b
  | _, _ => false
theorem Id.beq_iff {i j : Id} : Id.beq i j = true ↔ i = j := by
  cases i <;> cases j <;> simp [Id.beq]
theorem Id.beq_false {i j : Id} : Id.beq i j = false ↔ i ≠ j := by
  rw [← Bool.not_eq_true, Id.beq_iff]
instance : DecidableEq Id := fun i j => if h : Id.beq i j = true then .isTrue (Id.beq_iff.1 h) else .isFalse (fun e => h (Id.beq_iff.2 e))

/-- One cell's content. -/
inductive CV where
  | un
  | d (x : D)
  | ptr (i : Id) (o : Nat)
  | row (ag : Bool) (sz : Nat) (x : D)
  | rp (cs : List D)
  | nilp
  | fn (f : Nat) (cap : List Id)
  | nilf
  | nils (ag : Bool) (sz : Nat)
  | tl (ag : Bool) (sz : Nat) (rows : List D)
  | lst (i : Id) (ag : Bool) (sz : Nat) (rows : List D)
  | sl (i : Id) (n : Nat)
  | map (i : Id)
  | nilm

inductive V1 where
  | d (x : D)
  | c (x : CV)
  | agg (cs : List CV)

inductive AV where
  | u
  | v (x : V1)
  | t (xs : List V1)

inductive AObj where
  | cells (cs : List CV)
  | tok (n sz : Nat) (e : TypeId)
  | map (kt et : TypeId) (es : List (D × V1))

def CV.ren (m : Id → Id) : CV → CV
  | .ptr i o => .ptr (m i) o
  | .fn f cap => .fn f (cap.map m)
  | .lst i ag sz rows => .lst (m i) ag sz rows
  | .sl i n => .sl (m i) n
  | .map i => .map (m i)
  | c => c
def V1.ren (m : Id → Id) : V1 → V1
  | .d x => .d x
  | .c x => .c (x.ren m)
  | .agg cs => .agg (cs.map (CV.ren m))
def AV.ren (m : Id → Id) : AV → AV
  | .u => .u
  | .v x => .v (x.ren m)
  | .t xs => .t (xs.map (V1.ren m))
def AObj.ren (m : Id → Id) : AObj → AObj
  | .cells cs => .cells (cs.map (CV.ren m))
  | .tok n sz e => .tok n sz e
  | .map kt et es => .map kt et (es.map fun e => (e.1, e.2.ren m))

abbrev Ghost := Id → Value
abbrev Heap := Id → Option AObj

def ptrAt : Value → Nat → Value
  | .pointer (some a), o => .pointer (some ⟨a.block, o, none⟩)
  | v, _ => v

def slAt : Value → Nat → Value
  | .pointer (some a), n => .slice (some ⟨a.block, 0, none⟩) n n
  | v, _ => v

def blk : Value → Option Nat
  | .pointer (some a) => some a.block
  | .slice (some a) _ _ => some a.block
  | .map (some r) => some r
  | _ => none

def isSl : Value → Prop
  | .slice _ _ _ => True
  | _ => False

def RelC (w : World) (Z : Zone) (g : Ghost) (h : Heap) : CV → Value → Prop
  | .un, v => v.oneCell' = true
  | .d x, v => RelD w Z x v ∧ x.isAgg = false
  | .ptr i o, v => (∃ b, g i = .pointer (some ⟨b, 0, none⟩)) ∧ v = ptrAt (g i) o
  | .row ag sz x, v => x.fits ag sz ∧ ∃ b o, v = .pointer (some ⟨b, o, none⟩) ∧ ∃ U : Nat → Value, ∀ (j : Nat) c, x.cells[j]? = some c → w.cell? ⟨b, o + j, none⟩ = some (U j) ∧ ¬ Z b (o + j) ∧ RelD w Z c (U j)
  | .rp cs, v => (∀ c ∈ cs, c.isAgg = false) ∧ ∃ b o, v = .pointer (some ⟨b, o, none⟩) ∧ ∃ U : Nat → Value, ∀ (j : Nat) c, cs[j]? = some c → w.cell? ⟨b, o + j, none⟩ = some (U j) ∧ ¬ Z b (o + j) ∧ RelD w Z c (U j)
  | .nilp, v => v = .pointer none
  | .fn f cap, v => v = .func (.func f) #[] (cap.map (fun i => ptrAt (g i) 0)).toArray ∧ ∀ i ∈ cap, ∃ b, g i = .pointer (some ⟨b, 0, none⟩)
  | .nilf, v => v = .nilFunc
  | .nils _ _, v => v = .slice none 0 0
  | .tl ag sz rows, v => RelD w Z (.list ag sz rows) v ∧ ∃ a, v = .slice a rows.length rows.length
  | .lst i ag sz rows, v => RelD w Z (.list ag sz rows) v ∧ isSl (g i) ∧ ∀ n sz' e, h i = some (.tok n sz' e) → sz' = sz ∧ rows.length ≤ n ∧ (rows.length = n → v = g i)
  | .sl i n, v => (∃ b, g i = .pointer (some ⟨b, 0, none⟩)) ∧ v = slAt (g i) n
  | .map i, v => v = g i ∧ ∃ r, g i = .map (some r)
  | .nilm, v => v = .map none

def RelV1 (w : World) (Z : Zone) (g : Ghost) (h : Heap) : V1 → Value → Prop
  | .d x, v => RelD w Z x v
  | .c x, v => RelC w Z g h x v
  | .agg cs, v => ∃ vs : Array Value, v = .agg vs ∧ vs.size = cs.length ∧ ∀ (j : Nat) c u, cs[j]? = some c → vs[j]? = some u → RelC w Z g h c u

def RelAV (w : World) (Z : Zone) (g : Ghost) (h : Heap) : AV → Value → Prop
  | .u, _ => True
  | .v x, v => RelV1 w Z g h x v
  | .t xs, v => ∃ vs : Array Value, v = .tuple vs ∧ vs.size = xs.length ∧ ∀ (j : Nat) c u, xs[j]? = some c → vs[j]? = some u → RelV1 w Z g h c u

def RelObj (w : World) (Z : Zone) (g : Ghost) (h : Heap) : AObj → Value → Prop
  | .cells cs, gv => ∃ b c e, gv = .pointer (some ⟨b, 0, none⟩) ∧ w.heap[b]? = some (.cells c e (0, 0)) ∧ c.size = cs.length ∧
      ∀ (j : Nat) x u, cs[j]? = some x → c[j]? = some u → RelC w Z g h x u
  | .tok n sz e, gv => 0 < sz ∧ ∃ xs, w.ownsRow 0 e sz gv n xs
  | .map _ _ es, gv => ∃ r m clock, gv = .map (some r) ∧ w.heap[r]? = some (.map m clock) ∧ m.size = es.length ∧ (∀ e ∈ m, e.born < clock) ∧
      ∀ (j : Nat) x (u : MapEntry), es[j]? = some x → m[j]? = some u → RelD w Z x.1 u.key ∧ RelV1 w Z g h x.2 u.val

/-- The cells that may still be written by way of one object. -/
def zone1 (gv : Value) (ob : AObj) : Zone := fun b o => blk gv = some b ∧ (match ob with | .tok n sz _ => n * sz ≤ o | _ => True)
/-- The cells that may still be written by way of the objects of h. -/
def zone (g : Ghost) (h : Heap) : Zone := fun b o => ∃ i ob, h i = some ob ∧ zone1 (g i) ob b o

def zor (Z X : Zone) : Zone := fun b o => Z b o ∨ X b o

structure RelH (w : World) (X : Zone) (g : Ghost) (h : Heap) : Prop where
  objs : ∀ i o, h i = some o → RelObj w (zor (zone g h) X) g h o (g i)
  sep : ∀ i j oi oj b, h i = some oi → h j = some oj → blk (g i) = some b → blk (g j) = some b → i = j
  apart : ∀ i oi b o, h i = some oi → blk (g i) = some b → ¬ X b o

/-- What a call may have turned: the cells of Z, and new blocks. -/
structure Frame' (Z : Zone) (w w' : World) : Prop where
  os : w'.os = w.os
  tape : w'.tape = w.tape
  output : w'.output = w.output
  size : w.heap.size ≤ w'.heap.size
  block : ∀ b, b < w.heap.size → (∀ o, ¬ Z b o) → w'.heap[b]? = w.heap[b]?
  cell : ∀ b o u, w.cell? ⟨b, o, none⟩ = some u → ¬ Z b o → w'.cell? ⟨b, o, none⟩ = some u

theorem Frame'.refl (Z : Zone) (w : World) : Frame' Z w w := ⟨rfl, rfl, rfl, Nat.le_refl _, fun _ _ _ => rfl, fun _ _ _ h _ => h⟩
theorem Frame'.trans {Z : Zone} {a b c : World} (h : Frame' Z a b) (k : Frame' Z b c) : Frame' Z a c :=
  ⟨k.os.trans h.os, k.tape.trans h.tape, k.output.trans h.output, Nat.le_trans h.size k.size,
   fun i hi hz => (k.block i (Nat.lt_of_lt_of_le hi h.size) hz).trans (h.block i hi hz), fun i o u hu hz => k.cell i o u (h.cell i o u hu hz) hz⟩
theorem Frame'.weaken {Z Z' : Zone} {a b : World} (h : Frame' Z a b) (hz : ∀ b o, Z b o → Z' b o) : Frame' Z' a b :=
  ⟨h.os, h.tape, h.output, h.size, fun i hi hn => h.block i hi (fun o hz' => hn o (hz _ _ hz')), fun i o u hu hn => h.cell i o u hu (fun hz' => hn (hz _ _ hz'))⟩

/-- The context of one call: the world in which it began, the cells that it may not keep or touch, the outer objects' places. -/
structure Mach where
  P : Program
  split : Bool → (Bool → Prop) → Prop
  split_iff : ∀ c A, split c A ↔ A c
  lock : (Unit → Prop) → Prop
  lock_iff : ∀ p, lock p ↔ p ()
  eqI : Int → Int → Bool
  eqI_eq : ∀ a b, eqI a b = (a == b)
  ltI : Int → Int → Bool
  ltI_eq : ∀ a b, ltI a b = decide (a < b)
  leI : Int → Int → Bool
  leI_eq : ∀ a b, leI a b = decide (a ≤ b)
  eqS : ByteArray → ByteArray → Bool
  eqS_eq : ∀ a b, eqS a b = (a.toList == b.toList)
  ltS : ByteArray → ByteArray → Bool
  ltS_eq : ∀ a b, ltS a b = Op.bytesLess a.toList b.toList
  lenI : List D → Int
  lenI_eq : ∀ l, lenI l = (l.length : Int)
  szI : ByteArray → Int
  szI_eq : ∀ s, szI s = (s.size : Int)

structure Cx where
  M : Mach
  nt : Nat
  w0 : World
  Z0 : Zone
  X : Zone
  g0 : Ghost

abbrev Cx.P (C : Cx) : Program := C.M.P

abbrev Slots := Nat → AV

structure RelS (C : Cx) (F : Nat → Prop) (s : Slots) (h : Heap) (g : Ghost) (a : Act) (w : World) : Prop where
  size : a.tmps.size = C.nt
  defers : a.defers = []
  slots : ∀ t, RelAV w (zor (zone g h) C.X) g h (s t) (a.tmps.getD t undef)
  heap : RelH w C.X g h
  frame : Frame' C.Z0 C.w0 w
  ext : ∀ j, g (.ext j) = C.g0 (.ext j)
  own : ∀ n o b, h (.loc n) = some o → blk (g (.loc n)) = some b → C.w0.heap.size ≤ b
  outer : ∀ j ob b o, h (.ext j) = some ob → zone1 (g (.ext j)) ob b o → C.Z0 b o
  xs : ∀ b o, C.X b o → b < C.w0.heap.size
  free : ∀ n, F n → g (.loc n) = undef ∧ h (.loc n) = none

def Rel (C : Cx) (F : Nat → Prop) (s : Slots) (h : Heap) (a : Act) (w : World) : Prop := ∃ g, RelS C F s h g a w

end Go.AM

/- The abstract machine, part B: how the relation between abstract and concrete state is kept when the world moves on. No condition. -/
namespace Go.AM
open Go Go.RowKit

structure Evo (w : World) (Z : Zone) (g : Ghost) (h : Heap) (w' : World) (Z' : Zone) (g' : Ghost) (h' : Heap) : Prop where
  cell : ∀ b o u, w.cell? ⟨b, o, none⟩ = some u → ¬ Z b o → w'.cell? ⟨b, o, none⟩ = some u ∧ ¬ Z' b o
  ptr : ∀ i b, g i = .pointer (some ⟨b, 0, none⟩) → g' i = g i
  map : ∀ i r, g i = .map (some r) → g' i = g i
  sl : ∀ i, isSl (g i) → isSl (g' i)
  tok : ∀ i n sz e, isSl (g i) → h' i = some (.tok n sz e) → ∃ n0, n0 ≤ n ∧ h i = some (.tok n0 sz e) ∧ (n0 = n → g' i = g i)

section
variable {w w' : World} {Z Z' : Zone} {g g' : Ghost} {h h' : Heap}

theorem Evo.relD (E : Evo w Z g h w' Z' g' h') {x : D} {v : Value} (r : RelD w Z x v) : RelD w' Z' x v := r.mono E.cell

theorem Evo.relC (E : Evo w Z g h w' Z' g' h') {c : CV} {v : Value} (r : RelC w Z g h c v) : RelC w' Z' g' h' c v := by
  cases c with
  | un => exact r
  | d x => exact ⟨E.relD r.1, r.2⟩
  | ptr i o =>
    obtain ⟨⟨b, hb⟩, hv⟩ := r
    have e := E.ptr i b hb
    exact ⟨⟨b, by rw [e]; exact hb⟩, by rw [e]; exact hv⟩
  | row ag sz x =>
    obtain ⟨hf, b, o, hv, U, hU⟩ := r
    exact ⟨hf, b, o, hv, U, fun j c hc => ⟨(E.cell _ _ _ (hU j c hc).1 (hU j c hc).2.1).1, (E.cell _ _ _ (hU j c hc).1 (hU j c hc).2.1).2, E.relD (hU j c hc).2.2⟩⟩
  | rp cs =>
    obtain ⟨hf, b, o, hv, U, hU⟩ := r
    exact ⟨hf, b, o, hv, U, fun j c hc => ⟨(E.cell _ _ _ (hU j c hc).1 (hU j c hc).2.1).1, (E.cell _ _ _ (hU j c hc).1 (hU j c hc).2.1).2, E.relD (hU j c hc).2.2⟩⟩
  | nilp => exact r
  | fn f cap =>
    obtain ⟨hv, hc⟩ := r
    refine ⟨?_, fun i hi => ?_⟩
    · rw [hv]
      congr 2
      refine List.map_congr_left fun i hi => ?_
      obtain ⟨b, hb⟩ := hc i hi
      rw [E.ptr i b hb]
    · obtain ⟨b, hb⟩ := hc i hi
      exact ⟨b, by rw [E.ptr i b hb]; exact hb⟩
  | nilf => exact r
  | nils ag sz => exact r
  | tl ag sz rows => exact ⟨E.relD r.1, r.2⟩
  | lst i ag sz rows =>
    obtain ⟨hd, hs, ht⟩ := r
    refine ⟨E.relD hd, E.sl i hs, fun n sz' e hn => ?_⟩
    obtain ⟨n0, hle, h0, heq⟩ := E.tok i n sz' e hs hn
    obtain ⟨h1, h2, h3⟩ := ht n0 sz' e h0
    exact ⟨h1, Nat.le_trans h2 hle, fun hl => by
      have : n0 = n := by omega
      rw [heq this]; exact h3 (by omega)⟩
  | sl i n =>
    obtain ⟨⟨b, hb⟩, hv⟩ := r
    have e := E.ptr i b hb
    exact ⟨⟨b, by rw [e]; exact hb⟩, by rw [e]; exact hv⟩
  | map i =>
    obtain ⟨hv, m, hm⟩ := r
    have e := E.map i m hm
    exact ⟨by rw [e]; exact hv, m, by rw [e]; exact hm⟩
  | nilm => exact r

theorem Evo.relV1 (E : Evo w Z g h w' Z' g' h') {c : V1} {v : Value} (r : RelV1 w Z g h c v) : RelV1 w' Z' g' h' c v := by
  cases c with
  | d x => exact E.relD r
  | c x => exact E.relC r
  | agg cs =>
    obtain ⟨vs, hv, hs, hr⟩ := r
    exact ⟨vs, hv, hs, fun j c u hc hu => E.relC (hr j c u hc hu)⟩

theorem Evo.relAV (E : Evo w Z g h w' Z' g' h') {c : AV} {v : Value} (r : RelAV w Z g h c v) : RelAV w' Z' g' h' c v := by
  cases c with
  | u => trivial
  | v x => exact E.relV1 r
  | t cs =>
    obtain ⟨vs, hv, hs, hr⟩ := r
    exact ⟨vs, hv, hs, fun j c u hc hu => E.relV1 (hr j c u hc hu)⟩

theorem ownsRow_same {e : TypeId} {sz : Nat} {v : Value} {n : Nat} {xs : List Value} (h : w.ownsRow 0 e sz v n xs)
    (hb : ∀ b, blk v = some b → w'.heap[b]? = w.heap[b]?) : w'.ownsRow 0 e sz v n xs := by
  obtain ⟨h1, h2⟩ := h
  refine ⟨h1, ?_⟩
  rcases h2 with h2 | ⟨q, cap, cur, hv, hg, hh, r⟩
  · exact .inl h2
  · exact .inr ⟨q, cap, cur, hv, hg, by rw [hb q (by rw [hv]; rfl)]; exact hh, r⟩

theorem RelObj.evo (E : Evo w Z g h w' Z' g' h') {o : AObj} {gv : Value} (r : RelObj w Z g h o gv)
    (hb : ∀ b, blk gv = some b → w'.heap[b]? = w.heap[b]?) : RelObj w' Z' g' h' o gv := by
  cases o with
  | cells cs =>
    obtain ⟨b, c, e, hv, hh, hs, hr⟩ := r
    exact ⟨b, c, e, hv, by rw [hb b (by rw [hv]; rfl)]; exact hh, hs, fun j x u hx hu => E.relC (hr j x u hx hu)⟩
  | tok n sz e =>
    obtain ⟨h0, xs, hx⟩ := r
    exact ⟨h0, xs, ownsRow_same hx hb⟩
  | map kt et es =>
    obtain ⟨q, m, cl, hv, hh, hs, hbn, hr⟩ := r
    exact ⟨q, m, cl, hv, by rw [hb q (by rw [hv]; rfl)]; exact hh, hs, hbn, fun j x u hx hu => ⟨E.relD (hr j x u hx hu).1, E.relV1 (hr j x u hx hu).2⟩⟩

theorem RelObj.lt {o : AObj} {gv : Value} (r : RelObj w Z g h o gv) {b : Nat} (hb : blk gv = some b) : b < w.heap.size := by
  cases o with
  | cells cs =>
    obtain ⟨b', c, e, hv, hh, _⟩ := r
    rw [hv] at hb
    simp [blk] at hb
    subst hb
    exact (Array.getElem?_eq_some_iff.1 hh).1
  | tok n sz e =>
    obtain ⟨_, xs, _, h2⟩ := r
    rcases h2 with ⟨hv, _⟩ | ⟨q, cap, cur, hv, hg, hh, _⟩
    · rw [hv] at hb; simp [blk] at hb
    · rw [hv] at hb
      simp [blk] at hb
      subst hb
      exact (Array.getElem?_eq_some_iff.1 hh).1
  | map kt et es =>
    obtain ⟨q, m, cl, hv, hh, _⟩ := r
    rw [hv] at hb
    simp [blk] at hb
    subst hb
    exact (Array.getElem?_eq_some_iff.1 hh).1

theorem RelH.upd {X : Zone} (R : RelH w X g h) (T : Id → Prop) (hX : ∀ b o, X b o → b < w.heap.size)
    (E : Evo w (zor (zone g h) X) g h w' (zor (zone g' h') X) g' h')
    (hsame : ∀ i, ¬ T i → h' i = h i ∧ g' i = g i)
    (hworld : ∀ i o b, ¬ T i → h i = some o → blk (g i) = some b → w'.heap[b]? = w.heap[b]?)
    (hobj : ∀ i o, T i → h' i = some o → RelObj w' (zor (zone g' h') X) g' h' o (g' i))
    (hblk : ∀ i o b, T i → h' i = some o → blk (g' i) = some b → (∃ o0, h i = some o0 ∧ blk (g i) = some b) ∨ w.heap.size ≤ b)
    (hsep : ∀ i j oi oj b, T i → T j → h' i = some oi → h' j = some oj → blk (g' i) = some b → blk (g' j) = some b → i = j) :
    RelH w' X g' h' := by
  have lt : ∀ i o b, h i = some o → blk (g i) = some b → b < w.heap.size := fun i o b ho hb => (R.objs i o ho).lt hb
  have mixed : ∀ i j oi oj b, T i → ¬ T j → h' i = some oi → h' j = some oj → blk (g' i) = some b → blk (g' j) = some b → i = j := by
    intro i j oi oj b ti tj hi hj bi bj
    rw [(hsame j tj).1] at hj
    rw [(hsame j tj).2] at bj
    rcases hblk i oi b ti hi bi with ⟨o0, h0, b0⟩ | hge
    · exact R.sep i j o0 oj b h0 hj b0 bj
    · exact absurd (lt j oj b hj bj) (by omega)
  refine ⟨fun i o ho => ?_, fun i j oi oj b hi hj bi bj => ?_, fun i oi b o hi bi hx => ?_⟩
  · by_cases ti : T i
    · exact hobj i o ti ho
    · rw [(hsame i ti).1] at ho
      rw [(hsame i ti).2]
      exact (R.objs i o ho).evo E (fun b hb => hworld i o b ti ho hb)
  · by_cases ti : T i
    · by_cases tj : T j
      · exact hsep i j oi oj b ti tj hi hj bi bj
      · exact mixed i j oi oj b ti tj hi hj bi bj
    · by_cases tj : T j
      · exact (mixed j i oj oi b tj ti hj hi bj bi).symm
      · rw [(hsame i ti).1] at hi
        rw [(hsame i ti).2] at bi
        rw [(hsame j tj).1] at hj
        rw [(hsame j tj).2] at bj
        exact R.sep i j oi oj b hi hj bi bj
  · by_cases ti : T i
    · rcases hblk i oi b ti hi bi with ⟨o0, h0, b0⟩ | hge
      · exact R.apart i o0 b o h0 b0 hx
      · exact absurd (hX b o hx) (by omega)
    · rw [(hsame i ti).1] at hi
      rw [(hsame i ti).2] at bi
      exact R.apart i oi b o hi bi hx

end

def updS (s : Slots) (d : Option Tmp) (v : AV) : Slots :=
  match d with
  | some d => fun t => if t = d then v else s t
  | none => s
def updG (g : Ghost) (i : Id) (v : Value) : Ghost := fun j => if j = i then v else g j
def updO (h : Heap) (i : Id) (o : AObj) : Heap := fun j => if j = i then some o else h j

/-- The general step: some objects have been turned, the frame's slots are as they were. -/
theorem RelS.step {C : Cx} {F F' : Nat → Prop} {s : Slots} {h h' : Heap} {g g' : Ghost} {a : Act} {w w' : World} (R : RelS C F s h g a w) (T : Id → Prop)
    (E : Evo w (zor (zone g h) C.X) g h w' (zor (zone g' h') C.X) g' h')
    (hF : Frame' (zone g h) w w')
    (hsame : ∀ i, ¬ T i → h' i = h i ∧ g' i = g i)
    (hworld : ∀ i o b, ¬ T i → h i = some o → blk (g i) = some b → w'.heap[b]? = w.heap[b]?)
    (hobj : ∀ i o, T i → h' i = some o → RelObj w' (zor (zone g' h') C.X) g' h' o (g' i))
    (hblk : ∀ i o b, T i → h' i = some o → blk (g' i) = some b → (∃ o0, h i = some o0 ∧ blk (g i) = some b) ∨ w.heap.size ≤ b)
    (hsep : ∀ i j oi oj b, T i → T j → h' i = some oi → h' j = some oj → blk (g' i) = some b → blk (g' j) = some b → i = j)
    (hext : ∀ j, T (.ext j) → g' (.ext j) = g (.ext j) ∧ (∀ ob, h' (.ext j) = some ob → ∃ ob0, h (.ext j) = some ob0 ∧ ∀ b o, zone1 (g (.ext j)) ob b o → zone1 (g (.ext j)) ob0 b o))
    (hfree : ∀ n, F' n → g' (.loc n) = undef ∧ h' (.loc n) = none) :
    RelS C F' s h' g' a w' := by
  have hX : ∀ b o, C.X b o → b < w.heap.size := fun b o hx => Nat.lt_of_lt_of_le (R.xs b o hx) R.frame.size
  have hnz : ∀ b o, b < C.w0.heap.size → ¬ C.Z0 b o → ¬ zone g h b o := by
    rintro b o hb hz ⟨i, ob, hi, h1⟩
    cases i with
    | loc n => exact absurd (R.own n ob b hi h1.1) (by omega)
    | ext j => exact hz (R.outer j ob b o hi h1)
  have hfr : Frame' C.Z0 C.w0 w' :=
    ⟨hF.os.trans R.frame.os, hF.tape.trans R.frame.tape, hF.output.trans R.frame.output, Nat.le_trans R.frame.size hF.size,
     fun b hb hz => (hF.block b (Nat.lt_of_lt_of_le hb R.frame.size) (fun o => hnz b o hb (hz o))).trans (R.frame.block b hb hz),
     fun b o u hu hz => hF.cell b o u (R.frame.cell b o u hu hz) (hnz b o (World.block_lt_of_cell? C.w0 ⟨b, o, none⟩ hu) hz)⟩
  refine ⟨R.size, R.defers, fun t => E.relAV (R.slots t), R.heap.upd T hX E hsame hworld hobj hblk hsep, hfr, fun j => ?_, fun n o b hn hb => ?_, fun j ob b o hj hz => ?_, R.xs, hfree⟩
  · by_cases tj : T (.ext j)
    · exact (hext j tj).1.trans (R.ext j)
    · exact (hsame _ tj).2.trans (R.ext j)
  · by_cases tn : T (.loc n)
    · rcases hblk _ o b tn hn hb with ⟨o0, h0, b0⟩ | hge
      · exact R.own n o0 b h0 b0
      · exact Nat.le_trans R.frame.size hge
    · rw [(hsame _ tn).1] at hn
      rw [(hsame _ tn).2] at hb
      exact R.own n o b hn hb
  · by_cases tj : T (.ext j)
    · obtain ⟨he, hk⟩ := hext j tj
      obtain ⟨ob0, h0, hz0⟩ := hk ob hj
      rw [he] at hz
      exact R.outer j ob0 b o h0 (hz0 b o hz)
    · rw [(hsame _ tj).1] at hj
      rw [(hsame _ tj).2] at hz
      exact R.outer j ob b o hj hz

end Go.AM

/- The abstract machine, part C: contracts of functions ('Trip'), and what one operation does. No condition. -/
namespace Go.AM
open Go Go.RowKit

/-! ### Types -/
structure TI where
  desc : TypeDesc
  size : Nat
  bytes : Nat
  zero : Value
  zc : List CV

def ZRel : CV → Value → Prop
  | .d (.int k n), .int k' m => k = k' ∧ n = m
  | .d (.bool b), .bool b' => b = b'
  | .d (.str s), .string s' => s = s'
  | .nils _ _, .slice none 0 0 => True
  | .nilp, .pointer none => True
  | .nilf, .nilFunc => True
  | .nilm, .map none => True
  | .un, v => v.oneCell' = true
  | _, _ => False

abbrev Types := TypeId → Option TI

def TIok (P : Program) (ti : Types) : Prop := ∀ t x, ti t = some x → P.underlying t = some x.desc ∧
  ∃ i, P.info? t = some i ∧ i.size = x.size ∧ i.bytes = x.bytes ∧ i.zero = some x.zero ∧ x.zero.cells.size = x.size ∧ x.zc.length = x.size ∧
    ∀ (j : Nat) c u, x.zc[j]? = some c → x.zero.cells[j]? = some u → ZRel c u

def rowD : TypeDesc → Bool
  | .struct _ | .array _ _ => true
  | _ => false

/-! ### Values -/
def V1.ofC : CV → V1
  | .d x => .d x
  | y => .c y
def V1.cells : V1 → List CV
  | .d x => x.cells.map CV.d
  | .c x => [x]
  | .agg cs => cs
def allD : List CV → Option (List D)
  | [] => some []
  | .d x :: r => match allD r with
    | some ds => some (x :: ds)
    | none => none
  | _ :: _ => none
def allN : List CV → Option (List D)
  | [] => some []
  | .d x :: r => match allN r with
    | some ds => some (x :: ds)
    | none => none
  | .nils ag sz :: r => match allN r with
    | some ds => some (.list ag sz [] :: ds)
    | none => none
  | .tl ag sz rows :: r => match allN r with
    | some ds => some (.list ag sz rows :: ds)
    | none => none
  | .lst _ ag sz rows :: r => match allN r with
    | some ds => some (.list ag sz rows :: ds)
    | none => none
  | _ :: _ => none
def V1.ofCells (ag : Bool) (cs : List CV) : V1 :=
  match ag with
  | true => match allD cs with
    | some ds => .d (.agg ds)
    | none => .agg cs
  | false => match cs with
    | [y] => V1.ofC y
    | _ => .c .un
def V1.norm : V1 → V1
  | .c (.nils ag sz) => .d (.list ag sz [])
  | .c (.tl ag sz rows) => .d (.list ag sz rows)
  | .c (.lst _ ag sz rows) => .d (.list ag sz rows)
  | .agg cs => match allN cs with
    | some ds => .d (.agg ds)
    | none => .agg cs
  | x => x

section
variable {w : World} {Z : Zone} {g : Ghost} {h : Heap}

theorem RelV1.ofC {c : CV} {v : Value} (r : RelC w Z g h c v) : RelV1 w Z g h (V1.ofC c) v := by
  cases c <;> first | exact r | exact r.1

theorem relD_nil (ag : Bool) (sz : Nat) : RelD w Z (.list ag sz []) (.slice none 0 0) :=
  .list ag sz [] none 0 0 0 (fun _ _ => undef) (Nat.le_refl _) (Nat.zero_le _) (by simp) (by simp) (by simp) (by simp)

theorem oneCell_cells {v : Value} (h : v.oneCell' = true) : v.cells = #[v] := by
  cases v <;> first | rfl | simp [Value.oneCell'] at h

theorem RelC.oneCell {c : CV} {v : Value} (r : RelC w Z g h c v) : v.oneCell' = true := by
  cases c with
  | un => exact r
  | d x => exact r.1.oneCell r.2
  | ptr i o =>
    obtain ⟨⟨b, hb⟩, rfl⟩ := r
    rw [hb]; rfl
  | row ag sz x => obtain ⟨_, b, o, rfl, _⟩ := r; rfl
  | rp cs => obtain ⟨_, b, o, rfl, _⟩ := r; rfl
  | nilp => rw [show v = _ from r]; rfl
  | fn f cap => rw [r.1]; rfl
  | nilf => rw [show v = _ from r]; rfl
  | nils ag sz => rw [show v = _ from r]; rfl
  | tl ag sz rows => exact r.1.oneCell rfl
  | lst i ag sz rows => exact r.1.oneCell rfl
  | sl i n =>
    obtain ⟨⟨b, hb⟩, rfl⟩ := r
    rw [hb]; rfl
  | map i =>
    obtain ⟨rfl, m, hm⟩ := r
    rw [hm]; rfl
  | nilm => rw [show v = _ from r]; rfl

theorem RelV1.cells {x : V1} {v : Value} (r : RelV1 w Z g h x v) :
    v.cells.size = x.cells.length ∧ ∀ (j : Nat) c u, x.cells[j]? = some c → v.cells[j]? = some u → RelC w Z g h c u := by
  cases x with
  | d x =>
    obtain ⟨h1, h2⟩ := RelD.cellsOf r
    refine ⟨by simpa [V1.cells] using h1, fun j c u hc hu => ?_⟩
    simp only [V1.cells, List.getElem?_map, Option.map_eq_some_iff] at hc
    obtain ⟨d, hd, rfl⟩ := hc
    exact h2 j d u hd hu
  | c x =>
    have hv : v.cells = #[v] := oneCell_cells (RelC.oneCell r)
    rw [hv]
    refine ⟨rfl, fun j c u hc hu => ?_⟩
    match j with
    | 0 => simp [V1.cells] at hc hu; subst hc; subst hu; exact r
    | j + 1 => simp [V1.cells] at hc
  | agg cs =>
    obtain ⟨vs, rfl, hs, hr⟩ := r
    exact ⟨hs, hr⟩

theorem allD_rel {cs : List CV} {ds : List D} (he : allD cs = some ds) : cs = ds.map CV.d := by
  induction cs generalizing ds with
  | nil => simp [allD] at he; subst he; rfl
  | cons c r ih =>
    cases c <;> simp only [allD] at he <;> try (exact absurd he (by simp))
    split at he
    · rename_i ds' hd
      simp at he
      subst he
      rw [ih hd]; rfl
    · simp at he

/-- A value as it is put together of cells. -/
theorem RelV1.ofCells {ag : Bool} {cs : List CV} {vs : Array Value} (hs : vs.size = cs.length)
    (hr : ∀ (j : Nat) c u, cs[j]? = some c → vs[j]? = some u → RelC w Z g h c u) :
    (ag = true → RelV1 w Z g h (V1.ofCells ag cs) (.agg vs)) ∧ (ag = false → ∀ v, vs = #[v] → RelV1 w Z g h (V1.ofCells ag cs) v) := by
  constructor
  · rintro rfl
    unfold V1.ofCells
    simp only []
    split
    · rename_i ds hd
      have e := allD_rel hd
      subst e
      refine .agg ds vs (by simpa using hs) (fun c hc => ?_) (fun j c v hc hv => ?_)
      · obtain ⟨j, hj⟩ := List.mem_iff_getElem?.1 hc
        have hlt : j < vs.size := by
          have := (List.getElem?_eq_some_iff.1 hj).1
          simp at hs; omega
        exact (hr j (.d c) vs[j] (by simp [hj]) (by simp [hlt])).2
      · exact (hr j (.d c) v (by simp [hc]) hv).1
    · exact ⟨vs, rfl, hs, hr⟩
  · rintro rfl v rfl
    have h1 : cs.length = 1 := by simpa using hs.symm
    match cs, h1 with
    | [c], _ => exact RelV1.ofC (hr 0 c v rfl rfl)

theorem allN_rel {cs : List CV} {ds : List D} (he : allN cs = some ds) :
    ds.length = cs.length ∧ ∀ (j : Nat) x c v, ds[j]? = some x → cs[j]? = some c → RelC w Z g h c v → RelD w Z x v ∧ x.isAgg = false := by
  induction cs generalizing ds with
  | nil => simp [allN] at he; subst he; exact ⟨rfl, by simp⟩
  | cons c r ih =>
    have main : ∀ y, (∀ v, RelC w Z g h c v → RelD w Z y v ∧ y.isAgg = false) →
        (match allN r with | some ds => some (y :: ds) | none => none) = some ds →
        ds.length = (c :: r).length ∧ ∀ (j : Nat) x c' v, ds[j]? = some x → (c :: r)[j]? = some c' → RelC w Z g h c' v → RelD w Z x v ∧ x.isAgg = false := by
      intro y hy he
      split at he
      · rename_i ds' hd
        simp at he
        subst he
        obtain ⟨h1, h2⟩ := ih hd
        refine ⟨by simp [h1], fun j x c' v hx hc hr => ?_⟩
        match j with
        | 0 => simp at hx hc; subst hx; subst hc; exact hy v hr
        | j + 1 => simp at hx hc; exact h2 j x c' v hx hc hr
      · simp at he
    cases c <;> simp only [allN] at he <;> try (exact absurd he (by simp))
    · exact main _ (fun v hr => hr) he
    · exact main _ (fun v hr => by rw [show v = _ from hr]; exact ⟨relD_nil _ _, rfl⟩) he
    · exact main _ (fun v hr => ⟨hr.1, rfl⟩) he
    · exact main _ (fun v hr => ⟨hr.1, rfl⟩) he

theorem RelV1.norm {x : V1} {v : Value} (r : RelV1 w Z g h x v) : RelV1 w Z g h x.norm v := by
  cases x with
  | d x => exact r
  | c x =>
    cases x <;> first
      | exact r
      | (rw [show v = _ from r]; exact relD_nil _ _)
      | exact r.1
  | agg cs =>
    obtain ⟨vs, rfl, hs, hr⟩ := r
    show RelV1 w Z g h (match allN cs with | some ds => .d (.agg ds) | none => .agg cs) (.agg vs)
    cases hd : allN cs with
    | some ds =>
        obtain ⟨h1, h2⟩ := allN_rel (w := w) (Z := Z) (g := g) (h := h) hd
        have get : ∀ j, j < cs.length → ∃ c u, cs[j]? = some c ∧ vs[j]? = some u := fun j hj => ⟨cs[j], vs[j], by simp [hj], by simp [hs, hj]⟩
        refine .agg ds vs (by omega) (fun c hc => ?_) (fun j c v hc hv => ?_)
        · obtain ⟨j, hj⟩ := List.mem_iff_getElem?.1 hc
          obtain ⟨c', u, h3, h4⟩ := get j (by have := (List.getElem?_eq_some_iff.1 hj).1; omega)
          exact (h2 j c c' u hj h3 (hr j c' u h3 h4)).2
        · obtain ⟨c', u, h3, h4⟩ := get j (by have := (List.getElem?_eq_some_iff.1 hc).1; omega)
          rw [hv] at h4
          simp at h4
          subst h4
          exact (h2 j c c' v hc h3 (hr j c' v h3 hv)).1
    | none => exact ⟨vs, rfl, hs, hr⟩
end

/-! ### Contracts -/
def heapOf (pre : List AObj) : Heap
  | .ext j => pre[j]?
  | .loc _ => none
def heapOf2 (post new : List AObj) : Heap
  | .ext j => post[j]?
  | .loc k => new[k]?

def sameKind : AObj → AObj → Prop
  | .cells _, .cells _ => True
  | .tok n sz e, .tok n' sz' e' => n = n' ∧ sz = sz' ∧ e = e'
  | .map .., .map .. => True
  | _, _ => False

def allKinds : List AObj → List AObj → Prop
  | [], [] => True
  | a :: al, b :: bs => sameKind a b ∧ allKinds al bs
  | _, _ => False

structure CallPost (w : World) (X : Zone) (g : Ghost) (pre : List AObj) (res : AV) (post new : List AObj) (v : Value) (w' : World) (g' : Ghost) : Prop where
  heap : RelH w' X g' (heapOf2 post new)
  res : RelAV w' (zor (zone g' (heapOf2 post new)) X) g' (heapOf2 post new) res v
  frame : Frame' (zone g (heapOf pre)) w w'
  ext : ∀ j, g' (.ext j) = g (.ext j)
  fresh : ∀ k b, blk (g' (.loc k)) = some b → w.heap.size ≤ b
  none : ∀ k, new.length ≤ k → g' (.loc k) = undef

/-- The contract: called with these arguments, over these objects, the function returns this, and leaves the objects so (and new ones). -/
def Trip (P : Program) (f : FuncId) (args : List V1) (pre : List AObj) (res : AV) (post new : List AObj) : Prop :=
  (∃ fn c, P.funcs[f]? = some fn ∧ fn.body = some c ∧ (fn.name == "runtime.NumGoroutine") = false) ∧
  ∀ w X g (vals : Array Value), (∀ b o, X b o → b < w.heap.size) → RelH w X g (heapOf pre) → (∀ n, g (.loc n) = undef) → vals.size = args.length →
    (∀ (j : Nat) x v, args[j]? = some x → vals[j]? = some v → RelV1 w (zor (zone g (heapOf pre)) X) g (heapOf pre) x v) →
    Calls P f vals w fun e w' => ∃ v g', e = .returned v ∧ CallPost w X g pre res post new v w' g'

/-! ### Renaming -/
section
variable {w : World} {Z Z' : Zone} {g g' : Ghost} {h h' : Heap} {r : Id → Id}

/-- Down: what holds of the renamed, over the greater heap, holds of the unrenamed over its own. -/
theorem RelC.pull (hz : ∀ b o, Z' b o → Z b o) (hg : ∀ i, g' i = g (r i)) (ht : ∀ i n sz e, h' i = some (.tok n sz e) → h (r i) = some (.tok n sz e))
    {c : CV} {v : Value} (q : RelC w Z g h (c.ren r) v) : RelC w Z' g' h' c v := by
  have hd : ∀ {x : D} {u : Value}, RelD w Z x u → RelD w Z' x u := fun q => q.mono (fun b o u hu hn => ⟨hu, fun hz' => hn (hz _ _ hz')⟩)
  cases c with
  | un => exact q
  | d x => exact ⟨hd q.1, q.2⟩
  | ptr i o => simp only [CV.ren, RelC, ← hg] at q ⊢; exact q
  | row ag sz x =>
    obtain ⟨hf, b, o, hv, U, hU⟩ := q
    exact ⟨hf, b, o, hv, U, fun j c hc => ⟨(hU j c hc).1, fun hz' => (hU j c hc).2.1 (hz _ _ hz'), hd (hU j c hc).2.2⟩⟩
  | rp cs =>
    obtain ⟨hf, b, o, hv, U, hU⟩ := q
    exact ⟨hf, b, o, hv, U, fun j c hc => ⟨(hU j c hc).1, fun hz' => (hU j c hc).2.1 (hz _ _ hz'), hd (hU j c hc).2.2⟩⟩
  | nilp => exact q
  | fn f cap =>
    simp only [CV.ren, RelC, List.map_map, List.forall_mem_map] at q ⊢
    refine ⟨?_, fun i hi => by rw [hg]; exact q.2 i hi⟩
    rw [q.1]
    congr 2
    exact List.map_congr_left fun i _ => by simp [hg]
  | nilf => exact q
  | nils ag sz => exact q
  | tl ag sz rows => exact ⟨hd q.1, q.2⟩
  | lst i ag sz rows =>
    obtain ⟨q1, q2, q3⟩ := q
    exact ⟨hd q1, by rw [hg]; exact q2, fun n sz' e hn => by rw [hg]; exact q3 n sz' e (ht i n sz' e hn)⟩
  | sl i n => simp only [CV.ren, RelC, ← hg] at q ⊢; exact q
  | map i => simp only [CV.ren, RelC, ← hg] at q ⊢; exact q
  | nilm => exact q

/-- Up. -/
theorem RelC.push (hz : ∀ b o u, w.cell? ⟨b, o, none⟩ = some u → ¬ Z' b o → ¬ Z b o) (hg : ∀ i, g' i = g (r i)) (ht : ∀ i n sz e, h (r i) = some (.tok n sz e) → h' i = some (.tok n sz e))
    {c : CV} {v : Value} (q : RelC w Z' g' h' c v) : RelC w Z g h (c.ren r) v := by
  have hd : ∀ {x : D} {u : Value}, RelD w Z' x u → RelD w Z x u := fun q => q.mono (fun b o u hu hn => ⟨hu, hz b o u hu hn⟩)
  cases c with
  | un => exact q
  | d x => exact ⟨hd q.1, q.2⟩
  | ptr i o => simp only [CV.ren, RelC, hg] at q ⊢; exact q
  | row ag sz x =>
    obtain ⟨hf, b, o, hv, U, hU⟩ := q
    exact ⟨hf, b, o, hv, U, fun j c hc => ⟨(hU j c hc).1, hz _ _ _ (hU j c hc).1 (hU j c hc).2.1, hd (hU j c hc).2.2⟩⟩
  | rp cs =>
    obtain ⟨hf, b, o, hv, U, hU⟩ := q
    exact ⟨hf, b, o, hv, U, fun j c hc => ⟨(hU j c hc).1, hz _ _ _ (hU j c hc).1 (hU j c hc).2.1, hd (hU j c hc).2.2⟩⟩
  | nilp => exact q
  | fn f cap =>
    simp only [CV.ren, RelC, List.map_map, List.forall_mem_map] at q ⊢
    refine ⟨?_, fun i hi => by rw [← hg]; exact q.2 i hi⟩
    rw [q.1]
    congr 2
    exact List.map_congr_left fun i _ => by simp [hg]
  | nilf => exact q
  | nils ag sz => exact q
  | tl ag sz rows => exact ⟨hd q.1, q.2⟩
  | lst i ag sz rows =>
    obtain ⟨q1, q2, q3⟩ := q
    exact ⟨hd q1, by rw [← hg]; exact q2, fun n sz' e hn => by rw [← hg]; exact q3 n sz' e (ht i n sz' e hn)⟩
  | sl i n => simp only [CV.ren, RelC, hg] at q ⊢; exact q
  | map i => simp only [CV.ren, RelC, hg] at q ⊢; exact q
  | nilm => exact q

theorem RelV1.pull (hz : ∀ b o, Z' b o → Z b o) (hg : ∀ i, g' i = g (r i)) (ht : ∀ i n sz e, h' i = some (.tok n sz e) → h (r i) = some (.tok n sz e))
    {c : V1} {v : Value} (q : RelV1 w Z g h (c.ren r) v) : RelV1 w Z' g' h' c v := by
  cases c with
  | d x => exact RelD.mono (fun b o u hu hn => ⟨hu, fun hz' => hn (hz _ _ hz')⟩) q
  | c x => exact RelC.pull (r := r) hz hg ht q
  | agg cs =>
    obtain ⟨vs, hv, hs, hr⟩ := q
    refine ⟨vs, hv, by simpa using hs, fun j c u hc hu => RelC.pull (r := r) hz hg ht (hr j (c.ren r) u (by simp [hc]) hu)⟩

theorem RelV1.push (hz : ∀ b o u, w.cell? ⟨b, o, none⟩ = some u → ¬ Z' b o → ¬ Z b o) (hg : ∀ i, g' i = g (r i)) (ht : ∀ i n sz e, h (r i) = some (.tok n sz e) → h' i = some (.tok n sz e))
    {c : V1} {v : Value} (q : RelV1 w Z' g' h' c v) : RelV1 w Z g h (c.ren r) v := by
  cases c with
  | d x => exact RelD.mono (fun b o u hu hn => ⟨hu, hz b o u hu hn⟩) q
  | c x => exact RelC.push (r := r) hz hg ht q
  | agg cs =>
    obtain ⟨vs, hv, hs, hr⟩ := q
    refine ⟨vs, hv, by simpa using hs, fun j c u hc hu => ?_⟩
    simp only [List.getElem?_map, Option.map_eq_some_iff] at hc
    obtain ⟨c', hc', rfl⟩ := hc
    exact RelC.push (r := r) hz hg ht (hr j c' u hc' hu)

theorem RelAV.push (hz : ∀ b o u, w.cell? ⟨b, o, none⟩ = some u → ¬ Z' b o → ¬ Z b o) (hg : ∀ i, g' i = g (r i)) (ht : ∀ i n sz e, h (r i) = some (.tok n sz e) → h' i = some (.tok n sz e))
    {c : AV} {v : Value} (q : RelAV w Z' g' h' c v) : RelAV w Z g h (c.ren r) v := by
  cases c with
  | u => trivial
  | v x => exact RelV1.push (r := r) hz hg ht q
  | t xs =>
    obtain ⟨vs, hv, hs, hr⟩ := q
    refine ⟨vs, hv, by simpa using hs, fun j c u hc hu => ?_⟩
    simp only [List.getElem?_map, Option.map_eq_some_iff] at hc
    obtain ⟨c', hc', rfl⟩ := hc
    exact RelV1.push (r := r) hz hg ht (hr j c' u hc' hu)

theorem RelAV.pull (hz : ∀ b o, Z' b o → Z b o) (hg : ∀ i, g' i = g (r i)) (ht : ∀ i n sz e, h' i = some (.tok n sz e) → h (r i) = some (.tok n sz e))
    {c : AV} {v : Value} (q : RelAV w Z g h (c.ren r) v) : RelAV w Z' g' h' c v := by
  cases c with
  | u => trivial
  | v x => exact RelV1.pull (r := r) hz hg ht q
  | t xs =>
    obtain ⟨vs, hv, hs, hr⟩ := q
    refine ⟨vs, hv, by simpa using hs, fun j c u hc hu => RelV1.pull (r := r) hz hg ht (hr j (c.ren r) u (by simp [hc]) hu)⟩

theorem RelObj.pull (hz : ∀ b o, Z' b o → Z b o) (hg : ∀ i, g' i = g (r i)) (ht : ∀ i n sz e, h' i = some (.tok n sz e) → h (r i) = some (.tok n sz e))
    {ob : AObj} {v : Value} (q : RelObj w Z g h (ob.ren r) v) : RelObj w Z' g' h' ob v := by
  cases ob with
  | cells cs =>
    obtain ⟨b, c, e, hv, hh, hs, hr⟩ := q
    exact ⟨b, c, e, hv, hh, by simpa using hs, fun j x u hx hu => RelC.pull (r := r) hz hg ht (hr j (x.ren r) u (by simp [hx]) hu)⟩
  | tok n sz e => exact q
  | map kt et es =>
    obtain ⟨m, ms, cl, hv, hh, hs, hb, hr⟩ := q
    refine ⟨m, ms, cl, hv, hh, by simpa using hs, hb, fun j x u hx hu => ?_⟩
    obtain ⟨q1, q2⟩ := hr j (x.1, x.2.ren r) u (by simp [hx]) hu
    exact ⟨RelD.mono (fun b o u hu hn => ⟨hu, fun hz' => hn (hz _ _ hz')⟩) q1, RelV1.pull (r := r) hz hg ht q2⟩

theorem RelObj.push (hz : ∀ b o u, w.cell? ⟨b, o, none⟩ = some u → ¬ Z' b o → ¬ Z b o) (hg : ∀ i, g' i = g (r i)) (ht : ∀ i n sz e, h (r i) = some (.tok n sz e) → h' i = some (.tok n sz e))
    {ob : AObj} {v : Value} (q : RelObj w Z' g' h' ob v) : RelObj w Z g h (ob.ren r) v := by
  cases ob with
  | cells cs =>
    obtain ⟨b, c, e, hv, hh, hs, hr⟩ := q
    refine ⟨b, c, e, hv, hh, by simpa using hs, fun j x u hx hu => ?_⟩
    simp only [List.getElem?_map, Option.map_eq_some_iff] at hx
    obtain ⟨x', hx', rfl⟩ := hx
    exact RelC.push (r := r) hz hg ht (hr j x' u hx' hu)
  | tok n sz e => exact q
  | map kt et es =>
    obtain ⟨m, ms, cl, hv, hh, hs, hb, hr⟩ := q
    refine ⟨m, ms, cl, hv, hh, by simpa using hs, hb, fun j x u hx hu => ?_⟩
    simp only [List.getElem?_map, Option.map_eq_some_iff] at hx
    obtain ⟨x', hx', rfl⟩ := hx
    obtain ⟨q1, q2⟩ := hr j x' u hx' hu
    exact ⟨RelD.mono (fun b o u hu hn => ⟨hu, hz b o u hu hn⟩) q1, RelV1.push (r := r) hz hg ht q2⟩

theorem zone1_ren {gv : Value} {ob : AObj} {b o : Nat} : zone1 gv (ob.ren r) b o ↔ zone1 gv ob b o := by
  cases ob <;> rfl
end

end Go.AM

/- The abstract machine, part D: what one operation does, abstractly. No condition. -/
namespace Go.AM
open Go Go.RowKit

structure Out where
  val : AV
  rd : List Id
  wr : List (Id × AObj)

def updW (h : Heap) : List (Id × AObj) → Heap
  | [] => h
  | (i, o) :: r => updW (updO h i o) r

def req (c : Bool) (K : Prop) : Prop :=
  match c with
  | true => K
  | false => False
theorem req_iff {c : Bool} {K : Prop} : req c K ↔ c = true ∧ K := by cases c <;> simp [req]

def constV (ti : Types) (t : TypeId) : Value → CV
  | .int k n => .d (.int k n)
  | .bool b => .d (.bool b)
  | .string s => .d (.str s)
  | .pointer none => .nilp
  | .nilFunc => .nilf
  | .map none => .nilm
  | .slice none 0 0 => match ti t with
    | some x => match x.desc with
      | .slice e => match ti e with
        | some y => .nils (rowD y.desc) y.size
        | none => .nils false 1
      | _ => .nils false 1
    | none => .nils false 1
  | _ => .un

def isUn : CV → Bool
  | .un => true
  | _ => false
def constA (c : CV) : AV :=
  match c with
  | .un => .u
  | c => .v (V1.ofC c)

def opd (ti : Types) (s : Slots) (t : TypeId) : Operand → AV
  | .tmp x => s x
  | .const v => constA (constV ti t v)
  | .func f => .v (.c (.fn f []))
  | .global _ => .u

def withV (x : AV) (k : V1 → Prop) : Prop :=
  match x with
  | .v y => k y
  | _ => False
def withB (x : AV) (k : Bool → Prop) : Prop :=
  match x with
  | .v (.d (.bool b)) => k b
  | _ => False
def withI (x : AV) (k : IntKind → Int → Prop) : Prop :=
  match x with
  | .v (.d (.int q n)) => k q n
  | _ => False
def withT (ti : Types) (t : TypeId) (k : TI → Prop) : Prop :=
  match ti t with
  | some x => k x
  | none => False
def withL (x : AV) (k : Bool → Nat → List D → Prop) : Prop :=
  match x with
  | .v (.d (.list ag sz rows)) => k ag sz rows
  | .v (.c (.lst _ ag sz rows)) => k ag sz rows
  | .v (.c (.nils ag sz)) => k ag sz []
  | .v (.c (.tl ag sz rows)) => k ag sz rows
  | _ => False

def outLoad (ti : Types) (t : TypeId) (x : AV) (h : Heap) (k : Out → Prop) : Prop :=
  withT ti t fun i =>
  match x with
  | .v (.c (.ptr id o)) => match h id with
    | some (.cells cs) => req (Nat.ble (o + i.size) cs.length) (k ⟨.v (V1.ofCells (rowD i.desc) ((cs.drop o).take i.size)), [id], []⟩)
    | _ => False
  | .v (.c (.row ag sz d)) => req (rowD i.desc == ag) (req (Nat.beq sz i.size) (k ⟨.v (.d d), [], []⟩))
  | .v (.c (.rp cs)) => req (Nat.ble i.size cs.length) (k ⟨.v (V1.ofCells (rowD i.desc) ((cs.take i.size).map CV.d)), [], []⟩)
  | _ => False

def outStore (ti : Types) (t : TypeId) (x y : AV) (h : Heap) (k : Out → Prop) : Prop :=
  withT ti t fun i => withV y fun y =>
  match x with
  | .v (.c (.ptr id o)) => match h id with
    | some (.cells cs) => req (Nat.ble (o + i.size) cs.length) (req (Nat.beq y.cells.length i.size)
        (k ⟨.u, [id], [(id, .cells (cs.take o ++ y.cells ++ cs.drop (o + i.size)))]⟩))
    | _ => False
  | _ => False

def outField (ti : Types) (t : TypeId) (x : AV) (f : Nat) (k : Out → Prop) : Prop :=
  withT ti t fun i =>
  match i.desc with
  | .struct fs => match fs[f]? with
    | some fd => withT ti fd.type fun j => req (Nat.blt 0 j.size) <|
      match x with
      | .v (.c (.ptr id o)) => k ⟨.v (.c (.ptr id (o + fd.offset))), [], []⟩
      | .v (.c (.row _ _ d)) => k ⟨.v (.c (.rp (d.cells.drop fd.offset))), [], []⟩
      | .v (.c (.rp cs)) => k ⟨.v (.c (.rp (cs.drop fd.offset))), [], []⟩
      | _ => False
    | none => False
  | _ => False

def outIndex (ti : Types) (t : TypeId) (x i : AV) (k : Out → Prop) : Prop :=
  withI i fun _ n => withT ti t fun q =>
  match q.desc with
  | .slice e => withT ti e fun j => match x with
    | .v (.c (.sl id len)) => ∃ p : Nat, (n = (p : Int) ∧ p < len) ∧ k ⟨.v (.c (.ptr id (p * j.size))), [], []⟩
    | x => withL x fun ag sz rows => req (rowD j.desc == ag) <| req (Nat.beq sz j.size) <|
      ∃ r, 0 ≤ n ∧ rows[n.toNat]? = some r ∧ k ⟨.v (.c (.row ag sz r)), [], []⟩
  | .array len e => withT ti e fun j =>
    match x with
    | .v (.c (.ptr id o)) => 0 ≤ n ∧ n < len ∧ k ⟨.v (.c (.ptr id (o + n.toNat * j.size))), [], []⟩
    | _ => False
  | _ => False

def outLen (M : Mach) (ti : Types) (t : TypeId) (x : AV) (k : Out → Prop) : Prop :=
  withT ti t fun q =>
  match q.desc with
  | .slice _ => match x with
    | .v (.c (.sl _ n)) => ∃ z : Int, (n : Int) = z ∧ k ⟨.v (.d (.int .i64 z)), [], []⟩
    | x => withL x fun _ _ rows => ∃ z : Int, M.lenI rows = z ∧ k ⟨.v (.d (.int .i64 z)), [], []⟩
  | .string => match x with
    | .v (.d (.str s)) => ∃ z : Int, M.szI s = z ∧ k ⟨.v (.d (.int .i64 z)), [], []⟩
    | _ => False
  | .array n _ => k ⟨.v (.d (.int .i64 n)), [], []⟩
  | _ => False

def notB : Bool → Bool
  | true => false
  | false => true
def eqvB : Bool → Bool → Bool
  | true, b => b
  | false, b => notB b

def intOp (M : Mach) (op : BinOp) (q : IntKind) (a b : Int) (k : D → Prop) : Prop :=
  match op with
  | .add => ∃ z, q.wrap (a + b) = z ∧ k (.int q z)
  | .sub => ∃ z, q.wrap (a - b) = z ∧ k (.int q z)
  | .mul => ∃ z, q.wrap (a * b) = z ∧ k (.int q z)
  | .quo => ∃ z, b ≠ 0 ∧ q.wrap (a.tdiv b) = z ∧ k (.int q z)
  | .rem => ∃ z, b ≠ 0 ∧ a.tmod b = z ∧ k (.int q z)
  | .eql => M.split (M.eqI a b) fun q => k (.bool q)
  | .neq => M.split (M.eqI a b) fun q => k (.bool (notB q))
  | .lss => M.split (M.ltI a b) fun q => k (.bool q)
  | .leq => M.split (M.leI a b) fun q => k (.bool q)
  | .gtr => M.split (M.ltI b a) fun q => k (.bool q)
  | .geq => M.split (M.leI b a) fun q => k (.bool q)
  | _ => False

def strOp (M : Mach) (op : BinOp) (a b : ByteArray) (k : D → Prop) : Prop :=
  match op with
  | .add => ∃ c, a ++ b = c ∧ ((a.size + b.size : Nat) : Int) ≤ IntKind.i64.max ∧ k (.str c)
  | .eql => M.split (M.eqS a b) fun q => k (.bool q)
  | .neq => M.split (M.eqS a b) fun q => k (.bool (notB q))
  | .lss => M.split (M.ltS a b) fun q => k (.bool q)
  | _ => False

def eqOpL (op : BinOp) (c : Bool) (k : D → Prop) : Prop :=
  match op with
  | .eql => k (.bool c)
  | .neq => k (.bool (notB c))
  | _ => False

def outBin (M : Mach) (ti : Types) (op : BinOp) (t : TypeId) (x y : AV) (k : Out → Prop) : Prop :=
  let kd (d : D) : Prop := k ⟨.v (.d d), [], []⟩
  match x, y with
  | .v (.d (.int q a)), .v (.d (.int q' b)) => req (decide (q = q')) (intOp M op q a b kd)
  | .v (.d (.str a)), .v (.d (.str b)) => strOp M op a b kd
  | .v (.d (.bool a)), .v (.d (.bool b)) => withT ti t fun i => match i.desc with
    | .bool => eqOpL op (eqvB a b) kd
    | _ => False
  | .v (.c (.ptr _ _)), .v (.c .nilp) => withT ti t fun i => match i.desc with
    | .pointer _ => eqOpL op false kd
    | _ => False
  | .v (.c .nilp), .v (.c .nilp) => withT ti t fun i => match i.desc with
    | .pointer _ => eqOpL op true kd
    | _ => False
  | .v (.c (.map _)), .v (.c .nilm) => withT ti t fun i => match i.desc with
    | .map _ _ => eqOpL op false kd
    | _ => False
  | .v (.c .nilm), .v (.c .nilm) => withT ti t fun i => match i.desc with
    | .map _ _ => eqOpL op true kd
    | _ => False
  | _, _ => False

def outUn (op : UnOp) (x : AV) (k : Out → Prop) : Prop :=
  match op, x with
  | .not, .v (.d (.bool b)) => k ⟨.v (.d (.bool (notB b))), [], []⟩
  | .neg, .v (.d (.int q a)) => ∃ z, q.wrap (0 - a) = z ∧ k ⟨.v (.d (.int q z)), [], []⟩
  | _, _ => False

def caps : List AV → Option (List Id)
  | [] => some []
  | .v (.c (.ptr i 0)) :: r => match caps r with
    | some l => some (i :: l)
    | none => none
  | _ :: _ => none

/-- Reading where an id of a contract leads in the caller's objects. -/
def renM (m : List Id) (fresh : Nat) : Id → Id
  | .ext j => match m[j]? with
    | some i => i
    | none => .loc (fresh + 7)
  | .loc k => .loc (fresh + (if k < 7 then k else 7))

def vals1 : List AV → Option (List V1)
  | [] => some []
  | .v x :: r => match vals1 r with
    | some l => some (x.norm :: l)
    | none => none
  | _ :: _ => none

def wrM (m : List Id) (r : Id → Id) : List AObj → List (Id × AObj)
  | [] => []
  | o :: os => match m with
    | i :: is => (i, o.ren r) :: wrM is r os
    | [] => []
def wrNew (fresh : Nat) (r : Id → Id) : Nat → List AObj → List (Id × AObj)
  | _, [] => []
  | k, o :: os => (.loc (fresh + k), o.ren r) :: wrNew fresh r (k + 1) os

def outCall (P : Program) (f : FuncId) (args : List V1) (fresh : Nat) (h : Heap) (k : Out → Prop) : Prop :=
  ∃ (m : List Id) (targs : List V1) (pre : List AObj) (res : AV) (post new : List AObj),
    Trip P f targs pre res post new ∧ args = targs.map (V1.ren (renM m fresh)) ∧ m.length = pre.length ∧ m.Nodup ∧
    (∀ (j : Nat) i o, m[j]? = some i → pre[j]? = some o → h i = some (o.ren (renM m fresh))) ∧ allKinds pre post ∧ new.length ≤ 7 ∧
    k ⟨res.ren (renM m fresh), m, wrM m (renM m fresh) post ++ wrNew fresh (renM m fresh) 0 new⟩

def withArgs (l : List AV) (k : List V1 → Prop) : Prop :=
  match vals1 l with
  | some xs => k xs
  | none => False

def outCallV (M : Mach) (f : AV) (args : List AV) (fresh : Nat) (h : Heap) (k : Out → Prop) : Prop :=
  match f with
  | .v (.c (.fn n cap)) => withArgs args fun xs => M.lock fun _ => outCall M.P n (xs ++ cap.map (fun i => V1.c (.ptr i 0))) fresh h k
  | _ => False

def opsArgs (ti : Types) (s : Slots) : List Operand → List TypeId → List AV
  | x :: xs, t :: ts => opd ti s t x :: opsArgs ti s xs ts
  | x :: xs, [] => opd ti s 0 x :: opsArgs ti s xs []
  | [], _ => []

def ptrTo (n : Nat) : AV := .v (.c (.ptr (.loc n) 0))

def pickAV (q : Bool) (a b : AV) : AV :=
  match q with
  | true => a
  | false => b

def tiAll (ti : Types) : List Field → Bool
  | [] => true
  | f :: r => match ti f.type with
    | some _ => tiAll ti r
    | none => false

def fillP (ti : Types) (s : Slots) (fs : List Field) (cs : List CV) : List (Nat × Operand) → (List CV → Prop) → Prop
  | [], k => k cs
  | (i, x) :: r, k => match fs[i]? with
    | some fd => withT ti fd.type fun j => withV (opd ti s fd.type x) fun y => req (Nat.beq y.cells.length j.size) <| req (Nat.ble (fd.offset + j.size) cs.length) <|
        fillP ti s fs (cs.take fd.offset ++ y.cells ++ cs.drop (fd.offset + j.size)) r k
    | none => False

def outBuild (ti : Types) (s : Slots) (t : TypeId) (parts : List (Nat × Operand)) (k : Out → Prop) : Prop :=
  withT ti t fun q => match q.desc with
  | .struct fs => req (tiAll ti fs.toList) <| fillP ti s fs.toList q.zc parts fun cs => k ⟨.v (V1.ofCells true cs), [], []⟩
  | _ => False

/-- The rows of a literal list: its elements, in order. -/
def rowsP (ti : Types) (s : Slots) (e : TypeId) (ag : Bool) (sz : Nat) : Nat → List (Nat × Operand) → (List D → Prop) → Prop
  | _, [], k => k []
  | n, (i, x) :: r, k => req (Nat.beq i n) <| match opd ti s e x with
    | .v y => match y.norm with
      | .d d => req (d.isAgg == ag) <| req (Nat.beq d.cells.length sz) <| rowsP ti s e ag sz (n + 1) r fun ds => k (d :: ds)
      | _ => False
    | _ => False
def outBuildSlice (ti : Types) (s : Slots) (t : TypeId) (len : Nat) (parts : List (Nat × Operand)) (k : Out → Prop) : Prop :=
  withT ti t fun q => match q.desc with
  | .slice e => withT ti e fun j => req (Nat.ble (len * j.size) 16777216) <| req (Nat.beq parts.length len) <| req (Nat.blt 0 j.size) <| rowsP ti s e (rowD j.desc) j.size 0 parts fun ds =>
      k ⟨.v (.c (.tl (rowD j.desc) j.size ds)), [], []⟩
  | _ => False

/-- A literal list of anything: an object of its own. -/
def cellsP (ti : Types) (s : Slots) (e : TypeId) (sz : Nat) : Nat → List (Nat × Operand) → (List CV → Prop) → Prop
  | _, [], k => k []
  | n, (i, x) :: r, k => req (Nat.beq i n) <| match opd ti s e x with
    | .v y => req (Nat.beq y.cells.length sz) <| cellsP ti s e sz (n + 1) r fun cs => k (y.cells ++ cs)
    | _ => False
def outBuildSliceC (ti : Types) (s : Slots) (t : TypeId) (len : Nat) (parts : List (Nat × Operand)) (fresh : Nat) (k : Out → Prop) : Prop :=
  withT ti t fun q => match q.desc with
  | .slice e => withT ti e fun j => req (Nat.ble (len * j.size) 16777216) <| req (Nat.beq parts.length len) <| req (Nat.blt 0 j.size) <| cellsP ti s e j.size 0 parts fun cs =>
      k ⟨.v (.c (.sl (.loc fresh) len)), [], [(.loc fresh, .cells cs)]⟩
  | _ => False

/-- append onto what need not be written in place: a list that is full, or nil. own: the new row is the call's own. -/
def growNew (ag : Bool) (sz : Nat) (e : TypeId) (bytes fresh : Nat) (isNil : Bool) (rows ys : List D) (k : Out → Prop) : Prop :=
  (rows.length + ys.length ≤ maxLen ∧ (rows.length + ys.length) * bytes ≤ 140737488355328) ∧ ∃ out, rows ++ ys = out ∧ ∃ own : Bool, match own with
    | true => (isNil = true ∨ ys ≠ []) ∧ k ⟨.v (.c (.lst (.loc fresh) ag sz out)), [], [(.loc fresh, .tok out.length sz e)]⟩
    | false => k ⟨.v (.d (.list ag sz out)), [], []⟩

def outAppend (ti : Types) (t : TypeId) (x y : AV) (fresh : Nat) (h : Heap) (k : Out → Prop) : Prop :=
  withT ti t fun q => match q.desc with
  | .slice e => withT ti e fun j => req (Nat.blt 0 j.size) <| withL y fun ag sz ys => req (rowD j.desc == ag) <| req (Nat.beq sz j.size) <|
    match x with
    | .v (.c (.nils ag' sz')) => growNew (rowD j.desc) j.size e j.bytes fresh true [] ys k
    | .v (.c (.tl ag' sz' rows)) => req (rowD j.desc == ag') <| req (Nat.beq sz' j.size) <| growNew (rowD j.desc) j.size e j.bytes fresh false rows ys k
    | .v (.c (.lst (.loc i) ag' sz' rows)) => req (rowD j.desc == ag') <| req (Nat.beq sz' j.size) <| match h (.loc i) with
      | some (.tok n sz2 e2) => req (Nat.beq sz2 j.size) <| req (Nat.beq e2 e) <| rows.length = n ∧ (rows.length + ys.length ≤ maxLen ∧ (rows.length + ys.length) * j.bytes ≤ 140737488355328) ∧
          ∃ out, rows ++ ys = out ∧ k ⟨.v (.c (.lst (.loc i) (rowD j.desc) j.size out)), [.loc i], [(.loc i, .tok out.length j.size e)]⟩
      | _ => False
    | _ => False
  | _ => False

def bndI (ti : Types) (s : Slots) (dflt : Int) (x : Option Operand) (k : Int → Prop) : Prop :=
  match x with
  | none => k dflt
  | some x => withI (opd ti s 3 x) fun _ n => k n

def outSlice (M : Mach) (ti : Types) (s : Slots) (t : TypeId) (x : AV) (lo hi mx : Option Operand) (k : Out → Prop) : Prop :=
  withT ti t fun q => match q.desc with
  | .string => match x with
    | .v (.d (.str b)) => bndI ti s 0 lo fun l => bndI ti s (M.szI b) hi fun u => (match mx with
      | none => ∃ r, (0 ≤ l ∧ l ≤ u ∧ u ≤ M.szI b) ∧ b.extract l.toNat u.toNat = r ∧ k ⟨.v (.d (.str r)), [], []⟩
      | some _ => False)
    | _ => False
  | .slice e => withT ti e fun j => withL x fun ag sz rows => req (rowD j.desc == ag) <| req (Nat.beq sz j.size) <| bndI ti s 0 lo fun l => bndI ti s (M.lenI rows) hi fun u =>
      (match mx with
        | none => ∃ out, (0 ≤ l ∧ l ≤ u ∧ u ≤ M.lenI rows) ∧ (rows.take u.toNat).drop l.toNat = out ∧ k ⟨.v (.d (.list ag sz out)), [], []⟩
        | some m => match hi with
          | none => False
          | some _ => withI (opd ti s 3 m) fun _ v => ∃ out, (0 ≤ l ∧ l ≤ u ∧ u ≤ M.lenI rows ∧ v = u) ∧ (rows.take u.toNat).drop l.toNat = out ∧ k ⟨.v (.c (.tl ag sz out)), [], []⟩)
  | _ => False

def outIndexV (ti : Types) (t : TypeId) (x i : AV) (k : Out → Prop) : Prop :=
  withI i fun _ n => withT ti t fun q => match q.desc with
  | .string => match x with
    | .v (.d (.str b)) => ∃ z : Int, (0 ≤ n ∧ (b[n.toNat]?).map (fun u => (u.toNat : Int)) = some z) ∧ k ⟨.v (.d (.int .u8 z)), [], []⟩
    | _ => False
  | .array len e => withT ti e fun j => req (Nat.beq j.size 1) <| req (notB (rowD j.desc)) <| match x with
    | .v (.d (.agg cs)) => req (Nat.beq cs.length len) <| ∃ r, 0 ≤ n ∧ cs[n.toNat]? = some r ∧ k ⟨.v (.d r), [], []⟩
    | _ => False
  | _ => False

def isAggV : V1 → Bool
  | .d x => x.isAgg
  | .agg _ => true
  | _ => false
def outFieldV (ti : Types) (t : TypeId) (x : AV) (f : Nat) (k : Out → Prop) : Prop :=
  withT ti t fun i => match i.desc with
  | .struct fs => match fs[f]? with
    | some fd => withT ti fd.type fun j => withV x fun y => req (isAggV y) <| req (Nat.ble (fd.offset + j.size) y.cells.length) <| k ⟨.v (V1.ofCells (rowD j.desc) ((y.cells.drop fd.offset).take j.size)), [], []⟩
    | none => False
  | _ => False

def plainKey : TypeDesc → Bool
  | .int _ => true
  | .string => true
  | _ => false
def zeroOK (x : TI) : Bool :=
  match x.zero with
  | .agg _ => rowD x.desc
  | .tuple _ => false
  | _ => notB (rowD x.desc)
def outLookup (ti : Types) (t : TypeId) (x key : AV) (ok : Bool) (k : Out → Prop) : Prop :=
  withT ti t fun q => match q.desc with
  | .map kt et => withT ti kt fun kk => withT ti et fun j => req (plainKey kk.desc) <| req (zeroOK j) <| match x with
    | .v (.c .nilm) => match ok with
      | true => k ⟨.t [V1.ofCells (rowD j.desc) j.zc, .d (.bool false)], [], []⟩
      | false => k ⟨.v (V1.ofCells (rowD j.desc) j.zc), [], []⟩
    | _ => False
  | _ => False

def nthV : List V1 → Nat → Option V1
  | [], _ => none
  | x :: r, n => match n with
    | 0 => some x
    | m + 1 => nthV r m
def outExtract (x : AV) (i : Nat) (k : Out → Prop) : Prop :=
  match x with
  | .t xs => match nthV xs i with
    | some y => k ⟨.v y, [], []⟩
    | none => False
  | _ => False

def outConvert (ti : Types) (src dst : TypeId) (x : AV) (k : Out → Prop) : Prop :=
  withT ti src fun a => withT ti dst fun b => match a.desc, b.desc with
  | .int _, .int q => withI x fun _ n => ∃ z, q.wrap n = z ∧ k ⟨.v (.d (.int q z)), [], []⟩
  | _, _ => False

def opOut (M : Mach) (ti : Types) (o : Oper) (fresh : Nat) (s : Slots) (h : Heap) (k : Out → Prop) : Prop :=
  match o.op with
  | .move x | .assign x => k ⟨opd ti s o.type x, [], []⟩
  | .pick c a b => withB (opd ti s 0 c) fun q => k ⟨pickAV q (opd ti s o.type a) (opd ti s o.type b), [], []⟩
  | .alloc t => withT ti t fun i => k ⟨ptrTo fresh, [], [(.loc fresh, .cells i.zc)]⟩
  | .box t x => withV (opd ti s t x) fun y => k ⟨ptrTo fresh, [], [(.loc fresh, .cells y.cells)]⟩
  | .load t x => outLoad ti t (opd ti s 0 x) h k
  | .store t x y => outStore ti t (opd ti s 0 x) (opd ti s t y) h k
  | .fieldAddr t x f => outField ti t (opd ti s 0 x) f k
  | .indexAddr t x i => outIndex ti t (opd ti s t x) (opd ti s 3 i) k
  | .nilCheck x => match opd ti s 0 x with
    | .v (.c (.ptr i q)) => k ⟨.v (.c (.ptr i q)), [], []⟩
    | _ => False
  | .binOp op t x y _ => outBin M ti op t (opd ti s t x) (opd ti s t y) k
  | .unOp op _ x => outUn op (opd ti s o.type x) k
  | .makeFunc fn first captured => match fn, first.toList with
    | .func f, [] => match caps (captured.toList.map (opd ti s 0)) with
      | some l => k ⟨.v (.c (.fn f l)), [], []⟩
      | none => False
    | _, _ => False
  | .build t parts => outBuild ti s t parts.toList k
  | .buildSlice t len parts => ∃ c : Bool, match c with
    | true => outBuildSlice ti s t len parts.toList k
    | false => outBuildSliceC ti s t len parts.toList fresh k
  | .lookup t x i ok => outLookup ti t (opd ti s t x) (opd ti s 0 i) ok k
  | .slice t x lo hi mx => outSlice M ti s t (opd ti s t x) lo hi mx k
  | .index t x i => outIndexV ti t (opd ti s t x) (opd ti s 3 i) k
  | .field t x f => outFieldV ti t (opd ti s t x) f k
  | .extract x i => outExtract (opd ti s 0 x) i k
  | .convert a b x => outConvert ti a b (opd ti s a x) k
  | .call c => match c.callee with
    | .builtin .len => match c.args.toList, c.argTypes.toList with
      | [x], [t] => outLen M ti t (opd ti s t x) k
      | _, _ => False
    | .builtin .append => match c.args.toList, c.argTypes.toList with
      | [x, y], [t, t'] => req (Nat.beq t t') <| outAppend ti t (opd ti s t x) (opd ti s t y) fresh h k
      | _, _ => False
    | .value f => outCallV M (opd ti s 0 f) (opsArgs ti s c.args.toList c.argTypes.toList) fresh h k
    | _ => False
  | _ => False

end Go.AM

/- The abstract machine, part E: each operation's abstract outcome is what the model does. No condition. -/
namespace Go.AM
open Go Go.RowKit

section
variable {C : Cx} {F : Nat → Prop} {s : Slots} {h : Heap} {g : Ghost} {a : Act} {w : World}

theorem RelS.put {dst : Option Tmp} {v : AV} {u : Value} (R : RelS C F s h g a w) (hd : ∀ d, dst = some d → d < C.nt)
    (hr : RelAV w (zor (zone g h) C.X) g h v u) : RelS C F (updS s dst v) h g (a.put dst u) w := by
  cases dst with
  | none => exact R
  | some d =>
    have hlt := hd d rfl
    refine { R with size := by simpa [Act.put] using R.size, defers := R.defers, slots := fun t => ?_ }
    simp only [updS, Act.put]
    by_cases ht : t = d
    · subst ht
      have : (a.tmps.setIfInBounds t u).getD t undef = u := by simp [R.size, hlt]
      rw [this, if_pos rfl]
      exact hr
    · have : (a.tmps.setIfInBounds d u).getD t undef = a.tmps.getD t undef := by
        simp [Ne.symm ht]
      rw [this, if_neg ht]
      exact R.slots t

theorem RelS.free_mono {F' : Nat → Prop} (R : RelS C F s h g a w) (hF : ∀ n, F' n → F n) : RelS C F' s h g a w :=
  { R with free := fun n hn => R.free n (hF n hn) }

theorem zone_lt {X : Zone} (R : RelH w X g h) {b o : Nat} (hz : zone g h b o) : b < w.heap.size := by
  obtain ⟨i, ob, hi, h1⟩ := hz
  exact (R.objs i ob hi).lt h1.1

theorem RelS.alloc (R : RelS C F s h g a w) {n : Nat} (hf : F n) (c : Array Value) (e : TypeId) (cs : List CV) (hs : c.size = cs.length)
    (hr : ∀ (j : Nat) x u, cs[j]? = some x → c[j]? = some u → RelC w (zor (zone g h) C.X) g h x u) :
    RelS C (fun k => F k ∧ k ≠ n) s (updO h (.loc n) (.cells cs)) (updG g (.loc n) (.pointer (some ⟨w.heap.size, 0, none⟩))) a (w.alloc (.cells c e)) := by
  have hX : ∀ b o, C.X b o → b < w.heap.size := fun b o hx => Nat.lt_of_lt_of_le (R.xs b o hx) R.frame.size
  obtain ⟨hgn, hhn⟩ := R.free n hf
  have hne : ∀ {i : Id} {v : Value}, g i = v → v ≠ undef → i ≠ .loc n := by
    rintro i v hv hu rfl
    exact hu (hv ▸ hgn)
  have E : Evo w (zor (zone g h) C.X) g h (w.alloc (.cells c e)) (zor (zone (updG g (.loc n) (.pointer (some ⟨w.heap.size, 0, none⟩))) (updO h (.loc n) (.cells cs))) C.X)
      (updG g (.loc n) (.pointer (some ⟨w.heap.size, 0, none⟩))) (updO h (.loc n) (.cells cs)) := by
    refine ⟨fun b o u hu hz => ?_, fun i b hb => ?_, fun i q hq => ?_, fun i hi => ?_, fun i k sz e' hi hk => ?_⟩
    · have hlt := World.block_lt_of_cell? w ⟨b, o, none⟩ hu
      refine ⟨(World.cell?_alloc_lt w _ ⟨b, o, none⟩ hlt).trans hu, ?_⟩
      rintro (⟨i, ob, hi, h1⟩ | hx)
      · by_cases hin : i = .loc n
        · subst hin
          have := h1.1
          simp [updG, blk] at this
          simp at hlt
          omega
        · simp only [updO, updG, if_neg hin] at hi h1
          exact hz (.inl ⟨i, ob, hi, h1⟩)
      · exact hz (.inr hx)
    · exact if_neg (hne hb (by simp [undef]))
    · exact if_neg (hne hq (by simp [undef]))
    · have : i ≠ .loc n := by rintro rfl; rw [hgn] at hi; exact hi
      simpa [updG, this] using hi
    · have : i ≠ .loc n := by rintro rfl; rw [hgn] at hi; exact hi
      refine ⟨k, Nat.le_refl _, by simpa [updO, this] using hk, fun _ => by simp [updG, this]⟩
  refine R.step (F' := fun k => F k ∧ k ≠ n) (fun i => i = .loc n) E ?_ ?_ ?_ ?_ ?_ ?_ ?_ ?_
  · exact ⟨rfl, rfl, rfl, by simp, fun b hb _ => Below.heap_alloc w _ b hb, fun b o u hu _ => (World.cell?_alloc_lt w _ ⟨b, o, none⟩ (World.block_lt_of_cell? w ⟨b, o, none⟩ hu)).trans hu⟩
  · intro i hi
    simp [updO, updG, hi]
  · intro i o b _ hi hb
    exact Below.heap_alloc w _ b ((R.heap.objs i o hi).lt hb)
  · rintro i o rfl ho
    simp [updO] at ho
    subst ho
    exact ⟨w.heap.size, c, e, by simp [updG], heap_alloc_new w _, hs, fun j x u hx hu => E.relC (hr j x u hx hu)⟩
  · rintro i o b rfl _ hb
    simp [updG, blk] at hb
    exact .inr (by omega)
  · rintro i j _ _ _ rfl rfl _ _ _ _
    rfl
  · intro j hj
    exact absurd hj (by simp)
  · rintro k ⟨hk, hkn⟩
    have := R.free k hk
    simp [updG, updO, hkn, this]

theorem RelS.store (R : RelS C F s h g a w) {id : Id} {cs cs' : List CV} (hid : h id = some (.cells cs)) {b : Nat} {c c' : Array Value} {e : TypeId}
    (hg : g id = .pointer (some ⟨b, 0, none⟩)) (hb : w.heap[b]? = some (.cells c e (0, 0))) (hs : c'.size = cs'.length)
    (hr : ∀ (j : Nat) x u, cs'[j]? = some x → c'[j]? = some u → RelC w (zor (zone g h) C.X) g h x u) :
    RelS C F s (updO h id (.cells cs')) g a (w.setRow b c') := by
  have hzb : ∀ o, zone g h b o := fun o => ⟨id, _, hid, by simp [zone1, hg, blk]⟩
  have hz1 : ∀ i ob b' o, updO h id (.cells cs') i = some ob → zone1 (g i) ob b' o → zone g h b' o := by
    intro i ob b' o hi h1
    by_cases hin : i = id
    · subst hin
      exact ⟨i, _, hid, h1.1, trivial⟩
    · simp only [updO, if_neg hin] at hi
      exact ⟨i, ob, hi, h1⟩
  have hcell : ∀ b' o u, w.cell? ⟨b', o, none⟩ = some u → ¬ zone g h b' o → (w.setRow b c').cell? ⟨b', o, none⟩ = some u := by
    intro b' o u hu hz
    have hne : b' ≠ b := by rintro rfl; exact hz (hzb o)
    exact (cell_setRow_other w b c' ⟨b', o, none⟩ hne).trans hu
  have E : Evo w (zor (zone g h) C.X) g h (w.setRow b c') (zor (zone g (updO h id (.cells cs'))) C.X) g (updO h id (.cells cs')) := by
    refine ⟨fun b' o u hu hz => ⟨hcell b' o u hu (fun hz' => hz (.inl hz')), ?_⟩, fun _ _ _ => rfl, fun _ _ _ => rfl, fun _ hi => hi, fun i k sz e' _ hk => ?_⟩
    · rintro (⟨i, ob, hi, h1⟩ | hx)
      · exact hz (.inl (hz1 i ob b' o hi h1))
      · exact hz (.inr hx)
    · have hin : i ≠ id := by rintro rfl; simp [updO] at hk
      exact ⟨k, Nat.le_refl _, by simpa [updO, hin] using hk, fun _ => rfl⟩
  refine R.step (fun i => i = id) E ?_ ?_ ?_ ?_ ?_ ?_ ?_ ?_
  · exact ⟨rfl, rfl, rfl, by simp, fun b' _ hz => setRow_other w b b' c' (fun e => hz 0 (e ▸ hzb 0)), hcell⟩
  · intro i hi
    simp [updO, hi]
  · intro i o b' hi ho hb'
    refine setRow_other w b b' c' ?_
    rintro rfl
    exact hi (R.heap.sep i id o _ b' ho hid hb' (by rw [hg]; rfl))
  · rintro i o rfl ho
    simp [updO] at ho
    subst ho
    exact ⟨b, c', e, hg, setRow_heap w b c c' e _ hb, hs, fun j x u hx hu => E.relC (hr j x u hx hu)⟩
  · rintro i o b' rfl _ hb'
    exact .inl ⟨_, hid, hb'⟩
  · rintro i j _ _ _ rfl rfl _ _ _ _
    rfl
  · rintro j rfl
    refine ⟨rfl, fun ob hob => ⟨_, hid, fun b' o hz => ?_⟩⟩
    simp [updO] at hob
    subst hob
    exact hz
  · intro k hk
    obtain ⟨h1, h2⟩ := R.free k hk
    have hin : Id.loc k ≠ id := by rintro rfl; rw [h2] at hid; simp at hid
    exact ⟨h1, by simp [updO, hin, h2]⟩

end

/-- What one operation does, whatever else the state holds. -/
def OKop (C : Cx) (o : Oper) (fresh : Nat) (s : Slots) (h : Heap) (out : Out) : Prop :=
  ∀ (F : Nat → Prop) (σs : Slots) (σh : Heap) a w Q, Rel C F σs σh a w → (∀ t, Operand.tmp t ∈ o.op.operands.toList → σs t = s t) → (∀ i ∈ out.rd, σh i = h i) →
    (∀ k, k < 8 → F (fresh + k)) → (∀ d, o.dst = some d → d < C.nt) →
    o.wp C.P a w (fun a' w' => Rel C (fun n => F n ∧ ¬ (fresh ≤ n ∧ n < fresh + 8)) (updS σs o.dst out.val) (updW σh out.wr) a' w') Q

theorem okop_value {C : Cx} {o : Oper} {fresh : Nat} {s : Slots} {h : Heap} {v : AV} {rd : List Id}
    (hr : ∀ F σs σh g a w, RelS C F σs σh g a w → (∀ t, Operand.tmp t ∈ o.op.operands.toList → σs t = s t) → (∀ i ∈ rd, σh i = h i) →
      ∃ u, (execOp a.eval o).run C.P w = .ok (.value u) w ∧ RelAV w (zor (zone g σh) C.X) g σh v u) : OKop C o fresh s h ⟨v, rd, []⟩ := by
  rintro F σs σh a w Q ⟨g, R⟩ ho hrd hF hd
  obtain ⟨u, hu, hv⟩ := hr F σs σh g a w R ho hrd
  unfold Oper.wp
  rw [hu]
  exact ⟨g, (R.put hd hv).free_mono (fun n hn => hn.1)⟩

theorem okop_alloc {C : Cx} {o : Oper} {fresh : Nat} {s : Slots} {h : Heap} {cs : List CV}
    (hr : ∀ F σs σh g a w, RelS C F σs σh g a w → (∀ t, Operand.tmp t ∈ o.op.operands.toList → σs t = s t) →
      ∃ c e, (execOp a.eval o).run C.P w = .ok (.value (.pointer (some ⟨w.heap.size, 0, none⟩))) (w.alloc (.cells c e)) ∧ c.size = cs.length ∧
        ∀ (j : Nat) x u, cs[j]? = some x → c[j]? = some u → RelC w (zor (zone g σh) C.X) g σh x u) : OKop C o fresh s h ⟨ptrTo fresh, [], [(.loc fresh, .cells cs)]⟩ := by
  rintro F σs σh a w Q ⟨g, R⟩ ho hrd hF hd
  obtain ⟨c, e, hu, hs, hc⟩ := hr F σs σh g a w R ho
  unfold Oper.wp
  rw [hu]
  have R' := R.alloc (n := fresh) (hF 0 (by omega)) c e cs hs hc
  refine ⟨_, (R'.put hd (v := ptrTo fresh) ⟨⟨w.heap.size, by simp [updG]⟩, by simp [updG, ptrAt]⟩).free_mono (fun n hn => ⟨hn.1, fun e => hn.2 (by omega)⟩)⟩

theorem constV_rel {w : World} {Z : Zone} {g : Ghost} {h : Heap} (ti : Types) (t : TypeId) (v : Value) : RelAV w Z g h (constA (constV ti t v)) v := by
  unfold constV
  split <;> first
    | exact RelD.int _ _
    | exact RelD.bool _
    | exact RelD.str _
    | exact rfl
    | (split
       · split
         · split <;> exact rfl
         · exact rfl
       · exact rfl)
    | exact trivial

theorem opd_rel {C : Cx} {F : Nat → Prop} {s σs : Slots} {σh : Heap} {g : Ghost} {a : Act} {w : World} (ti : Types) (t : TypeId) (x : Operand)
    (R : RelS C F σs σh g a w) (hx : ∀ k, x = .tmp k → σs k = s k) : RelAV w (zor (zone g σh) C.X) g σh (opd ti s t x) (a.eval x) := by
  cases x with
  | tmp k =>
    have := R.slots k
    rw [hx k rfl] at this
    exact this
  | const v => exact constV_rel ti t v
  | func f => exact ⟨rfl, by simp⟩
  | global q => trivial

section
variable {C : Cx} {ti : Types} {o : Oper} {fresh : Nat} {s : Slots} {h : Heap} {k : Out → Prop}

theorem run_value {P : Program} {w w' : World} {q : Sem Value} {v : Value} (h : q.run P w = .ok v w') :
    (do pure (Next.value (← q)) : Sem Next).run P w = .ok (.value v) w' := by
  simp [h]

theorem withT_iff {t : TypeId} {k : TI → Prop} : withT ti t k ↔ ∃ i, ti t = some i ∧ k i := by
  unfold withT
  split <;> simp_all
theorem withV_iff {x : AV} {k : V1 → Prop} : withV x k ↔ ∃ y, x = .v y ∧ k y := by
  unfold withV
  split <;> simp_all
theorem withB_iff {x : AV} {k : Bool → Prop} : withB x k ↔ ∃ y, x = .v (.d (.bool y)) ∧ k y := by
  unfold withB
  split <;> simp_all
theorem withI_iff {x : AV} {k : IntKind → Int → Prop} : withI x k ↔ ∃ q n, x = .v (.d (.int q n)) ∧ k q n := by
  unfold withI
  split
  · rename_i q n
    constructor
    · exact fun h => ⟨q, n, rfl, h⟩
    · rintro ⟨q', n', he, hk⟩
      cases he
      exact hk
  · rename_i hh
    constructor
    · exact fun h => h.elim
    · rintro ⟨q, n, rfl, _⟩; exact hh q n rfl
theorem withL_iff {x : AV} {k : Bool → Nat → List D → Prop} (hk : withL x k) :
    ∃ ag sz rows, (∀ {w : World} {Z : Zone} {g : Ghost} {h : Heap} {v : Value}, RelAV w Z g h x v → RelD w Z (.list ag sz rows) v) ∧ k ag sz rows := by
  unfold withL at hk
  split at hk
  · exact ⟨_, _, _, fun r => r, hk⟩
  · exact ⟨_, _, _, fun r => r.1, hk⟩
  · exact ⟨_, _, _, fun r => by rw [show _ = _ from r]; exact relD_nil _ _, hk⟩
  · exact ⟨_, _, _, fun r => r.1, hk⟩
  · exact hk.elim

theorem relB {w : World} {Z : Zone} {g : Ghost} {h : Heap} {b : Bool} {v : Value} (r : RelAV w Z g h (.v (.d (.bool b))) v) : v = .bool b := by
  cases (show RelD w Z (.bool b) v from r); rfl
theorem relI {w : World} {Z : Zone} {g : Ghost} {h : Heap} {q : IntKind} {n : Int} {v : Value} (r : RelAV w Z g h (.v (.d (.int q n))) v) : v = .int q n := by
  cases (show RelD w Z (.int q n) v from r); rfl
theorem relSt {w : World} {Z : Zone} {g : Ghost} {h : Heap} {b : ByteArray} {v : Value} (r : RelAV w Z g h (.v (.d (.str b))) v) : v = .string b := by
  cases (show RelD w Z (.str b) v from r); rfl

theorem ok_move (x : Operand) (ho : o.op = .move x ∨ o.op = .assign x) : OKop C o fresh s h ⟨opd ti s o.type x, [], []⟩ := by
  refine okop_value fun F σs σh g a w R hs _ => ⟨a.eval x, ?_, opd_rel ti o.type x R (fun t ht => hs t ?_)⟩
  · rcases ho with ho | ho <;> simp [execOp, ho]
  · subst ht
    rcases ho with ho | ho <;> simp [ho, Op.operands]

theorem ok_pick (c x y : Operand) (ho : o.op = .pick c x y) {q : Bool} (hq : opd ti s 0 c = .v (.d (.bool q))) :
    OKop C o fresh s h ⟨pickAV q (opd ti s o.type x) (opd ti s o.type y), [], []⟩ := by
  refine okop_value fun F σs σh g a w R hs _ => ?_
  have hc := opd_rel ti 0 c R (s := s) (fun t ht => hs t (by subst ht; simp [ho, Op.operands]))
  rw [hq] at hc
  have hc := relB hc
  refine ⟨if q then a.eval x else a.eval y, ?_, ?_⟩
  · simp [execOp, ho, hc, asBool]
  · cases q
    · exact opd_rel ti o.type y R (fun t ht => hs t (by subst ht; simp [ho, Op.operands]))
    · exact opd_rel ti o.type x R (fun t ht => hs t (by subst ht; simp [ho, Op.operands]))

theorem zrel_rel {w : World} {Z : Zone} {g : Ghost} {h : Heap} {c : CV} {u : Value} (q : ZRel c u) : RelC w Z g h c u := by
  revert q
  unfold ZRel
  split <;> intro hz
  · rw [hz.1, hz.2]; exact ⟨.int _ _, rfl⟩
  · rw [hz]; exact ⟨.bool _, rfl⟩
  · rw [hz]; exact ⟨.str _, rfl⟩
  · exact rfl
  · exact rfl
  · exact rfl
  · exact rfl
  · exact hz
  · exact hz.elim

theorem ok_alloc (hti : TIok C.P ti) (t : TypeId) (ho : o.op = .alloc t) {i : TI} (hi : ti t = some i) : OKop C o fresh s h ⟨ptrTo fresh, [], [(.loc fresh, .cells i.zc)]⟩ := by
  refine okop_alloc fun F σs σh g a w R hs => ?_
  obtain ⟨hu, ii, h1, h2, h3, h4, h5, h6, h7⟩ := hti t i hi
  refine ⟨i.zero.cells, t, ?_, by rw [h5, h6], fun j c u hc hu => ?_⟩
  · simp [execOp, ho, Instr.alloc, zeroValue, typeInfo, h1, h4, newVar, newRow]
  · have := h7 j c u hc hu
    revert this
    unfold ZRel
    split <;> intro hz
    · rw [hz.1, hz.2]; exact ⟨.int _ _, rfl⟩
    · rw [hz]; exact ⟨.bool _, rfl⟩
    · rw [hz]; exact ⟨.str _, rfl⟩
    · exact rfl
    · exact rfl
    · exact rfl
    · exact rfl
    · exact hz
    · exact hz.elim

theorem ok_box (t : TypeId) (x : Operand) (ho : o.op = .box t x) {y : V1} (hy : opd ti s t x = .v y) : OKop C o fresh s h ⟨ptrTo fresh, [], [(.loc fresh, .cells y.cells)]⟩ := by
  refine okop_alloc fun F σs σh g a w R hs => ?_
  have hx := opd_rel ti t x R (s := s) (fun k hk => hs k (by subst hk; simp [ho, Op.operands]))
  rw [hy] at hx
  obtain ⟨h1, h2⟩ := RelV1.cells hx
  exact ⟨(a.eval x).cells, t, by simp [execOp, ho, Instr.box, newVar, newRow], h1, h2⟩

end
end Go.AM

/- The abstract machine, part F: each operation's abstract outcome is what the model does (loads, stores, places, arithmetic). No condition. -/
namespace Go.AM
open Go Go.RowKit

section
variable {C : Cx} {ti : Types} {o : Oper} {fresh : Nat} {s : Slots} {h : Heap} {k : Out → Prop}

/-- What the table of types must say besides: what is no row is one cell. -/
def TIone (ti : Types) : Prop := ∀ t x, ti t = some x → rowD x.desc = false → x.size = 1

theorem rangeArr_get {n : Nat} {U : Nat → Value} {j : Nat} {u : Value} (h : (((List.range n).map U).toArray)[j]? = some u) : j < n ∧ u = U j := by
  simp only [List.getElem?_toArray, List.getElem?_map, Option.map_eq_some_iff] at h
  obtain ⟨x, hx, rfl⟩ := h
  obtain ⟨hlt, hx⟩ := List.getElem?_eq_some_iff.1 hx
  simp at hlt hx
  subst hx
  exact ⟨hlt, rfl⟩

/-- A load at a place whose cells are known. -/
theorem run_load_cells {P : Program} {w : World} {t : TypeId} {i : TI} (hti : TIok P ti) (h1 : TIone ti) (hi : ti t = some i) {b q : Nat} {vs : Array Value} (hs : vs.size = i.size)
    (hc : ∀ (j : Nat) u, vs[j]? = some u → w.cell? ⟨b, q + j, none⟩ = some u) :
    ∃ v, (Instr.loadAt t (.pointer (some ⟨b, q, none⟩))).run P w = .ok v w ∧ (rowD i.desc = true → v = .agg vs) ∧ (rowD i.desc = false → vs = #[v]) := by
  obtain ⟨hu, ii, hii, hsz, _⟩ := hti t i hi
  cases hr : rowD i.desc with
  | true =>
    refine ⟨.agg vs, ?_, fun _ => rfl, fun e => by cases e⟩
    have := run_loadAt_mid (P := P) w b q t vs.toList i.desc (fun j v hv => hc j v (by simpa using hv)) hu (by revert hr; cases i.desc <;> simp [rowD, TypeDesc.isRow]) (by simp [hii, hsz, hs])
    simpa using this
  | false =>
    have e1 := h1 t i hi hr
    obtain ⟨v, hv⟩ : ∃ v, vs = #[v] := by
      have : vs.size = 1 := by omega
      exact ⟨vs[0], by
        apply Array.ext
        · simp [this]
        · intro k h1 h2
          obtain rfl : k = 0 := by omega
          rfl⟩
    subst hv
    refine ⟨v, ?_, fun e => (by cases e), fun _ => rfl⟩
    have hag : (isAgg t).run P w = .ok false w := by
      unfold isAgg
      rw [Sem.run_bind, run_underlying hu w]
      revert hr
      cases i.desc <;> simp [rowD]
    have := hc 0 v rfl
    simp only [Nat.add_zero] at this
    simp [Instr.loadAt, Instr.sureAddr, loadVar, hag, this]

theorem load_core (hti : TIok C.P ti) (h1 : TIone ti) (t : TypeId) (X : AV) (hk : outLoad ti t X h k) : ∃ out, k out ∧ out.wr = [] ∧
    ∀ F σs σh g a w u, RelS C F σs σh g a w → RelAV w (zor (zone g σh) C.X) g σh X u → (∀ i ∈ out.rd, σh i = h i) →
      ∃ v, (Instr.loadAt t u).run C.P w = .ok v w ∧ RelAV w (zor (zone g σh) C.X) g σh out.val v := by
  unfold outLoad at hk
  obtain ⟨i, hi, hk2⟩ := withT_iff.1 hk
  clear hk
  have fin : ∀ (cs : List CV) (rd : List Id), cs.length = i.size →
      (∀ F σs σh g a w u, RelS C F σs σh g a w → RelAV w (zor (zone g σh) C.X) g σh X u → (∀ i ∈ rd, σh i = h i) →
        ∃ b q, ∃ vs : Array Value, u = .pointer (some ⟨b, q, none⟩) ∧ vs.size = i.size ∧ (∀ (j : Nat) u, vs[j]? = some u → w.cell? ⟨b, q + j, none⟩ = some u) ∧
          ∀ (j : Nat) c u, cs[j]? = some c → vs[j]? = some u → RelC w (zor (zone g σh) C.X) g σh c u) →
      ∀ F σs σh g a w u, RelS C F σs σh g a w → RelAV w (zor (zone g σh) C.X) g σh X u → (∀ i ∈ rd, σh i = h i) →
        ∃ v, (Instr.loadAt t u).run C.P w = .ok v w ∧ RelAV w (zor (zone g σh) C.X) g σh (.v (V1.ofCells (rowD i.desc) cs)) v := by
    intro cs rd hl H F σs σh g a w u R hu hrd
    obtain ⟨b, q, vs, he, hvs, hc, hr⟩ := H F σs σh g a w u R hu hrd
    obtain ⟨v, hv, ha, hb⟩ := run_load_cells (P := C.P) (w := w) hti h1 hi hvs hc
    refine ⟨v, by rw [he]; exact hv, ?_⟩
    have := RelV1.ofCells (ag := rowD i.desc) (by omega) hr
    cases hrow : rowD i.desc with
    | true => rw [ha hrow]; rw [hrow] at this; exact this.1 rfl
    | false => rw [hrow] at this; exact this.2 rfl v (hb hrow)
  split at hk2
  · rename_i id q
    split at hk2
    · rename_i cs hcs
      obtain ⟨hle, hk⟩ := req_iff.1 hk2
      have hle : q + i.size ≤ cs.length := by simpa using hle
      refine ⟨_, hk, rfl, fin _ _ (by simp; omega) fun F σs σh g a w u R hv hrd => ?_⟩
      obtain ⟨⟨b, hb⟩, hv⟩ := hv
      rw [hb] at hv
      have hh : σh id = some (.cells cs) := (hrd id (by simp)).trans hcs
      obtain ⟨b', c, e, hg, hheap, hsz, hr⟩ := R.heap.objs id _ hh
      rw [hb] at hg
      obtain rfl : b = b' := by simpa using hg
      have hget : ∀ (j : Nat) u, (c.extract q (q + i.size))[j]? = some u → c[q + j]? = some u ∧ j < i.size := by
        intro j u hu
        have hlt := (Array.getElem?_eq_some_iff.1 hu).1
        simp at hlt
        refine ⟨?_, by omega⟩
        rw [← hu, Array.getElem?_extract]
        rw [if_pos (by omega)]
      refine ⟨b, q, c.extract q (q + i.size), hv, by simp; omega, fun j u hu => ?_, fun j x u hx' hu => ?_⟩
      · rw [cell_of_row w b (q + j) c e (0, 0) hheap]
        exact (hget j u hu).1
      · obtain ⟨h1', h2'⟩ := hget j u hu
        refine hr (q + j) x u ?_ h1'
        simpa [List.getElem?_take, h2'] using hx'
    · exact hk2.elim
  · rename_i ag sz d
    obtain ⟨hag, hk⟩ := req_iff.1 hk2
    obtain ⟨hsz, hk⟩ := req_iff.1 hk
    have hag : rowD i.desc = ag := by simpa using hag
    have hsz : sz = i.size := by simpa using hsz
    refine ⟨_, hk, rfl, fun F σs σh g a w u R hv _ => ?_⟩
    obtain ⟨⟨f1, f2, f3⟩, b, q, hv, U, hU⟩ := hv
    let vs : Array Value := ((List.range d.cells.length).map U).toArray
    have hget : ∀ (j : Nat) u, vs[j]? = some u → ∃ c, d.cells[j]? = some c ∧ u = U j := by
      intro j u hu
      obtain ⟨hlt, rfl⟩ := rangeArr_get hu
      exact ⟨d.cells[j], by simp [hlt], rfl⟩
    obtain ⟨v, hrun, ha, hb⟩ := run_load_cells (P := C.P) (w := w) (vs := vs) (b := b) (q := q) hti h1 hi (by simp [vs]; omega) (fun j u hu => by
      obtain ⟨c, hc, rfl⟩ := hget j u hu
      exact (hU j c hc).1)
    refine ⟨v, by rw [hv]; exact hrun, ?_⟩
    cases hrow : rowD i.desc with
    | true =>
      rw [ha hrow]
      have hd : d.isAgg = true := by rw [f1, ← hag, hrow]
      obtain ⟨cs, rfl⟩ : ∃ cs, d = .agg cs := by cases d <;> first | exact ⟨_, rfl⟩ | simp [D.isAgg] at hd
      refine RelD.agg cs vs (by simp [vs, D.cells]) f3 (fun j c u hc hu => ?_)
      obtain ⟨c', hc', rfl⟩ := hget j u hu
      exact (hU j c hc).2.2
    | false =>
      have hd : d.isAgg = false := by rw [f1, ← hag, hrow]
      have hcell : d.cells = [d] := by cases d <;> first | rfl | simp [D.isAgg] at hd
      have hvv := hb hrow
      obtain ⟨c', hc', he⟩ := hget 0 v (by rw [hvv]; rfl)
      rw [he]
      exact (hU 0 d (by rw [hcell]; rfl)).2.2
  · rename_i cs
    obtain ⟨hle, hk⟩ := req_iff.1 hk2
    have hle : i.size ≤ cs.length := by simpa using hle
    refine ⟨_, hk, rfl, fin _ _ (by simp; omega) fun F σs σh g a w u R hv _ => ?_⟩
    obtain ⟨f1, b, q, hv, U, hU⟩ := hv
    refine ⟨b, q, ((List.range i.size).map U).toArray, hv, by simp, fun j u hu => ?_, fun j c u hc hu => ?_⟩
    · obtain ⟨hlt, rfl⟩ := rangeArr_get hu
      exact (hU j cs[j] (by simp)).1
    · obtain ⟨hlt, rfl⟩ := rangeArr_get hu
      simp only [List.getElem?_map, List.getElem?_take, hlt, if_true, Option.map_eq_some_iff] at hc
      obtain ⟨d, hd, rfl⟩ := hc
      exact ⟨(hU j d hd).2.2, f1 d (List.mem_of_getElem? hd)⟩
  · exact hk2.elim

theorem ok_load (hti : TIok C.P ti) (h1 : TIone ti) (t : TypeId) (x : Operand) (ho : o.op = .load t x) (hk : outLoad ti t (opd ti s 0 x) h k) : ∃ out, k out ∧ OKop C o fresh s h out := by
  obtain ⟨⟨val, rd, wr⟩, hko, hwr, H⟩ := load_core (C := C) hti h1 t _ hk
  simp only [] at hwr
  subst hwr
  refine ⟨_, hko, okop_value fun F σs σh g a w R hs hrd => ?_⟩
  have hx := opd_rel ti 0 x R (s := s) (fun k hk => hs k (by subst hk; simp [ho, Op.operands]))
  obtain ⟨v, hv, hr⟩ := H F σs σh g a w _ R hx hrd
  exact ⟨v, by simp only [execOp, ho]; exact run_value hv, hr⟩

theorem addr_add (b q n : Nat) : (⟨b, q, none⟩ : Addr).add n = ⟨b, q + n, none⟩ := by unfold Addr.add; split <;> simp_all

theorem ok_store (hti : TIok C.P ti) (t : TypeId) (x y : Operand) (ho : o.op = .store t x y) (hd : o.dst = none) (hk : outStore ti t (opd ti s 0 x) (opd ti s t y) h k) : ∃ out, k out ∧ OKop C o fresh s h out := by
  unfold outStore at hk
  obtain ⟨i, hi, hk⟩ := withT_iff.1 hk
  obtain ⟨yv, hyv, hk⟩ := withV_iff.1 hk
  split at hk
  · rename_i id q hop
    split at hk
    · rename_i cs hcs
      obtain ⟨hle, hk⟩ := req_iff.1 hk
      obtain ⟨hlen, hk⟩ := req_iff.1 hk
      have hle : q + i.size ≤ cs.length := by simpa using hle
      have hlen : yv.cells.length = i.size := by simpa using hlen
      refine ⟨_, hk, ?_⟩
      rintro F σs σh a w Q ⟨g, R⟩ hs hrd hF _
      have hx := opd_rel ti 0 x R (s := s) (fun k hk => hs k (by subst hk; simp [ho, Op.operands]))
      have hy := opd_rel ti t y R (s := s) (fun k hk => hs k (by subst hk; simp [ho, Op.operands]))
      rw [hop] at hx
      rw [hyv] at hy
      obtain ⟨⟨b, hb⟩, hx⟩ := hx
      rw [hb] at hx
      obtain ⟨hy1, hy2⟩ := RelV1.cells hy
      have hh : σh id = some (.cells cs) := (hrd id (by simp)).trans hcs
      obtain ⟨b', c, e, hg, hheap, hsz, hr⟩ := R.heap.objs id _ hh
      rw [hb] at hg
      obtain rfl : b = b' := by simpa using hg
      have hone : ∀ v ∈ (a.eval y).cells.toList, v.oneCell' = true := by
        intro v hv
        obtain ⟨j, hj⟩ := List.mem_iff_getElem?.1 hv
        have hlt := (List.getElem?_eq_some_iff.1 hj).1
        simp at hlt hj
        exact RelC.oneCell (hy2 j yv.cells[j] v (by simp) (by simpa using hj))
      have hst := run_storeCells_at C.P b q e (a.eval y).cells.toList 0 c w hheap (by simp; omega) hone
      simp only [Nat.add_zero, Array.length_toList] at hst
      obtain ⟨_, ii, hii, hsi, _⟩ := hti t i hi
      have hrun : (execOp a.eval o).run C.P w = .ok .skip (w.setRow b (c.toList.take q ++ (a.eval y).cells.toList ++ c.toList.drop (q + (a.eval y).cells.size)).toArray) := by
        simp only [execOp, ho, hx, ptrAt, Instr.storeAt, Instr.sureAddr, storeVar, sizeOf, typeInfo, Sem.run_bind, run_program, Result.andThen_ok, Sem.run_pure, hii, hsi, hy1, hlen]
        simp [hst]
        rw [hy1, hlen]
      unfold Oper.wp
      rw [hrun]
      have R' := R.store (cs' := cs.take q ++ yv.cells ++ cs.drop (q + i.size)) (c' := (c.toList.take q ++ (a.eval y).cells.toList ++ c.toList.drop (q + (a.eval y).cells.size)).toArray) hh hb hheap
        (by simp; omega) (fun j z u hz hu => ?_)
      · refine ⟨g, ?_⟩
        rw [hd]
        exact (R'.put (dst := none) (v := .u) (u := undef) (fun d e => by cases e) trivial).free_mono (fun n hn => hn.1)
      · simp only [List.getElem?_toArray, List.append_assoc] at hu hz
        by_cases h1 : j < q
        · rw [List.getElem?_append_left (by simp; omega), List.getElem?_take, if_pos h1] at hu hz
          exact hr j z u hz (by simpa using hu)
        · rw [List.getElem?_append_right (by simp; omega)] at hu hz
          have e1 : (cs.take q).length = q := by simp; omega
          have e2 : (c.toList.take q).length = q := by simp; omega
          rw [e1] at hz
          rw [e2] at hu
          by_cases h2 : j - q < i.size
          · rw [List.getElem?_append_left (by omega)] at hz
            rw [List.getElem?_append_left (by simp; omega)] at hu
            exact hy2 (j - q) z u hz (by simpa using hu)
          · rw [List.getElem?_append_right (by omega), List.getElem?_drop] at hz
            rw [List.getElem?_append_right (by simp; omega), List.getElem?_drop] at hu
            simp only [Array.length_toList] at hu
            refine hr _ z u hz ?_
            rw [hy1] at hu
            rw [← hlen]
            simpa [hlen] using hu
    · exact hk.elim
  · exact hk.elim

end
end Go.AM

/- The abstract machine, part G: each operation's abstract outcome is what the model does (places, lengths, arithmetic). No condition. -/
namespace Go.AM
open Go Go.RowKit

section
variable {C : Cx} {ti : Types} {o : Oper} {fresh : Nat} {s : Slots} {h : Heap} {k : Out → Prop}

theorem tsize {P : Program} (hti : TIok P ti) {t : TypeId} {i : TI} (hi : ti t = some i) (w : World) : (sizeOf t).run P w = .ok i.size w := by
  obtain ⟨_, ii, hii, hsi, _⟩ := hti t i hi
  simp [sizeOf, typeInfo, hii, hsi]
theorem tund {P : Program} (hti : TIok P ti) {t : TypeId} {i : TI} (hi : ti t = some i) (w : World) : (underlying t).run P w = .ok i.desc w :=
  run_underlying (hti t i hi).1 w

theorem ok_field (hti : TIok C.P ti) (t : TypeId) (x : Operand) (f : Nat) (ho : o.op = .fieldAddr t x f) (hk : outField ti t (opd ti s 0 x) f k) : ∃ out, k out ∧ OKop C o fresh s h out := by
  unfold outField at hk
  obtain ⟨i, hi, hk⟩ := withT_iff.1 hk
  split at hk
  · rename_i fs hfs
    split at hk
    · rename_i fd hfd
      obtain ⟨j, hj, hk⟩ := withT_iff.1 hk
      obtain ⟨hpos, hk⟩ := req_iff.1 hk
      have hpos : j.size ≠ 0 := by
        have : 0 < j.size := by simpa using hpos
        omega
      have hrun : ∀ (b q : Nat) (a : Act) (w : World), a.eval x = .pointer (some ⟨b, q, none⟩) →
          (execOp a.eval o).run C.P w = .ok (.value (.pointer (some ⟨b, q + fd.offset, none⟩))) w := by
        intro b q a w he
        have h1 := tund hti hi w
        rw [hfs] at h1
        have h2 := tsize hti hj w
        simp only [execOp, ho, he]
        refine run_value ?_
        simp [Instr.fieldAt, h1, hfd, Instr.sureAddr, fieldPlace, h2, hpos, addr_add]
      have hx := fun (F : Nat → Prop) (σs : Slots) (σh : Heap) (g : Ghost) (a : Act) (w : World) (R : RelS C F σs σh g a w) (hs : ∀ t, Operand.tmp t ∈ o.op.operands.toList → σs t = s t) =>
        opd_rel ti 0 x R (s := s) (fun k hk => hs k (by subst hk; simp [ho, Op.operands]))
      split at hk
      · rename_i id q hop
        refine ⟨_, hk, okop_value fun F σs σh g a w R hs _ => ?_⟩
        have hv := hx F σs σh g a w R hs
        rw [hop] at hv
        obtain ⟨⟨b, hb⟩, hv⟩ := hv
        rw [hb] at hv
        exact ⟨_, hrun b q a w hv, ⟨b, hb⟩, by rw [hb]; rfl⟩
      · rename_i ag sz d hop
        refine ⟨_, hk, okop_value fun F σs σh g a w R hs _ => ?_⟩
        have hv := hx F σs σh g a w R hs
        rw [hop] at hv
        obtain ⟨hf, b, q, hv, U, hU⟩ := hv
        refine ⟨_, hrun b q a w hv, fun c hc => hf.2.2 c (List.mem_of_mem_drop hc), b, _, rfl, fun n => U (fd.offset + n), fun n c hc => ?_⟩
        rw [List.getElem?_drop] at hc
        have := hU _ c hc
        rw [show q + fd.offset + n = q + (fd.offset + n) from by omega]
        exact this
      · rename_i cs hop
        refine ⟨_, hk, okop_value fun F σs σh g a w R hs _ => ?_⟩
        have hv := hx F σs σh g a w R hs
        rw [hop] at hv
        obtain ⟨hf, b, q, hv, U, hU⟩ := hv
        refine ⟨_, hrun b q a w hv, fun c hc => hf c (List.mem_of_mem_drop hc), b, _, rfl, fun n => U (fd.offset + n), fun n c hc => ?_⟩
        rw [List.getElem?_drop] at hc
        have := hU _ c hc
        rw [show q + fd.offset + n = q + (fd.offset + n) from by omega]
        exact this
      · exact hk.elim
    · exact hk.elim
  · exact hk.elim

/-- What a list is in memory: its length, and its rows. -/
theorem relList {w : World} {Z : Zone} {ag : Bool} {sz : Nat} {rows : List D} {v : Value} (r : RelD w Z (.list ag sz rows) v) :
    ∃ a cap, v = .slice a rows.length cap ∧ rows.length ≤ cap ∧ cap ≤ maxLen ∧ (∀ r ∈ rows, r.fits ag sz) ∧
      ∃ b o, (rows ≠ [] → a = some ⟨b, o, none⟩) ∧ ∃ U : Nat → Nat → Value, ∀ (i : Nat) r (j : Nat) c, rows[i]? = some r → r.cells[j]? = some c →
        w.cell? ⟨b, o + (i * sz + j), none⟩ = some (U i j) ∧ ¬ Z b (o + (i * sz + j)) ∧ RelD w Z c (U i j) := by
  cases r with
  | list ag sz rows a cap b o U hcap hmax hfit ha hc hr =>
    exact ⟨a, cap, rfl, hcap, hmax, hfit, b, o, ha, U, fun i r j c h1 h2 => ⟨(hc i r j c h1 h2).1, (hc i r j c h1 h2).2, hr i r j c h1 h2⟩⟩

theorem ok_index (hti : TIok C.P ti) (t : TypeId) (x y : Operand) (ho : o.op = .indexAddr t x y) (hk : outIndex ti t (opd ti s t x) (opd ti s 3 y) k) : ∃ out, k out ∧ OKop C o fresh s h out := by
  unfold outIndex at hk
  obtain ⟨q, n, hyv, hk⟩ := withI_iff.1 hk
  obtain ⟨i, hi, hk⟩ := withT_iff.1 hk
  have hx := fun (F : Nat → Prop) (σs : Slots) (σh : Heap) (g : Ghost) (a : Act) (w : World) (R : RelS C F σs σh g a w) (hs : ∀ t, Operand.tmp t ∈ o.op.operands.toList → σs t = s t) =>
    And.intro (opd_rel ti t x R (s := s) (fun k hk => hs k (by subst hk; simp [ho, Op.operands]))) (opd_rel ti 3 y R (s := s) (fun k hk => hs k (by subst hk; simp [ho, Op.operands])))
  split at hk
  · rename_i e hdesc
    obtain ⟨j, hj, hk⟩ := withT_iff.1 hk
    split at hk
    · rename_i id len hop
      obtain ⟨p, ⟨hnp, hp⟩, hk⟩ := hk
      refine ⟨_, hk, okop_value fun F σs σh g a w R hs _ => ?_⟩
      subst hnp
      obtain ⟨hv, hn⟩ := hx F σs σh g a w R hs
      rw [hyv] at hn
      have hn := relI hn
      rw [hop] at hv
      obtain ⟨⟨b, hb⟩, hv⟩ := hv
      rw [hb] at hv
      have hv : a.eval x = .slice (some ⟨b, 0, none⟩) len len := hv
      have h1 := tund hti hi w
      rw [hdesc] at h1
      have h2 := tsize hti hj w
      refine ⟨.pointer (some ⟨b, p * j.size, none⟩), ?_, ⟨⟨b, hb⟩, by rw [hb]; simp [ptrAt]⟩⟩
      have hp' : (p : Int) < (len : Int) := Int.ofNat_lt.2 hp
      simp only [execOp, ho]
      refine run_value ?_
      simp [Instr.indexAt, asIntOf, h1, h2, hv, hn, hp, addr_add, Instr.sureAddr]
    obtain ⟨ag, sz, rows, hrel, hk⟩ := withL_iff hk
    obtain ⟨hag, hk⟩ := req_iff.1 hk
    obtain ⟨hsz, hk⟩ := req_iff.1 hk
    obtain ⟨r, h0, hr, hk⟩ := hk
    have hsz : sz = j.size := by simpa using hsz
    subst hsz
    refine ⟨_, hk, okop_value fun F σs σh g a w R hs _ => ?_⟩
    obtain ⟨hv, hn⟩ := hx F σs σh g a w R hs
    rw [hyv] at hn
    have hn := relI hn
    obtain ⟨A, cap, hv, hcap, hmax, hfit, b, o', hA, U, hU⟩ := relList (hrel hv)
    have hlt : n.toNat < rows.length := (List.getElem?_eq_some_iff.1 hr).1
    have hA := hA (by intro e; rw [e] at hlt; simp at hlt)
    subst hA
    refine ⟨.pointer (some ⟨b, o' + n.toNat * j.size, none⟩), ?_, hfit r (List.mem_of_getElem? hr), b, _, rfl, fun c => U n.toNat c, fun c z hz => ?_⟩
    · have h1 := tund hti hi w
      rw [hdesc] at h1
      have h2 := tsize hti hj w
      simp only [execOp, ho, hv, hn]
      refine run_value ?_
      have h3 : 0 ≤ n ∧ n < (rows.length : Int) := by omega
      simp [Instr.indexAt, asIntOf, h1, h2, h3, addr_add]
    · have := hU n.toNat r c z hr hz
      rw [show o' + n.toNat * j.size + c = o' + (n.toNat * j.size + c) from by omega]
      exact this
  · rename_i len e hdesc
    obtain ⟨j, hj, hk⟩ := withT_iff.1 hk
    split at hk
    · rename_i id q' hop
      obtain ⟨h0, hl, hk⟩ := hk
      refine ⟨_, hk, okop_value fun F σs σh g a w R hs _ => ?_⟩
      obtain ⟨hv, hn⟩ := hx F σs σh g a w R hs
      rw [hyv] at hn
      have hn := relI hn
      rw [hop] at hv
      obtain ⟨⟨b, hb⟩, hv⟩ := hv
      rw [hb] at hv
      refine ⟨.pointer (some ⟨b, q' + n.toNat * j.size, none⟩), ?_, ⟨b, hb⟩, by rw [hb]; rfl⟩
      have h1 := tund hti hi w
      rw [hdesc] at h1
      have h2 := tsize hti hj w
      simp only [execOp, ho, hv, hn, ptrAt]
      refine run_value ?_
      simp [Instr.indexAt, asIntOf, h1, h2, h0, hl, addr_add, Instr.sureAddr]
    · exact hk.elim
  · exact hk.elim

theorem ok_len (hti : TIok C.P ti) (t : TypeId) (x : Operand) (ho : o.op = .call { callee := .builtin .len, args := #[x], argTypes := #[t] }) (hk : outLen C.M ti t (opd ti s t x) k) : ∃ out, k out ∧ OKop C o fresh s h out := by
  unfold outLen at hk
  obtain ⟨i, hi, hk⟩ := withT_iff.1 hk
  have hx := fun (F : Nat → Prop) (σs : Slots) (σh : Heap) (g : Ghost) (a : Act) (w : World) (R : RelS C F σs σh g a w) (hs : ∀ t, Operand.tmp t ∈ o.op.operands.toList → σs t = s t) =>
    opd_rel ti t x R (s := s) (fun k hk => hs k (by subst hk; simp [ho, Op.operands, Call.operands]))
  split at hk
  · rename_i e hdesc
    split at hk
    · rename_i id n hop
      obtain ⟨z, hz, hk⟩ := hk
      refine ⟨_, hk, okop_value fun F σs σh g a w R hs _ => ?_⟩
      have hv := hx F σs σh g a w R hs
      rw [hop] at hv
      obtain ⟨⟨b, hb⟩, hv⟩ := hv
      rw [hb] at hv
      have hv : a.eval x = .slice (some ⟨b, 0, none⟩) n n := hv
      refine ⟨.int .i64 z, ?_, .int _ _⟩
      have h1 := tund hti hi w
      rw [hdesc] at h1
      simp [execOp, ho, resolve, invoke, builtin, Builtin.len_, h1, hv, goInt, hz]
    obtain ⟨ag, sz, rows, hrel, z, hz, hk⟩ := withL_iff hk
    refine ⟨_, hk, okop_value fun F σs σh g a w R hs _ => ?_⟩
    obtain ⟨A, cap, hv, _⟩ := relList (hrel (hx F σs σh g a w R hs))
    rw [← hz, C.M.lenI_eq]
    refine ⟨.int .i64 rows.length, ?_, .int _ _⟩
    have h1 := tund hti hi w
    rw [hdesc] at h1
    simp [execOp, ho, resolve, invoke, builtin, Builtin.len_, h1, hv, goInt]
  · rename_i hdesc
    split at hk
    · rename_i b hop
      obtain ⟨z, hz, hk⟩ := hk
      refine ⟨_, hk, okop_value fun F σs σh g a w R hs _ => ?_⟩
      have hv := hx F σs σh g a w R hs
      rw [hop] at hv
      have hv := relSt hv
      rw [← hz, C.M.szI_eq]
      refine ⟨.int .i64 b.size, ?_, .int _ _⟩
      have h1 := tund hti hi w
      rw [hdesc] at h1
      simp [execOp, ho, resolve, invoke, builtin, Builtin.len_, h1, hv, goInt]
    · exact hk.elim
  · rename_i n e hdesc
    refine ⟨_, hk, okop_value fun F σs σh g a w R hs _ => ?_⟩
    refine ⟨.int .i64 n, ?_, .int _ _⟩
    have h1 := tund hti hi w
    rw [hdesc] at h1
    simp [execOp, ho, resolve, invoke, builtin, Builtin.len_, h1, goInt]
  · exact hk.elim

theorem notB_eq (b : Bool) : notB b = !b := by cases b <;> rfl
theorem eqvB_eq (a b : Bool) : eqvB a b = (a == b) := by cases a <;> cases b <;> rfl

theorem ok_un (op : UnOp) (t : TypeId) (x : Operand) (ho : o.op = .unOp op t x) (hk : outUn op (opd ti s o.type x) k) : ∃ out, k out ∧ OKop C o fresh s h out := by
  unfold outUn at hk
  have hx := fun (F : Nat → Prop) (σs : Slots) (σh : Heap) (g : Ghost) (a : Act) (w : World) (R : RelS C F σs σh g a w) (hs : ∀ t, Operand.tmp t ∈ o.op.operands.toList → σs t = s t) =>
    opd_rel ti o.type x R (s := s) (fun k hk => hs k (by subst hk; simp [ho, Op.operands]))
  split at hk
  · rename_i b hop
    refine ⟨_, hk, okop_value fun F σs σh g a w R hs _ => ?_⟩
    have hv := hx F σs σh g a w R hs
    rw [hop] at hv
    have hv := relB hv
    rw [notB_eq]
    exact ⟨.bool !b, by simp [execOp, ho, hv, Op.unary], .bool _⟩
  · rename_i q n hop
    obtain ⟨z, rfl, hk⟩ := hk
    refine ⟨_, hk, okop_value fun F σs σh g a w R hs _ => ?_⟩
    have hv := hx F σs σh g a w R hs
    rw [hop] at hv
    have hv := relI hv
    exact ⟨.int q (q.wrap (0 - n)), by simp [execOp, ho, hv, Op.unary, Op.intArith], .int _ _⟩
  · exact hk.elim

theorem ok_nilCheck (x : Operand) (ho : o.op = .nilCheck x) {i : Id} {q : Nat} (hop : opd ti s 0 x = .v (.c (.ptr i q))) : OKop C o fresh s h ⟨.v (.c (.ptr i q)), [], []⟩ := by
  refine okop_value fun F σs σh g a w R hs _ => ?_
  have hv := opd_rel ti 0 x R (s := s) (fun k hk => hs k (by subst hk; simp [ho, Op.operands]))
  rw [hop] at hv
  have hv' := hv
  obtain ⟨⟨b, hb⟩, hv⟩ := hv
  rw [hb] at hv
  exact ⟨a.eval x, by simp [execOp, ho, hv, ptrAt], hv'⟩

theorem caps_rel {w : World} {Z : Zone} {g : Ghost} {h : Heap} {xs : List AV} {vs : List Value} {l : List Id} (he : caps xs = some l) (hl : vs.length = xs.length)
    (hr : ∀ (j : Nat) x v, xs[j]? = some x → vs[j]? = some v → RelAV w Z g h x v) : vs = l.map (fun i => ptrAt (g i) 0) ∧ ∀ i ∈ l, ∃ b, g i = .pointer (some ⟨b, 0, none⟩) := by
  induction xs generalizing vs l with
  | nil =>
    simp [caps] at he
    subst he
    match vs, hl with
    | [], _ => exact ⟨rfl, by simp⟩
  | cons x xs ih =>
    match vs, hl with
    | v :: vs, hl =>
      unfold caps at he
      split at he
      · rename_i e; simp at e
      · rename_i i r e
        simp at e
        obtain ⟨rfl, rfl⟩ := e
        split at he
        · rename_i l' hl'
          simp at he
          subst he
          obtain ⟨h1, h2⟩ := ih hl' (by simpa using hl) (fun j x v hx hv => hr (j + 1) x v (by simpa using hx) (by simpa using hv))
          obtain ⟨hb, hv⟩ := hr 0 _ v rfl rfl
          refine ⟨by rw [List.map_cons, ← h1, hv], fun i' hi => ?_⟩
          rcases List.mem_cons.1 hi with rfl | hi
          · exact hb
          · exact h2 i' hi
        · simp at he
      · simp at he

theorem ok_makeFunc (fn : Fn) (first captured : Array Operand) (ho : o.op = .makeFunc fn first captured) {f : Nat} (hf : fn = .func f) (hfi : first.toList = []) {l : List Id}
    (hl : caps (captured.toList.map (opd ti s 0)) = some l) : OKop C o fresh s h ⟨.v (.c (.fn f l)), [], []⟩ := by
  refine okop_value fun F σs σh g a w R hs _ => ?_
  have hfi : first = #[] := by simpa using hfi
  subst hfi
  have := caps_rel (w := w) (Z := zor (zone g σh) C.X) (g := g) (h := σh) (vs := captured.toList.map a.eval) hl (by simp) (fun j x v hx hv => by
    simp only [List.getElem?_map, Option.map_eq_some_iff] at hx hv
    obtain ⟨p, hp, rfl⟩ := hx
    obtain ⟨p', hp', rfl⟩ := hv
    rw [hp] at hp'
    obtain rfl : p = p' := by simpa using hp'
    refine opd_rel ti 0 p R (s := s) (fun k hk => hs k ?_)
    subst hk
    have := List.mem_of_getElem? hp
    simp only [ho, Op.operands]
    simpa using this)
  refine ⟨.func (.func f) #[] (captured.map a.eval), by simp [execOp, ho, hf, Instr.makeFunc], ?_, this.2⟩
  rw [← this.1]
  apply congrArg
  apply Array.ext'
  simp

theorem run_equalD_bool {P : Program} {t : TypeId} (h : P.underlying t = some .bool) (a b : Bool) (w : World) (d : Nat) : (Op.equalIn (d + 1) t (.bool a) (.bool b)).run P w = .ok (a == b) w := by
  simp [Op.equalIn, run_underlying h w]
theorem run_equalD_pn {P : Program} {t e : TypeId} (h : P.underlying t = some (.pointer e)) (a : Option Addr) (w : World) (d : Nat) : (Op.equalIn (d + 1) t (.pointer a) (.pointer none)).run P w = .ok a.isNone w := by
  cases a <;> simp [Op.equalIn, run_underlying h w]
theorem run_equalD_mn {P : Program} {t e k : TypeId} (h : P.underlying t = some (.map k e)) (a : Option Nat) (w : World) (d : Nat) : (Op.equalIn (d + 1) t (.map a) (.map none)).run P w = .ok a.isNone w := by
  cases a <;> simp [Op.equalIn, run_underlying h w]
theorem run_equal_bool {P : Program} {t : TypeId} (h : P.underlying t = some .bool) (a b : Bool) (w : World) : (Op.equal t (.bool a) (.bool b)).run P w = .ok (a == b) w :=
  run_equalD_bool h a b w 9999
theorem run_equal_pn {P : Program} {t e : TypeId} (h : P.underlying t = some (.pointer e)) (a : Option Addr) (w : World) : (Op.equal t (.pointer a) (.pointer none)).run P w = .ok a.isNone w :=
  run_equalD_pn h a w 9999
theorem run_equal_mn {P : Program} {t e k : TypeId} (h : P.underlying t = some (.map k e)) (a : Option Nat) (w : World) : (Op.equal t (.map a) (.map none)).run P w = .ok a.isNone w :=
  run_equalD_mn h a w 9999

theorem ok_bin (hti : TIok C.P ti) (op : BinOp) (t t' : TypeId) (x y : Operand) (ho : o.op = .binOp op t x y t') (hk : outBin C.M ti op t (opd ti s t x) (opd ti s t y) k) : ∃ out, k out ∧ OKop C o fresh s h out := by
  have hx := fun (F : Nat → Prop) (σs : Slots) (σh : Heap) (g : Ghost) (a : Act) (w : World) (R : RelS C F σs σh g a w) (hs : ∀ t, Operand.tmp t ∈ o.op.operands.toList → σs t = s t) =>
    And.intro (opd_rel ti t x R (s := s) (fun k hk => hs k (by subst hk; simp [ho, Op.operands]))) (opd_rel ti t y R (s := s) (fun k hk => hs k (by subst hk; simp [ho, Op.operands])))
  unfold outBin at hk
  simp only [] at hk
  split at hk
  · rename_i q n q' m hop hop'
    obtain ⟨hq, hk2⟩ := req_iff.1 hk
    clear hk
    obtain rfl : q = q' := by simpa using hq
    have fin : ∀ (d : D) (v : Value), (∀ (a : Act) (w : World), a.eval x = .int q n → a.eval y = .int q m → (execOp a.eval o).run C.P w = .ok (.value v) w) → (∀ w Z, RelD w Z d v) → OKop C o fresh s h ⟨.v (.d d), [], []⟩ := by
      intro d v H1 H2
      refine okop_value fun F σs σh g a w R hs _ => ?_
      obtain ⟨h1, h2⟩ := hx F σs σh g a w R hs
      rw [hop] at h1
      rw [hop'] at h2
      exact ⟨v, H1 a w (relI h1) (relI h2), H2 _ _⟩
    unfold intOp at hk2
    split at hk2
    all_goals first
      | exact hk2.elim
      | (obtain ⟨z, hz, hk3⟩ := hk2
         subst hz
         exact ⟨_, hk3, fin _ _ (fun a w h1 h2 => by (simp [execOp, ho, h1, h2, eqGuard, binOp, Op.intArith]; try rfl)) (fun _ _ => .int _ _)⟩)
      | (obtain ⟨z, hne, hz, hk3⟩ := hk2
         subst hz
         exact ⟨_, hk3, fin _ _ (fun a w h1 h2 => by (simp [execOp, ho, h1, h2, eqGuard, binOp, Op.intDiv, hne]; try rfl)) (fun _ _ => .int _ _)⟩)
      | exact ⟨_, (C.M.split_iff _ _).1 hk2, by
          simp only [notB_eq, C.M.eqI_eq, C.M.ltI_eq, C.M.leI_eq]
          exact fin _ _ (fun a w h1 h2 => by (simp [execOp, ho, h1, h2, eqGuard, binOp, Op.intCmp]; try rfl)) (fun _ _ => .bool _)⟩
  · rename_i b b' hop hop'
    have fin : ∀ (d : D) (v : Value), (∀ (a : Act) (w : World), a.eval x = .string b → a.eval y = .string b' → (execOp a.eval o).run C.P w = .ok (.value v) w) → (∀ w Z, RelD w Z d v) → OKop C o fresh s h ⟨.v (.d d), [], []⟩ := by
      intro d v H1 H2
      refine okop_value fun F σs σh g a w R hs _ => ?_
      obtain ⟨h1, h2⟩ := hx F σs σh g a w R hs
      rw [hop] at h1
      rw [hop'] at h2
      exact ⟨v, H1 a w (relSt h1) (relSt h2), H2 _ _⟩
    unfold strOp at hk
    split at hk
    · obtain ⟨cc, rfl, hsz, hk⟩ := hk
      refine ⟨_, hk, fin _ (.string (b ++ b')) (fun a w h1 h2 => ?_) (fun _ _ => .str _)⟩
      have : ¬ ((b.size : Int) + b'.size > IntKind.i64.max) := by simpa using hsz
      simp [execOp, ho, h1, h2, eqGuard, binOp, Op.stringOp]
      simp at this
      omega
    · exact ⟨_, (C.M.split_iff _ _).1 hk, by
          simp only [notB_eq, C.M.eqS_eq, C.M.ltS_eq]
          exact fin _ _ (fun a w h1 h2 => by (simp [execOp, ho, h1, h2, eqGuard, binOp, Op.stringOp]; try rfl)) (fun _ _ => .bool _)⟩
    · exact ⟨_, (C.M.split_iff _ _).1 hk, by
          simp only [notB_eq, C.M.eqS_eq, C.M.ltS_eq]
          exact fin _ _ (fun a w h1 h2 => by (simp [execOp, ho, h1, h2, eqGuard, binOp, Op.stringOp]; try rfl)) (fun _ _ => .bool _)⟩
    · exact ⟨_, (C.M.split_iff _ _).1 hk, by
          simp only [notB_eq, C.M.eqS_eq, C.M.ltS_eq]
          exact fin _ _ (fun a w h1 h2 => by (simp [execOp, ho, h1, h2, eqGuard, binOp, Op.stringOp]; try rfl)) (fun _ _ => .bool _)⟩
    · exact hk.elim
  all_goals first
    | exact hk.elim
    | skip
  · rename_i b b' hop hop'
    obtain ⟨i, hi, hk⟩ := withT_iff.1 hk
    split at hk
    · rename_i hdesc
      have hu := (hti t i hi).1
      rw [hdesc] at hu
      unfold eqOpL at hk
      split at hk
      · refine ⟨_, hk, okop_value fun F σs σh g a w R hs _ => ?_⟩
        obtain ⟨h1, h2⟩ := hx F σs σh g a w R hs
        rw [hop] at h1
        rw [hop'] at h2
        rw [eqvB_eq]
        exact ⟨.bool (b == b'), by simp [execOp, ho, relB h1, relB h2, eqGuard, binOp, run_equal_bool hu], .bool _⟩
      · refine ⟨_, hk, okop_value fun F σs σh g a w R hs _ => ?_⟩
        obtain ⟨h1, h2⟩ := hx F σs σh g a w R hs
        rw [hop] at h1
        rw [hop'] at h2
        rw [notB_eq, eqvB_eq]
        exact ⟨.bool (!(b == b')), by simp [execOp, ho, relB h1, relB h2, eqGuard, binOp, run_equal_bool hu], .bool _⟩
      · exact hk.elim
    · exact hk.elim
  · rename_i id q hop hop'
    obtain ⟨i, hi, hk⟩ := withT_iff.1 hk
    split at hk
    · rename_i e hdesc
      have hu := (hti t i hi).1
      rw [hdesc] at hu
      have fin : ∀ F σs σh g a w, RelS C F σs σh g a w → (∀ t, Operand.tmp t ∈ o.op.operands.toList → σs t = s t) → ∃ A, a.eval x = .pointer (some A) ∧ a.eval y = .pointer none := by
        intro F σs σh g a w R hs
        obtain ⟨h1, h2⟩ := hx F σs σh g a w R hs
        rw [hop] at h1
        rw [hop'] at h2
        obtain ⟨⟨b, hb⟩, h1⟩ := h1
        rw [hb] at h1
        exact ⟨_, h1, h2⟩
      unfold eqOpL at hk
      split at hk
      · refine ⟨_, hk, okop_value fun F σs σh g a w R hs _ => ?_⟩
        obtain ⟨A, h1, h2⟩ := fin F σs σh g a w R hs
        exact ⟨.bool false, by simp [execOp, ho, h1, h2, eqGuard, binOp, run_equal_pn hu], .bool _⟩
      · refine ⟨_, hk, okop_value fun F σs σh g a w R hs _ => ?_⟩
        obtain ⟨A, h1, h2⟩ := fin F σs σh g a w R hs
        exact ⟨.bool true, by simp [execOp, ho, h1, h2, eqGuard, binOp, run_equal_pn hu], .bool _⟩
      · exact hk.elim
    · exact hk.elim
  · rename_i hop hop'
    obtain ⟨i, hi, hk⟩ := withT_iff.1 hk
    split at hk
    · rename_i e hdesc
      have hu := (hti t i hi).1
      rw [hdesc] at hu
      unfold eqOpL at hk
      split at hk
      · refine ⟨_, hk, okop_value fun F σs σh g a w R hs _ => ?_⟩
        obtain ⟨h1, h2⟩ := hx F σs σh g a w R hs
        rw [hop] at h1
        rw [hop'] at h2
        exact ⟨.bool true, by simp [execOp, ho, show a.eval x = _ from h1, show a.eval y = _ from h2, eqGuard, binOp, run_equal_pn hu], .bool _⟩
      · refine ⟨_, hk, okop_value fun F σs σh g a w R hs _ => ?_⟩
        obtain ⟨h1, h2⟩ := hx F σs σh g a w R hs
        rw [hop] at h1
        rw [hop'] at h2
        exact ⟨.bool false, by simp [execOp, ho, show a.eval x = _ from h1, show a.eval y = _ from h2, eqGuard, binOp, run_equal_pn hu], .bool _⟩
      · exact hk.elim
    · exact hk.elim
  · rename_i id hop hop'
    obtain ⟨i, hi, hk⟩ := withT_iff.1 hk
    split at hk
    · rename_i kt e hdesc
      have hu := (hti t i hi).1
      rw [hdesc] at hu
      have fin : ∀ F σs σh g a w, RelS C F σs σh g a w → (∀ t, Operand.tmp t ∈ o.op.operands.toList → σs t = s t) → ∃ A, a.eval x = .map (some A) ∧ a.eval y = .map none := by
        intro F σs σh g a w R hs
        obtain ⟨h1, h2⟩ := hx F σs σh g a w R hs
        rw [hop] at h1
        rw [hop'] at h2
        obtain ⟨h1, b, hb⟩ := h1
        rw [hb] at h1
        exact ⟨_, h1, h2⟩
      unfold eqOpL at hk
      split at hk
      · refine ⟨_, hk, okop_value fun F σs σh g a w R hs _ => ?_⟩
        obtain ⟨A, h1, h2⟩ := fin F σs σh g a w R hs
        exact ⟨.bool false, by simp [execOp, ho, h1, h2, eqGuard, binOp, run_equal_mn hu], .bool _⟩
      · refine ⟨_, hk, okop_value fun F σs σh g a w R hs _ => ?_⟩
        obtain ⟨A, h1, h2⟩ := fin F σs σh g a w R hs
        exact ⟨.bool true, by simp [execOp, ho, h1, h2, eqGuard, binOp, run_equal_mn hu], .bool _⟩
      · exact hk.elim
    · exact hk.elim
  · rename_i hop hop'
    obtain ⟨i, hi, hk⟩ := withT_iff.1 hk
    split at hk
    · rename_i kt e hdesc
      have hu := (hti t i hi).1
      rw [hdesc] at hu
      unfold eqOpL at hk
      split at hk
      · refine ⟨_, hk, okop_value fun F σs σh g a w R hs _ => ?_⟩
        obtain ⟨h1, h2⟩ := hx F σs σh g a w R hs
        rw [hop] at h1
        rw [hop'] at h2
        exact ⟨.bool true, by simp [execOp, ho, show a.eval x = _ from h1, show a.eval y = _ from h2, eqGuard, binOp, run_equal_mn hu], .bool _⟩
      · refine ⟨_, hk, okop_value fun F σs σh g a w R hs _ => ?_⟩
        obtain ⟨h1, h2⟩ := hx F σs σh g a w R hs
        rw [hop] at h1
        rw [hop'] at h2
        exact ⟨.bool false, by simp [execOp, ho, show a.eval x = _ from h1, show a.eval y = _ from h2, eqGuard, binOp, run_equal_mn hu], .bool _⟩
      · exact hk.elim
    · exact hk.elim

end
end Go.AM

/- The abstract machine, part H: a call by its contract. No condition. -/
namespace Go.AM
open Go Go.RowKit

theorem updW_notin {l : List (Id × AObj)} {i : Id} : ∀ {h : Heap}, i ∉ l.map (·.1) → updW h l i = h i := by
  induction l with
  | nil => intro h _; rfl
  | cons x l ih =>
    intro h hi
    simp only [List.map_cons, List.mem_cons, not_or] at hi
    show updW (updO h x.1 x.2) l i = _
    rw [ih hi.2]
    simp [updO, hi.1]
theorem updW_in {l : List (Id × AObj)} {i : Id} {o : AObj} : ∀ {h : Heap}, (l.map (·.1)).Nodup → (i, o) ∈ l → updW h l i = some o := by
  induction l with
  | nil => intro h _ hi; simp at hi
  | cons x l ih =>
    intro h hn hi
    simp only [List.map_cons, List.nodup_cons] at hn
    show updW (updO h x.1 x.2) l i = _
    rcases List.mem_cons.1 hi with rfl | hi
    · rw [updW_notin hn.1]
      simp [updO]
    · exact ih hn.2 hi

theorem wrM_keys {r : Id → Id} : ∀ {m : List Id} {post : List AObj}, m.length = post.length → (wrM m r post).map (·.1) = m
  | [], [], _ => rfl
  | i :: m, o :: post, h => by simp [wrM, wrM_keys (m := m) (post := post) (by simpa using h)]
theorem wrM_mem {r : Id → Id} : ∀ {m : List Id} {post : List AObj} {j : Nat} {i : Id} {o : AObj}, m[j]? = some i → post[j]? = some o → (i, o.ren r) ∈ wrM m r post
  | i :: m, o :: post, 0, _, _, h1, h2 => by simp at h1 h2; subst h1; subst h2; simp [wrM]
  | i :: m, o :: post, j + 1, i', o', h1, h2 => by
    simp at h1 h2
    simp only [wrM, List.mem_cons]
    exact .inr (wrM_mem h1 h2)
theorem wrNew_keys {r : Id → Id} {fresh : Nat} : ∀ {new : List AObj} {k : Nat}, (wrNew fresh r k new).map (·.1) = (List.range' k new.length).map (fun n => Id.loc (fresh + n))
  | [], k => rfl
  | o :: new, k => by simp [wrNew, wrNew_keys (new := new) (k := k + 1), List.range'_succ]
theorem wrNew_mem {r : Id → Id} {fresh : Nat} : ∀ {new : List AObj} {k j : Nat} {o : AObj}, new[j]? = some o → (Id.loc (fresh + (k + j)), o.ren r) ∈ wrNew fresh r k new
  | o :: new, k, 0, _, h => by simp at h; subst h; simp [wrNew]
  | o :: new, k, j + 1, o', h => by
    simp at h
    have := wrNew_mem (r := r) (fresh := fresh) (k := k + 1) h
    simp only [wrNew, List.mem_cons]
    exact .inr (by rw [show k + (j + 1) = k + 1 + j from by omega]; exact this)

theorem allKinds_get : ∀ {pre post : List AObj} {j : Nat} {o : AObj}, allKinds pre post → post[j]? = some o → ∃ o0, pre[j]? = some o0 ∧ sameKind o0 o
  | a :: pre, b :: post, 0, o, h, hj => by simp at hj; subst hj; exact ⟨a, rfl, h.1⟩
  | a :: pre, b :: post, j + 1, o, h, hj => by
    simp at hj
    obtain ⟨o0, h1, h2⟩ := allKinds_get (j := j) h.2 hj
    exact ⟨o0, by simpa using h1, h2⟩
  | [], [], j, o, h, hj => by simp at hj
theorem allKinds_length : ∀ {pre post : List AObj}, allKinds pre post → post.length = pre.length
  | [], [], _ => rfl
  | _ :: _, _ :: _, h => by simp [allKinds_length h.2]
theorem sameKind_zone {gv : Value} {a b : AObj} {x y : Nat} (h : sameKind a b) (z : zone1 gv b x y) : zone1 gv a x y := by
  cases a <;> cases b <;> simp [sameKind] at h
  · exact z
  · obtain ⟨rfl, rfl, rfl⟩ := h; exact z
  · exact z

theorem call_core {C : Cx} {F : Nat → Prop} {σs : Slots} {σh : Heap} {g : Ghost} {a : Act} {w : World} {f : FuncId} {fresh : Nat}
    {m : List Id} {targs : List V1} {pre post new : List AObj} {res : AV} {vals : Array Value} {dst : Option Tmp} {Q : Exit → Act → World → Prop}
    (R : RelS C F σs σh g a w) (ht : Trip C.P f targs pre res post new) (hlen : m.length = pre.length) (hnd : m.Nodup)
    (hpre : ∀ (j : Nat) i o, m[j]? = some i → pre[j]? = some o → σh i = some (o.ren (renM m fresh))) (hk : allKinds pre post) (hnew : new.length ≤ 7)
    (hF : ∀ k, k < 8 → F (fresh + k)) (hd : ∀ d, dst = some d → d < C.nt) (hsz : vals.size = targs.length)
    (hargs : ∀ (j : Nat) x v, (targs.map (V1.ren (renM m fresh)))[j]? = some x → vals[j]? = some v → RelV1 w (zor (zone g σh) C.X) g σh x v) :
    Calls C.P f vals w fun
      | .returned v, w'' => Rel C (fun n => F n ∧ ¬ (fresh ≤ n ∧ n < fresh + 8)) (updS σs dst (res.ren (renM m fresh))) (updW σh (wrM m (renM m fresh) post ++ wrNew fresh (renM m fresh) 0 new)) (a.put dst v) w''
      | .panicked chain, w'' => Q (.panic chain) a w''
      | .outgrown, _ => LetsOut Q := by
  let r := renM m fresh
  have hr : r = renM m fresh := rfl
  let gc : Ghost := fun i => g (r i)
  let hc : Heap := heapOf pre
  let Xc : Zone := fun b o => C.X b o ∨ ∃ i ob, σh i = some ob ∧ i ∉ m ∧ zone1 (g i) ob b o
  have rin : ∀ j i, m[j]? = some i → r (.ext j) = i := fun j i hj => by simp [hr, renM, hj]
  have rout : ∀ j, m[j]? = none → r (.ext j) = .loc (fresh + 7) := fun j hj => by simp [hr, renM, hj]
  have rloc : ∀ k, k < 7 → r (.loc k) = .loc (fresh + k) := fun k hk => by simp [hr, renM, hk]
  have rloc7 : ∀ k, 7 ≤ k → r (.loc k) = .loc (fresh + 7) := fun k hk => by simp [hr, renM, show ¬ k < 7 from by omega]
  have free : ∀ k, k < 8 → g (.loc (fresh + k)) = undef ∧ σh (.loc (fresh + k)) = none := fun k hk => R.free _ (hF k hk)
  have gcl : ∀ n, gc (.loc n) = undef := by
    intro n
    by_cases hn : n < 7
    · show g (r (.loc n)) = _
      rw [rloc n hn]; exact (free n (by omega)).1
    · show g (r (.loc n)) = _
      rw [rloc7 n (by omega)]; exact (free 7 (by omega)).1
  have hcs : ∀ i o, hc i = some o → ∃ j, i = .ext j ∧ m[j]? = some (r i) ∧ pre[j]? = some o ∧ σh (r i) = some (o.ren r) := by
    intro i o hi
    cases i with
    | loc n => simp [hc, heapOf] at hi
    | ext j =>
      have hi' : pre[j]? = some o := hi
      have hlt : j < m.length := by rw [hlen]; exact (List.getElem?_eq_some_iff.1 hi').1
      have hm : m[j]? = some m[j] := by simp [hlt]
      exact ⟨j, rfl, by rw [rin j _ hm]; exact hm, hi', by rw [rin j _ hm]; exact hpre j _ o hm hi'⟩
  have hzc : ∀ b o, zone gc hc b o → zone g σh b o := by
    rintro b o ⟨i, ob, hi, h1⟩
    obtain ⟨j, rfl, hm, _, hs⟩ := hcs i ob hi
    exact ⟨_, _, hs, zone1_ren.2 h1⟩
  have hz : ∀ b o, zor (zone gc hc) Xc b o → zor (zone g σh) C.X b o := by
    rintro b o (h1 | h1 | ⟨i, ob, hi, _, h1⟩)
    · exact .inl (hzc b o h1)
    · exact .inr h1
    · exact .inl ⟨i, ob, hi, h1⟩
  have htok : ∀ i n sz e, hc i = some (.tok n sz e) → σh (r i) = some (.tok n sz e) := by
    intro i n sz e hi
    obtain ⟨j, rfl, hm, _, hs⟩ := hcs i _ hi
    exact hs
  have hXlt : ∀ b o, Xc b o → b < w.heap.size := by
    rintro b o (h1 | ⟨i, ob, hi, _, h1⟩)
    · exact Nat.lt_of_lt_of_le (R.xs b o h1) R.frame.size
    · exact (R.heap.objs i ob hi).lt h1.1
  have RH : RelH w Xc gc hc := by
    refine ⟨fun i o hi => ?_, fun i i' oi oi' b hi hi' bi bi' => ?_, fun i oi b o hi bi hx => ?_⟩
    · obtain ⟨j, rfl, hm, _, hs⟩ := hcs i o hi
      exact RelObj.pull (r := r) hz (fun _ => rfl) htok (R.heap.objs _ _ hs)
    · obtain ⟨j, rfl, hm, _, hs⟩ := hcs i oi hi
      obtain ⟨j', rfl, hm', _, hs'⟩ := hcs i' oi' hi'
      have e := R.heap.sep _ _ _ _ b hs hs' bi bi'
      rw [e] at hm
      have := (List.getElem?_inj (List.getElem?_eq_some_iff.1 hm).1 hnd).1 (hm.trans hm'.symm)
      rw [this]
    · obtain ⟨j, rfl, hm, _, hs⟩ := hcs i oi hi
      rcases hx with hx | ⟨i', ob, hi', hni, h1⟩
      · exact R.heap.apart _ _ b o hs bi hx
      · have e := R.heap.sep _ _ _ _ b hs hi' bi h1.1
        exact hni (e ▸ List.mem_of_getElem? hm)
  refine (ht.2 w Xc gc vals hXlt RH gcl hsz (fun j x v hx hv => ?_)).mono ?_
  · exact RelV1.pull (r := r) hz (fun _ => rfl) htok (hargs j (x.ren r) v (by simp [hx, hr]) hv)
  rintro e w' ⟨v, g', rfl, CP⟩
  show Rel C _ _ _ _ w'
  -- the new ghost, the new heap
  let g2 : Ghost := fun i => if i ∈ m then g i else match i with
    | .loc n => if fresh ≤ n ∧ n < fresh + 8 then g' (.loc (n - fresh)) else g i
    | .ext j => g (.ext j)
  let hc2 : Heap := heapOf2 post new
  let h2 : Heap := updW σh (wrM m (renM m fresh) post ++ wrNew fresh (renM m fresh) 0 new)
  have mlive : ∀ i, i ∈ m → σh i ≠ none := by
    intro i hi
    obtain ⟨j, hj⟩ := List.mem_iff_getElem?.1 hi
    have hlt : j < pre.length := by rw [← hlen]; exact (List.getElem?_eq_some_iff.1 hj).1
    rw [hpre j i pre[j] hj (by simp [hlt])]
    simp
  have mfresh : ∀ k, k < 8 → Id.loc (fresh + k) ∉ m := fun k hk hm => mlive _ hm (free k hk).2
  have plen : post.length = pre.length := allKinds_length hk
  have keys : ((wrM m (renM m fresh) post ++ wrNew fresh (renM m fresh) 0 new).map (·.1)) = m ++ (List.range' 0 new.length).map (fun n => Id.loc (fresh + n)) := by
    rw [List.map_append, wrM_keys (by omega), wrNew_keys]
  have knd : ((wrM m (renM m fresh) post ++ wrNew fresh (renM m fresh) 0 new).map (·.1)).Nodup := by
    rw [keys]
    refine List.nodup_append.2 ⟨hnd, ?_, ?_⟩
    · refine List.Pairwise.map _ (fun x y (hxy : x ≠ y) he => hxy ?_) (List.nodup_range' (s := 0) (n := new.length))
      simp at he
      omega
    · intro x hx y hy he
      subst he
      simp only [List.mem_map, List.mem_range'_1] at hy
      obtain ⟨n, hn, rfl⟩ := hy
      exact mfresh n (by omega) hx
  have h2m : ∀ (j : Nat) (i : Id) (o : AObj), m[j]? = some i → post[j]? = some o → h2 i = some (o.ren r) := fun j i o h1 h3 => updW_in knd (List.mem_append.2 (.inl (wrM_mem h1 h3)))
  have h2n : ∀ (k : Nat) (o : AObj), new[k]? = some o → h2 (.loc (fresh + k)) = some (o.ren r) := fun k o h1 => updW_in knd (List.mem_append.2 (.inr (by simpa using wrNew_mem (k := 0) h1)))
  have h2o : ∀ i, i ∉ m → (∀ k, k < new.length → i ≠ .loc (fresh + k)) → h2 i = σh i := by
    intro i h1 h3
    refine updW_notin ?_
    rw [keys]
    simp only [List.mem_append, List.mem_map, List.mem_range'_1, not_or, not_exists, not_and]
    exact ⟨h1, fun k hk e => h3 k (by omega) e.symm⟩
  have g2m : ∀ i, i ∈ m → g2 i = g i := fun i hi => if_pos hi
  have g2f : ∀ k, k < 8 → g2 (.loc (fresh + k)) = g' (.loc k) := by
    intro k hk
    show (if _ then _ else _) = _
    rw [if_neg (mfresh k hk)]
    show (if _ then _ else _) = _
    rw [if_pos (by omega), show fresh + k - fresh = k from by omega]
  have g2o : ∀ i, (∀ k, k < 8 → i ≠ .loc (fresh + k)) → g2 i = g i := by
    intro i hi
    show (if _ then _ else _) = _
    split
    · rfl
    · cases i with
      | ext j => rfl
      | loc n =>
        show (if _ then _ else _) = _
        rw [if_neg]
        rintro ⟨h1, h3⟩
        exact hi (n - fresh) (by omega) (by congr 1; omega)
  have hg2 : ∀ i, g' i = g2 (r i) := by
    intro i
    cases i with
    | ext j =>
      rw [CP.ext j]
      show g (r (.ext j)) = _
      cases hj : m[j]? with
      | some i => rw [rin j i hj, g2m i (List.mem_of_getElem? hj)]
      | none => rw [rout j hj, (free 7 (by omega)).1, g2f 7 (by omega), CP.none 7 hnew]
    | loc k =>
      by_cases hk : k < 7
      · rw [rloc k hk, g2f k (by omega)]
      · rw [rloc7 k (by omega), g2f 7 (by omega), CP.none k (by omega), CP.none 7 hnew]
  have ht2 : ∀ i n sz e, h2 (r i) = some (.tok n sz e) → hc2 i = some (.tok n sz e) := by
    intro i n sz e hi
    have tr : ∀ o : AObj, some (o.ren r) = some (.tok n sz e) → o = .tok n sz e := by
      intro o ho
      cases o <;> simp [AObj.ren] at ho
      obtain ⟨rfl, rfl, rfl⟩ := ho; rfl
    cases i with
    | ext j =>
      cases hj : m[j]? with
      | some i =>
        rw [rin j i hj] at hi
        have hlt : j < post.length := by rw [plen, ← hlen]; exact (List.getElem?_eq_some_iff.1 hj).1
        rw [h2m j i post[j] hj (by simp [hlt])] at hi
        show post[j]? = _
        rw [← tr _ hi]; simp [hlt]
      | none =>
        rw [rout j hj, h2o _ (mfresh 7 (by omega)) (fun k hk => by simp; omega), (free 7 (by omega)).2] at hi
        simp at hi
    | loc k =>
      by_cases hk : k < new.length
      · rw [rloc k (by omega), h2n k new[k] (by simp [hk])] at hi
        show new[k]? = _
        rw [← tr _ hi]; simp [hk]
      · exfalso
        by_cases hk7 : k < 7
        · rw [rloc k hk7, h2o _ (mfresh k (by omega)) (fun k' hk' => by simp; omega), (free k (by omega)).2] at hi
          simp at hi
        · rw [rloc7 k (by omega), h2o _ (mfresh 7 (by omega)) (fun k' hk' => by simp; omega), (free 7 (by omega)).2] at hi
          simp at hi
  -- where an object of the new heap comes from
  have cases2 : ∀ (i : Id) (o : AObj), h2 i = some o → (∃ (j : Nat) (o' : AObj), m[j]? = some i ∧ post[j]? = some o' ∧ o = o'.ren r) ∨ (∃ (k : Nat) (o' : AObj), k < 7 ∧ i = .loc (fresh + k) ∧ new[k]? = some o' ∧ o = o'.ren r) ∨
      (i ∉ m ∧ (∀ k, k < 8 → i ≠ .loc (fresh + k)) ∧ σh i = some o) := by
    intro i o hi
    by_cases him : i ∈ m
    · obtain ⟨j, hj⟩ := List.mem_iff_getElem?.1 him
      have hlt : j < post.length := by rw [plen, ← hlen]; exact (List.getElem?_eq_some_iff.1 hj).1
      rw [h2m j i post[j] hj (by simp [hlt])] at hi
      exact .inl ⟨j, post[j], hj, by simp [hlt], by simpa using hi.symm⟩
    · by_cases hn : ∃ k, k < new.length ∧ i = .loc (fresh + k)
      · obtain ⟨k, hk, rfl⟩ := hn
        rw [h2n k new[k] (by simp [hk])] at hi
        exact .inr (.inl ⟨k, new[k], by omega, rfl, by simp [hk], by simpa using hi.symm⟩)
      · rw [h2o i him (fun k hk e => hn ⟨k, hk, e⟩)] at hi
        refine .inr (.inr ⟨him, fun k hk e => ?_, hi⟩)
        rw [e, (free k hk).2] at hi
        simp at hi
  have hcj : ∀ (j : Nat) (o' : AObj), post[j]? = some o' → hc2 (.ext j) = some o' := fun j o' h1 => h1
  have hck : ∀ (k : Nat) (o' : AObj), new[k]? = some o' → hc2 (.loc k) = some o' := fun k o' h1 => h1
  have hz2 : ∀ b o, zor (zone g2 h2) C.X b o → zor (zone g' hc2) Xc b o := by
    rintro b o (⟨i, ob, hi, h1⟩ | h1)
    · rcases cases2 i ob hi with ⟨j, o', hj, hp, rfl⟩ | ⟨k, o', hk7, rfl, hp, rfl⟩ | ⟨h3, h4, h5⟩
      · refine .inl ⟨.ext j, o', hcj j o' hp, ?_⟩
        rw [hg2, rin j i hj]
        exact zone1_ren.1 h1
      · refine .inl ⟨.loc k, o', hck k o' hp, ?_⟩
        rw [hg2, rloc k hk7]
        exact zone1_ren.1 h1
      · rw [g2o i h4] at h1
        exact .inr (.inr ⟨i, ob, h5, h3, h1⟩)
    · exact .inr (.inl h1)
  have hz2' : ∀ b o u, w'.cell? ⟨b, o, none⟩ = some u → ¬ zor (zone g' hc2) Xc b o → ¬ zor (zone g2 h2) C.X b o := fun b o _ _ hn hy => hn (hz2 b o hy)
  have E : Evo w (zor (zone g σh) C.X) g σh w' (zor (zone g2 h2) C.X) g2 h2 := by
    refine ⟨fun b o u hu hn => ⟨CP.frame.cell b o u hu (fun hy => hn (.inl (hzc b o hy))), ?_⟩, fun i b hb => ?_, fun i q hq => ?_, fun i hi => ?_, fun i n sz e hi hn => ?_⟩
    · rintro (⟨i, ob, hi, h1⟩ | h1)
      · rcases cases2 i ob hi with ⟨j, o', hj, hp, rfl⟩ | ⟨k, o', hk7, rfl, hp, rfl⟩ | ⟨h3, h4, h5⟩
        · obtain ⟨o0, h6, h7⟩ := allKinds_get hk hp
          refine hn (.inl ⟨i, _, hpre j i o0 hj h6, zone1_ren.2 (sameKind_zone h7 ?_)⟩)
          rw [g2m i (List.mem_of_getElem? hj)] at h1
          exact zone1_ren.1 h1
        · have := h1.1
          rw [g2f k (by omega)] at this
          have h9 := CP.fresh k b this
          have := World.block_lt_of_cell? w ⟨b, o, none⟩ hu
          simp at this
          omega
        · rw [g2o i h4] at h1
          exact hn (.inl ⟨i, ob, h5, h1⟩)
      · exact hn (.inr h1)
    · refine g2o i ?_
      rintro k hk rfl
      rw [(free k hk).1] at hb
      simp [undef] at hb
    · refine g2o i ?_
      rintro k hk rfl
      rw [(free k hk).1] at hq
      simp [undef] at hq
    · rw [g2o i (by
        rintro k hk rfl
        rw [(free k hk).1] at hi
        exact hi)]
      exact hi
    · have hgi := g2o i (by
        rintro k hk rfl
        rw [(free k hk).1] at hi
        exact hi)
      rcases cases2 i _ hn with ⟨j, o', hj, hp, ho⟩ | ⟨k, o', hk7, rfl, hp, ho⟩ | ⟨h3, h4, h5⟩
      · obtain ⟨o0, h6, h7⟩ := allKinds_get hk hp
        have := hpre j i o0 hj h6
        cases o' <;> simp [AObj.ren] at ho
        obtain ⟨rfl, rfl, rfl⟩ := ho
        cases o0 <;> simp [sameKind] at h7
        obtain ⟨rfl, rfl, rfl⟩ := h7
        exact ⟨_, Nat.le_refl _, this, fun _ => hgi⟩
      · rw [(free k (by omega)).1] at hi
        exact hi.elim
      · exact ⟨n, Nat.le_refl _, h5, fun _ => hgi⟩
  have R2 : RelS C (fun n => F n ∧ ¬ (fresh ≤ n ∧ n < fresh + 8)) σs h2 g2 a w' := by
    refine R.step (fun i => i ∈ m ∨ ∃ k, k < 8 ∧ i = .loc (fresh + k)) E (CP.frame.weaken hzc) ?_ ?_ ?_ ?_ ?_ ?_ ?_
    · intro i hi
      simp only [not_or, not_exists, not_and] at hi
      exact ⟨h2o i hi.1 (fun k hk => hi.2 k (by omega)), g2o i hi.2⟩
    · intro i o b hi ho hb
      simp only [not_or, not_exists, not_and] at hi
      refine CP.frame.block b ((R.heap.objs i o ho).lt hb) ?_
      rintro o' ⟨i', ob, hi', h1⟩
      obtain ⟨j, rfl, hm, _, hs⟩ := hcs i' ob hi'
      have e := R.heap.sep _ _ _ _ b ho hs hb h1.1
      exact hi.1 (e ▸ List.mem_of_getElem? hm)
    · intro i o hi ho
      rcases cases2 i o ho with ⟨j, o', hj, hp, rfl⟩ | ⟨k, o', hk7, rfl, hp, rfl⟩ | ⟨h3, h4, _⟩
      · have := CP.heap.objs (.ext j) o' (hcj j o' hp)
        rw [hg2, rin j i hj] at this
        exact RelObj.push (r := r) hz2' hg2 ht2 this
      · have := CP.heap.objs (.loc k) o' (hck k o' hp)
        rw [hg2, rloc k hk7] at this
        exact RelObj.push (r := r) hz2' hg2 ht2 this
      · rcases hi with hi | ⟨k, hk, rfl⟩
        · exact absurd hi h3
        · exact absurd rfl (h4 k hk)
    · intro i o b hi ho hb
      rcases cases2 i o ho with ⟨j, o', hj, hp, rfl⟩ | ⟨k, o', hk7, rfl, hp, rfl⟩ | ⟨h3, h4, _⟩
      · obtain ⟨o0, h6, h7⟩ := allKinds_get hk hp
        rw [g2m i (List.mem_of_getElem? hj)] at hb
        exact .inl ⟨_, hpre j i o0 hj h6, hb⟩
      · rw [g2f k (by omega)] at hb
        exact .inr (CP.fresh k b hb)
      · rcases hi with hi | ⟨k, hk, rfl⟩
        · exact absurd hi h3
        · exact absurd rfl (h4 k hk)
    · intro i i' oi oi' b hi hi' ho ho' hb hb'
      have pre1 : ∀ (i : Id) (o : AObj), (i ∈ m ∨ ∃ k, k < 8 ∧ i = .loc (fresh + k)) → h2 i = some o → ∃ i0 o0, hc2 i0 = some o0 ∧ r i0 = i ∧ g' i0 = g2 i := by
        intro i o hi ho
        rcases cases2 i o ho with ⟨j, o', hj, hp, rfl⟩ | ⟨k, o', hk7, rfl, hp, rfl⟩ | ⟨h3, h4, _⟩
        · exact ⟨.ext j, o', hcj j o' hp, rin j i hj, by rw [hg2, rin j i hj]⟩
        · exact ⟨.loc k, o', hck k o' hp, rloc k hk7, by rw [hg2, rloc k hk7]⟩
        · rcases hi with hi | ⟨k, hk, rfl⟩
          · exact absurd hi h3
          · exact absurd rfl (h4 k hk)
      obtain ⟨i0, o0, q1, q2, q3⟩ := pre1 i oi hi ho
      obtain ⟨i1, o1, p1, p2, p3⟩ := pre1 i' oi' hi' ho'
      rw [← q3] at hb
      rw [← p3] at hb'
      have := CP.heap.sep i0 i1 o0 o1 b q1 p1 hb hb'
      rw [← q2, ← p2, this]
    · rintro j (hj | ⟨k, hk, e⟩)
      · refine ⟨g2m _ hj, fun ob hob => ?_⟩
        rcases cases2 _ ob hob with ⟨j', o', hj', hp, rfl⟩ | ⟨k, o', hk7, e, hp, rfl⟩ | ⟨h3, h4, _⟩
        · obtain ⟨o0, h6, h7⟩ := allKinds_get hk hp
          exact ⟨_, hpre j' _ o0 hj' h6, fun b o z => zone1_ren.2 (sameKind_zone h7 (zone1_ren.1 z))⟩
        · simp at e
        · exact absurd hj h3
      · simp at e
    · rintro n ⟨hn, hn2⟩
      obtain ⟨h3, h4⟩ := R.free n hn
      have hne : ∀ k, k < 8 → Id.loc n ≠ .loc (fresh + k) := fun k hk e => hn2 (by simp at e; omega)
      have hnm : Id.loc n ∉ m := fun hm => mlive _ hm h4
      exact ⟨(g2o _ hne).trans h3, (h2o _ hnm (fun k hk => hne k (by omega))).trans h4⟩
  exact ⟨g2, R2.put hd (RelAV.push (r := r) hz2' hg2 ht2 CP.res)⟩

end Go.AM

/- The abstract machine, part HB: structs that are put together ('build'). No condition. -/
namespace Go.AM
open Go Go.RowKit

def RelCs (w : World) (Z : Zone) (g : Ghost) (h : Heap) (cs : List CV) (vs : Array Value) : Prop :=
  vs.size = cs.length ∧ ∀ (j : Nat) c u, cs[j]? = some c → vs[j]? = some u → RelC w Z g h c u

/-- What is laid into a row, cell by cell. -/
theorem foldl_set (off : Nat) : ∀ (l : List Value) (n : Nat) (cells : Array Value),
    ((l.zipIdx n).foldl (fun cs x => cs.setIfInBounds (off + x.2) x.1) cells).size = cells.size ∧
    ∀ k, k < cells.size → ((l.zipIdx n).foldl (fun cs x => cs.setIfInBounds (off + x.2) x.1) cells)[k]? = if off + n ≤ k ∧ k < off + n + l.length then l[k - (off + n)]? else cells[k]?
  | [], n, cells => ⟨rfl, fun k hk => by rw [if_neg (by simp only [List.length_nil]; omega)]; rfl⟩
  | v :: l, n, cells => by
    obtain ⟨h1, h2⟩ := foldl_set off l (n + 1) (cells.setIfInBounds (off + n) v)
    refine ⟨by simpa using h1, fun k hk => ?_⟩
    have := h2 k (by simpa using hk)
    simp only [List.zipIdx_cons, List.foldl_cons]
    rw [this]
    by_cases he : k = off + n
    · subst he
      rw [if_neg (by omega), if_pos (by simp)]
      simp [hk]
    · by_cases hr : off + n ≤ k ∧ k < off + n + (v :: l).length
      · rw [if_pos hr, if_pos (by simp at hr; omega)]
        obtain ⟨d, hd⟩ : ∃ d, k = off + n + 1 + d := ⟨k - (off + n + 1), by omega⟩
        rw [show k - (off + n) = d + 1 from by omega, show k - (off + (n + 1)) = d from by omega]
        rfl
      · rw [if_neg hr, if_neg (by simp at hr; omega)]
        rw [Array.getElem?_setIfInBounds_ne (by omega)]

theorem fill_cs {w : World} {Z : Zone} {g : Ghost} {h : Heap} {cs ys : List CV} {vs us : Array Value} {off : Nat} (hc : RelCs w Z g h cs vs) (hy : RelCs w Z g h ys us) (hb : off + ys.length ≤ cs.length) :
    RelCs w Z g h (cs.take off ++ ys ++ cs.drop (off + ys.length)) (us.zipIdx.foldl (fun cs (c, j) => cs.setIfInBounds (off + j) c) vs) := by
  have e : us.zipIdx.foldl (fun cs (c, j) => cs.setIfInBounds (off + j) c) vs = (us.toList.zipIdx 0).foldl (fun cs x => cs.setIfInBounds (off + x.2) x.1) vs := by
    rw [← Array.foldl_toList, Array.toList_zipIdx]
  rw [e]
  obtain ⟨h1, h2⟩ := foldl_set off us.toList 0 vs
  refine ⟨by rw [h1, hc.1]; simp; omega, fun j c u hj hu => ?_⟩
  have hlt : j < vs.size := by rw [← h1]; exact (Array.getElem?_eq_some_iff.1 hu).1
  rw [h2 j hlt] at hu
  have hl := hy.1
  by_cases ha : j < off
  · rw [if_neg (by omega)] at hu
    rw [List.append_assoc, List.getElem?_append_left (by simp; omega), List.getElem?_take_of_lt ha] at hj
    exact hc.2 j c u hj hu
  · by_cases hb' : j < off + ys.length
    · rw [if_pos (by simp; omega)] at hu
      rw [List.getElem?_append_left (by simp; omega), List.getElem?_append_right (by simp; omega)] at hj
      have e1 : j - (cs.take off).length = j - (off + 0) := by simp; omega
      rw [e1] at hj
      exact hy.2 _ c u hj (by simpa using hu)
    · rw [if_neg (by simp; omega)] at hu
      rw [List.getElem?_append_right (by simp; omega), List.getElem?_drop] at hj
      have e1 : off + ys.length + (j - (cs.take off ++ ys).length) = j := by simp; omega
      rw [e1] at hj
      exact hc.2 j c u hj hu

theorem mapM_get {α β : Type} {f : α → Option β} : ∀ {l : List α} {ps : List β}, l.mapM f = some ps → ∀ (i : Nat) a, l[i]? = some a → f a = ps[i]?
  | [], ps, _, i, a, ha => by simp at ha
  | x :: l, ps, h, i, a, ha => by
    simp only [List.mapM_cons, Option.bind_eq_bind, Option.pure_def] at h
    cases hx : f x with
    | none => simp [hx] at h
    | some y =>
      cases hl : l.mapM f with
      | none => simp [hx, hl] at h
      | some ys =>
        simp [hx, hl] at h
        subst h
        match i with
        | 0 => simp at ha; subst ha; simpa using hx
        | i + 1 => simp at ha; simpa using mapM_get hl i a ha

theorem fillP_ok {P : Program} {ti : Types} (hti : TIok P ti) {s : Slots} {fs : List Field} {places : List (Nat × Nat)} (hp : fs.mapM (fun f => (P.info? f.type).map fun i => (f.offset, i.size)) = some places) {k : List CV → Prop} :
    ∀ (L : List (Nat × Operand)) (cs : List CV), fillP ti s fs cs L k → ∃ cs', k cs' ∧ ∀ (w : World) (Z : Zone) (g : Ghost) (h : Heap) (ev : Operand → Value) (vs : Array Value),
      (∀ t i p, (i, p) ∈ L → RelAV w Z g h (opd ti s t p) (ev p)) → RelCs w Z g h cs vs →
      ∃ vs', Instr.fill (places.toArray[·]?) vs (L.map fun x => (x.1, ev x.2)) = some vs' ∧ RelCs w Z g h cs' vs'
  | [], cs, hk => ⟨cs, hk, fun w Z g h ev vs _ hc => ⟨vs, rfl, hc⟩⟩
  | (i, x) :: L, cs, hk => by
    unfold fillP at hk
    split at hk
    · rename_i fd hfd
      obtain ⟨j, hj, hk⟩ := withT_iff.1 hk
      obtain ⟨y, hy, hk⟩ := withV_iff.1 hk
      obtain ⟨hl, hk⟩ := req_iff.1 hk
      obtain ⟨hb, hk⟩ := req_iff.1 hk
      have hl := Nat.eq_of_beq_eq_true hl
      have hb := Nat.le_of_ble_eq_true hb
      obtain ⟨cs', h1, h2⟩ := fillP_ok hti hp L _ hk
      refine ⟨cs', h1, fun w Z g h ev vs hev hc => ?_⟩
      have hr := hev fd.type i x (by simp)
      rw [hy] at hr
      obtain ⟨hs1, hs2⟩ := RelV1.cells hr
      obtain ⟨_, ii, hi1, hi2, _⟩ := hti _ _ hj
      have hpl : places[i]? = some (fd.offset, j.size) := by
        rw [← mapM_get hp i fd hfd, hi1]
        simp [hi2]
      rw [← hl] at h2
      obtain ⟨vs', h3, h4⟩ := h2 w Z g h ev _ (fun t i' p hp' => hev t i' p (List.mem_cons_of_mem _ hp')) (fill_cs (off := fd.offset) hc ⟨hs1, hs2⟩ (by omega))
      refine ⟨vs', ?_, h4⟩
      have e : places.toArray[i]? = some (fd.offset, j.size) := by simpa using hpl
      simp only [List.map_cons, Instr.fill, e]
      rw [if_neg (by rw [hs1, hc.1]; simp; omega)]
      exact h3
    · exact hk.elim

theorem tiAll_ok {P : Program} {ti : Types} (hti : TIok P ti) : ∀ (fs : List Field), tiAll ti fs = true → ∃ places, fs.mapM (fun f => (P.info? f.type).map fun i => (f.offset, i.size)) = some places
  | [], _ => ⟨[], rfl⟩
  | f :: fs, h => by
    unfold tiAll at h
    split at h
    · rename_i x hx
      obtain ⟨l, hl⟩ := tiAll_ok hti fs h
      obtain ⟨_, ii, hi1, _⟩ := hti _ _ hx
      exact ⟨(f.offset, ii.size) :: l, by simp [List.mapM_cons, hi1, hl]⟩
    · simp at h

section
variable {C : Cx} {ti : Types} {o : Oper} {fresh : Nat} {s : Slots} {h : Heap} {k : Out → Prop}

theorem ok_build (hti : TIok C.P ti) (t : TypeId) (parts : Array (Nat × Operand)) (ho : o.op = .build t parts) (hk : outBuild ti s t parts.toList k) : ∃ out, k out ∧ OKop C o fresh s h out := by
  unfold outBuild at hk
  obtain ⟨q, hq, hk⟩ := withT_iff.1 hk
  split at hk
  · rename_i fs hd
    obtain ⟨ha, hk⟩ := req_iff.1 hk
    obtain ⟨places, hp⟩ := tiAll_ok hti _ ha
    obtain ⟨cs', hk, hx⟩ := fillP_ok hti hp _ _ hk
    refine ⟨_, hk, okop_value fun F σs σh g a w R hs _ => ?_⟩
    obtain ⟨hu, ii, h1, h2, h3, h4, h5, h6, h7⟩ := hti t q hq
    obtain ⟨vs', hf, hr⟩ := hx w (zor (zone g σh) C.X) g σh a.eval q.zero.cells (fun t' i p hp' => opd_rel ti t' p R (s := s) (fun k hk => hs k (by
      subst hk
      simp only [ho, Op.operands]
      simp
      exact ⟨i, by simpa using hp'⟩))) ⟨by rw [h5, h6], fun j c u hc hu => zrel_rel (h7 j c u hc hu)⟩
    refine ⟨.agg vs', ?_, (RelV1.ofCells hr.1 hr.2).1 rfl⟩
    have hb : C.P.built t (parts.map fun (i, x) => (i, a.eval x)).toList = some vs' := by
      unfold Program.built
      rw [h1, hu, hd]
      simp only [h4, hp]
      simpa using hf
    have := run_build w t _ vs' hb
    simp [execOp, ho, this]
  · exact hk.elim
end
end Go.AM

/- The abstract machine, part HC: parts of tuples and structs, conversions, pieces of texts and lists. No condition. -/
namespace Go.AM
open Go Go.RowKit

section
variable {C : Cx} {ti : Types} {o : Oper} {fresh : Nat} {s : Slots} {h : Heap} {k : Out → Prop}

theorem nthV_get : ∀ {xs : List V1} {i : Nat} {y : V1}, nthV xs i = some y → xs[i]? = some y
  | [], _, _, h => by simp [nthV] at h
  | x :: r, 0, y, h => by simpa [nthV] using h
  | x :: r, i + 1, y, h => by simpa using nthV_get (xs := r) (i := i) h

theorem ok_extract (x : Operand) (i : Nat) (ho : o.op = .extract x i) (hk : outExtract (opd ti s 0 x) i k) : ∃ out, k out ∧ OKop C o fresh s h out := by
  unfold outExtract at hk
  split at hk
  · rename_i xs hop
    split at hk
    · rename_i y hy
      refine ⟨_, hk, okop_value fun F σs σh g a w R hs _ => ?_⟩
      have hx := opd_rel ti 0 x R (s := s) (fun t ht => hs t (by subst ht; simp [ho, Op.operands]))
      rw [hop] at hx
      obtain ⟨vs, hv, hsz, hr⟩ := hx
      have hxy := nthV_get hy
      have hlt : i < vs.size := by rw [hsz]; exact (List.getElem?_eq_some_iff.1 hxy).1
      refine ⟨vs[i], ?_, hr i y vs[i] hxy (by simp [hlt])⟩
      simp [execOp, ho, Instr.extract, hv, hlt]
    · exact hk.elim
  · exact hk.elim

theorem ok_convert (hti : TIok C.P ti) (src dst : TypeId) (x : Operand) (ho : o.op = .convert src dst x) (hk : outConvert ti src dst (opd ti s src x) k) : ∃ out, k out ∧ OKop C o fresh s h out := by
  unfold outConvert at hk
  obtain ⟨a1, h1, hk⟩ := withT_iff.1 hk
  obtain ⟨b1, h2, hk⟩ := withT_iff.1 hk
  split at hk
  · rename_i q1 q d1 d2
    obtain ⟨q', n, hx0, z, hz, hk⟩ := withI_iff.1 hk
    refine ⟨_, hk, okop_value fun F σs σh g a w R hs _ => ?_⟩
    have hx := opd_rel ti src x R (s := s) (fun t ht => hs t (by subst ht; simp [ho, Op.operands]))
    rw [hx0] at hx
    have hx := relI hx
    refine ⟨.int q z, ?_, .int _ _⟩
    have e1 := tund hti h1 w
    have e2 := tund hti h2 w
    rw [d1] at e1
    rw [d2] at e2
    simp [execOp, ho, convert, e1, e2, hx, Conv.intToInt, hz]
  · exact hk.elim

theorem isAggV_agg {w : World} {Z : Zone} {g : Ghost} {h : Heap} {y : V1} {v : Value} (hy : isAggV y = true) (r : RelV1 w Z g h y v) : ∃ vs, v = .agg vs := by
  cases y with
  | d x =>
    cases x with
    | agg cs => cases (show RelD w Z (.agg cs) v from r) with | agg _ vs => exact ⟨vs, rfl⟩
    | _ => simp [isAggV, D.isAgg] at hy
  | c x => simp [isAggV] at hy
  | agg cs => obtain ⟨vs, hv, _⟩ := r; exact ⟨vs, hv⟩

theorem run_isAgg (hti : TIok C.P ti) {t : TypeId} {i : TI} (hi : ti t = some i) (w : World) : (isAgg t).run C.P w = .ok (rowD i.desc) w := by
  have := tund hti hi w
  unfold isAgg
  cases hd : i.desc <;> simp [hd] at this <;> simp [this, rowD]

/-- A part of a struct's cells. -/
theorem part_rel (hti : TIok C.P ti) (h1 : TIone ti) {t : TypeId} {i : TI} (hi : ti t = some i) {w : World} {Z : Zone} {g : Ghost} {h : Heap} {cs : List CV} {vs : Array Value} {off : Nat} (hs : vs.size = cs.length)
    (hr : ∀ (j : Nat) c u, cs[j]? = some c → vs[j]? = some u → RelC w Z g h c u) (hb : off + i.size ≤ cs.length) :
    ∃ u, (part t vs off).run C.P w = .ok u w ∧ RelAV w Z g h (.v (V1.ofCells (rowD i.desc) ((cs.drop off).take i.size))) u := by
  have e1 := run_isAgg hti hi w
  have e2 := tsize hti hi w
  have hsz : (vs.extract off (off + i.size)).size = ((cs.drop off).take i.size).length := by simp; omega
  have hrel : ∀ (j : Nat) c u, ((cs.drop off).take i.size)[j]? = some c → (vs.extract off (off + i.size))[j]? = some u → RelC w Z g h c u := by
    intro j c u hc hu
    rw [List.getElem?_take] at hc
    split at hc
    · rename_i hj
      rw [List.getElem?_drop] at hc
      refine hr (off + j) c u hc ?_
      rw [Array.getElem?_extract] at hu
      split at hu
      · exact hu
      · cases hu
    · cases hc
  cases hrow : rowD i.desc with
  | true =>
    rw [hrow] at e1
    refine ⟨.agg (vs.extract off (off + i.size)), by simp [part, e1, e2], (RelV1.ofCells hsz hrel).1 rfl⟩
  | false =>
    rw [hrow] at e1
    have hone := h1 t i hi hrow
    have hlt : off < vs.size := by omega
    refine ⟨vs[off], by simp [part, e1, hlt], (RelV1.ofCells hsz hrel).2 rfl _ ?_⟩
    apply Array.ext
    · simp; omega
    · intro j h2 h3
      simp at h3
      subst h3
      simp

theorem ok_fieldV (hti : TIok C.P ti) (h1 : TIone ti) (t : TypeId) (x : Operand) (f : Nat) (ho : o.op = .field t x f) (hk : outFieldV ti t (opd ti s t x) f k) : ∃ out, k out ∧ OKop C o fresh s h out := by
  unfold outFieldV at hk
  obtain ⟨i, hi, hk⟩ := withT_iff.1 hk
  split at hk
  · rename_i fs hd
    split at hk
    · rename_i fd hfd
      obtain ⟨j, hj, hk⟩ := withT_iff.1 hk
      obtain ⟨y, hy, hk⟩ := withV_iff.1 hk
      obtain ⟨hag, hk⟩ := req_iff.1 hk
      obtain ⟨hb, hk⟩ := req_iff.1 hk
      have hb := Nat.le_of_ble_eq_true hb
      refine ⟨_, hk, okop_value fun F σs σh g a w R hs _ => ?_⟩
      have hx := opd_rel ti t x R (s := s) (fun t ht => hs t (by subst ht; simp [ho, Op.operands]))
      rw [hy] at hx
      obtain ⟨vs, hv⟩ := isAggV_agg hag hx
      obtain ⟨c1, c2⟩ := RelV1.cells hx
      have e1 := tund hti hi w
      rw [hd] at e1
      rw [hv] at c1 c2
      obtain ⟨u, hu, hr⟩ := part_rel hti h1 hj (w := w) (vs := vs) (off := fd.offset) (by simpa [Value.cells] using c1) (fun j c u h1 h2 => c2 j c u h1 (by simpa [Value.cells] using h2)) hb
      refine ⟨u, ?_, hr⟩
      simp [execOp, ho, Instr.field, e1, hfd, hv, asAgg, hu]
    · exact hk.elim
  · exact hk.elim

theorem bndI_iff {d : Int} {x : Option Operand} {k : Int → Prop} (hk : bndI ti s d x k) : ∃ n, k n ∧ ((x = none ∧ n = d) ∨ ∃ y q, x = some y ∧ opd ti s 3 y = .v (.d (.int q n))) := by
  unfold bndI at hk
  split at hk
  · exact ⟨d, hk, .inl ⟨rfl, rfl⟩⟩
  · rename_i y
    obtain ⟨q, n, h1, hk⟩ := withI_iff.1 hk
    exact ⟨n, hk, .inr ⟨y, q, rfl, h1⟩⟩

theorem run_bound {P : Program} {w : World} {q : IntKind} {n : Int} {y : Nat} {code : BoundsCode} (h0 : 0 ≤ n) (h1 : n ≤ y) : (Instr.sliceBound (.int q n) y code).run P w = .ok n.toNat w := by
  simp [Instr.sliceBound, asIntOf, h0, h1]

theorem ok_sliceS (hti : TIok C.P ti) (t : TypeId) (x : Operand) (lo hi mx : Option Operand) (ho : o.op = .slice t x lo hi mx) (hk : outSlice C.M ti s t (opd ti s t x) lo hi mx k) : ∃ out, k out ∧ OKop C o fresh s h out := by
  unfold outSlice at hk
  obtain ⟨i, hi', hk⟩ := withT_iff.1 hk
  have bnd : ∀ {F : Nat → Prop} {σs : Slots} {σh : Heap} {g : Ghost} {a : Act} {w : World} (R : RelS C F σs σh g a w), (∀ t, Operand.tmp t ∈ o.op.operands.toList → σs t = s t) →
      ∀ y q n, (lo = some y ∨ hi = some y ∨ mx = some y) → opd ti s 3 y = .v (.d (.int q n)) → a.eval y = .int q n := by
    intro F σs σh g a w R hs y q n hy hop
    have hx := opd_rel ti 3 y R (s := s) (fun t ht => hs t (by subst ht; rcases hy with h | h | h <;> simp [ho, Op.operands, h]))
    rw [hop] at hx
    exact relI hx
  split at hk
  · rename_i hd
    split at hk
    · rename_i b hop
      obtain ⟨l, hk, hl⟩ := bndI_iff hk
      obtain ⟨u, hk, hu⟩ := bndI_iff hk
      split at hk
      · rename_i hmx
        obtain ⟨r, ⟨h0, h1, h2⟩, hr, hk⟩ := hk
        refine ⟨_, hk, okop_value fun F σs σh g a w R hs _ => ?_⟩
        have hx := opd_rel ti t x R (s := s) (fun t ht => hs t (by subst ht; simp [ho, Op.operands]))
        rw [hop] at hx
        have hx := relSt hx
        rw [C.M.szI_eq] at h2
        refine ⟨.string r, ?_, .str _⟩
        have e1 := tund hti hi' w
        rw [hd] at e1
        have hb : (Instr.sliceBounds false b.size b.size (lo.map a.eval) (hi.map a.eval) none).run C.P w = .ok (l.toNat, u.toNat, b.size) w := by
          rcases hu with ⟨rfl, rfl⟩ | ⟨y, q, rfl, hy⟩
          · rw [C.M.szI_eq] at h1 ⊢
            rcases hl with ⟨rfl, rfl⟩ | ⟨z, q', rfl, hz⟩
            · simp [Instr.sliceBounds]
            · simp [Instr.sliceBounds, bnd R hs z q' l (.inl rfl) hz, run_bound (P := C.P) (w := w) h0 h1]
          · have hy' := bnd R hs y q u (.inr (.inl rfl)) hy
            have e2 := run_bound (P := C.P) (w := w) (q := q) (n := u) (y := b.size) (code := .sliceAlen) (by omega) (by omega)
            rcases hl with ⟨rfl, rfl⟩ | ⟨z, q', rfl, hz⟩
            · simp [Instr.sliceBounds, hy', e2]
            · have e3 := run_bound (P := C.P) (w := w) (q := q') (n := l) (y := u.toNat) (code := .sliceB) h0 (by omega)
              simp [Instr.sliceBounds, hy', e2, bnd R hs z q' l (.inl rfl) hz, e3]
        simp [execOp, ho, Instr.sliceAt, Instr.slice, e1, hx, hmx, hb, hr]
      · exact hk.elim
    · exact hk.elim
  · rename_i e hd
    obtain ⟨j, hj, hk⟩ := withT_iff.1 hk
    obtain ⟨ag, sz, rows, hrel, hk⟩ := withL_iff hk
    obtain ⟨hag, hk⟩ := req_iff.1 hk
    obtain ⟨hsz, hk⟩ := req_iff.1 hk
    have hsz := Nat.eq_of_beq_eq_true hsz
    obtain ⟨l, hk, hl⟩ := bndI_iff hk
    obtain ⟨u, hk, hu⟩ := bndI_iff hk
    have main : ∃ (out : List D) (m : Option Int), (m = none ∧ mx = none ∨ ∃ y q z, mx = some y ∧ hi = some z ∧ opd ti s 3 y = .v (.d (.int q u)) ∧ m = some u) ∧ (0 ≤ l ∧ l ≤ u ∧ u ≤ C.M.lenI rows) ∧ (rows.take u.toNat).drop l.toNat = out ∧
        k ⟨match m with | none => .v (.d (.list ag sz out)) | some _ => .v (.c (.tl ag sz out)), [], []⟩ := by
      cases mx with
      | none =>
        obtain ⟨out, h0, h1, hk⟩ := hk
        exact ⟨out, none, .inl ⟨rfl, rfl⟩, h0, h1, hk⟩
      | some y =>
        cases hi with
        | none => exact hk.elim
        | some z =>
          obtain ⟨q, v, hy, out, ⟨h0, h1, h2, rfl⟩, h3, hk⟩ := withI_iff.1 hk
          exact ⟨out, some v, .inr ⟨y, q, z, rfl, rfl, hy, rfl⟩, ⟨h0, h1, h2⟩, h3, hk⟩
    obtain ⟨out, m, hm, ⟨h0, h1, h2⟩, hout, hk⟩ := main
    refine ⟨_, hk, okop_value fun F σs σh g a w R hs _ => ?_⟩
    have hx := hrel (opd_rel ti t x R (s := s) (fun t ht => hs t (by subst ht; simp [ho, Op.operands])))
    rw [C.M.lenI_eq] at h2
    have bhi : hi = none → u = rows.length := by
      intro h
      rcases hu with ⟨_, rfl⟩ | ⟨y, q, he, _⟩
      · exact C.M.lenI_eq rows
      · rw [h] at he; cases he
    generalize hv : a.eval x = v at hx
    cases hx with
    | list _ _ _ A cap b off U hcap hmax hfit ha hc hr =>
      have e1 := tund hti hi' w
      rw [hd] at e1
      have e4 := tsize hti hj w
      have lists : ∀ cap', u.toNat - l.toNat ≤ cap' → cap' ≤ maxLen → ∀ A', (l.toNat < u.toNat → A' = A.map (·.add (l.toNat * j.size))) →
          RelD w (zor (zone g σh) C.X) (.list ag sz out) (.slice A' (u.toNat - l.toNat) cap') := by
        intro cap' hc1 hc2 A' hA'
        have hlen : out.length = u.toNat - l.toNat := by rw [← hout]; simp; omega
        have hget : ∀ (i : Nat) r, out[i]? = some r → rows[l.toNat + i]? = some r ∧ i < u.toNat - l.toNat := by
          intro i r hr
          have hlt := (List.getElem?_eq_some_iff.1 hr).1
          rw [← hout, List.getElem?_drop, List.getElem?_take] at hr
          split at hr
          · exact ⟨hr, by omega⟩
          · simp at hr
        have hmem : ∀ r ∈ out, r ∈ rows := by
          intro r hr
          rw [← hout] at hr
          exact List.mem_of_mem_take (List.mem_of_mem_drop hr)
        have := RelD.list (w := w) (Z := zor (zone g σh) C.X) ag sz out A' cap' b (off + l.toNat * sz) (fun i q => U (l.toNat + i) q) (by omega) hc2 (fun r hr => hfit r (hmem r hr))
          (fun hne => by
            have hpos : l.toNat < u.toNat := by
              have : out.length ≠ 0 := fun h => hne (List.eq_nil_of_length_eq_zero h)
              omega
            rw [hA' hpos, ha (by rintro rfl; simp at h2; omega), hsz]
            simp [addr_add])
          (fun i r q c hr' hcc => by
            obtain ⟨h3, _⟩ := hget i r hr'
            have := hc (l.toNat + i) r q c h3 hcc
            rw [show off + ((l.toNat + i) * sz + q) = off + l.toNat * sz + (i * sz + q) from by rw [Nat.add_mul]; omega] at this
            exact this)
          (fun i r q c hr' hcc => hr (l.toNat + i) r q c (hget i r hr').1 hcc)
        rw [hlen] at this
        exact this
      have hlo : ∀ top : Nat, l ≤ top → ∀ code, (match lo.map a.eval with | some v => Instr.sliceBound v top code | none => pure 0 : Sem Nat).run C.P w = .ok l.toNat w := by
        intro top htop code
        rcases hl with ⟨rfl, rfl⟩ | ⟨z, q', rfl, hz⟩
        · rfl
        · simp [bnd R hs z q' l (.inl rfl) hz, run_bound (P := C.P) (w := w) h0 htop]
      rcases hm with ⟨rfl, hmx⟩ | ⟨y, q, z, hmx, hhi, hy, rfl⟩
      · -- no third bound
        have hb : (Instr.sliceBounds true rows.length cap (lo.map a.eval) (hi.map a.eval) none).run C.P w = .ok (l.toNat, u.toNat, cap) w := by
          have e3 := hlo u.toNat (by omega)
          rcases hu with ⟨hh, hu⟩ | ⟨z, q', hh, hz⟩
          · have e5 := bhi hh
            subst hh
            subst e5
            simp only [Int.toNat_natCast] at e3
            rcases hl with ⟨rfl, rfl⟩ | ⟨z, q', rfl, hz⟩
            · simp [Instr.sliceBounds]
            · simp [Instr.sliceBounds, bnd R hs z q' l (.inl rfl) hz, run_bound (P := C.P) (w := w) h0 h1]
          · subst hh
            have hz' := bnd R hs z q' u (.inr (.inl rfl)) hz
            have e6 := run_bound (P := C.P) (w := w) (q := q') (n := u) (y := cap) (code := .sliceAcap) (by omega) (by omega)
            rcases hl with ⟨rfl, rfl⟩ | ⟨z2, q2, rfl, hz2⟩
            · simp [Instr.sliceBounds, hz', e6]
            · simp [Instr.sliceBounds, hz', e6, bnd R hs z2 q2 l (.inl rfl) hz2, run_bound (P := C.P) (w := w) (q := q2) (n := l) (y := u.toNat) (code := .sliceB) h0 (by omega)]
        refine ⟨.slice (if cap = l.toNat then A else A.map (·.add (l.toNat * j.size))) (u.toNat - l.toNat) (cap - l.toNat), ?_, lists _ (by omega) (by omega) _ (fun h => by rw [if_neg (by omega)])⟩
        simp [execOp, ho, Instr.sliceAt, Instr.slice, e1, hv, hmx, hb, e4]
      · have hy' := bnd R hs y q u (.inr (.inr hmx)) hy
        obtain ⟨z', q', hz0, hz⟩ : ∃ z' q', hi = some z' ∧ opd ti s 3 z' = .v (.d (.int q' u)) := by
          rcases hu with ⟨hh, _⟩ | ⟨z, q', hh, hz⟩
          · rw [hhi] at hh; cases hh
          · exact ⟨z, q', hh, hz⟩
        have hz' := bnd R hs z' q' u (.inr (.inl hz0)) hz
        have hb : (Instr.sliceBounds true rows.length cap (lo.map a.eval) (hi.map a.eval) (mx.map a.eval)).run C.P w = .ok (l.toNat, u.toNat, u.toNat) w := by
          have e6 := run_bound (P := C.P) (w := w) (q := q) (n := u) (y := cap) (code := .slice3Acap) (by omega) (by omega)
          have e7 := run_bound (P := C.P) (w := w) (q := q') (n := u) (y := u.toNat) (code := .slice3B) (by omega) (by omega)
          rw [hmx, hz0]
          rcases hl with ⟨rfl, rfl⟩ | ⟨z2, q2, rfl, hz2⟩
          · simp [Instr.sliceBounds, hy', hz', e6, e7]
          · simp [Instr.sliceBounds, hy', hz', e6, e7, bnd R hs z2 q2 l (.inl rfl) hz2, run_bound (P := C.P) (w := w) (q := q2) (n := l) (y := u.toNat) (code := .slice3C) h0 (by omega)]
        have hlen : out.length = u.toNat - l.toNat := by rw [← hout]; simp; omega
        refine ⟨.slice (if u.toNat = l.toNat then A else A.map (·.add (l.toNat * j.size))) (u.toNat - l.toNat) (u.toNat - l.toNat), ?_, lists _ (by omega) (by omega) _ (fun h => by rw [if_neg (by omega)]), _, by rw [hlen]⟩
        simp [execOp, ho, Instr.sliceAt, Instr.slice, e1, hv, hb, e4]
  · exact hk.elim

theorem ok_indexV (hti : TIok C.P ti) (t : TypeId) (x y : Operand) (ho : o.op = .index t x y) (hk : outIndexV ti t (opd ti s t x) (opd ti s 3 y) k) : ∃ out, k out ∧ OKop C o fresh s h out := by
  unfold outIndexV at hk
  obtain ⟨q, n, hy, hk⟩ := withI_iff.1 hk
  obtain ⟨i, hi, hk⟩ := withT_iff.1 hk
  split at hk
  · rename_i hd
    split at hk
    · rename_i b hop
      obtain ⟨z, ⟨h0, hz⟩, hk⟩ := hk
      refine ⟨_, hk, okop_value fun F σs σh g a w R hs _ => ?_⟩
      have hx := opd_rel ti t x R (s := s) (fun t ht => hs t (by subst ht; simp [ho, Op.operands]))
      rw [hop] at hx
      have hx := relSt hx
      have hyy := opd_rel ti 3 y R (s := s) (fun t ht => hs t (by subst ht; simp [ho, Op.operands]))
      rw [hy] at hyy
      have hyy := relI hyy
      have e1 := tund hti hi w
      rw [hd] at e1
      obtain ⟨u, hu, hz⟩ := Option.map_eq_some_iff.1 hz
      refine ⟨.int .u8 z, ?_, .int _ _⟩
      simp [execOp, ho, Instr.index, asIntOf, e1, hx, hyy, h0, hu, hz]
    · exact hk.elim
  · rename_i len e hd
    obtain ⟨j, hj, hk⟩ := withT_iff.1 hk
    obtain ⟨h1, hk⟩ := req_iff.1 hk
    obtain ⟨h2, hk⟩ := req_iff.1 hk
    have h1 := Nat.eq_of_beq_eq_true h1
    split at hk
    · rename_i cs hop
      obtain ⟨h3, r, h0, hr, hk⟩ := req_iff.1 hk
      have h3 := Nat.eq_of_beq_eq_true h3
      refine ⟨_, hk, okop_value fun F σs σh g a w R hs _ => ?_⟩
      have hx := opd_rel ti t x R (s := s) (fun t ht => hs t (by subst ht; simp [ho, Op.operands]))
      rw [hop] at hx
      have hyy := opd_rel ti 3 y R (s := s) (fun t ht => hs t (by subst ht; simp [ho, Op.operands]))
      rw [hy] at hyy
      have hyy := relI hyy
      have e1 := tund hti hi w
      rw [hd] at e1
      have e2 := tsize hti hj w
      have e3 := run_isAgg hti hj w
      generalize hv : a.eval x = v at hx
      cases (show RelD w _ (.agg cs) v from hx) with
      | agg _ vs hsz hag hrel =>
        have hlt : n.toNat < cs.length := (List.getElem?_eq_some_iff.1 hr).1
        have hlt' : n.toNat < vs.size := by omega
        refine ⟨vs[n.toNat], ?_, hrel n.toNat r vs[n.toNat] hr (by simp [hlt'])⟩
        have hrow : rowD j.desc = false := by cases hh : rowD j.desc <;> simp [hh, notB] at h2 ⊢
        rw [hrow] at e3
        have hn : n < (len : Int) := by omega
        simp [execOp, ho, Instr.index, asIntOf, e1, hv, hyy, h0, hn, part, e2, e3, h1, hlt']
    · exact hk.elim
  · exact hk.elim
end
end Go.AM

/- The abstract machine, part HD: literal lists, append. No condition. -/
namespace Go.AM
open Go Go.RowKit

section
variable {C : Cx} {F : Nat → Prop} {s : Slots} {h : Heap} {g : Ghost} {a : Act} {w w' : World} {Z : Zone}

theorem relD_nil' (ag : Bool) (sz : Nat) (A : Option Addr) {cap : Nat} (hc : cap ≤ maxLen) : RelD w Z (.list ag sz []) (.slice A 0 cap) :=
  .list ag sz [] A cap 0 0 (fun _ _ => undef) (Nat.zero_le _) hc (by simp) (by simp) (by simp) (by simp)

/-- New blocks, and nothing else. -/
theorem RelS.grow (R : RelS C F s h g a w) (hg : w.grownBy w' none) : RelS C F s h g a w' := by
  obtain ⟨h1, h2, h3, h4, h5⟩ := hg
  have hblk : ∀ b, b < w.heap.size → w'.heap[b]? = w.heap[b]? := fun b hb => h5 b hb (by simp)
  have hcell : ∀ b o u, w.cell? ⟨b, o, none⟩ = some u → w'.cell? ⟨b, o, none⟩ = some u := fun b o u hu =>
    (World.cell?_of_block (a := ⟨b, o, none⟩) (hblk b (World.block_lt_of_cell? w ⟨b, o, none⟩ hu))).trans hu
  refine R.step (fun _ => False) ⟨fun b o u hu hz => ⟨hcell b o u hu, hz⟩, fun _ _ _ => rfl, fun _ _ _ => rfl, fun _ hi => hi, fun i k sz e _ hk => ⟨k, Nat.le_refl _, hk, fun _ => rfl⟩⟩
    ⟨h1, h2, h3, h4, fun b hb _ => hblk b hb, fun b o u hu _ => hcell b o u hu⟩ (fun i _ => ⟨rfl, rfl⟩) (fun i o b _ hi hb => hblk b ((R.heap.objs i o hi).lt hb))
    (fun _ _ hf => hf.elim) (fun _ _ _ hf => hf.elim) (fun _ _ _ _ _ hf => hf.elim) (fun _ hf => hf.elim) (fun n hn => R.free n hn)

/-- The cells of a list, in a row. -/
theorem RelD.cellsRow {ag : Bool} {sz : Nat} {rows : List D} {A : Option Addr} {m cap : Nat} (hsz : 0 < sz) (r : RelD w Z (.list ag sz rows) (.slice A m cap)) :
    m = rows.length ∧ cap ≤ maxLen ∧ m ≤ cap ∧ (rows ≠ [] → ∃ b o, A = some ⟨b, o, none⟩) ∧ (∀ x ∈ rows, x.fits ag sz) ∧ ∃ news : List Value, news.length = rows.length * sz ∧ (∀ u ∈ news, u.oneCell' = true) ∧
      (∀ b o, A = some ⟨b, o, none⟩ → ∀ j u, news[j]? = some u → w.cell? ⟨b, o + j, none⟩ = some u ∧ ¬ Z b (o + j)) ∧
      ∀ (i : Nat) x (j : Nat) c, rows[i]? = some x → x.cells[j]? = some c → ∃ u, news[i * sz + j]? = some u ∧ RelD w Z c u := by
  cases r with
  | list _ _ _ _ _ b o U hcap hmax hfit ha hc hr =>
    refine ⟨rfl, hmax, hcap, fun hne => ⟨b, o, ha hne⟩, hfit, (List.range (rows.length * sz)).map (fun k => U (k / sz) (k % sz)), by simp, ?_, ?_, ?_⟩
    · intro u hu
      obtain ⟨k, hk, rfl⟩ := List.mem_map.1 hu
      have hk := List.mem_range.1 hk
      have hi : k / sz < rows.length := Nat.div_lt_of_lt_mul (by rw [Nat.mul_comm]; exact hk)
      have hx : rows[k / sz]? = some rows[k / sz] := List.getElem?_eq_getElem hi
      obtain ⟨f1, f2, f3⟩ := hfit _ (List.getElem_mem hi)
      have hj : k % sz < rows[k / sz].cells.length := by rw [f2]; exact Nat.mod_lt _ hsz
      have hcc := List.getElem?_eq_getElem hj
      exact (hr _ _ _ _ hx hcc).oneCell (f3 _ (List.getElem_mem hj))
    · intro b' o' hA j u hj
      rw [List.getElem?_map] at hj
      obtain ⟨k, hk, rfl⟩ := Option.map_eq_some_iff.1 hj
      have hlt : j < rows.length * sz := by simpa using (List.getElem?_eq_some_iff.1 hk).1
      have hkj : k = j := by simpa [List.getElem?_range hlt] using hk.symm
      subst hkj
      have hi : k / sz < rows.length := Nat.div_lt_of_lt_mul (by rw [Nat.mul_comm]; exact hlt)
      have hne : rows ≠ [] := by rintro rfl; simp at hi
      have hA2 := ha hne
      rw [hA] at hA2
      cases hA2
      have hx : rows[k / sz]? = some rows[k / sz] := List.getElem?_eq_getElem hi
      obtain ⟨f1, f2, f3⟩ := hfit _ (List.getElem_mem hi)
      have hj : k % sz < rows[k / sz].cells.length := by rw [f2]; exact Nat.mod_lt _ hsz
      have := hc _ _ _ _ hx (List.getElem?_eq_getElem hj)
      rw [show k / sz * sz + k % sz = k from by rw [Nat.mul_comm]; exact Nat.div_add_mod k sz] at this
      exact this
    · intro i x j c hx hj
      obtain ⟨f1, f2, f3⟩ := hfit _ (List.mem_of_getElem? hx)
      have hjl : j < sz := by rw [← f2]; exact (List.getElem?_eq_some_iff.1 hj).1
      have hil := (List.getElem?_eq_some_iff.1 hx).1
      have hlt : i * sz + j < rows.length * sz := by
        have : (i + 1) * sz ≤ rows.length * sz := Nat.mul_le_mul_right _ hil
        rw [Nat.add_mul] at this
        omega
      refine ⟨U i j, ?_, hr i x j c hx hj⟩
      rw [List.getElem?_map, List.getElem?_range hlt]
      have e1 : (i * sz + j) / sz = i := by rw [Nat.mul_comm, Nat.mul_add_div hsz, Nat.div_eq_of_lt hjl, Nat.add_zero]
      have e2 : (i * sz + j) % sz = j := by rw [Nat.mul_comm, Nat.mul_add_mod, Nat.mod_eq_of_lt hjl]
      simp [e1, e2]

/-- A row of cells that are the list's, at the head of a block: a list. -/
theorem relD_of_row {e : TypeId} {ag : Bool} {sz : Nat} {out : List D} {zs : List Value} {v : Value} (hsz : 0 < sz) (hown : w.ownsRow 0 e sz v out.length zs)
    (hfit : ∀ x ∈ out, x.fits ag sz) (hZ : ∀ b, blk v = some b → ∀ o, o < out.length * sz → ¬ Z b o)
    (hr : ∀ (i : Nat) x (j : Nat) c, out[i]? = some x → x.cells[j]? = some c → ∃ u, zs[i * sz + j]? = some u ∧ RelD w Z c u) : RelD w Z (.list ag sz out) v := by
  obtain ⟨hl, h2⟩ := hown
  rcases h2 with ⟨rfl, h0⟩ | ⟨q, cap, cur, rfl, _, hh, hnc, hcm, hcs, htake⟩
  · have : out = [] := List.eq_nil_of_length_eq_zero h0
    subst this
    exact relD_nil ag sz
  · refine .list ag sz out (some ⟨q, 0, none⟩) cap q 0 (fun i j => zs.getD (i * sz + j) undef) hnc hcm hfit (fun _ => rfl) (fun i x j c hx hj => ?_) (fun i x j c hx hj => ?_)
    · obtain ⟨u, hu, _⟩ := hr i x j c hx hj
      have hlt := (List.getElem?_eq_some_iff.1 hu).1
      have hg : zs.getD (i * sz + j) undef = u := by simp [List.getD_eq_getElem?_getD, hu]
      rw [hg]
      refine ⟨?_, by rw [Nat.zero_add]; exact hZ q rfl _ (by omega)⟩
      have : cur[i * sz + j]? = some u := by
        rw [← htake, List.getElem?_take] at hu
        split at hu
        · simpa using hu
        · cases hu
      simp [World.cell?, hh, this]
    · obtain ⟨u, hu, hru⟩ := hr i x j c hx hj
      simpa [List.getD_eq_getElem?_getD, hu] using hru

/-- Two lists' cells, one behind the other. -/
theorem row_append {ag : Bool} {sz : Nat} {rows ys : List D} {xs news : List Value} (h1 : xs.length = rows.length * sz) (hfit : ∀ x ∈ ys, x.fits ag sz) (hfit' : ∀ x ∈ rows, x.fits ag sz)
    (hx : ∀ (i : Nat) x (j : Nat) c, rows[i]? = some x → x.cells[j]? = some c → ∃ u, xs[i * sz + j]? = some u ∧ RelD w Z c u)
    (hy : ∀ (i : Nat) x (j : Nat) c, ys[i]? = some x → x.cells[j]? = some c → ∃ u, news[i * sz + j]? = some u ∧ RelD w Z c u) :
    ∀ (i : Nat) x (j : Nat) c, (rows ++ ys)[i]? = some x → x.cells[j]? = some c → ∃ u, (xs ++ news)[i * sz + j]? = some u ∧ RelD w Z c u := by
  intro i x j c hi hj
  by_cases hl : i < rows.length
  · rw [List.getElem?_append_left hl] at hi
    obtain ⟨u, hu, hr⟩ := hx i x j c hi hj
    exact ⟨u, by rw [List.getElem?_append_left (List.getElem?_eq_some_iff.1 hu).1]; exact hu, hr⟩
  · rw [List.getElem?_append_right (by omega)] at hi
    obtain ⟨u, hu, hr⟩ := hy _ x j c hi hj
    have hle : rows.length * sz ≤ i * sz := Nat.mul_le_mul_right _ (by omega)
    refine ⟨u, ?_, hr⟩
    rw [List.getElem?_append_right (by omega), ← hu]
    congr 1
    rw [h1, Nat.sub_mul]
    omega

theorem fits_append {ag : Bool} {sz : Nat} {rows ys : List D} (h1 : ∀ x ∈ rows, x.fits ag sz) (h2 : ∀ x ∈ ys, x.fits ag sz) : ∀ x ∈ rows ++ ys, x.fits ag sz := by
  intro x hx
  rcases List.mem_append.1 hx with hx | hx
  · exact h1 x hx
  · exact h2 x hx

/-- Nothing appended: the slice itself. -/
theorem run_append_none {P : Program} {w : World} {t ty e : TypeId} {i : TypeInfo} (ht : P.underlying t = some (.slice e)) (hi : P.info? e = some i) {base A : Option Addr} {n cap c : Nat} (hn : n ≤ cap) :
    (Builtin.append_ #[t, t] ty #[.slice base n cap, .slice A 0 c]).run P w = .ok (.slice base n cap) w := by
  have hz : ((some (TypeDesc.slice e)) matches some (.int _)) = false := rfl
  cases base <;> cases A <;> simp [Builtin.append_, underlying, typeInfo, sizeOf, ht, hi, Builtin.lenOf, hn, Builtin.firstCells, loadCells, loadCellsFrom, storeCells]

/-- A new row, as a list that nobody may write. -/
theorem RelS.plain (R : RelS C F s h g a w) (hg : w.grownBy w' none) {e : TypeId} {ag : Bool} {sz : Nat} {out : List D} {zs : List Value} {v : Value} (hsz : 0 < sz) (hown : w'.ownsRow w.heap.size e sz v out.length zs)
    (hfit : ∀ x ∈ out, x.fits ag sz) (hr : ∀ (i : Nat) x (j : Nat) c, out[i]? = some x → x.cells[j]? = some c → ∃ u, zs[i * sz + j]? = some u ∧ RelD w (zor (zone g h) C.X) c u) :
    RelS C F s h g a w' ∧ RelD w' (zor (zone g h) C.X) (.list ag sz out) v := by
  have R' := R.grow hg
  obtain ⟨w1, w2, w3, w4, w5⟩ := hg
  have hX : ∀ b o, C.X b o → b < w.heap.size := fun b o hx => Nat.lt_of_lt_of_le (R.xs b o hx) R.frame.size
  refine ⟨R', relD_of_row hsz (e := e) (zs := zs) ?_ hfit ?_ ?_⟩
  · obtain ⟨h1, h2⟩ := hown
    refine ⟨h1, ?_⟩
    rcases h2 with h2 | ⟨q, cap, cur, h3, _, h4⟩
    · exact .inl h2
    · exact .inr ⟨q, cap, cur, h3, Nat.zero_le _, h4⟩
  · intro b hb o _
    have hge : w.heap.size ≤ b := by
      rcases hown.2 with ⟨h3, _⟩ | ⟨q, cap, cur, h3, hq, _⟩
      · rw [h3] at hb; simp [blk] at hb
      · rw [h3] at hb; simp [blk] at hb; omega
    rintro (hz | hx)
    · exact absurd (zone_lt R.heap hz) (by omega)
    · exact absurd (hX b o hx) (by omega)
  · intro i x j c hi hj
    obtain ⟨u, hu, hru⟩ := hr i x j c hi hj
    refine ⟨u, hu, hru.mono fun b o u hu hz => ⟨?_, hz⟩⟩
    exact (World.cell?_of_block (a := ⟨b, o, none⟩) (w5 b (World.block_lt_of_cell? w ⟨b, o, none⟩ hu) (by simp))).trans hu

/-- A new row, as a growable list of one's own. -/
theorem RelS.owned (R : RelS C F s h g a w) {n : Nat} (hf : F n) (hg : w.grownBy w' none) {e : TypeId} {ag : Bool} {sz : Nat} {out : List D} {zs : List Value} {v : Value} (hsz : 0 < sz) (hown : w'.ownsRow w.heap.size e sz v out.length zs)
    (hfit : ∀ x ∈ out, x.fits ag sz) (hr : ∀ (i : Nat) x (j : Nat) c, out[i]? = some x → x.cells[j]? = some c → ∃ u, zs[i * sz + j]? = some u ∧ RelD w (zor (zone g h) C.X) c u) :
    RelS C (fun k => F k ∧ k ≠ n) s (updO h (.loc n) (.tok out.length sz e)) (updG g (.loc n) v) a w' ∧
      RelC w' (zor (zone (updG g (.loc n) v) (updO h (.loc n) (.tok out.length sz e))) C.X) (updG g (.loc n) v) (updO h (.loc n) (.tok out.length sz e)) (.lst (.loc n) ag sz out) v := by
  obtain ⟨w1, w2, w3, w4, w5⟩ := hg
  obtain ⟨hgn, hhn⟩ := R.free n hf
  have hX : ∀ b o, C.X b o → b < w.heap.size := fun b o hx => Nat.lt_of_lt_of_le (R.xs b o hx) R.frame.size
  have hblk : ∀ b, b < w.heap.size → w'.heap[b]? = w.heap[b]? := fun b hb => w5 b hb (by simp)
  have hcell : ∀ b o u, w.cell? ⟨b, o, none⟩ = some u → w'.cell? ⟨b, o, none⟩ = some u := fun b o u hu =>
    (World.cell?_of_block (a := ⟨b, o, none⟩) (hblk b (World.block_lt_of_cell? w ⟨b, o, none⟩ hu))).trans hu
  have hvb : ∀ b, blk v = some b → w.heap.size ≤ b := by
    intro b hb
    rcases hown.2 with ⟨h3, _⟩ | ⟨q, cap, cur, h3, hq, _⟩
    · rw [h3] at hb; simp [blk] at hb
    · rw [h3] at hb; simp [blk] at hb; omega
  have hne : ∀ {i : Id} {u : Value}, g i = u → u ≠ undef → i ≠ .loc n := by
    rintro i u hv hu rfl
    exact hu (hv ▸ hgn)
  have hzz : ∀ b o, zor (zone (updG g (.loc n) v) (updO h (.loc n) (.tok out.length sz e))) C.X b o → zor (zone g h) C.X b o ∨ (w.heap.size ≤ b ∧ blk v = some b ∧ out.length * sz ≤ o) := by
    rintro b o (⟨i, ob, hi, h1⟩ | hx)
    · by_cases hin : i = .loc n
      · subst hin
        simp [updO, updG] at hi h1
        subst hi
        exact .inr ⟨hvb b h1.1, h1.1, h1.2⟩
      · simp only [updO, updG, if_neg hin] at hi h1
        exact .inl (.inl ⟨i, ob, hi, h1⟩)
    · exact .inl (.inr hx)
  have E : Evo w (zor (zone g h) C.X) g h w' (zor (zone (updG g (.loc n) v) (updO h (.loc n) (.tok out.length sz e))) C.X) (updG g (.loc n) v) (updO h (.loc n) (.tok out.length sz e)) := by
    refine ⟨fun b o u hu hz => ⟨hcell b o u hu, fun hz' => ?_⟩, fun i b hb => if_neg (hne hb (by simp [undef])), fun i q hq => if_neg (hne hq (by simp [undef])), fun i hi => ?_, fun i k sz' e' hi hk => ?_⟩
    · have := World.block_lt_of_cell? w ⟨b, o, none⟩ hu
      simp at this
      rcases hzz b o hz' with h1 | ⟨h1, _⟩
      · exact hz h1
      · omega
    · have : i ≠ .loc n := by rintro rfl; rw [hgn] at hi; exact hi
      simpa [updG, this] using hi
    · have : i ≠ .loc n := by rintro rfl; rw [hgn] at hi; exact hi
      exact ⟨k, Nat.le_refl _, by simpa [updO, this] using hk, fun _ => by simp [updG, this]⟩
  have hown0 : w'.ownsRow 0 e sz v out.length zs := by
    obtain ⟨h1, h2⟩ := hown
    refine ⟨h1, ?_⟩
    rcases h2 with h2 | ⟨q, cap, cur, h3, _, h4⟩
    · exact .inl h2
    · exact .inr ⟨q, cap, cur, h3, Nat.zero_le _, h4⟩
  have hsl : isSl v := by
    rcases hown.2 with ⟨h3, _⟩ | ⟨q, cap, cur, h3, hq, _⟩ <;> rw [h3] <;> trivial
  refine ⟨R.step (F' := fun k => F k ∧ k ≠ n) (fun i => i = .loc n) E ⟨w1, w2, w3, w4, fun b hb _ => hblk b hb, fun b o u hu _ => hcell b o u hu⟩ ?_ ?_ ?_ ?_ ?_ ?_ ?_, ?_⟩
  · intro i hi
    simp [updO, updG, hi]
  · intro i o b _ hi hb
    exact hblk b ((R.heap.objs i o hi).lt hb)
  · rintro i o rfl ho
    simp [updO] at ho
    subst ho
    refine ⟨hsz, zs, ?_⟩
    simpa [updG] using hown0
  · rintro i o b rfl _ hb
    simp [updG] at hb
    exact .inr (hvb b hb)
  · rintro i j _ _ _ rfl rfl _ _ _ _
    rfl
  · intro j hj
    exact absurd hj (by simp)
  · rintro k ⟨hk, hkn⟩
    have := R.free k hk
    simp [updG, updO, hkn, this]
  · refine ⟨relD_of_row hsz hown0 hfit (fun b hb o ho hz => ?_) (fun i x j c hi hj => ?_), by simpa [updG] using hsl, fun k sz' e' hk => ?_⟩
    · rcases hzz b o hz with (h1 | hx) | ⟨_, _, h1⟩
      · exact absurd (zone_lt R.heap h1) (by have := hvb b hb; omega)
      · exact absurd (hX b o hx) (by have := hvb b hb; omega)
      · omega
    · obtain ⟨u, hu, hru⟩ := hr i x j c hi hj
      exact ⟨u, hu, E.relD hru⟩
    · simp [updO] at hk
      obtain ⟨rfl, rfl, rfl⟩ := hk
      exact ⟨rfl, Nat.le_refl _, fun _ => by simp [updG]⟩
end
end Go.AM

/- The abstract machine, part HE: append onto a growable list; the operations. No condition. -/
namespace Go.AM
open Go Go.RowKit

section
variable {C : Cx} {F : Nat → Prop} {s : Slots} {h : Heap} {g : Ghost} {a : Act} {w w' : World}

/-- A growable list has grown. -/
theorem RelS.tokNext (R : RelS C F s h g a w) {i n sz : Nat} {e : TypeId} {ag : Bool} {out : List D} {zs : List Value} {v : Value} (hsz : 0 < sz) (hi : h (.loc i) = some (.tok n sz e))
    (hos : w'.os = w.os ∧ w'.tape = w.tape ∧ w'.output = w.output ∧ w.heap.size ≤ w'.heap.size)
    (hblk : ∀ b, b < w.heap.size → blk (g (.loc i)) ≠ some b → w'.heap[b]? = w.heap[b]?)
    (hcell : ∀ b o u, w.cell? ⟨b, o, none⟩ = some u → ¬ (blk (g (.loc i)) = some b ∧ n * sz ≤ o) → w'.cell? ⟨b, o, none⟩ = some u)
    (hown : w'.ownsRow 0 e sz v out.length zs) (hvb : ∀ b, blk v = some b → blk (g (.loc i)) = some b ∨ w.heap.size ≤ b) (hlt : n < out.length)
    (hfit : ∀ x ∈ out, x.fits ag sz) (hr : ∀ (j : Nat) x (q : Nat) c, out[j]? = some x → x.cells[q]? = some c → ∃ u, zs[j * sz + q]? = some u ∧ RelD w (zor (zone g h) C.X) c u) :
    RelS C F s (updO h (.loc i) (.tok out.length sz e)) (updG g (.loc i) v) a w' ∧
      RelC w' (zor (zone (updG g (.loc i) v) (updO h (.loc i) (.tok out.length sz e))) C.X) (updG g (.loc i) v) (updO h (.loc i) (.tok out.length sz e)) (.lst (.loc i) ag sz out) v := by
  have hX : ∀ b o, C.X b o → b < w.heap.size := fun b o hx => Nat.lt_of_lt_of_le (R.xs b o hx) R.frame.size
  have hnm : n * sz ≤ out.length * sz := Nat.mul_le_mul_right _ (Nat.le_of_lt hlt)
  have hzone : ∀ b o, blk (g (.loc i)) = some b → n * sz ≤ o → zone g h b o := fun b o hb ho => ⟨.loc i, _, hi, hb, ho⟩
  have hgsl : isSl (g (.loc i)) := by
    obtain ⟨_, xs, _, h2⟩ := R.heap.objs _ _ hi
    rcases h2 with ⟨h3, _⟩ | ⟨q, cap, cur, h3, _⟩ <;> rw [h3] <;> trivial
  have hzz : ∀ b o, zor (zone (updG g (.loc i) v) (updO h (.loc i) (.tok out.length sz e))) C.X b o → zor (zone g h) C.X b o ∨ w.heap.size ≤ b := by
    rintro b o (⟨j, ob, hj, h1⟩ | hx)
    · by_cases hin : j = .loc i
      · subst hin
        simp [updO, updG] at hj h1
        subst hj
        rcases hvb b h1.1 with h2 | h2
        · exact .inl (.inl (hzone b o h2 (Nat.le_trans hnm h1.2)))
        · exact .inr h2
      · simp only [updO, updG, if_neg hin] at hj h1
        exact .inl (.inl ⟨j, ob, hj, h1⟩)
    · exact .inl (.inr hx)
  have E : Evo w (zor (zone g h) C.X) g h w' (zor (zone (updG g (.loc i) v) (updO h (.loc i) (.tok out.length sz e))) C.X) (updG g (.loc i) v) (updO h (.loc i) (.tok out.length sz e)) := by
    have ne : ∀ {j : Id} {u : Value}, g j = u → ¬ isSl u → j ≠ .loc i := by
      rintro j u hu hs rfl
      exact hs (hu ▸ hgsl)
    refine ⟨fun b o u hu hz => ⟨hcell b o u hu (fun hh => hz (.inl (hzone b o hh.1 hh.2))), fun hz' => ?_⟩, fun j b hb => if_neg (ne hb (by simp [isSl])), fun j q hq => if_neg (ne hq (by simp [isSl])), fun j hj => ?_, fun j k sz' e' hj hk => ?_⟩
    · have := World.block_lt_of_cell? w ⟨b, o, none⟩ hu
      simp at this
      rcases hzz b o hz' with h1 | h1
      · exact hz h1
      · omega
    · by_cases hin : j = .loc i
      · subst hin
        simp only [updG, if_true]
        rcases hown.2 with ⟨h3, _⟩ | ⟨q, cap, cur, h3, _⟩ <;> rw [h3] <;> trivial
      · simpa [updG, hin] using hj
    · by_cases hin : j = .loc i
      · subst hin
        simp [updO] at hk
        obtain ⟨rfl, rfl, rfl⟩ := hk
        exact ⟨n, Nat.le_of_lt hlt, hi, fun h => by omega⟩
      · exact ⟨k, Nat.le_refl _, by simpa [updO, hin] using hk, fun _ => by simp [updG, hin]⟩
  have hvblk : isSl v := by
    rcases hown.2 with ⟨h3, _⟩ | ⟨q, cap, cur, h3, _⟩ <;> rw [h3] <;> trivial
  refine ⟨R.step (F' := F) (fun j => j = .loc i) E ⟨hos.1, hos.2.1, hos.2.2.1, hos.2.2.2, fun b hb hz => hblk b hb (fun hh => hz (n * sz) (hzone b _ hh (Nat.le_refl _))), fun b o u hu hz => hcell b o u hu (fun hh => hz (hzone b o hh.1 hh.2))⟩ ?_ ?_ ?_ ?_ ?_ ?_ ?_, ?_⟩
  · intro j hj
    simp [updO, updG, hj]
  · intro j o b hj ho hb
    refine hblk b ((R.heap.objs j o ho).lt hb) (fun hh => hj (R.heap.sep j (.loc i) o _ b ho hi hb hh))
  · rintro j o rfl ho
    simp [updO] at ho
    subst ho
    refine ⟨hsz, zs, ?_⟩
    simpa [updG] using hown
  · rintro j o b rfl _ hb
    simp [updG] at hb
    rcases hvb b hb with h1 | h1
    · exact .inl ⟨_, hi, h1⟩
    · exact .inr h1
  · rintro j k _ _ _ rfl rfl _ _ _ _
    rfl
  · intro j hj
    exact absurd hj (by simp)
  · intro k hk
    have := R.free k hk
    have hne : k ≠ i := by rintro rfl; rw [this.2] at hi; cases hi
    simp [updG, updO, hne, this]
  · refine ⟨relD_of_row hsz hown hfit (fun b hb o ho hz => ?_) (fun j x q c hj hq => ?_), by simpa [updG] using hvblk, fun k sz' e' hk => ?_⟩
    · -- the cells below the new length are nobody's
      rcases hz with ⟨j, ob, hj, h1⟩ | hx
      · by_cases hin : j = .loc i
        · subst hin
          simp [updO, updG] at hj h1
          subst hj
          have := h1.2
          simp only at this
          omega
        · simp only [updO, updG, if_neg hin] at hj h1
          rcases hvb b hb with h2 | h2
          · exact hin (R.heap.sep j (.loc i) ob _ b hj hi h1.1 h2)
          · exact absurd ((R.heap.objs j ob hj).lt h1.1) (by omega)
      · rcases hvb b hb with h2 | h2
        · exact R.heap.apart (.loc i) _ b o hi h2 hx
        · exact absurd (hX b o hx) (by omega)
    · obtain ⟨u, hu, hru⟩ := hr j x q c hj hq
      exact ⟨u, hu, E.relD hru⟩
    · simp [updO] at hk
      obtain ⟨rfl, rfl, rfl⟩ := hk
      exact ⟨rfl, Nat.le_refl _, fun _ => by simp [updG]⟩

theorem updO_same {h : Heap} {i : Id} {o : AObj} (hi : h i = some o) : updO h i o = h := by
  funext j
  unfold updO
  split
  · subst_vars; exact hi.symm
  · rfl
theorem updG_same {g : Ghost} {i : Id} : updG g i (g i) = g := by
  funext j
  unfold updG
  split
  · subst_vars; rfl
  · rfl
end

section
variable {C : Cx} {ti : Types} {o : Oper} {fresh : Nat} {s : Slots} {h : Heap} {k : Out → Prop}

/-- The facts on an element's type. -/
theorem elem_info (hti : TIok C.P ti) {e : TypeId} {j : TI} (hj : ti e = some j) : ∃ i, C.P.info? e = some i ∧ i.size = j.size ∧ i.bytes = j.bytes ∧ i.zero = some j.zero ∧ j.zero.cells.size = j.size := by
  obtain ⟨_, i, h1, h2, h3, h4, h5, _⟩ := hti e j hj
  exact ⟨i, h1, h2, h3, h4, h5⟩

/-- Appending what is not nothing onto a row that is full: a new row. -/
theorem run_grow (hti : TIok C.P ti) {t ty e : TypeId} {q j : TI} (hq : ti t = some q) (hd : q.desc = .slice e) (hj : ti e = some j) (hsz : 0 < j.size) {w : World} {Z : Zone} {ag : Bool} {rows ys : List D} {A B : Option Addr} {cap m c : Nat}
    (hr : RelD w Z (.list ag j.size rows) (.slice A rows.length cap)) (hcap : cap = rows.length) (hnil : rows = [] → A = none → cap = 0) (hy : RelD w Z (.list ag j.size ys) (.slice B m c)) (hne : ys ≠ [])
    (hmax : rows.length + ys.length ≤ maxLen) (hbytes : (rows.length + ys.length) * j.bytes ≤ 140737488355328) :
    ∃ v' w' zs, (Builtin.append_ #[t, t] ty #[.slice A rows.length cap, .slice B m c]).run C.P w = .ok v' w' ∧ w'.ownsRow w.heap.size e j.size v' (rows ++ ys).length zs ∧ w.grownBy w' none ∧
      (∀ x ∈ rows ++ ys, x.fits ag j.size) ∧ (∀ (i : Nat) x (q : Nat) c, (rows ++ ys)[i]? = some x → x.cells[q]? = some c → ∃ u, zs[i * j.size + q]? = some u ∧ RelD w Z c u) := by
  obtain ⟨hm, _, _, hB, hfy, news, n1, n2, n3, n4⟩ := hy.cellsRow hsz
  obtain ⟨_, _, _, hA, hfr, olds, o1, o2, o3, o4⟩ := hr.cellsRow hsz
  obtain ⟨i, i1, i2, i3, i4, i5⟩ := elem_info hti hj
  have ht : C.P.underlying t = some (.slice e) := by rw [(hti t q hq).1, hd]
  obtain ⟨b, o, rfl⟩ := hB hne
  subst hm
  have hl : (rows ++ ys).length = rows.length + ys.length := List.length_append
  have fin : ∀ v' w', w'.ownsRow w.heap.size e j.size v' (rows.length + ys.length) (olds ++ news) → w.grownBy w' none → (Builtin.append_ #[t, t] ty #[.slice A rows.length cap, .slice (some ⟨b, o, none⟩) ys.length c]).run C.P w = .ok v' w' →
      ∃ v' w' zs, (Builtin.append_ #[t, t] ty #[.slice A rows.length cap, .slice (some ⟨b, o, none⟩) ys.length c]).run C.P w = .ok v' w' ∧ w'.ownsRow w.heap.size e j.size v' (rows ++ ys).length zs ∧ w.grownBy w' none ∧
      (∀ x ∈ rows ++ ys, x.fits ag j.size) ∧ (∀ (i : Nat) x (q : Nat) c, (rows ++ ys)[i]? = some x → x.cells[q]? = some c → ∃ u, zs[i * j.size + q]? = some u ∧ RelD w Z c u) :=
    fun v' w' h1 h2 h3 => ⟨v', w', olds ++ news, h3, by rw [hl]; exact h1, h2, fits_append hfr hfy, row_append o1 hfy hfr o4 n4⟩
  cases A with
  | none =>
    have hr0 : rows = [] := by
      by_cases h : rows = []
      · exact h
      · obtain ⟨_, _, h'⟩ := hA h; cases h'
    subst hr0
    have hc0 := hnil rfl rfl
    subst hc0
    have ho : olds = [] := List.eq_nil_of_length_eq_zero (by simpa using o1)
    subst ho
    obtain ⟨v', w', hrun, r1, r2, _⟩ := run_append_own (P := C.P) w w.heap.size t ty e i j.zero j.size j.bytes ht i1 i4 i2 i3 i5 hsz (.slice none 0 0) 0 [] (World.ownsRow_nil w _ _ _) ⟨b, o, none⟩ ys.length c news n1
      (fun j' u hu => by have := (n3 b o rfl j' u hu).1; simpa [addr_add] using this) n2 (by simpa using hmax) (by simpa using hbytes) (Nat.le_refl _)
    exact fin v' w' (by simpa using r1) (by simpa [Value.ownBlock] using r2) (by simpa using hrun)
  | some A =>
    by_cases hrn : rows = []
    · subst hrn
      have ho : olds = [] := List.eq_nil_of_length_eq_zero (by simpa using o1)
      subst ho
      obtain ⟨v', w', hrun, r1, r2⟩ := run_append_arg_grows (P := C.P) w t ty e i j.zero j.size j.bytes ht i1 i4 i2 i3 i5 hsz A 0 cap [] (by simp) (by simp) ⟨b, o, none⟩ ys.length c news n1
        (fun j' u hu => by have := (n3 b o rfl j' u hu).1; simpa [addr_add] using this) (by subst hcap; have : ys.length ≠ 0 := fun h => hne (List.eq_nil_of_length_eq_zero h); simp; omega) (by simpa using hmax) (by simpa using hbytes)
      exact fin v' w' (by simpa using r1) r2 (by simpa using hrun)
    · obtain ⟨b', o', hA'⟩ := hA hrn
      cases hA'
      obtain ⟨v', w', hrun, r1, r2⟩ := run_append_arg_grows (P := C.P) w t ty e i j.zero j.size j.bytes ht i1 i4 i2 i3 i5 hsz ⟨b', o', none⟩ rows.length cap olds o1 (fun j' u hu => by have := (o3 b' o' rfl j' u hu).1; simpa [addr_add] using this) ⟨b, o, none⟩ ys.length c news n1
        (fun j' u hu => by have := (n3 b o rfl j' u hu).1; simpa [addr_add] using this) (by subst hcap; have : ys.length ≠ 0 := fun h => hne (List.eq_nil_of_length_eq_zero h); omega) hmax hbytes
      exact fin v' w' r1 r2 hrun

theorem okop_append {C : Cx} {o : Oper} {fresh : Nat} {s : Slots} {h : Heap} {ag : Bool} {sz : Nat} {e : TypeId} {out : List D} (hsz : 0 < sz)
    (hr : ∀ F σs σh g a w, RelS C F σs σh g a w → (∀ t, Operand.tmp t ∈ o.op.operands.toList → σs t = s t) →
      ∃ v' w' zs, (execOp a.eval o).run C.P w = .ok (.value v') w' ∧ w'.ownsRow w.heap.size e sz v' out.length zs ∧ w.grownBy w' none ∧
      (∀ x ∈ out, x.fits ag sz) ∧ (∀ (i : Nat) x (q : Nat) c, out[i]? = some x → x.cells[q]? = some c → ∃ u, zs[i * sz + q]? = some u ∧ RelD w (zor (zone g σh) C.X) c u)) :
    OKop C o fresh s h ⟨.v (.c (.lst (.loc fresh) ag sz out)), [], [(.loc fresh, .tok out.length sz e)]⟩ := by
  rintro F σs σh a w Q ⟨g, R⟩ ho hrd hF hd
  obtain ⟨v', w', zs, hrun, r1, r2, r3, r4⟩ := hr F σs σh g a w R ho
  unfold Oper.wp
  rw [hrun]
  obtain ⟨R', hl⟩ := R.owned (n := fresh) (hF 0 (by omega)) r2 hsz r1 r3 r4
  exact ⟨_, (R'.put hd (v := .v (.c (.lst (.loc fresh) ag sz out))) hl).free_mono (fun n hn => ⟨hn.1, fun e => hn.2 (by omega)⟩)⟩

theorem okop_appendP {C : Cx} {o : Oper} {fresh : Nat} {s : Slots} {h : Heap} {ag : Bool} {sz : Nat} {out : List D}
    (hr : ∀ F σs σh g a w, RelS C F σs σh g a w → (∀ t, Operand.tmp t ∈ o.op.operands.toList → σs t = s t) →
      ∃ v' w', (execOp a.eval o).run C.P w = .ok (.value v') w' ∧ RelS C F σs σh g a w' ∧ RelD w' (zor (zone g σh) C.X) (.list ag sz out) v') :
    OKop C o fresh s h ⟨.v (.d (.list ag sz out)), [], []⟩ := by
  rintro F σs σh a w Q ⟨g, R⟩ ho hrd hF hd
  obtain ⟨v', w', hrun, R', hl⟩ := hr F σs σh g a w R ho
  unfold Oper.wp
  rw [hrun]
  exact ⟨g, (R'.put hd (v := .v (.d (.list ag sz out))) hl).free_mono (fun n hn => hn.1)⟩

/-- The run of 'append', as an operation. -/
theorem run_appendOp {P : Program} {o : Oper} {a : Act} {x y : Operand} {t : TypeId} {w : World} {r : Result Value} (ho : o.op = .call { callee := .builtin .append, args := #[x, y], argTypes := #[t, t] })
    {v : Value} {w' : World} (h : (Builtin.append_ #[t, t] o.type #[a.eval x, a.eval y]).run P w = .ok v w') : (execOp a.eval o).run P w = .ok (.value v) w' := by
  simp [execOp, ho, resolve, invoke, builtin, h]

theorem ok_growNew (hti : TIok C.P ti) {t e : TypeId} {q j : TI} (hq : ti t = some q) (hd : q.desc = .slice e) (hj : ti e = some j) (hsz : 0 < j.size) (x y : Operand) (ho : o.op = .call { callee := .builtin .append, args := #[x, y], argTypes := #[t, t] })
    {isNil : Bool} {rows ys : List D}
    (hx : ∀ {w : World} {Z : Zone} {g : Ghost} {h : Heap} {v : Value}, RelAV w Z g h (opd ti s t x) v → (∃ A, v = .slice A rows.length rows.length ∧ (isNil = true → rows = [] ∧ A = none)) ∧ RelD w Z (.list (rowD j.desc) j.size rows) v)
    (hy : ∀ {w : World} {Z : Zone} {g : Ghost} {h : Heap} {v : Value}, RelAV w Z g h (opd ti s t y) v → RelD w Z (.list (rowD j.desc) j.size ys) v)
    (hk : growNew (rowD j.desc) j.size e j.bytes fresh isNil rows ys k) : ∃ out, k out ∧ OKop C o fresh s h out := by
  unfold growNew at hk
  obtain ⟨⟨hmax, hbytes⟩, out, rfl, own, hk⟩ := hk
  have ht : C.P.underlying t = some (.slice e) := by rw [(hti t q hq).1, hd]
  obtain ⟨i, i1, i2, i3, i4, i5⟩ := elem_info hti hj
  have opx : ∀ {F : Nat → Prop} {σs : Slots} {σh : Heap} {g : Ghost} {a : Act} {w : World} (R : RelS C F σs σh g a w), (∀ t, Operand.tmp t ∈ o.op.operands.toList → σs t = s t) → RelAV w (zor (zone g σh) C.X) g σh (opd ti s t x) (a.eval x) :=
    fun R hs => opd_rel ti t x R (s := s) (fun k hk => hs k (by subst hk; simp [ho, Op.operands, Call.operands]))
  have opy : ∀ {F : Nat → Prop} {σs : Slots} {σh : Heap} {g : Ghost} {a : Act} {w : World} (R : RelS C F σs σh g a w), (∀ t, Operand.tmp t ∈ o.op.operands.toList → σs t = s t) → RelAV w (zor (zone g σh) C.X) g σh (opd ti s t y) (a.eval y) :=
    fun R hs => opd_rel ti t y R (s := s) (fun k hk => hs k (by subst hk; simp [ho, Op.operands, Call.operands]))
  cases own with
  | true =>
    obtain ⟨hne, hk⟩ := hk
    refine ⟨_, hk, okop_append hsz fun F σs σh g a w R hs => ?_⟩
    obtain ⟨⟨A, hv, hnil⟩, hrx⟩ := hx (opx R hs)
    have hry := hy (opy R hs)
    by_cases hys : ys = []
    · -- nil, and nothing
      subst hys
      rcases hne with hni | hni
      · obtain ⟨rfl, rfl⟩ := hnil hni
        generalize hyv : a.eval y = v at hry
        cases hry with
        | list _ _ _ B c b o' U hcap hmx hfit ha hc hr =>
          refine ⟨.slice none 0 0, w, [], ?_, ?_, ⟨rfl, rfl, rfl, Nat.le_refl _, fun _ _ _ => rfl⟩, by simp, by simp⟩
          · refine run_appendOp (r := .ok (.slice none 0 0) w) ho ?_
            rw [hv, hyv]
            exact run_append_none (P := C.P) ht i1 (Nat.le_refl _)
          · exact World.ownsRow_nil w _ _ _
      · exact absurd rfl hni
    · generalize hyv : a.eval y = v at hry
      cases hry0 : v with
      | slice B m c =>
        subst hry0
        have hrx' := hrx
        rw [hv] at hrx'
        obtain ⟨v', w', zs, h1, h2, h3, h4, h5⟩ := run_grow hti (ty := o.type) hq hd hj hsz hrx' rfl (fun h1 h2 => by rw [h1]; rfl) hry hys hmax hbytes
        refine ⟨v', w', zs, run_appendOp (r := .ok v' w') ho (by rw [hv, hyv]; exact h1), h2, h3, h4, h5⟩
      | _ => subst hry0; cases hry
  | false =>
    refine ⟨_, hk, okop_appendP fun F σs σh g a w R hs => ?_⟩
    obtain ⟨⟨A, hv, hnil⟩, hrx⟩ := hx (opx R hs)
    have hry := hy (opy R hs)
    by_cases hys : ys = []
    · subst hys
      generalize hyv : a.eval y = v at hry
      cases hry with
      | list _ _ _ B c b o' U hcap hmx hfit ha hc hr =>
        refine ⟨a.eval x, w, ?_, R, by simpa using hrx⟩
        refine run_appendOp (r := .ok (a.eval x) w) ho ?_
        rw [hv, hyv]
        exact run_append_none (P := C.P) ht i1 (Nat.le_refl _)
    · generalize hyv : a.eval y = v at hry
      cases hry0 : v with
      | slice B m c =>
        subst hry0
        have hrx' := hrx
        rw [hv] at hrx'
        obtain ⟨v', w', zs, h1, h2, h3, h4, h5⟩ := run_grow hti (ty := o.type) hq hd hj hsz hrx' rfl (fun h1 h2 => by rw [h1]; rfl) hry hys hmax hbytes
        obtain ⟨r1, r2⟩ := R.plain h3 hsz h2 h4 h5
        exact ⟨v', w', run_appendOp (r := .ok v' w') ho (by rw [hv, hyv]; exact h1), r1, r2⟩
      | _ => subst hry0; cases hry
end
end Go.AM
