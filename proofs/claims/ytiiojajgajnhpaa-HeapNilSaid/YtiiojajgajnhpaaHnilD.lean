/- HeapNil: a heap that nobody made is none. No condition. (Part 4 of 4: AmR, QnA, QnH.) -/
import Derived.Carry
import Derived.ChangeSame
import Derived.ChangeOld
import Derived.ChangeCalls
import Derived.WideShapes
import Derived.Test.YtiiojajgajnhpaaRows
import Derived.JoinedOf
import Derived.JoinedAt
import Derived.RowKit
import Derived.RowKit2
import Derived.ReadAgain
import Derived.ChangeAlike
import Derived.Test.YtiiojajgajnhpaaHnilC
set_option linter.unusedVariables false
set_option linter.unusedSimpArgs false
/- The abstract machine, part R: a law that returns true, out of its contract over typed data. No condition. -/
namespace Go.AM
open Go Go.RowKit Go.ChangeShapes Go.WideShapes

/-- Arguments of given types. -/
def Shapes (ti : Types) : List TypeId → List D → Prop
  | [], [] => True
  | t :: ts, x :: xs => Shape ti t x.cells ∧ (∀ y, ti t = some y → x.isAgg = rowD y.desc) ∧ Shapes ti ts xs
  | _, _ => False

theorem Shapes.length {ti : Types} : ∀ {ts : List TypeId} {xs : List D}, Shapes ti ts xs → xs.length = ts.length
  | [], [], _ => rfl
  | _ :: _, _ :: _, h => by simp [Shapes.length h.2.2]
  | [], _ :: _, h => h.elim
  | _ :: _, [], h => h.elim

theorem rowD_cases {d : TypeDesc} : (∃ fs, d = .struct fs) ∨ (∃ n e, d = .array n e) ∨ rowD d = false := by
  cases d <;> simp [rowD]

section
variable {H : Type} {enc : TypeId × Value → H} {P : Program} {ti : Types} {T : List TypeId} {w : World}

/-- One argument. -/
theorem conv_arg (hti : TIok P ti) (hT : plainB ti T = true) {Z : Zone} (hZ : ∀ b o, ¬ Z b o) {base base' : Nat} {spare : Nat → Bool} {held : Bool} {r : Reach} {t : TypeId} {v : Value} {d : DataW H} {ps : List MemPlace} (ht : t ∈ T)
    (hok : Value.okWide P w r base' t v) (h : DataW.Trod enc P w base spare held t v d ps) : ∃ x : D, Shape ti t x.cells ∧ (∀ y, ti t = some y → x.isAgg = rowD y.desc) ∧ RelD w Z x v := by
  obtain ⟨fuel, h⟩ := h
  obtain ⟨ds, hs, h1, h2, h3⟩ := conv hti hT (Z := Z) hZ fuel t _ _ _ ht h
  have hp := List.all_eq_true.1 hT t ht
  split at hp
  · rename_i y hy
    have hu := (hti t y hy).1
    have single : rowD y.desc = false → v.cells.toList = [v] → ∃ x : D, Shape ti t x.cells ∧ (∀ y, ti t = some y → x.isAgg = rowD y.desc) ∧ RelD w Z x v := by
      intro hr hv
      rw [hv] at h1 h3
      obtain ⟨c, rfl⟩ := List.length_eq_one_iff.1 h1
      have hc := h2 c (by simp)
      have e : c.cells = [c] := by cases c <;> first | rfl | simp [D.isAgg] at hc
      refine ⟨c, by rw [e]; exact hs, fun y' hy' => ?_, h3 0 c v rfl rfl⟩
      rw [hy] at hy'
      obtain rfl : y = y' := by simpa using hy'
      rw [hc, hr]
    split at hp
    · rename_i hd
      rw [hd] at hu
      obtain ⟨b, rfl⟩ := okWide_bool hu hok
      exact single (by rw [hd]; rfl) rfl
    · rename_i k hd
      rw [hd] at hu
      obtain ⟨b, rfl⟩ := okWide_int hu hok
      exact single (by rw [hd]; rfl) rfl
    · rename_i hd
      rw [hd] at hu
      obtain ⟨b, rfl⟩ := okWide_string hu hok
      exact single (by rw [hd]; rfl) rfl
    · rename_i e hd
      rw [hd] at hu
      obtain ⟨a, l, c, rfl⟩ := okWide_slice hu hok
      exact single (by rw [hd]; rfl) rfl
    · rename_i fs hd
      rw [hd] at hu
      obtain ⟨cs, rfl, _⟩ := okWide_struct hu hok
      refine ⟨.agg ds, hs, fun y' hy' => ?_, .agg ds cs (by simpa [Value.cells] using h1.symm) h2 (fun j c u hc hu' => h3 j c u hc (by simpa [Value.cells] using hu'))⟩
      rw [hy] at hy'
      obtain rfl : y = y' := by simpa using hy'
      rw [hd]; rfl
    · simp at hp
  · simp at hp

theorem conv_args (hti : TIok P ti) (hT : plainB ti T = true) {Z : Zone} (hZ : ∀ b o, ¬ Z b o) {base base' : Nat} {spare : Nat → Bool} {held : Bool} {r : Reach} :
    ∀ (ts : List TypeId) (vs : List Value) (ds : List (DataW H)) (ps : List MemPlace), (∀ t ∈ ts, t ∈ T) → DataW.TrodAll enc P w base spare held ts vs ds ps →
      (∀ (j : Nat) t v, ts[j]? = some t → vs[j]? = some v → Value.okWide P w r base' t v) →
      ∃ xs, Shapes ti ts xs ∧ ∀ (j : Nat) x v, xs[j]? = some x → vs[j]? = some v → RelD w Z x v
  | [], vs, ds, ps, _, h, _ => ⟨[], trivial, by simp⟩
  | t :: ts, vs, ds, ps, ht, h, hok => by
    obtain ⟨v, vs1, d, ds1, a, b, rfl, rfl, rfl, h1, h2⟩ := trodAll_cons h
    obtain ⟨x, k1, k2, k3⟩ := conv_arg hti hT hZ (ht t (by simp)) (hok 0 t v rfl rfl) h1
    obtain ⟨xs, k4, k5⟩ := conv_args hti hT hZ ts vs1 ds1 b (fun t ht' => ht t (by simp [ht'])) h2 (fun j t v h1 h2 => hok (j + 1) t v (by simpa using h1) (by simpa using h2))
    refine ⟨x :: xs, ⟨k1, k2, k4⟩, fun j x' v' hx hv => ?_⟩
    match j with
    | 0 => simp at hx hv; subst hx; subst hv; exact k3
    | j + 1 => simp at hx hv; exact k5 j x' v' hx hv

theorem again_all (hl : laidOutB P = true) {W W' : World} (hb : Below W.heap.size W W') : ∀ (ts : List TypeId) (vs : List Value) (ds : List (DataW H)) (ps : List MemPlace),
    (∀ t ∈ ts, P.readableRec t = true ∧ t < P.types.size) → DataW.TrodAll enc P W 0 (fun _ => true) true ts vs ds ps → (∀ x ∈ ps, x.block < W.heap.size) →
    DataW.TrodAll enc P W' 0 (fun b => decide (b < W.heap.size)) true ts vs ds ps
  | [], vs, ds, ps, _, h, _ => by
    obtain ⟨rfl, rfl, rfl⟩ := trodAll_nil h
    exact rfl
  | t :: ts, vs, ds, ps, ht, h, hlt => by
    obtain ⟨v, vs1, d, ds1, a, b, rfl, rfl, rfl, h1, h2⟩ := trodAll_cons h
    have ht1 := ht t (by simp)
    exact ⟨a, b, Below.trod hl ht1.1 ht1.2 h1 hb (fun x hx => hlt x (by simp [hx])), again_all hl hb ts vs1 ds1 b (fun t ht' => ht t (by simp [ht'])) h2 (fun x hx => hlt x (by simp [hx])), rfl⟩

/-- A law: its contract over every typed input makes its row. -/
theorem law_calls (hti : TIok P ti) (hT : plainB ti T = true) {s : ChangeSpec} {fn : Func} {f : FuncId} {ts : List TypeId} {bt : TypeId}
    (hp : fn.params.toList = ts) (hv : s.vars = []) (hr : fn.resultTypes = #[bt]) (hb : P.underlying bt = some .bool) (htT : ∀ t ∈ ts, t ∈ T)
    (hs : ∀ ds : List (DataW H), ds.length = ts.length → (s.fn H ds).results = [.lit (.bool true)] ∧ (s.fn H ds).args = ds ∧ (s.fn H ds).vars = [])
    (hl : laidOutB P = true) (hrec : ∀ t ∈ ts, P.readableRec t = true ∧ t < P.types.size)
    (hc : ∀ xs : List D, Shapes ti ts xs → Trip P f (xs.map V1.d) [] (.v (.d (.bool true))) [] [])
    {W : World} {base : Nat} {args : Array Value} {ds gs : List (DataW H)} {before : List MemPlace}
    (hval : ∀ (j : Nat) t v, fn.params[j]? = some t → args[j]? = some v → Value.okWide P W .any base t v)
    (hW : DataW.Whole enc P fn.params.toList s.vars false W args.toList ds gs before) :
    Calls P f args W fun e W' => ∃ v, e = .returned v ∧ s.post enc P fn false true false false W args v W' := by
  have hW' := hW
  obtain ⟨p, q, hA, hV, rfl, _, _⟩ := hW
  rw [hv] at hV
  obtain ⟨rfl, rfl⟩ : gs = [] ∧ q = [] := by
    cases gs with
    | nil => exact ⟨rfl, hV⟩
    | cons _ _ => exact hV.elim
  rw [hp] at hA
  obtain ⟨hlen, hdl⟩ := trodAll_length hA
  obtain ⟨xs, hsh, hrel⟩ := conv_args hti hT (Z := fun _ _ => False) (fun _ _ h => h) (r := .any) (base' := base) ts args.toList ds p htT hA (fun j t v h1 h2 => hval j t v (by
    rw [← Array.getElem?_toList, hp]; exact h1) (by simpa using h2))
  have hxl := hsh.length
  have ⟨_, hcall⟩ := hc xs hsh
  have hheap : ∀ i o, heapOf [] i = some o → False := by
    intro i o h
    cases i <;> simp [heapOf] at h
  have hzone : ∀ (g : Ghost) b o, ¬ zone g (heapOf []) b o := by
    rintro g b o ⟨i, ob, h, _⟩
    exact hheap i ob h
  refine (hcall W (fun _ _ => False) (fun _ => undef) args (fun _ _ h => h.elim) ⟨fun i o h => (hheap i o h).elim, fun i _ _ _ _ h => (hheap i _ h).elim, fun i _ _ _ h => (hheap i _ h).elim⟩ (fun _ => rfl)
    (by simp at hlen; simp; omega) (fun j x v hx hvv => ?_)).mono ?_
  · simp only [List.getElem?_map, Option.map_eq_some_iff] at hx
    obtain ⟨d, hd, rfl⟩ := hx
    exact (hrel j d v hd (by simpa using hvv)).mono (fun b o u hu _ => ⟨hu, fun hz => hz.elim (hzone _ b o) id⟩)
  · rintro e W' ⟨v, g', rfl, hpost⟩
    obtain rfl : v = .bool true := by cases (show RelD _ _ (.bool true) v from hpost.res); rfl
    have hbel : Below W.heap.size W W' := ⟨hpost.frame.os, hpost.frame.tape, hpost.frame.output, hpost.frame.size, fun k hk => hpost.frame.block k hk (fun o => hzone _ k o)⟩
    obtain ⟨s1, s2, s3⟩ := hs (ds ++ []) (by simp [hdl])
    refine ⟨_, rfl, ds, [], p ++ [], [], p, [], hW', ?_, ?_, ?_, hbel.frame _, fun h => by cases h⟩
    · rw [s1, hr]
      exact trodAll_mk1 (shut_bool hb true)
    · rw [s2, hp, List.append_nil]
      exact again_all hl hbel ts args.toList ds p hrec hA (fun x hx => hW'.lt x (by simp [hx]))
    · rw [s3, hv]; rfl
end
end Go.AM

/- QueuesNil, HeapNil: the plain law. No condition. -/
namespace Go.Proofs.Ytiiojajgajnhpaa
open Go Go.AM

theorem ilt' {i N : Nat} (h : i < N) : (i : Int) < (N : Int) := Int.ofNat_lt.2 h

/-- A value's row. -/
def VRow (x : D) : Prop := ∃ a0 a1 a2 a3 a4 a5, x = .agg [.int .u8 a0, .int .i64 a1, .str a2, .list true 6 a3, .int .i64 a4, .list false 1 a5] ∧ ListS tab 49 a3
theorem vrow {x : D} (h : RowS tab 49 x) : VRow x := by
  obtain ⟨a0, a1, a2, a3, a4, a5, rfl, _, _, _, h3, _⟩ := rs49 h
  exact ⟨_, _, _, _, _, _, rfl, h3⟩

theorem tot92 (L : List D) : L.length ≤ maxLen → (∀ x ∈ L, VRow x) → ∀ z, ∃ r, Ev (fun n => F92 n L z) r := by
  induction L using list_ind with
  | H L IH =>
  intro hlen hL z
  have loop : ∀ i, i ≤ L.length → ∀ z, ∃ r, Ev (fun n => L92_1 n L z (i : Int)) r := by
    refine down L.length (fun z => ⟨z, Ev.succ (by simp [L92_1, lenF, Ev.ret])⟩) (fun i hi ih z => ?_)
    have hx := List.getElem?_eq_getElem hi
    have hm := List.getElem_mem hi
    obtain ⟨a0, a1, a2, a3, a4, a5, e, h3⟩ := hL _ hm
    rw [e] at hx hm
    by_cases hz : 0 ≤ z
    · by_cases c1 : IntKind.i64.wrap (z - 10) < 0
      · exact ⟨-1, Ev.succ (by simp only [L92_1, lenF, letF, if_pos (ilt' hi), if_pos hz, getF_nat hx, ds_t49, if_pos c1]; exact Ev.ret)⟩
      by_cases c2 : IntKind.i64.wrap (z - 10) < (a2.size : Int)
      · exact ⟨-1, Ev.succ (by simp only [L92_1, lenF, letF, szF, if_pos (ilt' hi), if_pos hz, getF_nat hx, ds_t49, if_neg c1, if_pos c2]; exact Ev.ret)⟩
      by_cases c3 : IntKind.i64.wrap (IntKind.i64.wrap (z - 10) - (a2.size : Int)) < (a5.length : Int)
      · exact ⟨-1, Ev.succ (by simp only [L92_1, lenF, letF, szF, if_pos (ilt' hi), if_pos hz, getF_nat hx, ds_t49, if_neg c1, if_neg c2, if_pos c3]; exact Ev.ret)⟩
      obtain ⟨z', h1⟩ := IH a3 (size_row (ag := true) (sz := 6) hm (by simp)) h3.1 (fun x hx => vrow (h3.2 x hx)) (IntKind.i64.wrap (IntKind.i64.wrap (IntKind.i64.wrap (z - 10) - (a2.size : Int)) - (a5.length : Int)))
      obtain ⟨r, h2⟩ := ih z'
      refine ⟨r, Ev.succ ?_⟩
      simp only [L92_1, lenF, letF, szF, if_pos (ilt' hi), if_pos hz, getF_nat hx, ds_t49, if_neg c1, if_neg c2, if_neg c3, wrap_succ hi hlen]
      exact Ev.bO1 h1 h2
    · exact ⟨z, Ev.succ (by simp only [L92_1, lenF, if_pos (ilt' hi), if_neg hz]; exact Ev.ret)⟩
  obtain ⟨r, h⟩ := loop 0 (Nat.zero_le _) z
  exact ⟨r, Ev.succ (by simp only [F92]; exact h)⟩

theorem tot92one (a0 a1 : Int) (a2 : ByteArray) {a3 : List D} (a4 : Int) (a5 : List D) (h3 : ListS tab 49 a3) (z : Int) :
    ∃ r, Ev (fun n => F92 n [.agg [.int .u8 a0, .int .i64 a1, .str a2, .list true 6 a3, .int .i64 a4, .list false 1 a5]] z) r :=
  tot92 _ (by simp [maxLen]) (fun x hx => by
    obtain rfl := List.mem_singleton.1 hx
    exact ⟨_, _, _, _, _, _, rfl, h3⟩) z

theorem finB (z : Int) : ∃ r, Ev (fun _ => if z < (0 : Int) then some true else some false) r := by
  by_cases h : z < 0
  · exact ⟨_, by simp only [if_pos h]; exact Ev.ret⟩
  · exact ⟨_, by simp only [if_neg h]; exact Ev.ret⟩

theorem tot36 (L : List D) (hlen : L.length ≤ maxLen) (hL : ∀ x ∈ L, ∃ b0 b1 b2 a0 a1 a2 a3 a4 a5, x = .agg [.int .i64 b0, .int .i64 b1, .int .i64 b2, .int .u8 a0, .int .i64 a1, .str a2, .list true 6 a3, .int .i64 a4, .list false 1 a5] ∧ ListS tab 49 a3) :
    ∃ r, Ev (fun n => F36 n L) r := by
  have loop : ∀ i, i ≤ L.length → ∀ z, ∃ r, Ev (fun n => L36_1 n L z (i : Int)) r := by
    refine down L.length (fun z => ?_) (fun i hi ih z => ?_)
    · obtain ⟨r, h⟩ := finB z
      exact ⟨r, Ev.succ (by simpa [L36_1, lenF] using h)⟩
    · have hx := List.getElem?_eq_getElem hi
      have hm := List.getElem_mem hi
      obtain ⟨b0, b1, b2, a0, a1, a2, a3, a4, a5, e, h3⟩ := hL _ hm
      rw [e] at hx
      obtain ⟨z', h1⟩ := tot92one a0 a1 a2 a4 a5 h3 z
      obtain ⟨r, h2⟩ := ih z'
      refine ⟨r, Ev.succ ?_⟩
      simp only [L36_1, lenF, letF, if_pos (ilt' hi), getF_nat hx, ds_t61, wrap_succ hi hlen]
      exact Ev.bO1 h1 h2
  by_cases c : (100 : Int) < L.length
  · exact ⟨true, by simp only [F36, lenF, if_pos c]; exact Ev.ret⟩
  · obtain ⟨r, h⟩ := loop 0 (Nat.zero_le _) 10000
    exact ⟨r, by simp only [F36, lenF, if_neg c]; exact h⟩

theorem tot50 (L : List D) (hlen : L.length ≤ maxLen) (hL : ∀ x ∈ L, ∃ b0 b1 b2 a0 a1 a2 a3 a4 a5, x = .agg [.int .i64 b0, .int .i64 b1, .list false 1 b2, .int .u8 a0, .int .i64 a1, .str a2, .list true 6 a3, .int .i64 a4, .list false 1 a5] ∧ ListS tab 49 a3) :
    ∃ r, Ev (fun n => F50 n L) r := by
  have loop : ∀ i, i ≤ L.length → ∀ z, ∃ r, Ev (fun n => L50_1 n L z (i : Int)) r := by
    refine down L.length (fun z => ?_) (fun i hi ih z => ?_)
    · obtain ⟨r, h⟩ := finB z
      exact ⟨r, Ev.succ (by simpa [L50_1, lenF] using h)⟩
    · have hx := List.getElem?_eq_getElem hi
      have hm := List.getElem_mem hi
      obtain ⟨b0, b1, b2, a0, a1, a2, a3, a4, a5, e, h3⟩ := hL _ hm
      rw [e] at hx
      by_cases c : (50 : Int) < b2.length
      · exact ⟨true, Ev.succ (by simp only [L50_1, lenF, if_pos (ilt' hi), getF_nat hx, ds_t90, if_pos c]; exact Ev.ret)⟩
      obtain ⟨z', h1⟩ := tot92one a0 a1 a2 a4 a5 h3 z
      obtain ⟨r, h2⟩ := ih z'
      refine ⟨r, Ev.succ ?_⟩
      simp only [L50_1, lenF, letF, if_pos (ilt' hi), getF_nat hx, ds_t90, if_neg c, wrap_succ hi hlen]
      exact Ev.bO1 h1 h2
  by_cases c : (60 : Int) < L.length
  · exact ⟨true, by simp only [F50, lenF, if_pos c]; exact Ev.ret⟩
  · obtain ⟨r, h⟩ := loop 0 (Nat.zero_le _) 10000
    exact ⟨r, by simp only [F50, lenF, if_neg c]; exact h⟩

theorem lawQueuesNil (b0 b1 b2 a0 a1 : Int) (a2 : ByteArray) {a3 : List D} (a4 : Int) (a5 : List D) (h3 : ListS tab 49 a3) : ∃ n, F6 n b0 b1 b2 a0 a1 a2 a3 a4 a5 = some () := by
  obtain ⟨r, hr⟩ := tot36 [.agg [.int .i64 b0, .int .i64 b1, .int .i64 b2, .int .u8 a0, .int .i64 a1, .str a2, .list true 6 a3, .int .i64 a4, .list false 1 a5]] (by simp [maxLen]) (fun x hx => by
    obtain rfl := List.mem_singleton.1 hx
    exact ⟨_, _, _, _, _, _, _, _, _, rfl, h3⟩)
  obtain ⟨n, hn⟩ := hr.run
  refine ⟨n, ?_⟩
  unfold F6
  rw [hn]
  cases r <;> simp [bO1, bO0, F37, F38, F39, F40, F41, F42, F99, F37x1, F38x1, F39x1, F40x1, F41x1, F42x1, F99x1]

theorem lawHeapNil (b0 b1 : Int) (b2 : List D) (a0 a1 : Int) (a2 : ByteArray) {a3 : List D} (a4 : Int) (a5 : List D) (h3 : ListS tab 49 a3) : ∃ n, F12 n b0 b1 b2 a0 a1 a2 a3 a4 a5 = some true := by
  obtain ⟨r, hr⟩ := tot50 [.agg [.int .i64 b0, .int .i64 b1, .list false 1 b2, .int .u8 a0, .int .i64 a1, .str a2, .list true 6 a3, .int .i64 a4, .list false 1 a5]] (by simp [maxLen]) (fun x hx => by
    obtain rfl := List.mem_singleton.1 hx
    exact ⟨_, _, _, _, _, _, _, _, _, rfl, h3⟩)
  obtain ⟨n, hn⟩ := hr.run
  refine ⟨n, ?_⟩
  unfold F12
  rw [hn]
  have w6 : IntKind.i64.wrap 6 = 6 := by decide
  cases r <;> simp [bO1, bO0, bO4, bO5, bO7, bO8, bO11, bO12, letF, w6, F51, F52, F53, F54, F55, F56, F57, F58, F59, F107, F108, F109, F109x1, F51x1, F52x1, F53x1, F54x1, F55x1, F56x1, F57x1, F58x1, F59x1, F107x1, F108x1, F109x2, F109x3]
end Go.Proofs.Ytiiojajgajnhpaa
namespace Go.Proofs.Ytiiojajgajnhpaa
open Go Go.AM
theorem queues_nil_trip : ∀ xs : List D, Shapes tab [61] xs → Trip Try.prog 6 (xs.map V1.d) [] (.v (.d (.bool true))) [] [] := by
  intro xs h
  match xs, h with
  | [a], ⟨p1, p2, _⟩ =>
    obtain ⟨b0, b1, b2, a0, a1, a2, a3, a4, a5, rfl, _, _, _, _, _, _, h3, _⟩ := rs61 ⟨p1, p2⟩
    obtain ⟨n, hn⟩ := lawQueuesNil b0 b1 b2 a0 a1 a2 a4 a5 h3
    exact T6 n hn
theorem heap_nil_trip : ∀ xs : List D, Shapes tab [90] xs → Trip Try.prog 12 (xs.map V1.d) [] (.v (.d (.bool true))) [] [] := by
  intro xs h
  match xs, h with
  | [a], ⟨p1, p2, _⟩ =>
    obtain ⟨b0, b1, b2, a0, a1, a2, a3, a4, a5, rfl, _, _, _, _, _, _, h3, _⟩ := rs90 ⟨p1, p2⟩
    obtain ⟨n, hn⟩ := lawHeapNil b0 b1 b2 a0 a1 a2 a4 a5 h3
    exact T12 n hn
end Go.Proofs.Ytiiojajgajnhpaa

/- HeapNil holds: a heap that nobody made is none. No condition. -/
namespace Go.Proofs.Ytiiojajgajnhpaa
open Go Go.ChangeShapes Go.WideShapes Go.ChangeAt Go.RowKit Go.AM

theorem heap_nil_reads : ∀ t ∈ [90], Try.prog.readableRec t = true ∧ t < Try.prog.types.size := by
  have h : ([90].all fun t => Try.prog.readableRec t && decide (t < Try.prog.types.size)) = true := by kernel_rfl
  intro t ht
  have := List.all_eq_true.1 h t ht
  simpa using this

set_option maxRecDepth 100000 in
theorem heap_nil_lifted (os : Os) (started : os.Started) (H : Type) (enc : TypeId × Value → H) :
    ReturnsInHanded {} Try.checked os 12 .any (Rows.heapNilSpec.pre6 enc Try.prog Try.f12 Rows.heapNilRow.domain false) (Rows.heapNilSpec.post enc Try.prog Try.f12 false true false false) := by
  refine returnsInHanded_of_change (C := Try.checked) (by kernel_rfl) started (by kernel_rfl) Try.func12
    (ChangeSpec.witness6 (enc := enc) (C := Try.checked) false ⟨#[], #[.agg #[.int .i64 0, .int .i64 0, .slice none 0 0, .int .u8 0, .int .i64 0, .string ⟨#[]⟩, .slice none 0 0, .int .i64 0, .slice none 0 0]], []⟩ 8 (by kernel_rfl) (by kernel_rfl) (by kernel_rfl) (by kernel_rfl)) ?_
  intro W base args ds gs before hval0 hW _ _
  refine law_calls (ti := tab) (T := [2, 3, 5, 9, 46, 47, 49, 90]) tab_ok (by kernel_rfl) (ts := [90]) (bt := 4) rfl rfl rfl (by kernel_rfl) (by decide) ?_ (by kernel_rfl) heap_nil_reads heap_nil_trip hval0 hW
  intro ds h
  match ds, h with
  | [_], _ => exact ⟨rfl, rfl, rfl⟩
theorem heap_nil : Rows.HeapNilSaid :=
  OpenClaim.holds_of_wide 12 Try.f12 rfl rfl rfl rfl rfl rfl rfl ⟨rfl, rfl, rfl, rfl, rfl⟩ rfl rfl rfl rfl rfl (by kernel_rfl) Try.func12 (by kernel_rfl)
    (of_decide_eq_true (by kernel_rfl)) (by unfold Func.isWrapper; first | (rw [if_pos (by decide +kernel)]; kernel_rfl) | (rw [if_neg (by decide +kernel)]; exact ⟨rfl, rfl⟩))
    (fun os started H enc _ => heap_nil_lifted os started H enc)
end Go.Proofs.Ytiiojajgajnhpaa
