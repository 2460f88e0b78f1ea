/- Part of a proof. No condition. (Part 4: AmU, YtjobleemmjjocaaDoorTy, AmKE, AmOB, AmSH, AmX, YtjobleemmjjocaaDoorFo, YtjobleemmjjocaaDoorShelf, YtjobleemmjjocaaDoorSh, YtjobleemmjjocaaDoorVDs, YtjobleemmjjocaaDoorV83, YtjobleemmjjocaaDoorV71, YtjobleemmjjocaaDoorV51, YtjobleemmjjocaaDoorV53, YtjobleemmjjocaaDoorV55, YtjobleemmjjocaaDoorV52.) -/
import Derived.KernelRfl
import Derived.Lib.LaidTab
import Derived.Lib.ItoaNum
import Derived.Shelf.Strings.Builder1
import Derived.Shelf.Strings.Builder2
import Derived.Shelf.Strings.OnBuilder
import Derived.Shelf.Strings.BuilderF
import Derived.Shelf.Strings.BuilderK
import Derived.Shelf.Strings.Builder2Cap
import Derived.Shelf.Strconv.Itoa0
import Derived.Shelf.Strconv.Itoa1
import Derived.Shelf.LaysM
import Derived.Shelf.Strconv.Itoa2
import Derived.Shelf.Strconv.Itoa3
import Derived.Shelf.Strconv.Itoa4
import Derived.Shelf.Strings.BuilderCap
import Derived.Shelf.Slices.Turned
import Derived.Shelf.Slices.Equal
import Derived.Ground.Names2Prog
import Derived.Shelf.Slices.Clone
import Derived.Shelf.Slices.Empties2
import Derived.Ground.SlgnProg
import Derived.Shelf.SlicesE.Clone
import Derived.Test.YtjobleemmjjocaaDoorProg
import Derived.Lib.AppendIntMem
import Derived.Test.YtjobleemmjjocaaDoorCfzC
set_option linter.unusedVariables false
set_option linter.unusedSimpArgs false
namespace Go.AM
open Go

def Ev {α : Type} (A : Nat → Option α) (r : α) : Prop := ∃ N, ∀ n, N ≤ n → A n = some r

section
variable {α β γ : Type}
theorem Ev.ret {r : α} : Ev (fun _ => some r) r := ⟨0, fun _ _ => rfl⟩
theorem Ev.of {A : Nat → Option α} {r : α} (h : ∀ n, A n = some r) : Ev A r := ⟨0, fun n _ => h n⟩
theorem Ev.succ {A : Nat → Option α} {r : α} (h : Ev (fun n => A (n + 1)) r) : Ev A r := by
  obtain ⟨N, h⟩ := h
  refine ⟨N + 1, fun n hn => ?_⟩
  obtain ⟨m, rfl⟩ : ∃ m, n = m + 1 := ⟨n - 1, by omega⟩
  exact h m (by omega)
theorem Ev.congr {A B : Nat → Option α} {r : α} (h : Ev A r) (e : ∀ n, A n = B n) : Ev B r := by
  obtain ⟨N, h⟩ := h
  exact ⟨N, fun n hn => (e n) ▸ h n hn⟩
theorem Ev.bO1 {A : Nat → Option α} {a : α} {k : Nat → α → Option γ} {r : γ} (ha : Ev A a) (hk : Ev (fun n => k n a) r) : Ev (fun n => bO1 (A n) (k n)) r := by
  obtain ⟨N, ha⟩ := ha
  obtain ⟨M, hk⟩ := hk
  refine ⟨N + M, fun n hn => ?_⟩
  show Go.AM.bO1 (A n) (k n) = some r
  rw [ha n (by omega)]
  exact hk n (by omega)
theorem Ev.bO2 {A : Nat → Option (α × β)} {a : α} {b : β} {k : Nat → α → β → Option γ} {r : γ} (ha : Ev A (a, b)) (hk : Ev (fun n => k n a b) r) : Ev (fun n => bO2 (A n) (k n)) r := by
  obtain ⟨N, ha⟩ := ha
  obtain ⟨M, hk⟩ := hk
  refine ⟨N + M, fun n hn => ?_⟩
  show Go.AM.bO2 (A n) (k n) = some r
  rw [ha n (by omega)]
  exact hk n (by omega)
theorem Ev.run {A : Nat → Option α} {r : α} (h : Ev A r) : ∃ n, A n = some r := let ⟨N, h⟩ := h; ⟨N, h N (Nat.le_refl _)⟩
theorem Ev.uniq {A : Nat → Option α} {r s : α} (h : Ev A r) (h' : Ev A s) : r = s := by
  obtain ⟨N, h⟩ := h
  obtain ⟨M, h'⟩ := h'
  have a := h (N + M) (by omega)
  rw [h' (N + M) (by omega)] at a
  exact (Option.some.inj a).symm

theorem down {P : Nat → Prop} (N : Nat) (h0 : P N) (h : ∀ i, i < N → P (i + 1) → P i) : ∀ i, i ≤ N → P i := by
  intro i hi
  obtain ⟨d, hd⟩ : ∃ d, d = N - i := ⟨_, rfl⟩
  induction d generalizing i with
  | zero => obtain rfl : i = N := by omega
            exact h0
  | succ d ih => exact h i (by omega) (ih (i + 1) (by omega) (by omega))
end

section
variable {γ : Type}
theorem getF_nat {L : List D} {i : Nat} {x : D} {k : D → Option γ} (hx : L[i]? = some x) : getF L (i : Int) k = k x := getF_some (by omega) (by simpa using hx)
theorem wrap_i64' {x : Int} (h : -9223372036854775808 ≤ x ∧ x ≤ 9223372036854775807) : IntKind.i64.wrap x = x := IntWalk.i64_in x h
theorem wrap_succ {i N : Nat} (h : i < N) (hN : N ≤ maxLen) : IntKind.i64.wrap ((i : Int) + 1) = ((i + 1 : Nat) : Int) := by
  have : maxLen = 9223372036854775807 := rfl
  rw [wrap_i64' (by omega)]; omega
end

def RowS (ti : Types) (e : TypeId) (x : D) : Prop := Shape ti e x.cells ∧ ∀ y, ti e = some y → x.isAgg = rowD y.desc
def ListS (ti : Types) (e : TypeId) (L : List D) : Prop := L.length ≤ maxLen ∧ ∀ x ∈ L, RowS ti e x

theorem ListS.get {ti : Types} {e : TypeId} {L : List D} {i : Nat} (h : ListS ti e L) (hi : i < L.length) : ∃ x, L[i]? = some x ∧ x ∈ L ∧ RowS ti e x :=
  ⟨L[i], List.getElem?_eq_getElem hi, List.getElem_mem hi, h.2 _ (List.getElem_mem hi)⟩

def flatFs (ti : Types) (rec : TypeId → Option (List TypeId)) : Nat → List Field → Option (List TypeId)
  | _, [] => some []
  | off, f :: r => match Nat.beq f.offset off with
    | false => none
    | true => match ti f.type with
      | none => none
      | some y => match rec f.type with
        | none => none
        | some l => match Nat.beq l.length y.size with
          | false => none
          | true => match flatFs ti rec (off + y.size) r with
            | none => none
            | some l' => some (l ++ l')
def flatT (ti : Types) : Nat → TypeId → Option (List TypeId)
  | 0, _ => none
  | n + 1, t => match ti t with
    | none => none
    | some x => match x.desc with
      | .struct fs => match flatFs ti (flatT ti n) 0 fs.toList with
        | none => none
        | some l => match Nat.beq l.length x.size with
          | true => some l
          | false => none
      | .array .. => none
      | _ => some [t]

theorem Shape.one {ti : Types} {t : TypeId} {x : TI} {ds : List D} (h : Shape ti t ds) (hx : ti t = some x) (hd : ∀ fs, x.desc ≠ .struct fs) : ∃ c, ds = [c] := by
  cases h with
  | struct ds h1 h2 => rw [hx] at h1; obtain rfl := Option.some.inj h1; exact absurd h2 (hd _)
  | _ => exact ⟨_, rfl⟩

theorem flatFs_ok {ti : Types} {rec : TypeId → Option (List TypeId)} {ds : List D}
    (hrec : ∀ t ls cs, rec t = some ls → Shape ti t cs → cs.length = ls.length ∧ ∀ (j : Nat) c tl, cs[j]? = some c → ls[j]? = some tl → Shape ti tl [c]) :
    ∀ (fs : List Field) (off : Nat) (ls : List TypeId), flatFs ti rec off fs = some ls → (∀ f ∈ fs, ∀ y, ti f.type = some y → Shape ti f.type ((ds.drop f.offset).take y.size)) →
      ∀ (j : Nat) c tl, ds[off + j]? = some c → ls[j]? = some tl → Shape ti tl [c]
  | [], off, ls, h, _, j, c, tl, _, hl => by
    cases h; simp at hl
  | f :: fs, off, ls, h, hs, j, c, tl, hc, hl => by
    unfold flatFs at h
    split at h
    · cases h
    · rename_i ho
      have ho := Nat.eq_of_beq_eq_true ho
      split at h
      · cases h
      · rename_i y hy
        split at h
        · cases h
        · rename_i l hr
          split at h
          · cases h
          · rename_i hb
            have hb := Nat.eq_of_beq_eq_true hb
            split at h
            · cases h
            · rename_i l' hl'
              cases h
              obtain ⟨h1, h2⟩ := hrec _ _ _ hr (hs f (by simp) y hy)
              by_cases hj : j < l.length
              · rw [List.getElem?_append_left hj] at hl
                refine h2 j c tl ?_ hl
                rw [List.getElem?_take, if_pos (by omega), List.getElem?_drop, ho]
                exact hc
              · rw [List.getElem?_append_right (by omega)] at hl
                refine flatFs_ok hrec fs _ l' hl' (fun f' hf' => hs f' (List.mem_cons_of_mem _ hf')) (j - l.length) c tl ?_ hl
                rw [← hc]; congr 1; omega

theorem Shape.flat {ti : Types} :
    ∀ (n : Nat) (t : TypeId) (ls : List TypeId) (ds : List D), flatT ti n t = some ls → Shape ti t ds → ds.length = ls.length ∧ ∀ (j : Nat) c tl, ds[j]? = some c → ls[j]? = some tl → Shape ti tl [c]
  | 0, t, ls, ds, h, _ => by cases h
  | n + 1, t, ls, ds, h, hs => by
    unfold flatT at h
    split at h
    · cases h
    · rename_i x hx
      have single : (∀ fs, x.desc ≠ .struct fs) → ls = [t] → ds.length = ls.length ∧ ∀ (j : Nat) c tl, ds[j]? = some c → ls[j]? = some tl → Shape ti tl [c] := by
        rintro hd rfl
        obtain ⟨c, rfl⟩ := hs.one hx hd
        refine ⟨rfl, fun j c' tl h1 h2 => ?_⟩
        match j with
        | 0 => simp at h1 h2; subst h1; subst h2; exact hs
        | j + 1 => simp at h1
      split at h
      · rename_i fs hd
        obtain ⟨h1, _, h3⟩ := hs.struct_inv hx hd
        split at h
        · cases h
        · rename_i l hl
          split at h
          · rename_i hb
            cases h
            refine ⟨h1.trans (Nat.eq_of_beq_eq_true hb).symm, fun j c tl h4 h5 => ?_⟩
            exact flatFs_ok (fun t ls cs h6 h7 => Shape.flat n t ls cs h6 h7) fs.toList 0 ls hl h3 j c tl (by simpa using h4) h5
          · cases h
      · cases h
      · rename_i h1 h2
        cases h
        exact single h1 rfl

theorem RowS.agg {ti : Types} {e : TypeId} {x : D} {y : TI} (h : RowS ti e x) (hy : ti e = some y) (hr : rowD y.desc = true) : ∃ cs, x = .agg cs ∧ Shape ti e cs := by
  have h1 := (h.2 y hy).trans hr
  cases x <;> simp [D.isAgg] at h1
  exact ⟨_, rfl, h.1⟩
theorem RowS.flat1 {ti : Types} {e : TypeId} {x : D} {y : TI} (h : RowS ti e x) (hy : ti e = some y) (hr : rowD y.desc = false) : Shape ti e [x] := by
  have h1 := (h.2 y hy).trans hr
  have h0 := h.1
  cases x <;> simp_all [D.isAgg, D.cells]
theorem Shape.listS {ti : Types} {t e : TypeId} {x y : TI} {c : D} (h : Shape ti t [c]) (hx : ti t = some x) (hd : x.desc = .slice e) (hy : ti e = some y) :
    ∃ L, c = .list (rowD y.desc) y.size L ∧ ListS ti e L := by
  obtain ⟨L, e1, h1, h2, h3⟩ := h.slice_inv hx hd hy
  refine ⟨L, (List.cons.inj e1).1, h1, fun r hr => ⟨h3 r hr, fun y' hy' => ?_⟩⟩
  rw [hy] at hy'
  obtain rfl := Option.some.inj hy'
  exact (h2 r hr).1
theorem Shape.intS {ti : Types} {t : TypeId} {x : TI} {k : IntKind} {c : D} (h : Shape ti t [c]) (hx : ti t = some x) (hd : x.desc = .int k) : ∃ n, c = .int k n ∧ (Lit.int k n).wf = true := by
  obtain ⟨n, e, hw⟩ := h.int_inv hx hd
  exact ⟨n, (List.cons.inj e).1, hw⟩
theorem Shape.strS {ti : Types} {t : TypeId} {x : TI} {c : D} (h : Shape ti t [c]) (hx : ti t = some x) (hd : x.desc = .string) : ∃ s, c = .str s ∧ s.size ≤ maxLen := by
  obtain ⟨n, e, hw⟩ := h.str_inv hx hd
  exact ⟨n, (List.cons.inj e).1, hw⟩
theorem u8_range {n : Int} (h : (Lit.int .u8 n).wf = true) : 0 ≤ n ∧ n < 256 := by
  simp [Lit.wf, show IntKind.u8.min = 0 from rfl, show IntKind.u8.max = 255 from rfl, show IntKind.i64.min = -9223372036854775808 from rfl, show IntKind.i64.max = 9223372036854775807 from rfl] at h
  omega
theorem i64_range {n : Int} (h : (Lit.int .i64 n).wf = true) : -9223372036854775808 ≤ n ∧ n ≤ 9223372036854775807 := by
  simp [Lit.wf, show IntKind.u8.min = 0 from rfl, show IntKind.u8.max = 255 from rfl, show IntKind.i64.min = -9223372036854775808 from rfl, show IntKind.i64.max = 9223372036854775807 from rfl] at h
  omega

end Go.AM

set_option linter.unusedVariables false
noncomputable section
namespace Go.Proofs.YtjobleemmjjocaaDoor
open Go Go.AM

theorem llen3 {l : List D} (h : l.length = 3) : ∃ x0 x1 x2, l = [x0, x1, x2] := by
  match l, h with
  | [x0, x1, x2], _ => exact ⟨x0, x1, x2, rfl⟩
theorem llen4 {l : List D} (h : l.length = 4) : ∃ x0 x1 x2 x3, l = [x0, x1, x2, x3] := by
  match l, h with
  | [x0, x1, x2, x3], _ => exact ⟨x0, x1, x2, x3, rfl⟩
theorem llen9 {l : List D} (h : l.length = 9) : ∃ x0 x1 x2 x3 x4 x5 x6 x7 x8, l = [x0, x1, x2, x3, x4, x5, x6, x7, x8] := by
  match l, h with
  | [x0, x1, x2, x3, x4, x5, x6, x7, x8], _ => exact ⟨x0, x1, x2, x3, x4, x5, x6, x7, x8, rfl⟩
theorem llen16 {l : List D} (h : l.length = 16) : ∃ x0 x1 x2 x3 x4 x5 x6 x7 x8 x9 x10 x11 x12 x13 x14 x15, l = [x0, x1, x2, x3, x4, x5, x6, x7, x8, x9, x10, x11, x12, x13, x14, x15] := by
  match l, h with
  | [x0, x1, x2, x3, x4, x5, x6, x7, x8, x9, x10, x11, x12, x13, x14, x15], _ => exact ⟨x0, x1, x2, x3, x4, x5, x6, x7, x8, x9, x10, x11, x12, x13, x14, x15, rfl⟩
theorem rs3 {x : D} (h : RowS tab 3 x) : ∃ a0, x = .int .i64 a0 ∧ (Lit.int .i64 a0).wf = true := by
  have hs := h.flat1 (y := tyD tab 3) (by kernel_rfl) rfl
  have hl := hs.flat 9 3 [3] [x] (by kernel_rfl)
  obtain ⟨a0, rfl, w0⟩ := (hl.2 0 x 3 rfl rfl).intS (x := tyD tab 3) (by kernel_rfl) rfl
  exact ⟨_, rfl, w0⟩
theorem rs9 {x : D} (h : RowS tab 9 x) : ∃ a0, x = .str a0 ∧ a0.size ≤ maxLen := by
  have hs := h.flat1 (y := tyD tab 9) (by kernel_rfl) rfl
  have hl := hs.flat 9 9 [9] [x] (by kernel_rfl)
  obtain ⟨a0, rfl, w0⟩ := (hl.2 0 x 9 rfl rfl).strS (x := tyD tab 9) (by kernel_rfl) rfl
  exact ⟨_, rfl, w0⟩
theorem rs45 {x : D} (h : RowS tab 45 x) : ∃ a0 a1 a2, x = .agg [.list true 4 a0, .int .i64 a1, .list true 16 a2] ∧ ListS tab 56 a0 ∧ (Lit.int .i64 a1).wf = true ∧ ListS tab 82 a2 := by
  obtain ⟨cs, rfl, hs⟩ := h.agg (y := tyD tab 45) (by kernel_rfl) rfl
  have hl := hs.flat 9 45 [42, 3, 43] cs (by kernel_rfl)
  obtain ⟨b0, b1, b2, rfl⟩ := llen3 hl.1
  obtain ⟨a0, e0, w0⟩ := (hl.2 0 b0 42 rfl rfl).listS (x := tyD tab 42) (y := tyD tab 56) (by kernel_rfl) rfl (by kernel_rfl)
  obtain rfl : b0 = .list true 4 a0 := e0
  obtain ⟨a1, rfl, w1⟩ := (hl.2 1 b1 3 rfl rfl).intS (x := tyD tab 3) (by kernel_rfl) rfl
  obtain ⟨a2, e2, w2⟩ := (hl.2 2 b2 43 rfl rfl).listS (x := tyD tab 43) (y := tyD tab 82) (by kernel_rfl) rfl (by kernel_rfl)
  obtain rfl : b2 = .list true 16 a2 := e2
  exact ⟨_, _, _, rfl, w0, w1, w2⟩
theorem rs48 {x : D} (h : RowS tab 48 x) : ∃ a0 a1 a2 a3 a4 a5 a6 a7 a8, x = .agg [.int .u8 a0, .int .i64 a1, .int .i64 a2, .int .i64 a3, .list false 1 a4, .list false 1 a5, .int .i64 a6, .str a7, .list false 1 a8] ∧ (Lit.int .u8 a0).wf = true ∧ (Lit.int .i64 a1).wf = true ∧ (Lit.int .i64 a2).wf = true ∧ (Lit.int .i64 a3).wf = true ∧ ListS tab 3 a4 ∧ ListS tab 9 a5 ∧ (Lit.int .i64 a6).wf = true ∧ a7.size ≤ maxLen ∧ ListS tab 9 a8 := by
  obtain ⟨cs, rfl, hs⟩ := h.agg (y := tyD tab 48) (by kernel_rfl) rfl
  have hl := hs.flat 9 48 [5, 3, 3, 3, 30, 46, 2, 9, 46] cs (by kernel_rfl)
  obtain ⟨b0, b1, b2, b3, b4, b5, b6, b7, b8, rfl⟩ := llen9 hl.1
  obtain ⟨a0, rfl, w0⟩ := (hl.2 0 b0 5 rfl rfl).intS (x := tyD tab 5) (by kernel_rfl) rfl
  obtain ⟨a1, rfl, w1⟩ := (hl.2 1 b1 3 rfl rfl).intS (x := tyD tab 3) (by kernel_rfl) rfl
  obtain ⟨a2, rfl, w2⟩ := (hl.2 2 b2 3 rfl rfl).intS (x := tyD tab 3) (by kernel_rfl) rfl
  obtain ⟨a3, rfl, w3⟩ := (hl.2 3 b3 3 rfl rfl).intS (x := tyD tab 3) (by kernel_rfl) rfl
  obtain ⟨a4, e4, w4⟩ := (hl.2 4 b4 30 rfl rfl).listS (x := tyD tab 30) (y := tyD tab 3) (by kernel_rfl) rfl (by kernel_rfl)
  obtain rfl : b4 = .list false 1 a4 := e4
  obtain ⟨a5, e5, w5⟩ := (hl.2 5 b5 46 rfl rfl).listS (x := tyD tab 46) (y := tyD tab 9) (by kernel_rfl) rfl (by kernel_rfl)
  obtain rfl : b5 = .list false 1 a5 := e5
  obtain ⟨a6, rfl, w6⟩ := (hl.2 6 b6 2 rfl rfl).intS (x := tyD tab 2) (by kernel_rfl) rfl
  obtain ⟨a7, rfl, w7⟩ := (hl.2 7 b7 9 rfl rfl).strS (x := tyD tab 9) (by kernel_rfl) rfl
  obtain ⟨a8, e8, w8⟩ := (hl.2 8 b8 46 rfl rfl).listS (x := tyD tab 46) (y := tyD tab 9) (by kernel_rfl) rfl (by kernel_rfl)
  obtain rfl : b8 = .list false 1 a8 := e8
  exact ⟨_, _, _, _, _, _, _, _, _, rfl, w0, w1, w2, w3, w4, w5, w6, w7, w8⟩
theorem rs56 {x : D} (h : RowS tab 56 x) : ∃ a0 a1 a2 a3, x = .agg [.str a0, .int .i64 a1, .int .i64 a2, .list true 9 a3] ∧ a0.size ≤ maxLen ∧ (Lit.int .i64 a1).wf = true ∧ (Lit.int .i64 a2).wf = true ∧ ListS tab 48 a3 := by
  obtain ⟨cs, rfl, hs⟩ := h.agg (y := tyD tab 56) (by kernel_rfl) rfl
  have hl := hs.flat 9 56 [9, 3, 3, 54] cs (by kernel_rfl)
  obtain ⟨b0, b1, b2, b3, rfl⟩ := llen4 hl.1
  obtain ⟨a0, rfl, w0⟩ := (hl.2 0 b0 9 rfl rfl).strS (x := tyD tab 9) (by kernel_rfl) rfl
  obtain ⟨a1, rfl, w1⟩ := (hl.2 1 b1 3 rfl rfl).intS (x := tyD tab 3) (by kernel_rfl) rfl
  obtain ⟨a2, rfl, w2⟩ := (hl.2 2 b2 3 rfl rfl).intS (x := tyD tab 3) (by kernel_rfl) rfl
  obtain ⟨a3, e3, w3⟩ := (hl.2 3 b3 54 rfl rfl).listS (x := tyD tab 54) (y := tyD tab 48) (by kernel_rfl) rfl (by kernel_rfl)
  obtain rfl : b3 = .list true 9 a3 := e3
  exact ⟨_, _, _, _, rfl, w0, w1, w2, w3⟩
theorem rs82 {x : D} (h : RowS tab 82 x) : ∃ a0 a1 a2 a3 a4 a5 a6 a7 a8 a9 a10 a11 a12 a13 a14 a15, x = .agg [.int .u8 a0, .str a1, .list true 4 a2, .int .u8 a3, .str a4, .list true 3 a5, .list true 15 a6, .int .u8 a7, .int .i64 a8, .str a9, .str a10, .str a11, .list false 1 a12, .list true 8 a13, .int .i64 a14, .int .i64 a15] ∧ (Lit.int .u8 a0).wf = true ∧ a1.size ≤ maxLen ∧ ListS tab 98 a2 ∧ (Lit.int .u8 a3).wf = true ∧ a4.size ≤ maxLen ∧ ListS tab 74 a5 ∧ ListS tab 164 a6 ∧ (Lit.int .u8 a7).wf = true ∧ (Lit.int .i64 a8).wf = true ∧ a9.size ≤ maxLen ∧ a10.size ≤ maxLen ∧ a11.size ≤ maxLen ∧ ListS tab 9 a12 ∧ ListS tab 80 a13 ∧ (Lit.int .i64 a14).wf = true ∧ (Lit.int .i64 a15).wf = true := by
  obtain ⟨cs, rfl, hs⟩ := h.agg (y := tyD tab 82) (by kernel_rfl) rfl
  have hl := hs.flat 9 82 [5, 9, 71, 5, 9, 72, 75, 5, 2, 9, 9, 9, 46, 78, 3, 3] cs (by kernel_rfl)
  obtain ⟨b0, b1, b2, b3, b4, b5, b6, b7, b8, b9, b10, b11, b12, b13, b14, b15, rfl⟩ := llen16 hl.1
  obtain ⟨a0, rfl, w0⟩ := (hl.2 0 b0 5 rfl rfl).intS (x := tyD tab 5) (by kernel_rfl) rfl
  obtain ⟨a1, rfl, w1⟩ := (hl.2 1 b1 9 rfl rfl).strS (x := tyD tab 9) (by kernel_rfl) rfl
  obtain ⟨a2, e2, w2⟩ := (hl.2 2 b2 71 rfl rfl).listS (x := tyD tab 71) (y := tyD tab 98) (by kernel_rfl) rfl (by kernel_rfl)
  obtain rfl : b2 = .list true 4 a2 := e2
  obtain ⟨a3, rfl, w3⟩ := (hl.2 3 b3 5 rfl rfl).intS (x := tyD tab 5) (by kernel_rfl) rfl
  obtain ⟨a4, rfl, w4⟩ := (hl.2 4 b4 9 rfl rfl).strS (x := tyD tab 9) (by kernel_rfl) rfl
  obtain ⟨a5, e5, w5⟩ := (hl.2 5 b5 72 rfl rfl).listS (x := tyD tab 72) (y := tyD tab 74) (by kernel_rfl) rfl (by kernel_rfl)
  obtain rfl : b5 = .list true 3 a5 := e5
  obtain ⟨a6, e6, w6⟩ := (hl.2 6 b6 75 rfl rfl).listS (x := tyD tab 75) (y := tyD tab 164) (by kernel_rfl) rfl (by kernel_rfl)
  obtain rfl : b6 = .list true 15 a6 := e6
  obtain ⟨a7, rfl, w7⟩ := (hl.2 7 b7 5 rfl rfl).intS (x := tyD tab 5) (by kernel_rfl) rfl
  obtain ⟨a8, rfl, w8⟩ := (hl.2 8 b8 2 rfl rfl).intS (x := tyD tab 2) (by kernel_rfl) rfl
  obtain ⟨a9, rfl, w9⟩ := (hl.2 9 b9 9 rfl rfl).strS (x := tyD tab 9) (by kernel_rfl) rfl
  obtain ⟨a10, rfl, w10⟩ := (hl.2 10 b10 9 rfl rfl).strS (x := tyD tab 9) (by kernel_rfl) rfl
  obtain ⟨a11, rfl, w11⟩ := (hl.2 11 b11 9 rfl rfl).strS (x := tyD tab 9) (by kernel_rfl) rfl
  obtain ⟨a12, e12, w12⟩ := (hl.2 12 b12 46 rfl rfl).listS (x := tyD tab 46) (y := tyD tab 9) (by kernel_rfl) rfl (by kernel_rfl)
  obtain rfl : b12 = .list false 1 a12 := e12
  obtain ⟨a13, e13, w13⟩ := (hl.2 13 b13 78 rfl rfl).listS (x := tyD tab 78) (y := tyD tab 80) (by kernel_rfl) rfl (by kernel_rfl)
  obtain rfl : b13 = .list true 8 a13 := e13
  obtain ⟨a14, rfl, w14⟩ := (hl.2 14 b14 3 rfl rfl).intS (x := tyD tab 3) (by kernel_rfl) rfl
  obtain ⟨a15, rfl, w15⟩ := (hl.2 15 b15 3 rfl rfl).intS (x := tyD tab 3) (by kernel_rfl) rfl
  exact ⟨_, _, _, _, _, _, _, _, _, _, _, _, _, _, _, _, rfl, w0, w1, w2, w3, w4, w5, w6, w7, w8, w9, w10, w11, w12, w13, w14, w15⟩
end Go.Proofs.YtjobleemmjjocaaDoor
end

namespace Go.AM
open Go Go.RowKit

def cvP (p : Id → Bool) : CV → Bool
  | .ptr i _ => p i
  | .fn _ cap => allB p cap
  | .lst i _ _ _ => p i
  | .sl i _ => p i
  | .map i => p i
  | .ap i _ _ _ _ => p i
  | .ow i => p i
  | .op i _ _ _ => p i
  | .yl i => p i
  | _ => true
def v1P (p : Id → Bool) : V1 → Bool
  | .d _ => true
  | .c x => cvP p x
  | .agg cs => allB (cvP p) cs
def avP (p : Id → Bool) : AV → Bool
  | .u => true
  | .v x => v1P p x
  | .t xs => allB (v1P p) xs
def objP (p : Id → Bool) : AObj → Bool
  | .cells cs => allB (cvP p) cs
  | .tok .. => true
  | .map _ _ es => allB (fun e => v1P p e.2) es
  | .arr cs1 _ _ _ cs2 => match allB (cvP p) cs1 with
    | true => allB (cvP p) cs2
    | false => false
  | .tree _ _ _ _ foc => match foc with
    | some x => allB (cvP p) x.2
    | none => true
  | .gone => true
  | .rnd _ sl => allB (fun x => avP p x.2) sl
  | .rndX _ => true

section
variable {p : Id → Bool} {f e : Id → Id} (hp : ∀ i, p i = true → f (e i) = i)
include hp
theorem ren_cv {c : CV} (h : cvP p c = true) : (c.ren e).ren f = c := by
  cases c <;> simp only [CV.ren, cvP] at h ⊢
  · rw [hp _ h]
  · rw [List.map_map]
    congr 1
    rw [allB_iff] at h
    exact map_same fun i hi => hp _ (h i hi)
  · rw [hp _ h]
  · rw [hp _ h]
  · rw [hp _ h]
  · rw [hp _ h]
  · rw [hp _ h]
  · rw [hp _ h]
  · rw [hp _ h]
theorem ren_cvs {cs : List CV} (h : allB (cvP p) cs = true) : (cs.map (CV.ren e)).map (CV.ren f) = cs := by
  rw [List.map_map]
  rw [allB_iff] at h
  exact map_same fun i hi => ren_cv hp (h i hi)
theorem ren_v1 {c : V1} (h : v1P p c = true) : (c.ren e).ren f = c := by
  cases c <;> simp only [V1.ren, v1P] at h ⊢
  · rw [ren_cv hp h]
  · rw [ren_cvs hp h]
theorem ren_av {c : AV} (h : avP p c = true) : (c.ren e).ren f = c := by
  cases c <;> simp only [AV.ren, avP] at h ⊢
  · rw [ren_v1 hp h]
  · rw [List.map_map]
    congr 1
    rw [allB_iff] at h
    exact map_same fun i hi => ren_v1 hp (h i hi)
theorem ren_obj {c : AObj} (h : objP p c = true) : (c.ren e).ren f = c := by
  cases c <;> simp only [AObj.ren, objP] at h ⊢
  · rw [ren_cvs hp h]
  · rw [List.map_map]
    congr 1
    rw [allB_iff] at h
    refine map_same fun i hi => ?_
    show (i.1, (i.2.ren e).ren f) = i
    rw [ren_v1 hp (h i hi)]
  · split at h
    · rename_i h1
      rw [ren_cvs hp h, ren_cvs hp h1]
    · cases h
  · congr 1
    split at h
    · show some (_, List.map (CV.ren f) (List.map (CV.ren e) _)) = _
      rw [ren_cvs hp h]
    · rfl
  · rw [List.map_map]
    congr 1
    rw [allB_iff] at h
    refine map_same fun i hi => ?_
    show (i.1, (i.2.ren e).ren f) = i
    rw [ren_av hp (h i hi)]
end

theorem weak_ren {σ σ' : St} (r : Id → Id) (hext : ∀ j, r (.ext j) = .ext j) (hbig : ∀ n, σ'.next ≤ n → ∃ N, σ.next ≤ N ∧ r (.loc n) = .loc N)
    (hs : ∀ t, getS σ'.slots t = .u ∨ getS σ.slots t = (getS σ'.slots t).ren r) (hh : ∀ i o, getH σ'.heap i = some o → getH σ.heap (r i) = some (o.ren r))
    (hinj : ∀ i j o o', getH σ'.heap i = some o → getH σ'.heap j = some o' → r i = r j → i = j) (hlow : ∀ n, σ'.next ≤ n → getH σ'.heap (.loc n) = none) : Weak σ σ' := by
  rintro C a w ⟨g, R⟩
  let g' : Ghost := fun i => g (r i)
  have hz : ∀ b o, zone g' (getH σ'.heap) b o → zone g (getH σ.heap) b o := by
    rintro b o ⟨i, ob, hi, h1⟩
    exact ⟨r i, _, hh i ob hi, zone1_ren.2 h1⟩
  have hzz : ∀ b o, zor (zone g' (getH σ'.heap)) C.X b o → zor (zone g (getH σ.heap)) C.X b o := fun b o hx => hx.imp (hz b o) id
  have ht : ∀ i n sz e, getH σ'.heap i = some (.tok n sz e) → getH σ.heap (r i) = some (.tok n sz e) := fun i n sz e hi => hh i _ hi
  have hw : ∀ i, isLive (getH σ'.heap i) = true → isLive (getH σ.heap (r i)) = true := by
    intro i hi
    cases hc : getH σ'.heap i with
    | none => rw [hc] at hi; cases hi
    | some o =>
      rw [hh i o hc]
      rw [hc] at hi
      exact isLive_ren.trans hi
  refine ⟨g', R.size, R.defers, fun t => ?_, ⟨fun i o hi => RelObj.pull (r := r) (g' := g') hzz (fun _ => rfl) ht hw (R.heap.objs _ _ (hh i o hi)), fun i j oi oj b hi hj bi bj => ?_, fun i oi b o hi bi => R.heap.apart _ _ b o (hh i oi hi) (Obk_ren.2 bi)⟩, R.frame, fun j => ?_,
    fun j ob b o hj hz' => R.within _ _ b o (hh j ob hj) (zone1_ren.2 hz'), R.xs, fun n hn => ⟨?_, hlow n hn⟩⟩
  · rcases hs t with e | e
    · rw [e]; trivial
    · have := R.slots t
      rw [e] at this
      exact RelAV.pull (r := r) hzz (fun _ => rfl) ht hw this
  · exact hinj i j oi oj hi hj (R.heap.sep _ _ _ _ b (hh i oi hi) (hh j oj hj) (Obk_ren.2 bi) (Obk_ren.2 bj))
  · show gsame (C.g0 (.ext j)) (g (r (.ext j)))
    rw [hext]
    exact R.ext j
  · obtain ⟨N, hN, e⟩ := hbig n hn
    show g (r (.loc n)) = undef
    rw [e]
    exact (R.free N hN).1

def fstOf : List (Nat × Nat) → Nat → Option Nat
  | [], _ => none
  | (a, b) :: l, k => match Nat.beq a k with
    | true => some b
    | false => fstOf l k
def sndOf : List (Nat × Nat) → Nat → Option Nat
  | [], _ => none
  | (a, b) :: l, k => match Nat.beq b k with
    | true => some a
    | false => sndOf l k
def invF (l : List (Nat × Nat)) : Id → Id
  | .ext j => .ext j
  | .loc k => match fstOf l k with
    | some m => .loc m
    | none => .loc k
def backF (l : List (Nat × Nat)) : Id → Id
  | .ext j => .ext j
  | .loc k => match sndOf l k with
    | some m => .loc m
    | none => .loc k
def okId (l : List (Nat × Nat)) (n : Nat) (i : Id) : Bool :=
  match Id.beq (backF l (invF l i)) i with
  | true => idB n (invF l i)
  | false => false
def renS (l : List (Nat × Nat)) : List (Nat × AV) → List (Nat × AV)
  | [] => []
  | (t, x) :: r => (t, x.ren (invF l)) :: renS l r
def renH (l : List (Nat × Nat)) : List (Id × AObj) → List (Id × AObj)
  | [] => []
  | (i, x) :: r => (invF l i, x.ren (invF l)) :: renH l r
def keepR (ks : List Nat) (is : List Id) (n : Nat) (l : List (Nat × Nat)) (σ : St) (K : St → Prop) : Prop :=
  match keepH σ.heap is with
  | none => False
  | some hp => req (allB (fun x : Nat × AV => avP (okId l n) x.2) (keepS σ.slots ks)) <| req (allB (fun x : Id × AObj => match okId l n x.1 with | true => objP (okId l n) x.2 | false => false) hp) <|
      K ⟨renS l (keepS σ.slots ks), renH l hp, n⟩

theorem renS_get {l : List (Nat × Nat)} {s : List (Nat × AV)} (t : Nat) : getS (renS l s) t = (getS s t).ren (invF l) := by
  induction s with
  | nil => rfl
  | cons x s ih =>
    obtain ⟨k, v⟩ := x
    show getS ((k, v.ren (invF l)) :: renS l s) t = _
    rw [getS_cons, getS_cons]
    simp only []
    split
    · rfl
    · exact ih
theorem renH_get {l : List (Nat × Nat)} {p : Id → Bool} {f : Id → Id} (hp : ∀ i, p i = true → f (invF l i) = i) : ∀ {s : List (Id × AObj)}, (∀ x ∈ s, p x.1 = true) → ∀ {i : Id} {o : AObj}, getH (renH l s) i = some o → p (f i) = true ∧ invF l (f i) = i ∧ ∃ o', getH s (f i) = some o' ∧ o = o'.ren (invF l)
  | [], _, i, o, h => by simp [renH, getH] at h
  | (k, v) :: s, hs, i, o, h => by
    have hk := hs (k, v) (by simp)
    rw [show renH l ((k, v) :: s) = (invF l k, v.ren (invF l)) :: renH l s from rfl, getH_cons] at h
    simp only [updO] at h
    by_cases e : i = invF l k
    · rw [if_pos e] at h
      simp at h
      have hf : f i = k := by rw [e]; exact hp k hk
      rw [hf]
      exact ⟨hk, e.symm, v, by rw [getH_cons]; simp [updO], h.symm⟩
    · rw [if_neg e] at h
      obtain ⟨h1, h2, o', h3, h4⟩ := renH_get hp (fun x hx => hs x (List.mem_cons_of_mem _ hx)) h
      refine ⟨h1, h2, o', ?_, h4⟩
      rw [getH_cons]
      simp only [updO]
      rw [if_neg]
      · exact h3
      · rintro rfl
        exact e h2.symm
theorem getH_all {q : Id × AObj → Bool} {l : List (Id × AObj)} (h : allB q l = true) {i : Id} {o : AObj} (hi : getH l i = some o) : q (i, o) = true := by
  induction l with
  | nil => simp [getH] at hi
  | cons x l ih =>
    obtain ⟨k, v⟩ := x
    rw [allB_iff] at h
    rw [getH_cons] at hi
    simp only [updO] at hi
    split at hi
    · rename_i e
      cases hi
      rw [e]
      exact h _ (List.mem_cons_self ..)
    · exact ih (allB_iff.2 fun x hx => h x (by simp [hx])) hi

theorem keepR_weak {ks : List Nat} {is : List Id} {n : Nat} {l : List (Nat × Nat)} {σ : St} {K : St → Prop} (h : keepR ks is n l σ K) : ∃ σ', Weak σ σ' ∧ K σ' := by
  unfold keepR at h
  split at h
  · exact h.elim
  · rename_i hp hhp
    obtain ⟨h1, h⟩ := req_iff.1 h
    obtain ⟨h2, h⟩ := req_iff.1 h
    let N := max σ.next n
    let f : Id → Id := fun i => if idB n i = true then backF l i else .loc N
    have hpf : ∀ i, okId l n i = true → f (invF l i) = i := by
      intro i hi
      unfold okId at hi
      split at hi
      · rename_i hb
        show (if idB n (invF l i) = true then _ else _) = i
        rw [if_pos hi]
        exact Id.beq_iff.1 hb
      · cases hi
    have hk2 : ∀ x ∈ hp, okId l n x.1 = true ∧ objP (okId l n) x.2 = true := by
      intro x hx
      have := allB_iff.1 h2 x hx
      split at this
      · rename_i hb; exact ⟨hb, this⟩
      · cases this
    have hnew : ∀ i o, getH (renH l hp) i = some o → okId l n (f i) = true ∧ invF l (f i) = i ∧ ∃ o', getH hp (f i) = some o' ∧ o = o'.ren (invF l) := fun i o hi => renH_get hpf (fun x hx => (hk2 x hx).1) hi
    refine ⟨_, weak_ren f (fun j => by show (if idB n (.ext j) = true then _ else _) = _; simp [idB, backF]) (fun m hm => ⟨N, Nat.le_max_left _ _, ?_⟩) (fun t => ?_) (fun i o hi => ?_) (fun i j o o' hi hj e => ?_) (fun m hm => ?_), h⟩
    · have hm : n ≤ m := hm
      have : idB n (.loc m) = false := by
        cases hb : idB n (.loc m) with
        | false => rfl
        | true => simp [idB] at hb; omega
      show (if idB n (.loc m) = true then _ else _) = _
      rw [this]; rfl
    · rw [renS_get]
      rcases keepS_get (l := σ.slots) (ks := ks) t with e | e
      · rw [e]; exact .inl rfl
      · right
        rw [← e]
        exact (ren_av hpf (getS_all (p := avP (okId l n)) rfl h1 t)).symm
    · obtain ⟨p1, p2, o', p3, rfl⟩ := hnew i o hi
      have hq := getH_all (q := fun x => objP (okId l n) x.2) (allB_iff.2 fun x hx => (hk2 x hx).2) p3
      rw [ren_obj hpf hq]
      exact (keepH_get hhp _ _ p3).1
    · obtain ⟨_, p2, _⟩ := hnew i o hi
      obtain ⟨_, q2, _⟩ := hnew j o' hj
      rw [← p2, ← q2, e]
    · cases hc : getH (renH l hp) (.loc m) with
      | none => rfl
      | some o =>
        obtain ⟨p1, p2, _⟩ := hnew _ o hc
        have hm : n ≤ m := hm
        unfold okId at p1
        split at p1
        · rw [p2] at p1
          simp [idB] at p1
          omega
        · cases p1
end Go.AM

namespace Go.AM
open Go Go.RowKit

theorem loop_invG {M : Mach} {ex : St → (AExit → St → Prop) → Prop} {σ : St} {K : AExit → St → Prop} (gs : List Gh) (l : List (Nat × Nat)) (ks : List Nat) (is : List Id) (nx : Nat) {T : Type} (S : T → St) (I : T → Prop) (m : T → Nat) (t0 : T)
    (hI : I t0) (h0 : gh gs σ fun σ => keepR ks is nx l σ (· = S t0))
    (hr : ∀ t, I t → ex (S t) fun e σ2 => match e with
      | .normal => ∃ n' σ3, n' < m t ∧ Weak σ2 σ3 ∧ ∃ t', I t' ∧ n' = m t' ∧ σ3 = S t'
      | .exit id => K (.exit id) σ2
      | .ret => K .ret σ2) : M.lock fun _ => loopP ex σ K ∨ ∃ n, unrollP ex K n σ := by
  refine (M.lock_iff _).2 <| .inl ⟨fun n σ => ∃ t, I t ∧ n = m t ∧ σ = S t, m t0, ?_, ?_⟩
  · obtain ⟨σ1, hw1, h1⟩ := gh_weak h0
    obtain ⟨σ', hw, e⟩ := keepR_weak h1
    exact ⟨σ', Weak.trans hw1 hw, t0, hI, rfl, e⟩
  · rintro n σ1 ⟨t, h1, rfl, rfl⟩
    exact hr t h1
theorem loop_nextG {T : Type} {m : T → Nat} {I : T → Prop} {S : T → St} {σ2 : St} {k : Nat} (t' : T) (gs : List Gh) (l : List (Nat × Nat)) (ks : List Nat) (is : List Id) (nx : Nat) (hI : I t') (hm : m t' < k)
    (hk : gh gs σ2 fun σ => keepR ks is nx l σ (· = S t')) : ∃ n' σ3, n' < k ∧ Weak σ2 σ3 ∧ ∃ t', I t' ∧ n' = m t' ∧ σ3 = S t' := by
  obtain ⟨σ1, hw1, h1⟩ := gh_weak hk
  obtain ⟨σ', hw, e⟩ := keepR_weak h1
  exact ⟨m t', σ', hm, Weak.trans hw1 hw, t', hI, rfl, e⟩

section
variable {w : World} {Z Z' X : Zone} {g g' : Ghost} {h h' : Heap}

end

end Go.AM

namespace Go.AM
open Go Go.RowKit

theorem Trip.ofCalls {P : Program} {I : Inv} {f : FuncId} {xs : List D} {res : V1} (hf : ∃ fn c, P.funcs[f]? = some fn ∧ fn.body = some c ∧ (fn.name == "runtime.NumGoroutine") = false)
    (h : ∀ (w : World) (Z : Zone) (vals : Array Value), I.rel w → vals.size = xs.length → (∀ (j : Nat) x v, xs[j]? = some x → vals[j]? = some v → RelD w Z x v) →
      Calls P f vals w fun e w' => ∃ v, e = .returned v ∧ ApartW (fun _ => False) w w' ∧ ∀ Z' g' h', RelV1 w' Z' g' h' res v) : Trip P I f (xs.map V1.d) [] (.v res) [] [] := by
  refine Trip.mk' hf fun w X g vals hX hI RH hg hsz hargs => ?_
  have none : ∀ {i o}, heapOf [] i = some o → False := by
    intro i o h
    cases i <;> simp [heapOf] at h
  have none2 : ∀ {i o}, heapOf2 [] [] i = some o → False := by
    intro i o h
    cases i <;> simp [heapOf2] at h
  refine (h w (zor (zone g (heapOf [])) X) vals hI.1 (by simpa using hsz) (fun j x v hx hv => hargs j (.d x) v (by simp [hx]) hv)).mono ?_
  rintro e w' ⟨v, rfl, A, hr⟩
  refine ⟨v, g, rfl, ⟨⟨fun i o hi => (none2 hi).elim, fun i j oi oj b hi => (none2 hi).elim, fun i oi b o hi => (none2 hi).elim⟩, hr _ _ _, ?_, fun j => .refl _, fun i ob b o hi => (none2 hi).elim, fun k _ => hg k⟩⟩
  exact ⟨A.os, A.tape, A.output, A.size, fun b hb _ => A.block b hb id, fun b o u hu _ => A.cell hu id⟩

def strsD : List D → Option (List ByteArray)
  | [] => some []
  | .str s :: r => match strsD r with
    | some l => some (s :: l)
    | none => none
  | _ :: _ => none
theorem strsD_map : ∀ {rows : List D} {xs : List ByteArray}, strsD rows = some xs → rows = xs.map D.str
  | [], xs, h => by cases h; rfl
  | x :: r, xs, h => by
    cases x <;> simp only [strsD] at h <;> try (exact absurd h (by simp))
    split at h
    · rename_i l hl
      cases h
      rw [strsD_map hl]; rfl
    · cases h
theorem below_apart {w w' : World} (h : Below w.heap.size w w') : ApartW (fun _ => False) w w' := ⟨h.os, h.tape, h.output, h.size, fun b hb _ => h.block b hb⟩
end Go.AM

namespace Go.AM
open Go Go.RowKit

section
variable {α β γ : Type}
end

section
variable {γ : Type}
end
theorem seq_go {M : Mach} {ea eb : St → (AExit → St → Prop) → Prop} {σ : St} {K : AExit → St → Prop} (h : ea σ fun e σ' => match e with
    | .normal => eb σ' K
    | .exit id => K (.exit id) σ'
    | .ret => K .ret σ') : M.lock fun _ => seqP ea eb σ K := (M.lock_iff _).2 (.inl h)
theorem seq_join {M : Mach} {ea eb : St → (AExit → St → Prop) → Prop} {σ : St} {K : AExit → St → Prop} {T : Type} (S : T → St) (I : T → Prop)
    (ha : ea σ fun e σ' => match e with
      | .normal => ∃ σ'', Weak σ' σ'' ∧ ∃ t, I t ∧ σ'' = S t
      | .exit id => K (.exit id) σ'
      | .ret => K .ret σ') (hb : ∀ t, I t → eb (S t) K) : M.lock fun _ => seqP ea eb σ K := by
  refine (M.lock_iff _).2 (.inr ⟨fun σ => ∃ t, I t ∧ σ = S t, ha, ?_⟩)
  rintro σ2 ⟨t, hi, rfl⟩
  exact hb t hi
theorem join_nextG {T : Type} {I : T → Prop} {S : T → St} {σ2 : St} (t' : T) (gs : List Gh) (l : List (Nat × Nat)) (ks : List Nat) (is : List Id) (nx : Nat) (hI : I t') (hk : gh gs σ2 fun σ => keepR ks is nx l σ (· = S t')) :
    ∃ σ'', Weak σ2 σ'' ∧ ∃ t, I t ∧ σ'' = S t := by
  obtain ⟨σ1, hw1, h1⟩ := gh_weak hk
  obtain ⟨σ', hw, e⟩ := keepR_weak h1
  exact ⟨σ', Weak.trans hw1 hw, t', hI, e⟩
theorem join_next {T : Type} {I : T → Prop} {S : T → St} {σ2 : St} (t' : T) (ks : List Nat) (is : List Id) (nx : Nat) (hI : I t') (hk : keep ks is nx σ2 (· = S t')) :
    ∃ σ'', Weak σ2 σ'' ∧ ∃ t, I t ∧ σ'' = S t := by
  obtain ⟨σ', hw, e⟩ := keep_weak hk
  exact ⟨σ', hw, t', hI, e⟩

section
variable {M : Mach} {P : Program} {I : Inv}

def callFV (M : Mach) (ti : Types) (o : Oper) (c : Call) (f : Operand) (fresh : Nat) (σ : St) (K : St → Prop) : Prop :=
  match opd ti (getS σ.slots) 0 f with
  | .v (.c (.fn n cap)) => withArgs (opsArgs ti (getS σ.slots) c.args.toList c.argTypes.toList) fun xs => callFn M o.dst fresh σ n (xs ++ cap.map fun i => V1.c (.ptr i 0)) K
  | _ => False
theorem call_gs {A : Prop} {ti : Types} {o : Oper} {c : Call} {f : Operand} {fresh : Nat} {σ : St} {K : St → Prop} (gs : List Gh) (ho : o.op = .call c) (hc : c.callee = .value f)
    (hk : gh gs ⟨σ.slots, σ.heap, fresh⟩ fun σ' => σ'.next = fresh ∧ M.lock fun _ => callFV M ti o c f fresh σ' K) : M.lock fun _ => A ∨ callK M ti o fresh σ K := by
  refine call_in ?_
  obtain ⟨σ', hw, hn, hk⟩ := gh_weak hk
  have hk := (M.lock_iff _).1 hk
  unfold callK
  rw [ho]
  simp only []
  rw [hc]
  simp only []
  refine ⟨σ', hw, hn, ?_⟩
  unfold callFV at hk
  split at hk
  · rename_i n cap h
    rw [h]
    exact hk
  · exact hk.elim
theorem callfv_with {ti : Types} {o : Oper} {c : Call} {f : Operand} {fresh : Nat} {σ : St} {K : St → Prop} {n : FuncId} {cap : List Id} {xs targs : List V1} {pre post new : List AObj} {res : AV} (hP : M.P = P) (hI : M.I = I) (m : List Id)
    (hf : opd ti (getS σ.slots) 0 f = .v (.c (.fn n cap))) (hxs : vals1 (opsArgs ti (getS σ.slots) c.args.toList c.argTypes.toList) = some xs) (ht : Trip P I n targs pre res post new)
    (he : (xs ++ cap.map fun i => V1.c (.ptr i 0)) = targs.map (V1.ren (renM m fresh))) (hm : m.Nodup) (hpre : preOK (getH σ.heap) (renM m fresh) m pre) (hkd : allKinds pre post) (hn : new.length ≤ 31)
    (hk : K ⟨putS σ.slots o.dst (res.ren (renM m fresh)), setW σ.heap (wrM m (renM m fresh) post ++ wrNew fresh (renM m fresh) 0 new), σ.next⟩) : M.lock fun _ => callFV M ti o c f fresh σ K := by
  refine (M.lock_iff _).2 ?_
  unfold callFV
  rw [hf]
  simp only []
  unfold withArgs
  rw [hxs]
  refine ⟨m, targs, pre, _, hP ▸ hI ▸ ht, he, (preOK_get hpre).1, hm, (preOK_get hpre).2, ?_⟩
  rintro res' post' new' ⟨rfl, rfl, rfl⟩
  exact ⟨⟨hkd, hn⟩, hk⟩
theorem op_pl {ti : Types} {o : Oper} {fresh : Nat} {σ : St} {K : St → Prop} (hk : plOp M ti o fresh σ K) : M.lock fun _ => plOp M ti o fresh σ K ∨ ghOp M ti o fresh σ K := (M.lock_iff _).2 (.inl hk)
end
end Go.AM

namespace Go.Proofs.YtjobleemmjjocaaDoor
open Go Go.AM
theorem fol : Tryd.prog.follows .mixedOrders = true := by kernel_rfl
theorem var_same {P : Program} {name : String} {g : Nat} (hg : P.globalNamed name = some g) {w w' : World} (h : w'.heap[g]? = w.heap[g]?) : w'.var? P name = w.var? P name := by
  unfold World.var?
  rw [hg]
  simp only [Option.bind_some, h]
theorem pow10_no : ∃ g, Tryd.prog.globalNamed "internal/strconv.uint64pow10" = some g := ⟨0, by kernel_rfl⟩
def inv : Inv := ⟨fun b => Tryd.prog.globalNamed "internal/strconv.uint64pow10" = some b, fun w => Lib.TabIs Tryd.prog w "internal/strconv.uint64pow10" .u64 Lib.pow10Tab, fun h hr => by
  obtain ⟨g, hg⟩ := pow10_no
  unfold Lib.TabIs at hr ⊢
  rw [var_same hg (h g hg)]
  exact hr⟩
end Go.Proofs.YtjobleemmjjocaaDoor

namespace Go.Proofs
open Go.Shelf
def Tryd.lays156_ren : Go.Shelf.Ren := ⟨fun | 156 => 76 | 165 => 85 | 166 => 86 | 169 => 87 | 240 => 94 | 241 => 95 | 276 => 102 | 277 => 103 | n => n, fun | 31 => 46 | 9 => 9 | 3 => 3 | 4 => 4 | 0 => 0 | 20 => 20 | 72 => 122 | 76 => 126 | 70 => 120 | 37 => 107 | 75 => 125 | 127 => 135 | 164 => 143 | 5 => 5 | 80 => 128 | n => n, fun | n => n⟩
theorem Tryd.lays156 : Go.Proofs.Lays.n156 Tryd.prog Tryd.lays156_ren := {
  mixed := by kernel_rfl
  f156 := Tryd.func76.trans (congrArg some (by kernel_rfl))
  f165 := Tryd.func85.trans (congrArg some (by kernel_rfl))
  f166 := Tryd.func86.trans (congrArg some (by kernel_rfl))
  f169 := Tryd.func87.trans (congrArg some (by kernel_rfl))
  f240 := Tryd.func94.trans (congrArg some (by kernel_rfl))
  f241 := Tryd.func95.trans (congrArg some (by kernel_rfl))
  f276 := Tryd.func102.trans (congrArg some (by kernel_rfl))
  f277 := Tryd.func103.trans (congrArg some (by kernel_rfl))
  t0 := Tryd.underlying0
  a0 := Tryd.isAgg0
  z0 := Tryd.sizeOf0
  v0 := Tryd.zeroValue0
  t3 := Tryd.underlying3
  a3 := Tryd.isAgg3
  z3 := Tryd.sizeOf3
  v3 := Tryd.zeroValue3
  t4 := Tryd.underlying4
  a4 := Tryd.isAgg4
  z4 := Tryd.sizeOf4
  v4 := Tryd.zeroValue4
  t9 := Tryd.underlying9
  a9 := Tryd.isAgg9
  z9 := Tryd.sizeOf9
  v9 := Tryd.zeroValue9
  t20 := Tryd.underlying20
  a20 := Tryd.isAgg20
  z20 := Tryd.sizeOf20
  v20 := Tryd.zeroValue20
  t31 := Tryd.underlying46
  a31 := Tryd.isAgg46
  z31 := Tryd.sizeOf46
  v31 := Tryd.zeroValue46
  t37 := Tryd.underlying107
  a37 := Tryd.isAgg107
  z37 := Tryd.sizeOf107
  v37 := Tryd.zeroValue107
  t70 := Tryd.underlying120
  a70 := Tryd.isAgg120
  z70 := Tryd.sizeOf120
  v70 := Tryd.zeroValue120
  t72 := Tryd.underlying122
  a72 := Tryd.isAgg122
  z72 := Tryd.sizeOf122
  v72 := Tryd.zeroValue122
  t75 := Tryd.underlying125
  a75 := Tryd.isAgg125
  z75 := Tryd.sizeOf125
  v75 := Tryd.zeroValue125
  t76 := Tryd.underlying126
  a76 := Tryd.isAgg126
  z76 := Tryd.sizeOf126
  v76 := Tryd.zeroValue126
  t127 := Tryd.underlying135
  a127 := Tryd.isAgg135
  z127 := Tryd.sizeOf135
  v127 := Tryd.zeroValue135
  t164 := Tryd.underlying143
  a164 := Tryd.isAgg143
  z164 := Tryd.sizeOf143
  v164 := Tryd.zeroValue143 }
theorem Tryd.Builder_Extra_156 : Builder.Extra Tryd.prog Tryd.lays156_ren := {
  sizeBuilder := by kernel_rfl
  liesBuilder := by kernel_rfl
  t5 := Tryd.underlying5
  a5 := Tryd.isAgg5
  z5 := Tryd.sizeOf5
  v5 := Tryd.zeroValue5
  infoByte := by kernel_rfl
  cellsByte := by kernel_rfl
  sizeByte := by kernel_rfl
  neB5 := by decide }
open Go.RowKit in
theorem Tryd.strings_Join_none (a : Option Addr) (c : Nat) (sep : ByteArray) (w : World) :
    Calls Tryd.prog 76 #[.slice a 0 c, .string sep] w fun e w' => e = .returned (.string ⟨#[]⟩) ∧ w' = w := Any.strings_Join_none Tryd.lays156 Tryd.Builder_Extra_156 a c sep w
open Go.RowKit in
theorem Tryd.strings_Join (bk o c : Nat) (xs : List ByteArray) (sep : ByteArray) (w : World) (hcells : ∀ (j : Nat) x, xs[j]? = some x → w.cell? ⟨bk, o + j, none⟩ = some (.string x)) (hbk : bk < w.heap.size) (hN : xs.length ≤ 140737488355328) (hcap : xs.length ≤ c) (hlen : (Lib.join (xs.map (·.data.toList)) sep.data.toList).length ≤ 140737488355328) :
    Calls Tryd.prog 76 #[.slice (some ⟨bk, o, none⟩) xs.length c, .string sep] w fun e w' => e = .returned (.string ⟨(Lib.join (xs.map (·.data.toList)) sep.data.toList).toArray⟩) ∧ Below w.heap.size w w' := Any.strings_Join Tryd.lays156 Tryd.Builder_Extra_156 bk o c xs sep w hcells hbk hN hcap hlen
def Tryd.laysM171_ren : Go.Shelf.Ren := ⟨fun | 171 => 44 | 243 => 70 | 246 => 82 | 283 => 90 | 284 => 91 | 285 => 92 | 286 => 93 | 129 => 98 | 317 => 97 | 318 => 99 | 319 => 100 | 320 => 101 | 337 => 104 | 338 => 105 | n => n, fun | 3 => 3 | 9 => 9 | 2 => 2 | 4 => 4 | 171 => 130 | 0 => 0 | 53 => 35 | 37 => 107 | 5 => 5 | 173 => 133 | 212 => 138 | 51 => 139 | 20 => 20 | 213 => 140 | 46 => 141 | 232 => 147 | 233 => 148 | n => n, fun | 17 => 0 | 18 => 2 | 19 => 3 | n => n⟩
theorem Tryd.laysM171 : Go.Proofs.LaysM.n171 Tryd.prog Tryd.laysM171_ren := {
  mixed := by kernel_rfl
  f129 := Tryd.func98.trans (congrArg some (by kernel_rfl))
  f171 := Tryd.func44.trans (congrArg some (by kernel_rfl))
  f243 := Tryd.func70.trans (congrArg some (by kernel_rfl))
  f246 := Tryd.func82.trans (congrArg some (by kernel_rfl))
  f283 := Tryd.func90.trans (congrArg some (by kernel_rfl))
  f284 := Tryd.func91.trans (congrArg some (by kernel_rfl))
  f285 := Tryd.func92.trans (congrArg some (by kernel_rfl))
  f286 := Tryd.func93.trans (congrArg some (by kernel_rfl))
  f317 := Tryd.func97.trans (congrArg some (by kernel_rfl))
  f318 := Tryd.func99.trans (congrArg some (by kernel_rfl))
  f319 := Tryd.func100.trans (congrArg some (by kernel_rfl))
  f320 := Tryd.func101.trans (congrArg some (by kernel_rfl))
  f337 := Tryd.func104.trans (congrArg some (by kernel_rfl))
  f338 := Tryd.func105.trans (congrArg some (by kernel_rfl))
  t0 := Tryd.underlying0
  a0 := Tryd.isAgg0
  z0 := Tryd.sizeOf0
  v0 := Tryd.zeroValue0
  t2 := Tryd.underlying2
  a2 := Tryd.isAgg2
  z2 := Tryd.sizeOf2
  v2 := Tryd.zeroValue2
  t3 := Tryd.underlying3
  a3 := Tryd.isAgg3
  z3 := Tryd.sizeOf3
  v3 := Tryd.zeroValue3
  t4 := Tryd.underlying4
  a4 := Tryd.isAgg4
  z4 := Tryd.sizeOf4
  v4 := Tryd.zeroValue4
  t5 := Tryd.underlying5
  a5 := Tryd.isAgg5
  z5 := Tryd.sizeOf5
  v5 := Tryd.zeroValue5
  t9 := Tryd.underlying9
  a9 := Tryd.isAgg9
  z9 := Tryd.sizeOf9
  v9 := Tryd.zeroValue9
  t20 := Tryd.underlying20
  a20 := Tryd.isAgg20
  z20 := Tryd.sizeOf20
  v20 := Tryd.zeroValue20
  t37 := Tryd.underlying107
  a37 := Tryd.isAgg107
  z37 := Tryd.sizeOf107
  v37 := Tryd.zeroValue107
  t46 := Tryd.underlying141
  a46 := Tryd.isAgg141
  z46 := Tryd.sizeOf141
  v46 := Tryd.zeroValue141
  t51 := Tryd.underlying139
  a51 := Tryd.isAgg139
  z51 := Tryd.sizeOf139
  v51 := Tryd.zeroValue139
  t53 := Tryd.underlying35
  a53 := Tryd.isAgg35
  z53 := Tryd.sizeOf35
  v53 := Tryd.zeroValue35
  t171 := Tryd.underlying130
  a171 := Tryd.isAgg130
  z171 := Tryd.sizeOf130
  v171 := Tryd.zeroValue130
  t173 := Tryd.underlying133
  a173 := Tryd.isAgg133
  z173 := Tryd.sizeOf133
  v173 := Tryd.zeroValue133
  t212 := Tryd.underlying138
  a212 := Tryd.isAgg138
  z212 := Tryd.sizeOf138
  v212 := Tryd.zeroValue138
  t213 := Tryd.underlying140
  a213 := Tryd.isAgg140
  z213 := Tryd.sizeOf140
  t232 := Tryd.underlying147
  a232 := Tryd.isAgg147
  z232 := Tryd.sizeOf147
  v232 := Tryd.zeroValue147
  t233 := Tryd.underlying148
  a233 := Tryd.isAgg148
  z233 := Tryd.sizeOf148
  v233 := Tryd.zeroValue148
  g17 := by kernel_rfl
  g18 := by kernel_rfl
  g19 := by kernel_rfl
  i0 := by kernel_rfl
  i2 := by kernel_rfl
  i3 := by kernel_rfl
  i4 := by kernel_rfl
  i5 := by kernel_rfl
  i9 := by kernel_rfl
  i20 := by kernel_rfl
  i37 := by kernel_rfl
  i46 := by kernel_rfl
  i51 := by kernel_rfl
  i53 := by kernel_rfl
  i171 := by kernel_rfl
  i173 := by kernel_rfl
  i212 := by kernel_rfl
  i232 := by kernel_rfl
  i233 := by kernel_rfl
  m17 := by kernel_rfl
  m18 := by kernel_rfl
  m19 := by kernel_rfl }
open Go.RowKit Go.Sort Go.Lib in
theorem Tryd.strconv_Itoa (n : Int) (h0 : -9223372036854775808 ≤ n) (h1 : n ≤ 9223372036854775807) (w : World) (htab : Lib.TabIs Tryd.prog w "internal/strconv.uint64pow10" .u64 Lib.pow10Tab) :
    Calls Tryd.prog 44 #[.int .i64 n] w fun e w' => e = .returned (.string ⟨(Lib.itoa n).toArray⟩) ∧ ∃ k os, w' = grow (w.drewN k) os := Any.strconv_Itoa Tryd.laysM171 n h0 h1 w htab
def Tryd.laysM173_ren : Go.Shelf.Ren := ⟨fun | 173 => 77 | 246 => 82 | 283 => 90 | 284 => 91 | 285 => 92 | 286 => 93 | 129 => 98 | 317 => 97 | 318 => 99 | 319 => 100 | 320 => 101 | 337 => 104 | 338 => 105 | n => n, fun | 2 => 2 | 3 => 3 | 9 => 9 | 4 => 4 | 171 => 130 | 0 => 0 | 53 => 35 | 37 => 107 | 5 => 5 | 173 => 133 | 212 => 138 | 51 => 139 | 20 => 20 | 213 => 140 | 46 => 141 | 232 => 147 | 233 => 148 | n => n, fun | 17 => 0 | 18 => 2 | 19 => 3 | n => n⟩
theorem Tryd.laysM173 : Go.Proofs.LaysM.n173 Tryd.prog Tryd.laysM173_ren := {
  mixed := by kernel_rfl
  f129 := Tryd.func98.trans (congrArg some (by kernel_rfl))
  f173 := Tryd.func77.trans (congrArg some (by kernel_rfl))
  f246 := Tryd.func82.trans (congrArg some (by kernel_rfl))
  f283 := Tryd.func90.trans (congrArg some (by kernel_rfl))
  f284 := Tryd.func91.trans (congrArg some (by kernel_rfl))
  f285 := Tryd.func92.trans (congrArg some (by kernel_rfl))
  f286 := Tryd.func93.trans (congrArg some (by kernel_rfl))
  f317 := Tryd.func97.trans (congrArg some (by kernel_rfl))
  f318 := Tryd.func99.trans (congrArg some (by kernel_rfl))
  f319 := Tryd.func100.trans (congrArg some (by kernel_rfl))
  f320 := Tryd.func101.trans (congrArg some (by kernel_rfl))
  f337 := Tryd.func104.trans (congrArg some (by kernel_rfl))
  f338 := Tryd.func105.trans (congrArg some (by kernel_rfl))
  t0 := Tryd.underlying0
  a0 := Tryd.isAgg0
  z0 := Tryd.sizeOf0
  v0 := Tryd.zeroValue0
  t2 := Tryd.underlying2
  a2 := Tryd.isAgg2
  z2 := Tryd.sizeOf2
  v2 := Tryd.zeroValue2
  t3 := Tryd.underlying3
  a3 := Tryd.isAgg3
  z3 := Tryd.sizeOf3
  v3 := Tryd.zeroValue3
  t4 := Tryd.underlying4
  a4 := Tryd.isAgg4
  z4 := Tryd.sizeOf4
  v4 := Tryd.zeroValue4
  t5 := Tryd.underlying5
  a5 := Tryd.isAgg5
  z5 := Tryd.sizeOf5
  v5 := Tryd.zeroValue5
  t9 := Tryd.underlying9
  a9 := Tryd.isAgg9
  z9 := Tryd.sizeOf9
  v9 := Tryd.zeroValue9
  t20 := Tryd.underlying20
  a20 := Tryd.isAgg20
  z20 := Tryd.sizeOf20
  v20 := Tryd.zeroValue20
  t37 := Tryd.underlying107
  a37 := Tryd.isAgg107
  z37 := Tryd.sizeOf107
  v37 := Tryd.zeroValue107
  t46 := Tryd.underlying141
  a46 := Tryd.isAgg141
  z46 := Tryd.sizeOf141
  v46 := Tryd.zeroValue141
  t51 := Tryd.underlying139
  a51 := Tryd.isAgg139
  z51 := Tryd.sizeOf139
  v51 := Tryd.zeroValue139
  t53 := Tryd.underlying35
  a53 := Tryd.isAgg35
  z53 := Tryd.sizeOf35
  v53 := Tryd.zeroValue35
  t171 := Tryd.underlying130
  a171 := Tryd.isAgg130
  z171 := Tryd.sizeOf130
  v171 := Tryd.zeroValue130
  t173 := Tryd.underlying133
  a173 := Tryd.isAgg133
  z173 := Tryd.sizeOf133
  v173 := Tryd.zeroValue133
  t212 := Tryd.underlying138
  a212 := Tryd.isAgg138
  z212 := Tryd.sizeOf138
  v212 := Tryd.zeroValue138
  t213 := Tryd.underlying140
  a213 := Tryd.isAgg140
  z213 := Tryd.sizeOf140
  t232 := Tryd.underlying147
  a232 := Tryd.isAgg147
  z232 := Tryd.sizeOf147
  v232 := Tryd.zeroValue147
  t233 := Tryd.underlying148
  a233 := Tryd.isAgg148
  z233 := Tryd.sizeOf148
  v233 := Tryd.zeroValue148
  g17 := by kernel_rfl
  g18 := by kernel_rfl
  g19 := by kernel_rfl
  i0 := by kernel_rfl
  i2 := by kernel_rfl
  i3 := by kernel_rfl
  i4 := by kernel_rfl
  i5 := by kernel_rfl
  i9 := by kernel_rfl
  i20 := by kernel_rfl
  i37 := by kernel_rfl
  i46 := by kernel_rfl
  i51 := by kernel_rfl
  i53 := by kernel_rfl
  i171 := by kernel_rfl
  i173 := by kernel_rfl
  i212 := by kernel_rfl
  i232 := by kernel_rfl
  i233 := by kernel_rfl
  m17 := by kernel_rfl
  m18 := by kernel_rfl
  m19 := by kernel_rfl }
open Go.RowKit Go.Sort Go.Lib in
theorem Tryd.strconv_FormatInt_10 (n : Int) (h0 : -9223372036854775808 ≤ n) (h1 : n ≤ 9223372036854775807) (w : World) (htab : Lib.TabIs Tryd.prog w "internal/strconv.uint64pow10" .u64 Lib.pow10Tab) :
    Calls Tryd.prog 77 #[.int .i64 n, .int .i64 10] w fun e w' => e = .returned (.string ⟨(Lib.itoa n).toArray⟩) ∧ ∃ k os, w' = grow (w.drewN k) os := Any.strconv_FormatInt_10 Tryd.laysM173 n h0 h1 w htab
end Go.Proofs

set_option linter.unusedVariables false
namespace Go.Proofs.YtjobleemmjjocaaDoor
open Go Go.AM

theorem two {vals : Array Value} (h : vals.size = 2) : ∃ v u, vals = #[v, u] :=
  ⟨vals[0], vals[1], by
    apply Array.ext
    · simpa using h
    · intro i h1 h2
      match i, h2 with
      | 0, _ => rfl
      | 1, _ => rfl⟩
theorem relStr {w : World} {Z : Zone} {s : ByteArray} {v : Value} (h : RelD w Z (.str s) v) : v = .string s := by cases h; rfl
def itoaB (z : Int) : ByteArray := ⟨(Lib.itoa z).toArray⟩
def joinB (xs : List ByteArray) (sep : ByteArray) : ByteArray := ⟨(Lib.join (xs.map (·.data.toList)) sep.data.toList).toArray⟩
def F44 (n : Nat) (z : Int) : Option ByteArray := if -9223372036854775808 ≤ z ∧ z ≤ 9223372036854775807 then some (itoaB z) else none
def F77 (n : Nat) (z b : Int) : Option ByteArray := if b = 10 ∧ -9223372036854775808 ≤ z ∧ z ≤ 9223372036854775807 then some (itoaB z) else none
def F76 (n : Nat) (l : List D) (sep : ByteArray) : Option ByteArray :=
  match strsD l with
  | some xs => if xs.length ≤ 140737488355328 ∧ (Lib.join (xs.map (·.data.toList)) sep.data.toList).length ≤ 140737488355328 then some (joinB xs sep) else none
  | none => none

theorem T44 (n : Nat) : ∀ ⦃z : Int⦄ ⦃r1 : ByteArray⦄, F44 n z = some r1 → Trip Tryd.prog inv 44 [.d (.int .i64 z)] [] (.v (.d (.str r1))) [] [] := by
  intro z r1 h
  unfold F44 at h
  split at h
  · rename_i hz
    cases h
    refine Trip.ofCalls (xs := [.int .i64 z]) ⟨_, _, Tryd.func44, rfl, by kernel_rfl⟩ fun w Z vals hr hsz hv => ?_
    obtain ⟨v, rfl⟩ : ∃ v, vals = #[v] := Array.size_eq_one_iff.1 hsz
    cases hv 0 _ _ rfl rfl
    refine (Tryd.strconv_Itoa z hz.1 hz.2 w hr).mono ?_
    rintro e w' ⟨rfl, k, os, rfl⟩
    exact ⟨_, rfl, below_apart (Lib.below_grow _ w (Nat.le_refl _) k os), fun _ _ _ => .str _⟩
  · cases h
theorem T77 (n : Nat) : ∀ ⦃z b : Int⦄ ⦃r1 : ByteArray⦄, F77 n z b = some r1 → Trip Tryd.prog inv 77 [.d (.int .i64 z), .d (.int .i64 b)] [] (.v (.d (.str r1))) [] [] := by
  intro z b r1 h
  unfold F77 at h
  split at h
  · rename_i hz
    cases h
    obtain ⟨rfl, hz⟩ := hz
    refine Trip.ofCalls (xs := [.int .i64 z, .int .i64 10]) ⟨_, _, Tryd.func77, rfl, by kernel_rfl⟩ fun w Z vals hr hsz hv => ?_
    obtain ⟨v, u, rfl⟩ : ∃ v u, vals = #[v, u] := two hsz
    cases hv 0 _ _ rfl rfl
    cases hv 1 _ _ rfl rfl
    refine (Tryd.strconv_FormatInt_10 z hz.1 hz.2 w hr).mono ?_
    rintro e w' ⟨rfl, k, os, rfl⟩
    exact ⟨_, rfl, below_apart (Lib.below_grow _ w (Nat.le_refl _) k os), fun _ _ _ => .str _⟩
  · cases h
theorem T76 (n : Nat) : ∀ ⦃l : List D⦄ ⦃sep r1 : ByteArray⦄, F76 n l sep = some r1 → Trip Tryd.prog inv 76 [.d (.list false 1 l), .d (.str sep)] [] (.v (.d (.str r1))) [] [] := by
  intro l sep r1 h
  unfold F76 at h
  split at h
  rotate_left
  · cases h
  rename_i xs hxs
  obtain rfl := strsD_map hxs
  split at h
  rotate_left
  · cases h
  rename_i hb
  cases h
  refine Trip.ofCalls (xs := [.list false 1 (xs.map D.str), .str sep]) ⟨_, _, Tryd.func76, rfl, by kernel_rfl⟩ fun w Z vals hr hsz hv => ?_
  obtain ⟨v, u, rfl⟩ : ∃ v u, vals = #[v, u] := two hsz
  cases hv 1 _ _ rfl rfl
  cases hv 0 _ _ rfl rfl with
  | list _ _ _ A cap b o U hcap hmax hfit ha hc hrr =>
    by_cases he : xs = []
    · subst he
      refine (Tryd.strings_Join_none A cap sep w).mono ?_
      rintro e w' ⟨rfl, rfl⟩
      exact ⟨_, rfl, ⟨rfl, rfl, rfl, Nat.le_refl _, fun _ _ _ => rfl⟩, fun _ _ _ => .str _⟩
    · have hA := ha (by simpa using he)
      subst hA
      have cells : ∀ (j : Nat) x, xs[j]? = some x → w.cell? ⟨b, o + j, none⟩ = some (.string x) := by
        intro j x hx
        have h1 : (xs.map D.str)[j]? = some (.str x) := by simp [hx]
        have h2 := (hc j _ 0 _ h1 rfl).1
        have h3 := hrr j _ 0 _ h1 rfl
        simp only [Nat.mul_one, Nat.add_zero] at h2
        rw [h2, relStr h3]
      have hbk : b < w.heap.size := by
        obtain ⟨x, xs', rfl⟩ := List.exists_cons_of_ne_nil he
        have := World.block_lt_of_cell? w ⟨b, o + 0, none⟩ (cells 0 x rfl)
        exact this
      have := Tryd.strings_Join b o cap xs sep w cells hbk hb.1 (by simpa using hcap) hb.2
      rw [List.length_map]
      refine this.mono ?_
      rintro e w' ⟨rfl, hbl⟩
      exact ⟨_, rfl, below_apart hbl, fun _ _ _ => .str _⟩
end Go.Proofs.YtjobleemmjjocaaDoor

set_option linter.unusedVariables false
noncomputable section
namespace Go.Proofs.YtjobleemmjjocaaDoor
open Go Go.AM
def ds_t56 {γ : Type} (x : D) (k : ByteArray → Int → Int → List D → Option γ) : Option γ := match x with | .agg [.str a0, .int .i64 a1, .int .i64 a2, .list true 9 a3] => k a0 a1 a2 a3 | _ => none
theorem ds_t56_inv {γ : Type} {x : D} {k : ByteArray → Int → Int → List D → Option γ} {r : γ} (h : ds_t56 x k = some r) : ∃ a0 a1 a2 a3, x = .agg [.str a0, .int .i64 a1, .int .i64 a2, .list true 9 a3] ∧ k a0 a1 a2 a3 = some r := by
  unfold ds_t56 at h
  split at h
  · exact ⟨_, _, _, _, rfl, h⟩
  · cases h
def ds_t48 {γ : Type} (x : D) (k : Int → Int → Int → Int → List D → List D → Int → ByteArray → List D → Option γ) : Option γ := match x with | .agg [.int .u8 a0, .int .i64 a1, .int .i64 a2, .int .i64 a3, .list false 1 a4, .list false 1 a5, .int .i64 a6, .str a7, .list false 1 a8] => k a0 a1 a2 a3 a4 a5 a6 a7 a8 | _ => none
theorem ds_t48_inv {γ : Type} {x : D} {k : Int → Int → Int → Int → List D → List D → Int → ByteArray → List D → Option γ} {r : γ} (h : ds_t48 x k = some r) : ∃ a0 a1 a2 a3 a4 a5 a6 a7 a8, x = .agg [.int .u8 a0, .int .i64 a1, .int .i64 a2, .int .i64 a3, .list false 1 a4, .list false 1 a5, .int .i64 a6, .str a7, .list false 1 a8] ∧ k a0 a1 a2 a3 a4 a5 a6 a7 a8 = some r := by
  unfold ds_t48 at h
  split at h
  · exact ⟨_, _, _, _, _, _, _, _, _, rfl, h⟩
  · cases h
def ds_str {γ : Type} (x : D) (k : ByteArray → Option γ) : Option γ := match x with | .str a0 => k a0 | _ => none
theorem ds_str_inv {γ : Type} {x : D} {k : ByteArray → Option γ} {r : γ} (h : ds_str x k = some r) : ∃ a0, x = .str a0 ∧ k a0 = some r := by
  unfold ds_str at h
  split at h
  · exact ⟨_, rfl, h⟩
  · cases h
def ds_t82 {γ : Type} (x : D) (k : Int → ByteArray → List D → Int → ByteArray → List D → List D → Int → Int → ByteArray → ByteArray → ByteArray → List D → List D → Int → Int → Option γ) : Option γ := match x with | .agg [.int .u8 a0, .str a1, .list true 4 a2, .int .u8 a3, .str a4, .list true 3 a5, .list true 15 a6, .int .u8 a7, .int .i64 a8, .str a9, .str a10, .str a11, .list false 1 a12, .list true 8 a13, .int .i64 a14, .int .i64 a15] => k a0 a1 a2 a3 a4 a5 a6 a7 a8 a9 a10 a11 a12 a13 a14 a15 | _ => none
theorem ds_t82_inv {γ : Type} {x : D} {k : Int → ByteArray → List D → Int → ByteArray → List D → List D → Int → Int → ByteArray → ByteArray → ByteArray → List D → List D → Int → Int → Option γ} {r : γ} (h : ds_t82 x k = some r) : ∃ a0 a1 a2 a3 a4 a5 a6 a7 a8 a9 a10 a11 a12 a13 a14 a15, x = .agg [.int .u8 a0, .str a1, .list true 4 a2, .int .u8 a3, .str a4, .list true 3 a5, .list true 15 a6, .int .u8 a7, .int .i64 a8, .str a9, .str a10, .str a11, .list false 1 a12, .list true 8 a13, .int .i64 a14, .int .i64 a15] ∧ k a0 a1 a2 a3 a4 a5 a6 a7 a8 a9 a10 a11 a12 a13 a14 a15 = some r := by
  unfold ds_t82 at h
  split at h
  · exact ⟨_, _, _, _, _, _, _, _, _, _, _, _, _, _, _, _, rfl, h⟩
  · cases h
def k_live : ByteArray := ⟨#[108, 105, 118, 101]⟩
def k_dead : ByteArray := ⟨#[100, 101, 97, 100]⟩
def k_const : ByteArray := ⟨#[99, 111, 110, 115, 116]⟩
def k_use : ByteArray := ⟨#[117, 115, 101]⟩
def k_ref : ByteArray := ⟨#[114, 101, 102]⟩
def k_mut : ByteArray := ⟨#[109, 117, 116]⟩
def k_put : ByteArray := ⟨#[112, 117, 116]⟩
def k_drop : ByteArray := ⟨#[100, 114, 111, 112]⟩
def k_unary : ByteArray := ⟨#[117, 110, 97, 114, 121]⟩
def k_binary : ByteArray := ⟨#[98, 105, 110, 97, 114, 121]⟩
def k_struct : ByteArray := ⟨#[115, 116, 114, 117, 99, 116]⟩
def k_enum : ByteArray := ⟨#[101, 110, 117, 109]⟩
def k_split : ByteArray := ⟨#[115, 112, 108, 105, 116]⟩
def k_jump : ByteArray := ⟨#[106, 117, 109, 112]⟩
def k_branch : ByteArray := ⟨#[98, 114, 97, 110, 99, 104]⟩
def k_switch : ByteArray := ⟨#[115, 119, 105, 116, 99, 104]⟩
def k_call : ByteArray := ⟨#[99, 97, 108, 108]⟩
def k_return : ByteArray := ⟨#[114, 101, 116, 117, 114, 110]⟩
def k_wrap : ByteArray := ⟨#[119, 114, 97, 112]⟩
def k_unwrap : ByteArray := ⟨#[117, 110, 119, 114, 97, 112]⟩
def k_clone : ByteArray := ⟨#[99, 108, 111, 110, 101]⟩
def k_cellget : ByteArray := ⟨#[99, 101, 108, 108, 103, 101, 116]⟩
def k_cellset : ByteArray := ⟨#[99, 101, 108, 108, 115, 101, 116]⟩
def k_load : ByteArray := ⟨#[108, 111, 97, 100]⟩
def k_store : ByteArray := ⟨#[115, 116, 111, 114, 101]⟩
def k_fetch : ByteArray := ⟨#[102, 101, 116, 99, 104]⟩
def k_chan : ByteArray := ⟨#[99, 104, 97, 110]⟩
def k_send : ByteArray := ⟨#[115, 101, 110, 100]⟩
def k_recv : ByteArray := ⟨#[114, 101, 99, 118]⟩
def k_lock : ByteArray := ⟨#[108, 111, 99, 107]⟩
def k_unlock : ByteArray := ⟨#[117, 110, 108, 111, 99, 107]⟩
def k_scope : ByteArray := ⟨#[115, 99, 111, 112, 101]⟩
def k_spawn : ByteArray := ⟨#[115, 112, 97, 119, 110]⟩
def k_join : ByteArray := ⟨#[106, 111, 105, 110]⟩
def ds_w4 {γ : Type} (x : D) (k : ByteArray → Int → Int → Bool → Bool → Bool → Bool → (List D) → Option γ) : Option γ := match x with | .agg [.str a0, .int .i64 a1, .int .i64 a2, .bool a3, .bool a4, .bool a5, .bool a6, .list false 1 a7] => k a0 a1 a2 a3 a4 a5 a6 a7 | _ => none
theorem ds_w4_inv {γ : Type} {x : D} {k : ByteArray → Int → Int → Bool → Bool → Bool → Bool → (List D) → Option γ} {r : γ} (h : ds_w4 x k = some r) : ∃ a0 a1 a2 a3 a4 a5 a6 a7, x = .agg [.str a0, .int .i64 a1, .int .i64 a2, .bool a3, .bool a4, .bool a5, .bool a6, .list false 1 a7] ∧ k a0 a1 a2 a3 a4 a5 a6 a7 = some r := by
  unfold ds_w4 at h
  split at h
  · exact ⟨_, _, _, _, _, _, _, _, rfl, h⟩
  · cases h
def k__ : ByteArray := ⟨#[42]⟩
def ds_i64 {γ : Type} (x : D) (k : Int → Option γ) : Option γ := match x with | .int .i64 a0 => k a0 | _ => none
theorem ds_i64_inv {γ : Type} {x : D} {k : Int → Option γ} {r : γ} (h : ds_i64 x k = some r) : ∃ a0, x = .int .i64 a0 ∧ k a0 = some r := by
  unfold ds_i64 at h
  split at h
  · exact ⟨_, rfl, h⟩
  · cases h
def k_main : ByteArray := ⟨#[109, 97, 105, 110]⟩
def k_E : ByteArray := ⟨#[69]⟩
def k___1 : ByteArray := ⟨#[63]⟩
def k___2 : ByteArray := ⟨#[32]⟩
def k___3 : ByteArray := ⟨#[46]⟩
def k___4 : ByteArray := ⟨#[44]⟩
def k_a : ByteArray := ⟨#[97]⟩
def k_switch_4_7_E : ByteArray := ⟨#[115, 119, 105, 116, 99, 104, 32, 52, 44, 55, 32, 69]⟩
def k_use_2__a__ : ByteArray := ⟨#[117, 115, 101, 32, 50, 32, 46, 97, 46, 42]⟩
def k_const_1_5 : ByteArray := ⟨#[99, 111, 110, 115, 116, 32, 49, 32, 53]⟩
def ds_t98 {γ : Type} (x : D) (k : ByteArray → Int → ByteArray → List D → Option γ) : Option γ := match x with | .agg [.str a0, .int .u8 a1, .str a2, .list true 3 a3] => k a0 a1 a2 a3 | _ => none
theorem ds_t98_inv {γ : Type} {x : D} {k : ByteArray → Int → ByteArray → List D → Option γ} {r : γ} (h : ds_t98 x k = some r) : ∃ a0 a1 a2 a3, x = .agg [.str a0, .int .u8 a1, .str a2, .list true 3 a3] ∧ k a0 a1 a2 a3 = some r := by
  unfold ds_t98 at h
  split at h
  · exact ⟨_, _, _, _, rfl, h⟩
  · cases h
end Go.Proofs.YtjobleemmjjocaaDoor
end

set_option linter.unusedVariables false
noncomputable section
namespace Go.Proofs.YtjobleemmjjocaaDoor
open Go Go.AM
def F83 (n : Nat) (s1 : ByteArray) : Option (ByteArray) :=
  some s1
set_option maxRecDepth 100000 in
set_option maxHeartbeats 40000000 in
theorem T83 (n : Nat) : ∀ ⦃s1 : ByteArray⦄ ⦃r1 : ByteArray⦄, F83 n s1 = some r1 →
    Trip Tryd.prog inv 83 [.d (.str s1)] [] (.v (.d (.agg [.str r1, .int .i64 1, .int .i64 0, .bool true, .bool false, .bool false, .bool false, .list false 1 []]))) [] [] := by
  intro s1 r1 h
  unfold F83 at h
  refine Trip.of tab_ok tab_one fol Tryd.func83 rfl (by kernel_rfl) rfl rfl rfl (fun M hM hI => ?_)
  try cbv
  refine seq_go ?_
  try cbv
  refine seq_go ?_
  try cbv
  obtain rfl := Option.some.inj h
  refine fin_go ?_
  try cbv
  exact ⟨[], rfl, rfl, trivial, trivial, trivial⟩
end Go.Proofs.YtjobleemmjjocaaDoor
end

set_option linter.unusedVariables false
noncomputable section
namespace Go.Proofs.YtjobleemmjjocaaDoor
open Go Go.AM
def F71 (n : Nat) : Option (List D × ByteArray × ByteArray × ByteArray × ByteArray × ByteArray × List D × List D × List D × List D × ByteArray × ByteArray × ByteArray × ByteArray × ByteArray × ByteArray × ByteArray × ByteArray) :=
  bO1 (F83 n k_use) fun s1 => bO1 (F83 n k_ref) fun s2 => bO1 (F83 n k_mut) fun s3 => bO1 (F83 n k_put) fun s4 => bO1 (F83 n k_drop) fun s5 => bO1 (F83 n k_clone) fun s6 => bO1 (F83 n k_cellget) fun s7 => bO1 (F83 n k_cellset) fun s8 => bO1 (F83 n k_load) fun s9 => bO1 (F83 n k_store) fun s10 => bO1 (F83 n k_fetch) fun s11 => bO1 (F83 n k_send) fun s12 => bO1 (F83 n k_recv) fun s13 => some ([.int .i64 1, .int .i64 2, .int .i64 3], s1, s2, s3, s4, s5, [.int .i64 7, .int .i64 8], [.int .i64 9, .int .i64 10, .int .i64 11, .int .i64 12, .int .i64 13, .int .i64 14, .int .i64 15, .int .i64 16, .int .i64 17], [.int .i64 6, .int .i64 7, .int .i64 8, .int .i64 9, .int .i64 10, .int .i64 11], [.int .i64 6, .int .i64 10], s6, s7, s8, s9, s10, s11, s12, s13)
set_option maxRecDepth 100000 in
set_option maxHeartbeats 40000000 in
theorem T71 (n : Nat) : ∀ ⦃r1 : List D⦄ ⦃r2 : ByteArray⦄ ⦃r3 : ByteArray⦄ ⦃r4 : ByteArray⦄ ⦃r5 : ByteArray⦄ ⦃r6 : ByteArray⦄ ⦃r7 : List D⦄ ⦃r8 : List D⦄ ⦃r9 : List D⦄ ⦃r10 : List D⦄ ⦃r11 : ByteArray⦄ ⦃r12 : ByteArray⦄ ⦃r13 : ByteArray⦄ ⦃r14 : ByteArray⦄ ⦃r15 : ByteArray⦄ ⦃r16 : ByteArray⦄ ⦃r17 : ByteArray⦄ ⦃r18 : ByteArray⦄, F71 n = some (r1, r2, r3, r4, r5, r6, r7, r8, r9, r10, r11, r12, r13, r14, r15, r16, r17, r18) →
    Trip Tryd.prog inv 71 [] [] (.v (.d (.agg [.str ByteArray.empty, .int .i64 0, .int .i64 0, .bool false, .bool false, .bool false, .bool false, .list false 1 [], .str k_live, .int .i64 1, .int .i64 0, .bool false, .bool false, .bool false, .bool false, .list false 1 [], .str k_dead, .int .i64 1, .int .i64 0, .bool false, .bool false, .bool false, .bool false, .list false 1 [], .str k_const, .int .i64 4, .int .i64 0, .bool false, .bool false, .bool true, .bool false, .list false 1 r1, .str r2, .int .i64 1, .int .i64 0, .bool true, .bool false, .bool false, .bool false, .list false 1 [], .str r3, .int .i64 1, .int .i64 0, .bool true, .bool false, .bool false, .bool false, .list false 1 [], .str r4, .int .i64 1, .int .i64 0, .bool true, .bool false, .bool false, .bool false, .list false 1 [], .str r5, .int .i64 1, .int .i64 0, .bool true, .bool false, .bool false, .bool false, .list false 1 [], .str r6, .int .i64 1, .int .i64 0, .bool true, .bool false, .bool false, .bool false, .list false 1 [], .str k_unary, .int .i64 4, .int .i64 0, .bool false, .bool false, .bool false, .bool false, .list false 1 r7, .str k_binary, .int .i64 4, .int .i64 0, .bool false, .bool false, .bool false, .bool false, .list false 1 r8, .str k_struct, .int .i64 0, .int .i64 7, .bool false, .bool false, .bool false, .bool true, .list false 1 [], .str k_enum, .int .i64 7, .int .i64 6, .bool false, .bool false, .bool false, .bool true, .list false 1 [], .str k_split, .int .i64 0, .int .i64 7, .bool false, .bool false, .bool false, .bool true, .list false 1 [], .str k_jump, .int .i64 2, .int .i64 0, .bool false, .bool false, .bool false, .bool false, .list false 1 [], .str k_branch, .int .i64 2, .int .i64 0, .bool false, .bool false, .bool false, .bool false, .list false 1 [], .str k_switch, .int .i64 0, .int .i64 0, .bool false, .bool true, .bool false, .bool true, .list false 1 [], .str k_call, .int .i64 3, .int .i64 5, .bool false, .bool false, .bool false, .bool false, .list false 1 [], .str k_return, .int .i64 0, .int .i64 0, .bool false, .bool false, .bool false, .bool false, .list false 1 [], .str k_wrap, .int .i64 4, .int .i64 0, .bool false, .bool false, .bool false, .bool false, .list false 1 r9, .str k_unwrap, .int .i64 4, .int .i64 0, .bool false, .bool false, .bool false, .bool false, .list false 1 r10, .str r11, .int .i64 1, .int .i64 0, .bool true, .bool false, .bool false, .bool false, .list false 1 [], .str r12, .int .i64 1, .int .i64 0, .bool true, .bool false, .bool false, .bool false, .list false 1 [], .str r13, .int .i64 1, .int .i64 0, .bool true, .bool false, .bool false, .bool false, .list false 1 [], .str r14, .int .i64 1, .int .i64 0, .bool true, .bool false, .bool false, .bool false, .list false 1 [], .str r15, .int .i64 1, .int .i64 0, .bool true, .bool false, .bool false, .bool false, .list false 1 [], .str r16, .int .i64 1, .int .i64 0, .bool true, .bool false, .bool false, .bool false, .list false 1 [], .str k_chan, .int .i64 0, .int .i64 0, .bool false, .bool false, .bool true, .bool false, .list false 1 [], .str r17, .int .i64 1, .int .i64 0, .bool true, .bool false, .bool false, .bool false, .list false 1 [], .str r18, .int .i64 1, .int .i64 0, .bool true, .bool false, .bool false, .bool false, .list false 1 [], .str k_lock, .int .i64 1, .int .i64 1, .bool true, .bool false, .bool false, .bool false, .list false 1 [], .str k_unlock, .int .i64 0, .int .i64 0, .bool false, .bool false, .bool false, .bool false, .list false 1 [], .str k_scope, .int .i64 0, .int .i64 0, .bool false, .bool false, .bool false, .bool false, .list false 1 [], .str k_spawn, .int .i64 3, .int .i64 5, .bool false, .bool false, .bool false, .bool false, .list false 1 [], .str k_join, .int .i64 0, .int .i64 0, .bool false, .bool false, .bool false, .bool false, .list false 1 []]))) [] [] := by
  intro r1 r2 r3 r4 r5 r6 r7 r8 r9 r10 r11 r12 r13 r14 r15 r16 r17 r18 h
  unfold F71 at h
  refine Trip.of tab_ok tab_one fol Tryd.func71 rfl (by kernel_rfl) rfl rfl rfl (fun M hM hI => ?_)
  try cbv
  refine seq_go ?_
  try cbv
  refine seq_go ?_
  try cbv
  refine ⟨false, ?_⟩
  try cbv
  refine ⟨true, ?_⟩
  try cbv
  replace h := bO1_inv h
  obtain ⟨s1, hr, h⟩ := h
  refine call_go rfl rfl ?_
  try cbv
  refine call_pure hM hI (T83 _ hr) rfl ?_
  clear hr
  try cbv
  replace h := bO1_inv h
  obtain ⟨s2, hr, h⟩ := h
  refine call_go rfl rfl ?_
  try cbv
  refine call_pure hM hI (T83 _ hr) rfl ?_
  clear hr
  try cbv
  replace h := bO1_inv h
  obtain ⟨s3, hr, h⟩ := h
  refine call_go rfl rfl ?_
  try cbv
  refine call_pure hM hI (T83 _ hr) rfl ?_
  clear hr
  try cbv
  replace h := bO1_inv h
  obtain ⟨s4, hr, h⟩ := h
  refine call_go rfl rfl ?_
  try cbv
  refine call_pure hM hI (T83 _ hr) rfl ?_
  clear hr
  try cbv
  replace h := bO1_inv h
  obtain ⟨s5, hr, h⟩ := h
  refine call_go rfl rfl ?_
  try cbv
  refine call_pure hM hI (T83 _ hr) rfl ?_
  clear hr
  try cbv
  refine ⟨false, ?_⟩
  try cbv
  refine ⟨true, ?_⟩
  try cbv
  refine ⟨false, ?_⟩
  try cbv
  refine ⟨true, ?_⟩
  try cbv
  refine ⟨false, ?_⟩
  try cbv
  refine ⟨true, ?_⟩
  try cbv
  refine ⟨false, ?_⟩
  try cbv
  refine ⟨true, ?_⟩
  try cbv
  replace h := bO1_inv h
  obtain ⟨s6, hr, h⟩ := h
  refine call_go rfl rfl ?_
  try cbv
  refine call_pure hM hI (T83 _ hr) rfl ?_
  clear hr
  try cbv
  replace h := bO1_inv h
  obtain ⟨s7, hr, h⟩ := h
  refine call_go rfl rfl ?_
  try cbv
  refine call_pure hM hI (T83 _ hr) rfl ?_
  clear hr
  try cbv
  replace h := bO1_inv h
  obtain ⟨s8, hr, h⟩ := h
  refine call_go rfl rfl ?_
  try cbv
  refine call_pure hM hI (T83 _ hr) rfl ?_
  clear hr
  try cbv
  replace h := bO1_inv h
  obtain ⟨s9, hr, h⟩ := h
  refine call_go rfl rfl ?_
  try cbv
  refine call_pure hM hI (T83 _ hr) rfl ?_
  clear hr
  try cbv
  replace h := bO1_inv h
  obtain ⟨s10, hr, h⟩ := h
  refine call_go rfl rfl ?_
  try cbv
  refine call_pure hM hI (T83 _ hr) rfl ?_
  clear hr
  try cbv
  replace h := bO1_inv h
  obtain ⟨s11, hr, h⟩ := h
  refine call_go rfl rfl ?_
  try cbv
  refine call_pure hM hI (T83 _ hr) rfl ?_
  clear hr
  try cbv
  replace h := bO1_inv h
  obtain ⟨s12, hr, h⟩ := h
  refine call_go rfl rfl ?_
  try cbv
  refine call_pure hM hI (T83 _ hr) rfl ?_
  clear hr
  try cbv
  replace h := bO1_inv h
  obtain ⟨s13, hr, h⟩ := h
  refine call_go rfl rfl ?_
  try cbv
  refine call_pure hM hI (T83 _ hr) rfl ?_
  clear hr
  try cbv
  obtain ⟨rfl, rfl, rfl, rfl, rfl, rfl, rfl, rfl, rfl, rfl, rfl, rfl, rfl, rfl, rfl, rfl, rfl, rfl⟩ := inj18 h
  refine fin_go ?_
  try cbv
  exact ⟨[], rfl, rfl, trivial, trivial, trivial⟩
end Go.Proofs.YtjobleemmjjocaaDoor
end

set_option linter.unusedVariables false
noncomputable section
namespace Go.Proofs.YtjobleemmjjocaaDoor
open Go Go.AM
set_option maxHeartbeats 40000000 in
def F51 (n : Nat) (z1 : Int) : Option (ByteArray × Int × Int × Bool × Bool × Bool × Bool × List D × Bool) :=
  bO18 (F71 n) fun l2 s3 s4 s5 s6 s7 l8 l9 l10 l11 s12 s13 s14 s15 s16 s17 s18 s19 => (if z1 = (0 : Int) then some (ByteArray.empty, (0 : Int), (0 : Int), false, false, false, false, ([] : List D), false) else letF (IntKind.wrap .i64 z1) fun z20 => (if (35 : Int) ≤ z20 then some (ByteArray.empty, (0 : Int), (0 : Int), false, false, false, false, ([] : List D), false) else needF (0 ≤ z1 ∧ z1 < 35) (getF [.agg [.str ByteArray.empty, .int .i64 0, .int .i64 0, .bool false, .bool false, .bool false, .bool false, .list false 1 []], .agg [.str k_live, .int .i64 1, .int .i64 0, .bool false, .bool false, .bool false, .bool false, .list false 1 []], .agg [.str k_dead, .int .i64 1, .int .i64 0, .bool false, .bool false, .bool false, .bool false, .list false 1 []], .agg [.str k_const, .int .i64 4, .int .i64 0, .bool false, .bool false, .bool true, .bool false, .list false 1 l2], .agg [.str s3, .int .i64 1, .int .i64 0, .bool true, .bool false, .bool false, .bool false, .list false 1 []], .agg [.str s4, .int .i64 1, .int .i64 0, .bool true, .bool false, .bool false, .bool false, .list false 1 []], .agg [.str s5, .int .i64 1, .int .i64 0, .bool true, .bool false, .bool false, .bool false, .list false 1 []], .agg [.str s6, .int .i64 1, .int .i64 0, .bool true, .bool false, .bool false, .bool false, .list false 1 []], .agg [.str s7, .int .i64 1, .int .i64 0, .bool true, .bool false, .bool false, .bool false, .list false 1 []], .agg [.str k_unary, .int .i64 4, .int .i64 0, .bool false, .bool false, .bool false, .bool false, .list false 1 l8], .agg [.str k_binary, .int .i64 4, .int .i64 0, .bool false, .bool false, .bool false, .bool false, .list false 1 l9], .agg [.str k_struct, .int .i64 0, .int .i64 7, .bool false, .bool false, .bool false, .bool true, .list false 1 []], .agg [.str k_enum, .int .i64 7, .int .i64 6, .bool false, .bool false, .bool false, .bool true, .list false 1 []], .agg [.str k_split, .int .i64 0, .int .i64 7, .bool false, .bool false, .bool false, .bool true, .list false 1 []], .agg [.str k_jump, .int .i64 2, .int .i64 0, .bool false, .bool false, .bool false, .bool false, .list false 1 []], .agg [.str k_branch, .int .i64 2, .int .i64 0, .bool false, .bool false, .bool false, .bool false, .list false 1 []], .agg [.str k_switch, .int .i64 0, .int .i64 0, .bool false, .bool true, .bool false, .bool true, .list false 1 []], .agg [.str k_call, .int .i64 3, .int .i64 5, .bool false, .bool false, .bool false, .bool false, .list false 1 []], .agg [.str k_return, .int .i64 0, .int .i64 0, .bool false, .bool false, .bool false, .bool false, .list false 1 []], .agg [.str k_wrap, .int .i64 4, .int .i64 0, .bool false, .bool false, .bool false, .bool false, .list false 1 l10], .agg [.str k_unwrap, .int .i64 4, .int .i64 0, .bool false, .bool false, .bool false, .bool false, .list false 1 l11], .agg [.str s12, .int .i64 1, .int .i64 0, .bool true, .bool false, .bool false, .bool false, .list false 1 []], .agg [.str s13, .int .i64 1, .int .i64 0, .bool true, .bool false, .bool false, .bool false, .list false 1 []], .agg [.str s14, .int .i64 1, .int .i64 0, .bool true, .bool false, .bool false, .bool false, .list false 1 []], .agg [.str s15, .int .i64 1, .int .i64 0, .bool true, .bool false, .bool false, .bool false, .list false 1 []], .agg [.str s16, .int .i64 1, .int .i64 0, .bool true, .bool false, .bool false, .bool false, .list false 1 []], .agg [.str s17, .int .i64 1, .int .i64 0, .bool true, .bool false, .bool false, .bool false, .list false 1 []], .agg [.str k_chan, .int .i64 0, .int .i64 0, .bool false, .bool false, .bool true, .bool false, .list false 1 []], .agg [.str s18, .int .i64 1, .int .i64 0, .bool true, .bool false, .bool false, .bool false, .list false 1 []], .agg [.str s19, .int .i64 1, .int .i64 0, .bool true, .bool false, .bool false, .bool false, .list false 1 []], .agg [.str k_lock, .int .i64 1, .int .i64 1, .bool true, .bool false, .bool false, .bool false, .list false 1 []], .agg [.str k_unlock, .int .i64 0, .int .i64 0, .bool false, .bool false, .bool false, .bool false, .list false 1 []], .agg [.str k_scope, .int .i64 0, .int .i64 0, .bool false, .bool false, .bool false, .bool false, .list false 1 []], .agg [.str k_spawn, .int .i64 3, .int .i64 5, .bool false, .bool false, .bool false, .bool false, .list false 1 []], .agg [.str k_join, .int .i64 0, .int .i64 0, .bool false, .bool false, .bool false, .bool false, .list false 1 []]] z1 fun x29 => ds_w4 x29 fun s21 z22 z23 b24 b25 b26 b27 l28 => some (s21, z22, z23, b24, b25, b26, b27, l28, true))))
set_option maxRecDepth 100000 in
set_option maxHeartbeats 40000000 in
theorem T51 (n : Nat) : ∀ ⦃z1 : Int⦄ ⦃r1 : ByteArray⦄ ⦃r2 : Int⦄ ⦃r3 : Int⦄ ⦃r4 : Bool⦄ ⦃r5 : Bool⦄ ⦃r6 : Bool⦄ ⦃r7 : Bool⦄ ⦃r8 : List D⦄ ⦃r9 : Bool⦄, F51 n z1 = some (r1, r2, r3, r4, r5, r6, r7, r8, r9) →
    Trip Tryd.prog inv 51 [.d (.int .u8 z1)] [] (.t [.d (.agg [.str r1, .int .i64 r2, .int .i64 r3, .bool r4, .bool r5, .bool r6, .bool r7, .list false 1 r8]), .d (.bool r9)]) [] [] := by
  intro z1 r1 r2 r3 r4 r5 r6 r7 r8 r9 h
  unfold F51 at h
  refine Trip.of tab_ok tab_one fol Tryd.func51 rfl (by kernel_rfl) rfl rfl rfl (fun M hM hI => ?_)
  try cbv
  refine seq_go ?_
  try cbv
  refine seq_go ?_
  try cbv
  replace h := bO18_inv h
  obtain ⟨l2, s3, s4, s5, s6, s7, l8, l9, l10, l11, s12, s13, s14, s15, s16, s17, s18, s19, hr, h⟩ := h
  refine call_go rfl rfl ?_
  try cbv
  refine call_pure hM hI (T71 _ hr) rfl ?_
  clear hr
  try cbv
  refine seq_go ?_
  try cbv
  refine seq_go ?_
  try cbv
  refine splitI (fun e => ?_) (fun e => ?_)
  · replace h := ite_t e h
    clear e
    try cbv
    refine seq_go ?_
    try cbv
    obtain ⟨rfl, rfl, rfl, rfl, rfl, rfl, rfl, rfl, rfl⟩ := inj9 h
    refine fin_go ?_
    try cbv
    exact ⟨[], rfl, rfl, trivial, trivial, trivial⟩
  · replace h := ite_f e h
    clear e
    try cbv
    replace h := letF_inv h
    obtain ⟨z20, hz, h⟩ := h
    refine ⟨z20, hz, ?_⟩
    clear hz
    try cbv
    refine splitLe (fun e => ?_) (fun e => ?_)
    · replace h := ite_t e h
      clear e
      try cbv
      refine seq_go ?_
      try cbv
      obtain ⟨rfl, rfl, rfl, rfl, rfl, rfl, rfl, rfl, rfl⟩ := inj9 h
      refine fin_go ?_
      try cbv
      exact ⟨[], rfl, rfl, trivial, trivial, trivial⟩
    · replace h := ite_f (Int.not_le.2 e) h
      clear e
      try cbv
      refine seq_go ?_
      try cbv
      replace h := needF_inv h
      obtain ⟨hn, h⟩ := h
      refine ⟨hn.1, hn.2, false, ?_⟩
      clear hn
      try cbv
      replace h := getF_inv h
      obtain ⟨x29, ⟨hx0, hx⟩, h⟩ := h
      replace h := ds_w4_inv h
      obtain ⟨s21, z22, z23, b24, b25, b26, b27, l28, rfl, h⟩ := h
      refine ⟨35, _, rfl, hx, ?_⟩
      clear hx0 hx
      try cbv
      obtain ⟨rfl, rfl, rfl, rfl, rfl, rfl, rfl, rfl, rfl⟩ := inj9 h
      refine fin_go ?_
      try cbv
      exact ⟨[], rfl, rfl, trivial, trivial, trivial⟩
end Go.Proofs.YtjobleemmjjocaaDoor
end

set_option linter.unusedVariables false
noncomputable section
namespace Go.Proofs.YtjobleemmjjocaaDoor
open Go Go.AM
def F53 (n : Nat) (s1 : ByteArray) : Option (Bool) :=
  szF s1 fun z2 => (if (1 : Int) ≤ z2 then szF s1 fun z3 => (if z3 ≤ (16 : Int) then some true else some false) else some false)
set_option maxRecDepth 100000 in
set_option maxHeartbeats 40000000 in
theorem T53 (n : Nat) : ∀ ⦃s1 : ByteArray⦄ ⦃r1 : Bool⦄, F53 n s1 = some r1 →
    Trip Tryd.prog inv 53 [.d (.str s1)] [] (.v (.d (.bool r1))) [] [] := by
  intro s1 r1 h
  unfold F53 at h
  refine Trip.of tab_ok tab_one fol Tryd.func53 rfl (by kernel_rfl) rfl rfl rfl (fun M hM hI => ?_)
  try cbv
  refine seq_go ?_
  try cbv
  refine seq_go ?_
  try cbv
  replace h := szF_inv M h
  obtain ⟨z2, hz, h⟩ := h
  refine ⟨z2, hz, ?_⟩
  clear hz
  try cbv
  refine splitLe (fun e => ?_) (fun e => ?_)
  · replace h := ite_t e h
    clear e
    try cbv
    replace h := szF_inv M h
    obtain ⟨z3, hz, h⟩ := h
    refine ⟨z3, hz, ?_⟩
    clear hz
    try cbv
    refine splitLe (fun e => ?_) (fun e => ?_)
    · replace h := ite_t e h
      clear e
      try cbv
      obtain rfl := Option.some.inj h
      refine fin_go ?_
      try cbv
      exact ⟨[], rfl, rfl, trivial, trivial, trivial⟩
    · replace h := ite_f (Int.not_le.2 e) h
      clear e
      try cbv
      obtain rfl := Option.some.inj h
      refine fin_go ?_
      try cbv
      exact ⟨[], rfl, rfl, trivial, trivial, trivial⟩
  · replace h := ite_f (Int.not_le.2 e) h
    clear e
    try cbv
    obtain rfl := Option.some.inj h
    refine fin_go ?_
    try cbv
    exact ⟨[], rfl, rfl, trivial, trivial, trivial⟩
end Go.Proofs.YtjobleemmjjocaaDoor
end

set_option linter.unusedVariables false
noncomputable section
namespace Go.Proofs.YtjobleemmjjocaaDoor
open Go Go.AM
def F55 (n : Nat) (s1 : ByteArray) (z2 : Int) (z3 : Int) (b4 : Bool) (b5 : Bool) (b6 : Bool) (b7 : Bool) (l8 : List D) (z9 : Int) (z10 : Int) (z11 : Int) (z12 : Int) (l13 : List D) (l14 : List D) (z15 : Int) (s16 : ByteArray) (l17 : List D) : Option (Bool) :=
  (if b6 = true then (if z9 = (27 : Int) then (if (1 : Int) ≤ z15 then (if z15 ≤ (8 : Int) then some true else some false) else some false) else (if z10 = (2 : Int) then (if z15 = (0 : Int) then some true else (if z15 = (1 : Int) then some true else some false)) else (if z10 = (1 : Int) then some true else (if z15 = (0 : Int) then some true else some false)))) else (if z15 = (0 : Int) then some true else some false))
set_option maxRecDepth 100000 in
set_option maxHeartbeats 40000000 in
theorem T55 (n : Nat) : ∀ ⦃s1 : ByteArray⦄ ⦃z2 : Int⦄ ⦃z3 : Int⦄ ⦃b4 : Bool⦄ ⦃b5 : Bool⦄ ⦃b6 : Bool⦄ ⦃b7 : Bool⦄ ⦃l8 : List D⦄ ⦃z9 : Int⦄ ⦃z10 : Int⦄ ⦃z11 : Int⦄ ⦃z12 : Int⦄ ⦃l13 : List D⦄ ⦃l14 : List D⦄ ⦃z15 : Int⦄ ⦃s16 : ByteArray⦄ ⦃l17 : List D⦄ ⦃r1 : Bool⦄, F55 n s1 z2 z3 b4 b5 b6 b7 l8 z9 z10 z11 z12 l13 l14 z15 s16 l17 = some r1 →
    Trip Tryd.prog inv 55 [.d (.agg [.str s1, .int .i64 z2, .int .i64 z3, .bool b4, .bool b5, .bool b6, .bool b7, .list false 1 l8]), .d (.agg [.int .u8 z9, .int .i64 z10, .int .i64 z11, .int .i64 z12, .list false 1 l13, .list false 1 l14, .int .i64 z15, .str s16, .list false 1 l17])] [] (.v (.d (.bool r1))) [] [] := by
  intro s1 z2 z3 b4 b5 b6 b7 l8 z9 z10 z11 z12 l13 l14 z15 s16 l17 r1 h
  unfold F55 at h
  refine Trip.of tab_ok tab_one fol Tryd.func55 rfl (by kernel_rfl) rfl rfl rfl (fun M hM hI => ?_)
  try cbv
  refine seq_go ?_
  try cbv
  refine seq_go ?_
  try cbv
  refine seq_go ?_
  try cbv
  cases b6
  · replace h := ite_f Bool.false_ne_true h
    try cbv
    refine ⟨true, rfl, ?_⟩
    try cbv
    refine seq_go ?_
    try cbv
    refine splitI (fun e => ?_) (fun e => ?_)
    · replace h := ite_t e h
      clear e
      try cbv
      obtain rfl := Option.some.inj h
      refine fin_go ?_
      try cbv
      exact ⟨[], rfl, rfl, trivial, trivial, trivial⟩
    · replace h := ite_f e h
      clear e
      try cbv
      obtain rfl := Option.some.inj h
      refine fin_go ?_
      try cbv
      exact ⟨[], rfl, rfl, trivial, trivial, trivial⟩
  · replace h := ite_t rfl h
    try cbv
    refine ⟨false, rfl, ?_⟩
    try cbv
    refine seq_go ?_
    try cbv
    refine splitI (fun e => ?_) (fun e => ?_)
    · replace h := ite_t e h
      clear e
      try cbv
      refine seq_go ?_
      try cbv
      refine splitLe (fun e => ?_) (fun e => ?_)
      · replace h := ite_t e h
        clear e
        try cbv
        refine splitLe (fun e => ?_) (fun e => ?_)
        · replace h := ite_t e h
          clear e
          try cbv
          obtain rfl := Option.some.inj h
          refine fin_go ?_
          try cbv
          exact ⟨[], rfl, rfl, trivial, trivial, trivial⟩
        · replace h := ite_f (Int.not_le.2 e) h
          clear e
          try cbv
          obtain rfl := Option.some.inj h
          refine fin_go ?_
          try cbv
          exact ⟨[], rfl, rfl, trivial, trivial, trivial⟩
      · replace h := ite_f (Int.not_le.2 e) h
        clear e
        try cbv
        obtain rfl := Option.some.inj h
        refine fin_go ?_
        try cbv
        exact ⟨[], rfl, rfl, trivial, trivial, trivial⟩
    · replace h := ite_f e h
      clear e
      try cbv
      refine seq_go ?_
      try cbv
      refine splitI (fun e => ?_) (fun e => ?_)
      · replace h := ite_t e h
        clear e
        try cbv
        refine seq_go ?_
        try cbv
        refine splitI (fun e => ?_) (fun e => ?_)
        · replace h := ite_t e h
          clear e
          try cbv
          obtain rfl := Option.some.inj h
          refine fin_go ?_
          try cbv
          exact ⟨[], rfl, rfl, trivial, trivial, trivial⟩
        · replace h := ite_f e h
          clear e
          try cbv
          refine splitI (fun e => ?_) (fun e => ?_)
          · replace h := ite_t e h
            clear e
            try cbv
            obtain rfl := Option.some.inj h
            refine fin_go ?_
            try cbv
            exact ⟨[], rfl, rfl, trivial, trivial, trivial⟩
          · replace h := ite_f e h
            clear e
            try cbv
            obtain rfl := Option.some.inj h
            refine fin_go ?_
            try cbv
            exact ⟨[], rfl, rfl, trivial, trivial, trivial⟩
      · replace h := ite_f e h
        clear e
        try cbv
        refine seq_go ?_
        try cbv
        refine splitI (fun e => ?_) (fun e => ?_)
        · replace h := ite_t e h
          clear e
          try cbv
          obtain rfl := Option.some.inj h
          refine fin_go ?_
          try cbv
          exact ⟨[], rfl, rfl, trivial, trivial, trivial⟩
        · replace h := ite_f e h
          clear e
          try cbv
          refine splitI (fun e => ?_) (fun e => ?_)
          · replace h := ite_t e h
            clear e
            try cbv
            obtain rfl := Option.some.inj h
            refine fin_go ?_
            try cbv
            exact ⟨[], rfl, rfl, trivial, trivial, trivial⟩
          · replace h := ite_f e h
            clear e
            try cbv
            obtain rfl := Option.some.inj h
            refine fin_go ?_
            try cbv
            exact ⟨[], rfl, rfl, trivial, trivial, trivial⟩
end Go.Proofs.YtjobleemmjjocaaDoor
end

set_option linter.unusedVariables false
noncomputable section
namespace Go.Proofs.YtjobleemmjjocaaDoor
open Go Go.AM
def F52 (n : Nat) (s1 : ByteArray) : Option (Bool) :=
  (if s1 = k__ then some false else bO1 (F53 n s1) fun b2 => (if b2 = true then some false else some true))
set_option maxRecDepth 100000 in
set_option maxHeartbeats 40000000 in
theorem T52 (n : Nat) : ∀ ⦃s1 : ByteArray⦄ ⦃r1 : Bool⦄, F52 n s1 = some r1 →
    Trip Tryd.prog inv 52 [.d (.str s1)] [] (.v (.d (.bool r1))) [] [] := by
  intro s1 r1 h
  unfold F52 at h
  refine Trip.of tab_ok tab_one fol Tryd.func52 rfl (by kernel_rfl) rfl rfl rfl (fun M hM hI => ?_)
  try cbv
  refine seq_go ?_
  try cbv
  refine seq_go ?_
  try cbv
  refine splitS (fun e => ?_) (fun e => ?_)
  · replace h := ite_t (bytes_eq.1 e) h
    clear e
    try cbv
    obtain rfl := Option.some.inj h
    refine fin_go ?_
    try cbv
    exact ⟨[], rfl, rfl, trivial, trivial, trivial⟩
  · replace h := ite_f (bytes_ne.1 e) h
    clear e
    try cbv
    replace h := bO1_inv h
    obtain ⟨b2, hr, h⟩ := h
    refine call_go rfl rfl ?_
    try cbv
    refine call_pure hM hI (T53 _ hr) rfl ?_
    clear hr
    try cbv
    cases b2
    · replace h := ite_f Bool.false_ne_true h
      try cbv
      refine ⟨true, rfl, ?_⟩
      try cbv
      obtain rfl := Option.some.inj h
      refine fin_go ?_
      try cbv
      exact ⟨[], rfl, rfl, trivial, trivial, trivial⟩
    · replace h := ite_t rfl h
      try cbv
      refine ⟨false, rfl, ?_⟩
      try cbv
      obtain rfl := Option.some.inj h
      refine fin_go ?_
      try cbv
      exact ⟨[], rfl, rfl, trivial, trivial, trivial⟩
end Go.Proofs.YtjobleemmjjocaaDoor
end

set_option linter.unusedVariables false
noncomputable section
namespace Go.Proofs.YtjobleemmjjocaaDoor
open Go Go.AM
def L72_1 : Nat → (List D) → Int → Int → Option (Int)
  | 0, _, _, _ => none
  | n + 1, l1, z2, z3 =>
    (if z3 < z2 then getF l1 z3 fun x4 => ds_str x4 fun s5 => bO1 (F52 n s5) fun b6 => (if b6 = true then some z3 else letF (IntKind.wrap .i64 (z3 + 1)) fun z7 => L72_1 n l1 z2 z7) else some (-1 : Int))
def F72 (n : Nat) (l1 : List D) : Option (Int) :=
  lenF l1 fun z2 => L72_1 n l1 z2 (0 : Int)
set_option maxRecDepth 100000 in
set_option maxHeartbeats 40000000 in
theorem T72 (n : Nat) : ∀ ⦃l1 : List D⦄ ⦃r1 : Int⦄, F72 n l1 = some r1 →
    Trip Tryd.prog inv 72 [.d (.list false 1 l1), .c (.fn 52 [])] [] (.v (.d (.int .i64 r1))) [] [] := by
  intro l1 r1 h
  unfold F72 at h
  refine Trip.of tab_ok tab_one fol Tryd.func72 rfl (by kernel_rfl) rfl rfl rfl (fun M hM hI => ?_)
  try cbv
  refine seq_go ?_
  try cbv
  refine seq_go ?_
  try cbv
  refine seq_go ?_
  try cbv
  replace h := lenF_inv M h
  obtain ⟨z2, hz, h⟩ := h
  refine ⟨z2, hz, ?_⟩
  clear hz
  try cbv
  refine loop_inv (T := Nat × Int) [0, 1, 4, 7, 8] [] 128 (fun t => ⟨[(0, .v (.d (.list false 1 l1))), (1, .v (.c (.fn 52 []))), (4, .v (.d (.int .i64 0))), (7, .v (.d (.int .i64 z2))), (8, .v (.d (.int .i64 t.2)))], [], 128⟩)
    (fun t => t.1 ≤ n ∧ L72_1 t.1 l1 z2 t.2 = some r1) (fun t => t.1) (n, (0 : Int)) ⟨Nat.le_refl _, h⟩ (by cbv) ?_
  clear h
  rintro ⟨m1, z3⟩ ⟨hm1, h⟩
  replace hm1 : m1 ≤ n := hm1
  cases m1 with
  | zero =>
    replace h : L72_1 0 l1 z2 z3 = some r1 := h
    rw [L72_1] at h
    cases h
  | succ m1 =>
    replace h : L72_1 (m1 + 1) l1 z2 z3 = some r1 := h
    rw [L72_1] at h
    try cbv
    refine seq_go ?_
    try cbv
    refine splitL (fun e => ?_) (fun e => ?_)
    · replace h := ite_t e h
      clear e
      try cbv
      refine seq_go ?_
      try cbv
      refine seq_go ?_
      try cbv
      refine seq_go ?_
      try cbv
      refine seq_go ?_
      try cbv
      replace h := getF_inv h
      obtain ⟨x4, ⟨hx0, hx⟩, h⟩ := h
      refine ⟨x4, hx0, hx, ?_⟩
      clear hx0 hx
      replace h := ds_str_inv h
      obtain ⟨s5, rfl, h⟩ := h
      try cbv
      replace h := bO1_inv h
      obtain ⟨b6, hr, h⟩ := h
      refine call_go rfl rfl ?_
      try cbv
      refine call_pure hM hI (T52 _ hr) rfl ?_
      clear hr
      try cbv
      cases b6
      · replace h := ite_f Bool.false_ne_true h
        try cbv
        replace h := letF_inv h
        obtain ⟨z7, hz, h⟩ := h
        refine ⟨z7, hz, ?_⟩
        clear hz
        try cbv
        exact loop_next (m1, z7) [0, 1, 4, 7, 8] [] 128 ⟨by omega, h⟩ (Nat.lt_succ_of_le (by omega)) (by cbv)
      · replace h := ite_t rfl h
        try cbv
        refine seq_go ?_
        try cbv
        obtain rfl := Option.some.inj h
        refine fin_go ?_
        try cbv
        exact ⟨[], rfl, rfl, trivial, trivial, trivial⟩
    · replace h := ite_f (Int.not_lt.2 e) h
      clear e
      try cbv
      refine seq_go ?_
      try cbv
      refine seq_go ?_
      try cbv
      obtain rfl := Option.some.inj h
      refine fin_go ?_
      try cbv
      exact ⟨[], rfl, rfl, trivial, trivial, trivial⟩
end Go.Proofs.YtjobleemmjjocaaDoor
end

set_option linter.unusedVariables false
noncomputable section
namespace Go.Proofs.YtjobleemmjjocaaDoor
open Go Go.AM
def F56 (n : Nat) (l1 : List D) : Option (Bool) :=
  bO1 (F72 n l1) fun z2 => (if (0 : Int) ≤ z2 then some true else some false)
set_option maxRecDepth 100000 in
set_option maxHeartbeats 40000000 in
theorem T56 (n : Nat) : ∀ ⦃l1 : List D⦄ ⦃r1 : Bool⦄, F56 n l1 = some r1 →
    Trip Tryd.prog inv 56 [.d (.list false 1 l1), .c (.fn 52 [])] [] (.v (.d (.bool r1))) [] [] := by
  intro l1 r1 h
  unfold F56 at h
  refine Trip.of tab_ok tab_one fol Tryd.func56 rfl (by kernel_rfl) rfl rfl rfl (fun M hM hI => ?_)
  try cbv
  refine seq_go ?_
  try cbv
  refine seq_go ?_
  try cbv
  replace h := bO1_inv h
  obtain ⟨z2, hr, h⟩ := h
  refine call_go rfl rfl ?_
  try cbv
  refine call_pure hM hI (T72 _ hr) rfl ?_
  clear hr
  try cbv
  refine splitLe (fun e => ?_) (fun e => ?_)
  · replace h := ite_t e h
    clear e
    try cbv
    obtain rfl := Option.some.inj h
    refine fin_go ?_
    try cbv
    exact ⟨[], rfl, rfl, trivial, trivial, trivial⟩
  · replace h := ite_f (Int.not_le.2 e) h
    clear e
    try cbv
    obtain rfl := Option.some.inj h
    refine fin_go ?_
    try cbv
    exact ⟨[], rfl, rfl, trivial, trivial, trivial⟩
end Go.Proofs.YtjobleemmjjocaaDoor
end

set_option linter.unusedVariables false
noncomputable section
namespace Go.Proofs.YtjobleemmjjocaaDoor
open Go Go.AM
def F54 (n : Nat) (z1 : Int) (s2 : ByteArray) (z3 : Int) (z4 : Int) (l5 : List D) : Option (Bool × ByteArray × Int × Int × List D) :=
  (if z1 < (0 : Int) then some (true, s2, z3, z4, l5) else lenF l5 fun z6 => (if z6 < z1 then some (true, s2, z3, z4, l5) else some (false, s2, z3, z4, l5)))
set_option maxRecDepth 100000 in
set_option maxHeartbeats 40000000 in
theorem T54 (n : Nat) : ∀ ⦃z1 : Int⦄ ⦃s2 : ByteArray⦄ ⦃z3 : Int⦄ ⦃z4 : Int⦄ ⦃l5 : List D⦄ ⦃r1 : Bool⦄ ⦃r2 : ByteArray⦄ ⦃r3 : Int⦄ ⦃r4 : Int⦄ ⦃r5 : List D⦄, F54 n z1 s2 z3 z4 l5 = some (r1, r2, r3, r4, r5) →
    Trip Tryd.prog inv 54 [.d (.int .i64 z1), .c (.ptr (.ext 0) 0)] [.cells [.d (.str s2), .d (.int .i64 z3), .d (.int .i64 z4), .d (.list true 9 l5)]] (.v (.d (.bool r1))) [.cells [.d (.str r2), .d (.int .i64 r3), .d (.int .i64 r4), .d (.list true 9 r5)]] [] := by
  intro z1 s2 z3 z4 l5 r1 r2 r3 r4 r5 h
  unfold F54 at h
  refine Trip.of tab_ok tab_one fol Tryd.func54 rfl (by kernel_rfl) rfl rfl rfl (fun M hM hI => ?_)
  try cbv
  refine seq_go ?_
  try cbv
  refine seq_go ?_
  try cbv
  refine splitL (fun e => ?_) (fun e => ?_)
  · replace h := ite_t e h
    clear e
    try cbv
    obtain ⟨rfl, rfl, rfl, rfl, rfl⟩ := inj5 h
    refine fin_go ?_
    try cbv
    exact ⟨[], rfl, rfl, ⟨rfl, trivial⟩, trivial, trivial⟩
  · replace h := ite_f (Int.not_lt.2 e) h
    clear e
    try cbv
    replace h := lenF_inv M h
    obtain ⟨z6, hz, h⟩ := h
    refine ⟨z6, hz, ?_⟩
    clear hz
    try cbv
    refine splitL (fun e => ?_) (fun e => ?_)
    · replace h := ite_t e h
      clear e
      try cbv
      obtain ⟨rfl, rfl, rfl, rfl, rfl⟩ := inj5 h
      refine fin_go ?_
      try cbv
      exact ⟨[], rfl, rfl, ⟨rfl, trivial⟩, trivial, trivial⟩
    · replace h := ite_f (Int.not_lt.2 e) h
      clear e
      try cbv
      obtain ⟨rfl, rfl, rfl, rfl, rfl⟩ := inj5 h
      refine fin_go ?_
      try cbv
      exact ⟨[], rfl, rfl, ⟨rfl, trivial⟩, trivial, trivial⟩
end Go.Proofs.YtjobleemmjjocaaDoor
end

set_option linter.unusedVariables false
noncomputable section
namespace Go.Proofs.YtjobleemmjjocaaDoor
open Go Go.AM
def L73_1 : Nat → (List D) → Int → Int → ByteArray → Int → Int → (List D) → Option (Int × ByteArray × Int × Int × List D)
  | 0, _, _, _, _, _, _, _ => none
  | n + 1, l1, z6, z7, s8, z9, z10, l11 =>
    (if z7 < z6 then getF l1 z7 fun x12 => ds_i64 x12 fun z13 => bO5 (F54 n z13 s8 z9 z10 l11) fun b14 s15 z16 z17 l18 => (if b14 = true then some (z7, s15, z16, z17, l18) else letF (IntKind.wrap .i64 (z7 + 1)) fun z19 => L73_1 n l1 z6 z19 s15 z16 z17 l18) else some ((-1 : Int), s8, z9, z10, l11))
def F73 (n : Nat) (l1 : List D) (s2 : ByteArray) (z3 : Int) (z4 : Int) (l5 : List D) : Option (Int × ByteArray × Int × Int × List D) :=
  lenF l1 fun z6 => L73_1 n l1 z6 (0 : Int) s2 z3 z4 l5
set_option maxRecDepth 100000 in
set_option maxHeartbeats 40000000 in
theorem T73 (n : Nat) : ∀ ⦃l1 : List D⦄ ⦃s2 : ByteArray⦄ ⦃z3 : Int⦄ ⦃z4 : Int⦄ ⦃l5 : List D⦄ ⦃r1 : Int⦄ ⦃r2 : ByteArray⦄ ⦃r3 : Int⦄ ⦃r4 : Int⦄ ⦃r5 : List D⦄, F73 n l1 s2 z3 z4 l5 = some (r1, r2, r3, r4, r5) →
    Trip Tryd.prog inv 73 [.d (.list false 1 l1), .c (.fn 54 [.ext 0])] [.cells [.d (.str s2), .d (.int .i64 z3), .d (.int .i64 z4), .d (.list true 9 l5)]] (.v (.d (.int .i64 r1))) [.cells [.d (.str r2), .d (.int .i64 r3), .d (.int .i64 r4), .d (.list true 9 r5)]] [] := by
  intro l1 s2 z3 z4 l5 r1 r2 r3 r4 r5 h
  unfold F73 at h
  refine Trip.of tab_ok tab_one fol Tryd.func73 rfl (by kernel_rfl) rfl rfl rfl (fun M hM hI => ?_)
  try cbv
  refine seq_go ?_
  try cbv
  refine seq_go ?_
  try cbv
  refine seq_go ?_
  try cbv
  replace h := lenF_inv M h
  obtain ⟨z6, hz, h⟩ := h
  refine ⟨z6, hz, ?_⟩
  clear hz
  try cbv
  refine loop_inv (T := Nat × Int × ByteArray × Int × Int × List D) [0, 1, 4, 7, 8] [.ext 0] 128 (fun t => ⟨[(0, .v (.d (.list false 1 l1))), (1, .v (.c (.fn 54 [.ext 0]))), (4, .v (.d (.int .i64 0))), (7, .v (.d (.int .i64 z6))), (8, .v (.d (.int .i64 t.2.1)))], [(.ext 0, .cells [.d (.str t.2.2.1), .d (.int .i64 t.2.2.2.1), .d (.int .i64 t.2.2.2.2.1), .d (.list true 9 t.2.2.2.2.2)])], 128⟩)
    (fun t => t.1 ≤ n ∧ L73_1 t.1 l1 z6 t.2.1 t.2.2.1 t.2.2.2.1 t.2.2.2.2.1 t.2.2.2.2.2 = some (r1, r2, r3, r4, r5)) (fun t => t.1) (n, ((0 : Int), s2, z3, z4, l5)) ⟨Nat.le_refl _, h⟩ (by cbv) ?_
  clear h
  rintro ⟨m1, z7, s8, z9, z10, l11⟩ ⟨hm1, h⟩
  replace hm1 : m1 ≤ n := hm1
  cases m1 with
  | zero =>
    replace h : L73_1 0 l1 z6 z7 s8 z9 z10 l11 = some (r1, r2, r3, r4, r5) := h
    rw [L73_1] at h
    cases h
  | succ m1 =>
    replace h : L73_1 (m1 + 1) l1 z6 z7 s8 z9 z10 l11 = some (r1, r2, r3, r4, r5) := h
    rw [L73_1] at h
    try cbv
    refine seq_go ?_
    try cbv
    refine splitL (fun e => ?_) (fun e => ?_)
    · replace h := ite_t e h
      clear e
      try cbv
      refine seq_go ?_
      try cbv
      refine seq_go ?_
      try cbv
      refine seq_go ?_
      try cbv
      refine seq_go ?_
      try cbv
      replace h := getF_inv h
      obtain ⟨x12, ⟨hx0, hx⟩, h⟩ := h
      refine ⟨x12, hx0, hx, ?_⟩
      clear hx0 hx
      replace h := ds_i64_inv h
      obtain ⟨z13, rfl, h⟩ := h
      try cbv
      replace h := bO5_inv h
      obtain ⟨b14, s15, z16, z17, l18, hr, h⟩ := h
      refine call_go rfl rfl ?_
      try cbv
      refine call_with hM hI [.ext 0] (T54 _ hr) rfl (by simp) ⟨rfl, trivial⟩ ⟨trivial, trivial⟩ (by simp) ?_
      clear hr
      try cbv
      cases b14
      · replace h := ite_f Bool.false_ne_true h
        try cbv
        replace h := letF_inv h
        obtain ⟨z19, hz, h⟩ := h
        refine ⟨z19, hz, ?_⟩
        clear hz
        try cbv
        exact loop_next (m1, (z19, s15, z16, z17, l18)) [0, 1, 4, 7, 8] [.ext 0] 128 ⟨by omega, h⟩ (Nat.lt_succ_of_le (by omega)) (by cbv)
      · replace h := ite_t rfl h
        try cbv
        refine seq_go ?_
        try cbv
        obtain ⟨rfl, rfl, rfl, rfl, rfl⟩ := inj5 h
        refine fin_go ?_
        try cbv
        exact ⟨[], rfl, rfl, ⟨rfl, trivial⟩, trivial, trivial⟩
    · replace h := ite_f (Int.not_lt.2 e) h
      clear e
      try cbv
      refine seq_go ?_
      try cbv
      refine seq_go ?_
      try cbv
      obtain ⟨rfl, rfl, rfl, rfl, rfl⟩ := inj5 h
      refine fin_go ?_
      try cbv
      exact ⟨[], rfl, rfl, ⟨rfl, trivial⟩, trivial, trivial⟩
end Go.Proofs.YtjobleemmjjocaaDoor
end

set_option linter.unusedVariables false
noncomputable section
namespace Go.Proofs.YtjobleemmjjocaaDoor
open Go Go.AM
def F57 (n : Nat) (l1 : List D) (s2 : ByteArray) (z3 : Int) (z4 : Int) (l5 : List D) : Option (Bool × ByteArray × Int × Int × List D) :=
  bO5 (F73 n l1 s2 z3 z4 l5) fun z6 s7 z8 z9 l10 => (if (0 : Int) ≤ z6 then some (true, s7, z8, z9, l10) else some (false, s7, z8, z9, l10))
set_option maxRecDepth 100000 in
set_option maxHeartbeats 40000000 in
theorem T57 (n : Nat) : ∀ ⦃l1 : List D⦄ ⦃s2 : ByteArray⦄ ⦃z3 : Int⦄ ⦃z4 : Int⦄ ⦃l5 : List D⦄ ⦃r1 : Bool⦄ ⦃r2 : ByteArray⦄ ⦃r3 : Int⦄ ⦃r4 : Int⦄ ⦃r5 : List D⦄, F57 n l1 s2 z3 z4 l5 = some (r1, r2, r3, r4, r5) →
    Trip Tryd.prog inv 57 [.d (.list false 1 l1), .c (.fn 54 [.ext 0])] [.cells [.d (.str s2), .d (.int .i64 z3), .d (.int .i64 z4), .d (.list true 9 l5)]] (.v (.d (.bool r1))) [.cells [.d (.str r2), .d (.int .i64 r3), .d (.int .i64 r4), .d (.list true 9 r5)]] [] := by
  intro l1 s2 z3 z4 l5 r1 r2 r3 r4 r5 h
  unfold F57 at h
  refine Trip.of tab_ok tab_one fol Tryd.func57 rfl (by kernel_rfl) rfl rfl rfl (fun M hM hI => ?_)
  try cbv
  refine seq_go ?_
  try cbv
  refine seq_go ?_
  try cbv
  replace h := bO5_inv h
  obtain ⟨z6, s7, z8, z9, l10, hr, h⟩ := h
  refine call_go rfl rfl ?_
  try cbv
  refine call_with hM hI [.ext 0] (T73 _ hr) rfl (by simp) ⟨rfl, trivial⟩ ⟨trivial, trivial⟩ (by simp) ?_
  clear hr
  try cbv
  refine splitLe (fun e => ?_) (fun e => ?_)
  · replace h := ite_t e h
    clear e
    try cbv
    obtain ⟨rfl, rfl, rfl, rfl, rfl⟩ := inj5 h
    refine fin_go ?_
    try cbv
    exact ⟨[], rfl, rfl, ⟨rfl, trivial⟩, trivial, trivial⟩
  · replace h := ite_f (Int.not_le.2 e) h
    clear e
    try cbv
    obtain ⟨rfl, rfl, rfl, rfl, rfl⟩ := inj5 h
    refine fin_go ?_
    try cbv
    exact ⟨[], rfl, rfl, ⟨rfl, trivial⟩, trivial, trivial⟩
end Go.Proofs.YtjobleemmjjocaaDoor
end

set_option linter.unusedVariables false
noncomputable section
namespace Go.Proofs.YtjobleemmjjocaaDoor
open Go Go.AM
def L84_1 : Nat → (List D) → Int → Int → Int → Option (Int)
  | 0, _, _, _, _ => none
  | n + 1, l1, z2, z3, z4 =>
    (if z4 < z3 then getF l1 z4 fun x5 => ds_i64 x5 fun z6 => (if z2 = z6 then some z4 else letF (IntKind.wrap .i64 (z4 + 1)) fun z7 => L84_1 n l1 z2 z3 z7) else some (-1 : Int))
def F84 (n : Nat) (l1 : List D) (z2 : Int) : Option (Int) :=
  lenF l1 fun z3 => L84_1 n l1 z2 z3 (0 : Int)
set_option maxRecDepth 100000 in
set_option maxHeartbeats 40000000 in
theorem T84 (n : Nat) : ∀ ⦃l1 : List D⦄ ⦃z2 : Int⦄ ⦃r1 : Int⦄, F84 n l1 z2 = some r1 →
    Trip Tryd.prog inv 84 [.d (.list false 1 l1), .d (.int .i64 z2)] [] (.v (.d (.int .i64 r1))) [] [] := by
  intro l1 z2 r1 h
  unfold F84 at h
  refine Trip.of tab_ok tab_one fol Tryd.func84 rfl (by kernel_rfl) rfl rfl rfl (fun M hM hI => ?_)
  try cbv
  refine seq_go ?_
  try cbv
  refine seq_go ?_
  try cbv
  refine seq_go ?_
  try cbv
  replace h := lenF_inv M h
  obtain ⟨z3, hz, h⟩ := h
  refine ⟨z3, hz, ?_⟩
  clear hz
  try cbv
  refine loop_inv (T := Nat × Int) [0, 1, 4, 7, 8] [] 128 (fun t => ⟨[(0, .v (.d (.list false 1 l1))), (1, .v (.d (.int .i64 z2))), (4, .v (.d (.int .i64 0))), (7, .v (.d (.int .i64 z3))), (8, .v (.d (.int .i64 t.2)))], [], 128⟩)
    (fun t => t.1 ≤ n ∧ L84_1 t.1 l1 z2 z3 t.2 = some r1) (fun t => t.1) (n, (0 : Int)) ⟨Nat.le_refl _, h⟩ (by cbv) ?_
  clear h
  rintro ⟨m1, z4⟩ ⟨hm1, h⟩
  replace hm1 : m1 ≤ n := hm1
  cases m1 with
  | zero =>
    replace h : L84_1 0 l1 z2 z3 z4 = some r1 := h
    rw [L84_1] at h
    cases h
  | succ m1 =>
    replace h : L84_1 (m1 + 1) l1 z2 z3 z4 = some r1 := h
    rw [L84_1] at h
    try cbv
    refine seq_go ?_
    try cbv
    refine splitL (fun e => ?_) (fun e => ?_)
    · replace h := ite_t e h
      clear e
      try cbv
      refine seq_go ?_
      try cbv
      refine seq_go ?_
      try cbv
      refine seq_go ?_
      try cbv
      refine seq_go ?_
      try cbv
      replace h := getF_inv h
      obtain ⟨x5, ⟨hx0, hx⟩, h⟩ := h
      refine ⟨x5, hx0, hx, ?_⟩
      clear hx0 hx
      replace h := ds_i64_inv h
      obtain ⟨z6, rfl, h⟩ := h
      try cbv
      refine splitI (fun e => ?_) (fun e => ?_)
      · replace h := ite_t e h
        clear e
        try cbv
        refine seq_go ?_
        try cbv
        obtain rfl := Option.some.inj h
        refine fin_go ?_
        try cbv
        exact ⟨[], rfl, rfl, trivial, trivial, trivial⟩
      · replace h := ite_f e h
        clear e
        try cbv
        replace h := letF_inv h
        obtain ⟨z7, hz, h⟩ := h
        refine ⟨z7, hz, ?_⟩
        clear hz
        try cbv
        exact loop_next (m1, z7) [0, 1, 4, 7, 8] [] 128 ⟨by omega, h⟩ (Nat.lt_succ_of_le (by omega)) (by cbv)
    · replace h := ite_f (Int.not_lt.2 e) h
      clear e
      try cbv
      refine seq_go ?_
      try cbv
      refine seq_go ?_
      try cbv
      obtain rfl := Option.some.inj h
      refine fin_go ?_
      try cbv
      exact ⟨[], rfl, rfl, trivial, trivial, trivial⟩
end Go.Proofs.YtjobleemmjjocaaDoor
end

set_option linter.unusedVariables false
noncomputable section
namespace Go.Proofs.YtjobleemmjjocaaDoor
open Go Go.AM
def F74 (n : Nat) (l1 : List D) (z2 : Int) : Option (Bool) :=
  bO1 (F84 n l1 z2) fun z3 => (if (0 : Int) ≤ z3 then some true else some false)
set_option maxRecDepth 100000 in
set_option maxHeartbeats 40000000 in
theorem T74 (n : Nat) : ∀ ⦃l1 : List D⦄ ⦃z2 : Int⦄ ⦃r1 : Bool⦄, F74 n l1 z2 = some r1 →
    Trip Tryd.prog inv 74 [.d (.list false 1 l1), .d (.int .i64 z2)] [] (.v (.d (.bool r1))) [] [] := by
  intro l1 z2 r1 h
  unfold F74 at h
  refine Trip.of tab_ok tab_one fol Tryd.func74 rfl (by kernel_rfl) rfl rfl rfl (fun M hM hI => ?_)
  try cbv
  refine seq_go ?_
  try cbv
  refine seq_go ?_
  try cbv
  replace h := bO1_inv h
  obtain ⟨z3, hr, h⟩ := h
  refine call_go rfl rfl ?_
  try cbv
  refine call_pure hM hI (T84 _ hr) rfl ?_
  clear hr
  try cbv
  refine splitLe (fun e => ?_) (fun e => ?_)
  · replace h := ite_t e h
    clear e
    try cbv
    obtain rfl := Option.some.inj h
    refine fin_go ?_
    try cbv
    exact ⟨[], rfl, rfl, trivial, trivial, trivial⟩
  · replace h := ite_f (Int.not_le.2 e) h
    clear e
    try cbv
    obtain rfl := Option.some.inj h
    refine fin_go ?_
    try cbv
    exact ⟨[], rfl, rfl, trivial, trivial, trivial⟩
end Go.Proofs.YtjobleemmjjocaaDoor
end

set_option linter.unusedVariables false
noncomputable section
namespace Go.Proofs.YtjobleemmjjocaaDoor
open Go Go.AM
def F58 (n : Nat) (l1 : List D) (z2 : Int) (l3 : List D) (s4 : ByteArray) (z5 : Int) (z6 : Int) (l7 : List D) (s8 : ByteArray) (z9 : Int) (z10 : Int) (b11 : Bool) (b12 : Bool) (b13 : Bool) (b14 : Bool) (l15 : List D) (z16 : Int) (z17 : Int) (z18 : Int) (z19 : Int) (l20 : List D) (l21 : List D) (z22 : Int) (s23 : ByteArray) (l24 : List D) (z25 : Int) (z26 : Int) : Option (Bool) :=
  (if z25 = (0 : Int) then (if z26 = (0 : Int) then some true else some false) else (if z25 = (1 : Int) then (if (0 : Int) ≤ z26 then (if z26 < z6 then some true else some false) else some false) else (if z25 = (2 : Int) then (if (0 : Int) ≤ z26 then lenF l7 fun z27 => (if z26 ≤ z27 then some true else some false) else some false) else (if z25 = (3 : Int) then (if (0 : Int) ≤ z26 then lenF l1 fun z28 => (if z26 < z28 then some true else some false) else some false) else (if z25 = (4 : Int) then bO1 (F74 n l15 z26) fun b29 => some b29 else (if z25 = (5 : Int) then (if (0 : Int) ≤ z17 then lenF l1 fun z30 => (if z17 < z30 then getF l1 z17 fun x31 => ds_t56 x31 fun s32 z33 z34 l35 => (if z26 = z33 then some true else some false) else some false) else some false) else (if z25 = (6 : Int) then (if z26 = (0 : Int) then some true else (if z26 = (1 : Int) then some true else some false)) else (if (0 : Int) ≤ z26 then (if z26 < (6 : Int) then some true else (if z26 = (6 : Int) then (if z16 = (12 : Int) then some false else some true) else some false)) else some false))))))))
set_option maxRecDepth 100000 in
set_option maxHeartbeats 40000000 in
theorem T58 (n : Nat) : ∀ ⦃l1 : List D⦄ ⦃z2 : Int⦄ ⦃l3 : List D⦄ ⦃s4 : ByteArray⦄ ⦃z5 : Int⦄ ⦃z6 : Int⦄ ⦃l7 : List D⦄ ⦃s8 : ByteArray⦄ ⦃z9 : Int⦄ ⦃z10 : Int⦄ ⦃b11 : Bool⦄ ⦃b12 : Bool⦄ ⦃b13 : Bool⦄ ⦃b14 : Bool⦄ ⦃l15 : List D⦄ ⦃z16 : Int⦄ ⦃z17 : Int⦄ ⦃z18 : Int⦄ ⦃z19 : Int⦄ ⦃l20 : List D⦄ ⦃l21 : List D⦄ ⦃z22 : Int⦄ ⦃s23 : ByteArray⦄ ⦃l24 : List D⦄ ⦃z25 : Int⦄ ⦃z26 : Int⦄ ⦃r1 : Bool⦄, F58 n l1 z2 l3 s4 z5 z6 l7 s8 z9 z10 b11 b12 b13 b14 l15 z16 z17 z18 z19 l20 l21 z22 s23 l24 z25 z26 = some r1 →
    Trip Tryd.prog inv 58 [.d (.agg [.list true 4 l1, .int .i64 z2, .list true 16 l3]), .d (.agg [.str s4, .int .i64 z5, .int .i64 z6, .list true 9 l7]), .d (.agg [.str s8, .int .i64 z9, .int .i64 z10, .bool b11, .bool b12, .bool b13, .bool b14, .list false 1 l15]), .d (.agg [.int .u8 z16, .int .i64 z17, .int .i64 z18, .int .i64 z19, .list false 1 l20, .list false 1 l21, .int .i64 z22, .str s23, .list false 1 l24]), .d (.int .i64 z25), .d (.int .i64 z26)] [] (.v (.d (.bool r1))) [] [] := by
  intro l1 z2 l3 s4 z5 z6 l7 s8 z9 z10 b11 b12 b13 b14 l15 z16 z17 z18 z19 l20 l21 z22 s23 l24 z25 z26 r1 h
  unfold F58 at h
  refine Trip.of tab_ok tab_one fol Tryd.func58 rfl (by kernel_rfl) rfl rfl rfl (fun M hM hI => ?_)
  try cbv
  refine seq_go ?_
  try cbv
  refine seq_go ?_
  try cbv
  refine seq_go ?_
  try cbv
  refine seq_go ?_
  try cbv
  refine splitI (fun e => ?_) (fun e => ?_)
  · replace h := ite_t e h
    clear e
    try cbv
    refine seq_go ?_
    try cbv
    refine splitI (fun e => ?_) (fun e => ?_)
    · replace h := ite_t e h
      clear e
      try cbv
      obtain rfl := Option.some.inj h
      refine fin_go ?_
      try cbv
      exact ⟨[], rfl, rfl, trivial, trivial, trivial⟩
    · replace h := ite_f e h
      clear e
      try cbv
      obtain rfl := Option.some.inj h
      refine fin_go ?_
      try cbv
      exact ⟨[], rfl, rfl, trivial, trivial, trivial⟩
  · replace h := ite_f e h
    clear e
    try cbv
    refine seq_go ?_
    try cbv
    refine splitI (fun e => ?_) (fun e => ?_)
    · replace h := ite_t e h
      clear e
      try cbv
      refine seq_go ?_
      try cbv
      refine splitLe (fun e => ?_) (fun e => ?_)
      · replace h := ite_t e h
        clear e
        try cbv
        refine splitL (fun e => ?_) (fun e => ?_)
        · replace h := ite_t e h
          clear e
          try cbv
          obtain rfl := Option.some.inj h
          refine fin_go ?_
          try cbv
          exact ⟨[], rfl, rfl, trivial, trivial, trivial⟩
        · replace h := ite_f (Int.not_lt.2 e) h
          clear e
          try cbv
          obtain rfl := Option.some.inj h
          refine fin_go ?_
          try cbv
          exact ⟨[], rfl, rfl, trivial, trivial, trivial⟩
      · replace h := ite_f (Int.not_le.2 e) h
        clear e
        try cbv
        obtain rfl := Option.some.inj h
        refine fin_go ?_
        try cbv
        exact ⟨[], rfl, rfl, trivial, trivial, trivial⟩
    · replace h := ite_f e h
      clear e
      try cbv
      refine seq_go ?_
      try cbv
      refine splitI (fun e => ?_) (fun e => ?_)
      · replace h := ite_t e h
        clear e
        try cbv
        refine seq_go ?_
        try cbv
        refine splitLe (fun e => ?_) (fun e => ?_)
        · replace h := ite_t e h
          clear e
          try cbv
          replace h := lenF_inv M h
          obtain ⟨z27, hz, h⟩ := h
          refine ⟨z27, hz, ?_⟩
          clear hz
          try cbv
          refine splitLe (fun e => ?_) (fun e => ?_)
          · replace h := ite_t e h
            clear e
            try cbv
            obtain rfl := Option.some.inj h
            refine fin_go ?_
            try cbv
            exact ⟨[], rfl, rfl, trivial, trivial, trivial⟩
          · replace h := ite_f (Int.not_le.2 e) h
            clear e
            try cbv
            obtain rfl := Option.some.inj h
            refine fin_go ?_
            try cbv
            exact ⟨[], rfl, rfl, trivial, trivial, trivial⟩
        · replace h := ite_f (Int.not_le.2 e) h
          clear e
          try cbv
          obtain rfl := Option.some.inj h
          refine fin_go ?_
          try cbv
          exact ⟨[], rfl, rfl, trivial, trivial, trivial⟩
      · replace h := ite_f e h
        clear e
        try cbv
        refine seq_go ?_
        try cbv
        refine splitI (fun e => ?_) (fun e => ?_)
        · replace h := ite_t e h
          clear e
          try cbv
          refine seq_go ?_
          try cbv
          refine splitLe (fun e => ?_) (fun e => ?_)
          · replace h := ite_t e h
            clear e
            try cbv
            replace h := lenF_inv M h
            obtain ⟨z28, hz, h⟩ := h
            refine ⟨z28, hz, ?_⟩
            clear hz
            try cbv
            refine splitL (fun e => ?_) (fun e => ?_)
            · replace h := ite_t e h
              clear e
              try cbv
              obtain rfl := Option.some.inj h
              refine fin_go ?_
              try cbv
              exact ⟨[], rfl, rfl, trivial, trivial, trivial⟩
            · replace h := ite_f (Int.not_lt.2 e) h
              clear e
              try cbv
              obtain rfl := Option.some.inj h
              refine fin_go ?_
              try cbv
              exact ⟨[], rfl, rfl, trivial, trivial, trivial⟩
          · replace h := ite_f (Int.not_le.2 e) h
            clear e
            try cbv
            obtain rfl := Option.some.inj h
            refine fin_go ?_
            try cbv
            exact ⟨[], rfl, rfl, trivial, trivial, trivial⟩
        · replace h := ite_f e h
          clear e
          try cbv
          refine seq_go ?_
          try cbv
          refine splitI (fun e => ?_) (fun e => ?_)
          · replace h := ite_t e h
            clear e
            try cbv
            refine seq_go ?_
            try cbv
            replace h := bO1_inv h
            obtain ⟨b29, hr, h⟩ := h
            refine call_go rfl rfl ?_
            try cbv
            refine call_pure hM hI (T74 _ hr) rfl ?_
            clear hr
            try cbv
            obtain rfl := Option.some.inj h
            refine fin_go ?_
            try cbv
            exact ⟨[], rfl, rfl, trivial, trivial, trivial⟩
          · replace h := ite_f e h
            clear e
            try cbv
            refine seq_go ?_
            try cbv
            refine splitI (fun e => ?_) (fun e => ?_)
            · replace h := ite_t e h
              clear e
              try cbv
              refine seq_go ?_
              try cbv
              refine splitLe (fun e => ?_) (fun e => ?_)
              · replace h := ite_t e h
                clear e
                try cbv
                replace h := lenF_inv M h
                obtain ⟨z30, hz, h⟩ := h
                refine ⟨z30, hz, ?_⟩
                clear hz
                try cbv
                refine splitL (fun e => ?_) (fun e => ?_)
                · replace h := ite_t e h
                  clear e
                  try cbv
                  replace h := getF_inv h
                  obtain ⟨x31, ⟨hx0, hx⟩, h⟩ := h
                  refine ⟨x31, hx0, hx, ?_⟩
                  clear hx0 hx
                  replace h := ds_t56_inv h
                  obtain ⟨s32, z33, z34, l35, rfl, h⟩ := h
                  try cbv
                  refine splitI (fun e => ?_) (fun e => ?_)
                  · replace h := ite_t e h
                    clear e
                    try cbv
                    obtain rfl := Option.some.inj h
                    refine fin_go ?_
                    try cbv
                    exact ⟨[], rfl, rfl, trivial, trivial, trivial⟩
                  · replace h := ite_f e h
                    clear e
                    try cbv
                    obtain rfl := Option.some.inj h
                    refine fin_go ?_
                    try cbv
                    exact ⟨[], rfl, rfl, trivial, trivial, trivial⟩
                · replace h := ite_f (Int.not_lt.2 e) h
                  clear e
                  try cbv
                  obtain rfl := Option.some.inj h
                  refine fin_go ?_
                  try cbv
                  exact ⟨[], rfl, rfl, trivial, trivial, trivial⟩
              · replace h := ite_f (Int.not_le.2 e) h
                clear e
                try cbv
                obtain rfl := Option.some.inj h
                refine fin_go ?_
                try cbv
                exact ⟨[], rfl, rfl, trivial, trivial, trivial⟩
            · replace h := ite_f e h
              clear e
              try cbv
              refine seq_go ?_
              try cbv
              refine splitI (fun e => ?_) (fun e => ?_)
              · replace h := ite_t e h
                clear e
                try cbv
                refine seq_go ?_
                try cbv
                refine splitI (fun e => ?_) (fun e => ?_)
                · replace h := ite_t e h
                  clear e
                  try cbv
                  obtain rfl := Option.some.inj h
                  refine fin_go ?_
                  try cbv
                  exact ⟨[], rfl, rfl, trivial, trivial, trivial⟩
                · replace h := ite_f e h
                  clear e
                  try cbv
                  refine splitI (fun e => ?_) (fun e => ?_)
                  · replace h := ite_t e h
                    clear e
                    try cbv
                    obtain rfl := Option.some.inj h
                    refine fin_go ?_
                    try cbv
                    exact ⟨[], rfl, rfl, trivial, trivial, trivial⟩
                  · replace h := ite_f e h
                    clear e
                    try cbv
                    obtain rfl := Option.some.inj h
                    refine fin_go ?_
                    try cbv
                    exact ⟨[], rfl, rfl, trivial, trivial, trivial⟩
              · replace h := ite_f e h
                clear e
                try cbv
                refine seq_go ?_
                try cbv
                refine splitLe (fun e => ?_) (fun e => ?_)
                · replace h := ite_t e h
                  clear e
                  try cbv
                  refine splitL (fun e => ?_) (fun e => ?_)
                  · replace h := ite_t e h
                    clear e
                    try cbv
                    obtain rfl := Option.some.inj h
                    refine fin_go ?_
                    try cbv
                    exact ⟨[], rfl, rfl, trivial, trivial, trivial⟩
                  · replace h := ite_f (Int.not_lt.2 e) h
                    clear e
                    try cbv
                    refine splitI (fun e => ?_) (fun e => ?_)
                    · replace h := ite_t e h
                      clear e
                      try cbv
                      refine splitI (fun e => ?_) (fun e => ?_)
                      · replace h := ite_t e h
                        clear e
                        try cbv
                        obtain rfl := Option.some.inj h
                        refine fin_go ?_
                        try cbv
                        exact ⟨[], rfl, rfl, trivial, trivial, trivial⟩
                      · replace h := ite_f e h
                        clear e
                        try cbv
                        obtain rfl := Option.some.inj h
                        refine fin_go ?_
                        try cbv
                        exact ⟨[], rfl, rfl, trivial, trivial, trivial⟩
                    · replace h := ite_f e h
                      clear e
                      try cbv
                      obtain rfl := Option.some.inj h
                      refine fin_go ?_
                      try cbv
                      exact ⟨[], rfl, rfl, trivial, trivial, trivial⟩
                · replace h := ite_f (Int.not_le.2 e) h
                  clear e
                  try cbv
                  obtain rfl := Option.some.inj h
                  refine fin_go ?_
                  try cbv
                  exact ⟨[], rfl, rfl, trivial, trivial, trivial⟩
end Go.Proofs.YtjobleemmjjocaaDoor
end

set_option linter.unusedVariables false
noncomputable section
namespace Go.Proofs.YtjobleemmjjocaaDoor
open Go Go.AM
set_option maxHeartbeats 40000000 in
def F33 (n : Nat) (l1 : List D) (z2 : Int) (l3 : List D) (z4 : Int) (z5 : Int) (z6 : Int) (z7 : Int) (z8 : Int) (l9 : List D) (l10 : List D) (z11 : Int) (s12 : ByteArray) (l13 : List D) : Option (Int) :=
  bO9 (F51 n z5) fun s14 z15 z16 b17 b18 b19 b20 l21 b22 => (if b22 = true then (if z4 < (0 : Int) then some (170 : Int) else lenF l1 fun z23 => (if z23 ≤ z4 then some (170 : Int) else getF l1 z4 fun x24 => ds_t56 x24 fun s25 z26 z27 l28 => (if z8 = (0 : Int) then lenF l13 fun z29 => (if (0 : Int) < z29 then some (170 : Int) else bO1 (F55 n s14 z15 z16 b17 b18 b19 b20 l21 z5 z6 z7 z8 l9 l10 z11 s12 l13) fun b30 => (if b30 = true then (if s12 = ByteArray.empty then (if b20 = true then some (170 : Int) else lenF l10 fun z32 => (if (0 : Int) < z32 then (if b17 = true then lenF l10 fun z33 => (if (40 : Int) < z33 then some (170 : Int) else bO1 (F56 n l10) fun b34 => (if b34 = true then some (170 : Int) else lenF l9 fun z37 => (if (0 : Int) < z37 then (if b18 = true then lenF l9 fun z38 => (if (6 : Int) < z38 then some (170 : Int) else bO5 (F57 n l9 s25 z26 z27 l28) fun b39 s40 z41 z42 l43 => (if b39 = true then some (170 : Int) else bO1 (F58 n l1 z2 l3 s40 z41 z42 l43 s14 z15 z16 b17 b18 b19 b20 l21 z5 z6 z7 z8 l9 l10 z11 s12 l13 z15 z6) fun b50 => (if b50 = true then bO1 (F58 n l1 z2 l3 s40 z41 z42 l43 s14 z15 z16 b17 b18 b19 b20 l21 z5 z6 z7 z8 l9 l10 z11 s12 l13 z16 z7) fun b51 => (if b51 = true then some (0 : Int) else some (170 : Int)) else some (170 : Int)))) else some (170 : Int)) else lenF l9 fun z44 => (if (6 : Int) < z44 then some (170 : Int) else bO5 (F57 n l9 s25 z26 z27 l28) fun b45 s46 z47 z48 l49 => (if b45 = true then some (170 : Int) else bO1 (F58 n l1 z2 l3 s46 z47 z48 l49 s14 z15 z16 b17 b18 b19 b20 l21 z5 z6 z7 z8 l9 l10 z11 s12 l13 z15 z6) fun b52 => (if b52 = true then bO1 (F58 n l1 z2 l3 s46 z47 z48 l49 s14 z15 z16 b17 b18 b19 b20 l21 z5 z6 z7 z8 l9 l10 z11 s12 l13 z16 z7) fun b53 => (if b53 = true then some (0 : Int) else some (170 : Int)) else some (170 : Int))))))) else some (170 : Int)) else lenF l10 fun z35 => (if (40 : Int) < z35 then some (170 : Int) else bO1 (F56 n l10) fun b36 => (if b36 = true then some (170 : Int) else lenF l9 fun z54 => (if (0 : Int) < z54 then (if b18 = true then lenF l9 fun z55 => (if (6 : Int) < z55 then some (170 : Int) else bO5 (F57 n l9 s25 z26 z27 l28) fun b56 s57 z58 z59 l60 => (if b56 = true then some (170 : Int) else bO1 (F58 n l1 z2 l3 s57 z58 z59 l60 s14 z15 z16 b17 b18 b19 b20 l21 z5 z6 z7 z8 l9 l10 z11 s12 l13 z15 z6) fun b67 => (if b67 = true then bO1 (F58 n l1 z2 l3 s57 z58 z59 l60 s14 z15 z16 b17 b18 b19 b20 l21 z5 z6 z7 z8 l9 l10 z11 s12 l13 z16 z7) fun b68 => (if b68 = true then some (0 : Int) else some (170 : Int)) else some (170 : Int)))) else some (170 : Int)) else lenF l9 fun z61 => (if (6 : Int) < z61 then some (170 : Int) else bO5 (F57 n l9 s25 z26 z27 l28) fun b62 s63 z64 z65 l66 => (if b62 = true then some (170 : Int) else bO1 (F58 n l1 z2 l3 s63 z64 z65 l66 s14 z15 z16 b17 b18 b19 b20 l21 z5 z6 z7 z8 l9 l10 z11 s12 l13 z15 z6) fun b69 => (if b69 = true then bO1 (F58 n l1 z2 l3 s63 z64 z65 l66 s14 z15 z16 b17 b18 b19 b20 l21 z5 z6 z7 z8 l9 l10 z11 s12 l13 z16 z7) fun b70 => (if b70 = true then some (0 : Int) else some (170 : Int)) else some (170 : Int))))))))) else (if b20 = true then bO1 (F53 n s12) fun b31 => (if b31 = true then lenF l10 fun z71 => (if (0 : Int) < z71 then (if b17 = true then lenF l10 fun z72 => (if (40 : Int) < z72 then some (170 : Int) else bO1 (F56 n l10) fun b73 => (if b73 = true then some (170 : Int) else lenF l9 fun z76 => (if (0 : Int) < z76 then (if b18 = true then lenF l9 fun z77 => (if (6 : Int) < z77 then some (170 : Int) else bO5 (F57 n l9 s25 z26 z27 l28) fun b78 s79 z80 z81 l82 => (if b78 = true then some (170 : Int) else bO1 (F58 n l1 z2 l3 s79 z80 z81 l82 s14 z15 z16 b17 b18 b19 b20 l21 z5 z6 z7 z8 l9 l10 z11 s12 l13 z15 z6) fun b89 => (if b89 = true then bO1 (F58 n l1 z2 l3 s79 z80 z81 l82 s14 z15 z16 b17 b18 b19 b20 l21 z5 z6 z7 z8 l9 l10 z11 s12 l13 z16 z7) fun b90 => (if b90 = true then some (0 : Int) else some (170 : Int)) else some (170 : Int)))) else some (170 : Int)) else lenF l9 fun z83 => (if (6 : Int) < z83 then some (170 : Int) else bO5 (F57 n l9 s25 z26 z27 l28) fun b84 s85 z86 z87 l88 => (if b84 = true then some (170 : Int) else bO1 (F58 n l1 z2 l3 s85 z86 z87 l88 s14 z15 z16 b17 b18 b19 b20 l21 z5 z6 z7 z8 l9 l10 z11 s12 l13 z15 z6) fun b91 => (if b91 = true then bO1 (F58 n l1 z2 l3 s85 z86 z87 l88 s14 z15 z16 b17 b18 b19 b20 l21 z5 z6 z7 z8 l9 l10 z11 s12 l13 z16 z7) fun b92 => (if b92 = true then some (0 : Int) else some (170 : Int)) else some (170 : Int))))))) else some (170 : Int)) else lenF l10 fun z74 => (if (40 : Int) < z74 then some (170 : Int) else bO1 (F56 n l10) fun b75 => (if b75 = true then some (170 : Int) else lenF l9 fun z93 => (if (0 : Int) < z93 then (if b18 = true then lenF l9 fun z94 => (if (6 : Int) < z94 then some (170 : Int) else bO5 (F57 n l9 s25 z26 z27 l28) fun b95 s96 z97 z98 l99 => (if b95 = true then some (170 : Int) else bO1 (F58 n l1 z2 l3 s96 z97 z98 l99 s14 z15 z16 b17 b18 b19 b20 l21 z5 z6 z7 z8 l9 l10 z11 s12 l13 z15 z6) fun b106 => (if b106 = true then bO1 (F58 n l1 z2 l3 s96 z97 z98 l99 s14 z15 z16 b17 b18 b19 b20 l21 z5 z6 z7 z8 l9 l10 z11 s12 l13 z16 z7) fun b107 => (if b107 = true then some (0 : Int) else some (170 : Int)) else some (170 : Int)))) else some (170 : Int)) else lenF l9 fun z100 => (if (6 : Int) < z100 then some (170 : Int) else bO5 (F57 n l9 s25 z26 z27 l28) fun b101 s102 z103 z104 l105 => (if b101 = true then some (170 : Int) else bO1 (F58 n l1 z2 l3 s102 z103 z104 l105 s14 z15 z16 b17 b18 b19 b20 l21 z5 z6 z7 z8 l9 l10 z11 s12 l13 z15 z6) fun b108 => (if b108 = true then bO1 (F58 n l1 z2 l3 s102 z103 z104 l105 s14 z15 z16 b17 b18 b19 b20 l21 z5 z6 z7 z8 l9 l10 z11 s12 l13 z16 z7) fun b109 => (if b109 = true then some (0 : Int) else some (170 : Int)) else some (170 : Int)))))))) else some (170 : Int)) else some (170 : Int))) else some (170 : Int))) else some (170 : Int)))) else some (170 : Int))
set_option maxRecDepth 100000 in
set_option maxHeartbeats 40000000 in
theorem T33 (n : Nat) : ∀ ⦃l1 : List D⦄ ⦃z2 : Int⦄ ⦃l3 : List D⦄ ⦃z4 : Int⦄ ⦃z5 : Int⦄ ⦃z6 : Int⦄ ⦃z7 : Int⦄ ⦃z8 : Int⦄ ⦃l9 : List D⦄ ⦃l10 : List D⦄ ⦃z11 : Int⦄ ⦃s12 : ByteArray⦄ ⦃l13 : List D⦄ ⦃r1 : Int⦄, F33 n l1 z2 l3 z4 z5 z6 z7 z8 l9 l10 z11 s12 l13 = some r1 →
    Trip Tryd.prog inv 33 [.d (.agg [.list true 4 l1, .int .i64 z2, .list true 16 l3]), .d (.int .i64 z4), .d (.agg [.int .u8 z5, .int .i64 z6, .int .i64 z7, .int .i64 z8, .list false 1 l9, .list false 1 l10, .int .i64 z11, .str s12, .list false 1 l13])] [] (.v (.d (.int .i64 r1))) [] [] := by
  intro l1 z2 l3 z4 z5 z6 z7 z8 l9 l10 z11 s12 l13 r1 h
  unfold F33 at h
  refine Trip.of tab_ok tab_one fol Tryd.func33 rfl (by kernel_rfl) rfl rfl rfl (fun M hM hI => ?_)
  try cbv
  refine seq_go ?_
  try cbv
  refine seq_go ?_
  try cbv
  replace h := bO9_inv h
  obtain ⟨s14, z15, z16, b17, b18, b19, b20, l21, b22, hr, h⟩ := h
  refine call_go rfl rfl ?_
  try cbv
  refine call_pure hM hI (T51 _ hr) rfl ?_
  clear hr
  try cbv
  refine seq_go ?_
  try cbv
  refine seq_go ?_
  try cbv
  cases b22
  · replace h := ite_f Bool.false_ne_true h
    try cbv
    refine ⟨true, rfl, ?_⟩
    try cbv
    refine seq_go ?_
    try cbv
    obtain rfl := Option.some.inj h
    refine fin_go ?_
    try cbv
    exact ⟨[], rfl, rfl, trivial, trivial, trivial⟩
  · replace h := ite_t rfl h
    try cbv
    refine ⟨false, rfl, ?_⟩
    try cbv
    refine splitL (fun e => ?_) (fun e => ?_)
    · replace h := ite_t e h
      clear e
      try cbv
      refine seq_go ?_
      try cbv
      obtain rfl := Option.some.inj h
      refine fin_go ?_
      try cbv
      exact ⟨[], rfl, rfl, trivial, trivial, trivial⟩
    · replace h := ite_f (Int.not_lt.2 e) h
      clear e
      try cbv
      replace h := lenF_inv M h
      obtain ⟨z23, hz, h⟩ := h
      refine ⟨z23, hz, ?_⟩
      clear hz
      try cbv
      refine splitLe (fun e => ?_) (fun e => ?_)
      · replace h := ite_t e h
        clear e
        try cbv
        refine seq_go ?_
        try cbv
        obtain rfl := Option.some.inj h
        refine fin_go ?_
        try cbv
        exact ⟨[], rfl, rfl, trivial, trivial, trivial⟩
      · replace h := ite_f (Int.not_le.2 e) h
        clear e
        try cbv
        refine seq_go ?_
        try cbv
        replace h := getF_inv h
        obtain ⟨x24, ⟨hx0, hx⟩, h⟩ := h
        refine ⟨x24, hx0, hx, ?_⟩
        clear hx0 hx
        replace h := ds_t56_inv h
        obtain ⟨s25, z26, z27, l28, rfl, h⟩ := h
        try cbv
        refine seq_go ?_
        try cbv
        refine seq_go ?_
        try cbv
        refine seq_go ?_
        try cbv
        refine seq_go ?_
        try cbv
        refine splitI (fun e => ?_) (fun e => ?_)
        · replace h := ite_t e h
          clear e
          try cbv
          replace h := lenF_inv M h
          obtain ⟨z29, hz, h⟩ := h
          refine ⟨z29, hz, ?_⟩
          clear hz
          try cbv
          refine splitL (fun e => ?_) (fun e => ?_)
          · replace h := ite_t e h
            clear e
            try cbv
            refine seq_go ?_
            try cbv
            obtain rfl := Option.some.inj h
            refine fin_go ?_
            try cbv
            exact ⟨[], rfl, rfl, trivial, trivial, trivial⟩
          · replace h := ite_f (Int.not_lt.2 e) h
            clear e
            try cbv
            replace h := bO1_inv h
            obtain ⟨b30, hr, h⟩ := h
            refine call_go rfl rfl ?_
            try cbv
            refine call_pure hM hI (T55 _ hr) rfl ?_
            clear hr
            try cbv
            cases b30
            · replace h := ite_f Bool.false_ne_true h
              try cbv
              refine ⟨true, rfl, ?_⟩
              try cbv
              refine seq_go ?_
              try cbv
              obtain rfl := Option.some.inj h
              refine fin_go ?_
              try cbv
              exact ⟨[], rfl, rfl, trivial, trivial, trivial⟩
            · replace h := ite_t rfl h
              try cbv
              refine ⟨false, rfl, ?_⟩
              try cbv
              refine splitS (fun e => ?_) (fun e => ?_)
              · replace h := ite_t (bytes_eq.1 e) h
                clear e
                try cbv
                cases b20
                · replace h := ite_f Bool.false_ne_true h
                  try cbv
                  refine ⟨false, rfl, ?_⟩
                  try cbv
                  refine seq_go ?_
                  try cbv
                  replace h := lenF_inv M h
                  obtain ⟨z32, hz, h⟩ := h
                  refine ⟨z32, hz, ?_⟩
                  clear hz
                  try cbv
                  refine splitL (fun e => ?_) (fun e => ?_)
                  · replace h := ite_t e h
                    clear e
                    try cbv
                    cases b17
                    · replace h := ite_f Bool.false_ne_true h
                      try cbv
                      refine ⟨true, rfl, ?_⟩
                      try cbv
                      refine seq_go ?_
                      try cbv
                      obtain rfl := Option.some.inj h
                      refine fin_go ?_
                      try cbv
                      exact ⟨[], rfl, rfl, trivial, trivial, trivial⟩
                    · replace h := ite_t rfl h
                      try cbv
                      refine ⟨false, rfl, ?_⟩
                      try cbv
                      replace h := lenF_inv M h
                      obtain ⟨z33, hz, h⟩ := h
                      refine ⟨z33, hz, ?_⟩
                      clear hz
                      try cbv
                      refine splitL (fun e => ?_) (fun e => ?_)
                      · replace h := ite_t e h
                        clear e
                        try cbv
                        refine seq_go ?_
                        try cbv
                        obtain rfl := Option.some.inj h
                        refine fin_go ?_
                        try cbv
                        exact ⟨[], rfl, rfl, trivial, trivial, trivial⟩
                      · replace h := ite_f (Int.not_lt.2 e) h
                        clear e
                        try cbv
                        replace h := bO1_inv h
                        obtain ⟨b34, hr, h⟩ := h
                        refine call_go rfl rfl ?_
                        try cbv
                        refine call_pure hM hI (T56 _ hr) rfl ?_
                        clear hr
                        try cbv
                        cases b34
                        · replace h := ite_f Bool.false_ne_true h
                          try cbv
                          refine seq_go ?_
                          try cbv
                          replace h := lenF_inv M h
                          obtain ⟨z37, hz, h⟩ := h
                          refine ⟨z37, hz, ?_⟩
                          clear hz
                          try cbv
                          refine splitL (fun e => ?_) (fun e => ?_)
                          · replace h := ite_t e h
                            clear e
                            try cbv
                            cases b18
                            · replace h := ite_f Bool.false_ne_true h
                              try cbv
                              refine ⟨true, rfl, ?_⟩
                              try cbv
                              refine seq_go ?_
                              try cbv
                              obtain rfl := Option.some.inj h
                              refine fin_go ?_
                              try cbv
                              exact ⟨[], rfl, rfl, trivial, trivial, trivial⟩
                            · replace h := ite_t rfl h
                              try cbv
                              refine ⟨false, rfl, ?_⟩
                              try cbv
                              replace h := lenF_inv M h
                              obtain ⟨z38, hz, h⟩ := h
                              refine ⟨z38, hz, ?_⟩
                              clear hz
                              try cbv
                              refine splitL (fun e => ?_) (fun e => ?_)
                              · replace h := ite_t e h
                                clear e
                                try cbv
                                refine seq_go ?_
                                try cbv
                                obtain rfl := Option.some.inj h
                                refine fin_go ?_
                                try cbv
                                exact ⟨[], rfl, rfl, trivial, trivial, trivial⟩
                              · replace h := ite_f (Int.not_lt.2 e) h
                                clear e
                                try cbv
                                replace h := bO5_inv h
                                obtain ⟨b39, s40, z41, z42, l43, hr, h⟩ := h
                                refine call_go rfl rfl ?_
                                try cbv
                                refine call_with hM hI [.loc 960] (T57 _ hr) rfl (by simp) ⟨rfl, trivial⟩ ⟨trivial, trivial⟩ (by simp) ?_
                                clear hr
                                try cbv
                                cases b39
                                · replace h := ite_f Bool.false_ne_true h
                                  try cbv
                                  refine seq_go ?_
                                  try cbv
                                  replace h := bO1_inv h
                                  obtain ⟨b50, hr, h⟩ := h
                                  refine call_go rfl rfl ?_
                                  try cbv
                                  refine call_pure hM hI (T58 _ hr) rfl ?_
                                  clear hr
                                  try cbv
                                  cases b50
                                  · replace h := ite_f Bool.false_ne_true h
                                    try cbv
                                    refine ⟨true, rfl, ?_⟩
                                    try cbv
                                    refine seq_go ?_
                                    try cbv
                                    obtain rfl := Option.some.inj h
                                    refine fin_go ?_
                                    try cbv
                                    exact ⟨[], rfl, rfl, trivial, trivial, trivial⟩
                                  · replace h := ite_t rfl h
                                    try cbv
                                    refine ⟨false, rfl, ?_⟩
                                    try cbv
                                    replace h := bO1_inv h
                                    obtain ⟨b51, hr, h⟩ := h
                                    refine call_go rfl rfl ?_
                                    try cbv
                                    refine call_pure hM hI (T58 _ hr) rfl ?_
                                    clear hr
                                    try cbv
                                    cases b51
                                    · replace h := ite_f Bool.false_ne_true h
                                      try cbv
                                      refine ⟨true, rfl, ?_⟩
                                      try cbv
                                      refine seq_go ?_
                                      try cbv
                                      obtain rfl := Option.some.inj h
                                      refine fin_go ?_
                                      try cbv
                                      exact ⟨[], rfl, rfl, trivial, trivial, trivial⟩
                                    · replace h := ite_t rfl h
                                      try cbv
                                      refine ⟨false, rfl, ?_⟩
                                      try cbv
                                      refine seq_go ?_
                                      try cbv
                                      obtain rfl := Option.some.inj h
                                      refine fin_go ?_
                                      try cbv
                                      exact ⟨[], rfl, rfl, trivial, trivial, trivial⟩
                                · replace h := ite_t rfl h
                                  try cbv
                                  refine seq_go ?_
                                  try cbv
                                  obtain rfl := Option.some.inj h
                                  refine fin_go ?_
                                  try cbv
                                  exact ⟨[], rfl, rfl, trivial, trivial, trivial⟩
                          · replace h := ite_f (Int.not_lt.2 e) h
                            clear e
                            try cbv
                            replace h := lenF_inv M h
                            obtain ⟨z44, hz, h⟩ := h
                            refine ⟨z44, hz, ?_⟩
                            clear hz
                            try cbv
                            refine splitL (fun e => ?_) (fun e => ?_)
                            · replace h := ite_t e h
                              clear e
                              try cbv
                              refine seq_go ?_
                              try cbv
                              obtain rfl := Option.some.inj h
                              refine fin_go ?_
                              try cbv
                              exact ⟨[], rfl, rfl, trivial, trivial, trivial⟩
                            · replace h := ite_f (Int.not_lt.2 e) h
                              clear e
                              try cbv
                              replace h := bO5_inv h
                              obtain ⟨b45, s46, z47, z48, l49, hr, h⟩ := h
                              refine call_go rfl rfl ?_
                              try cbv
                              refine call_with hM hI [.loc 960] (T57 _ hr) rfl (by simp) ⟨rfl, trivial⟩ ⟨trivial, trivial⟩ (by simp) ?_
                              clear hr
                              try cbv
                              cases b45
                              · replace h := ite_f Bool.false_ne_true h
                                try cbv
                                refine seq_go ?_
                                try cbv
                                replace h := bO1_inv h
                                obtain ⟨b52, hr, h⟩ := h
                                refine call_go rfl rfl ?_
                                try cbv
                                refine call_pure hM hI (T58 _ hr) rfl ?_
                                clear hr
                                try cbv
                                cases b52
                                · replace h := ite_f Bool.false_ne_true h
                                  try cbv
                                  refine ⟨true, rfl, ?_⟩
                                  try cbv
                                  refine seq_go ?_
                                  try cbv
                                  obtain rfl := Option.some.inj h
                                  refine fin_go ?_
                                  try cbv
                                  exact ⟨[], rfl, rfl, trivial, trivial, trivial⟩
                                · replace h := ite_t rfl h
                                  try cbv
                                  refine ⟨false, rfl, ?_⟩
                                  try cbv
                                  replace h := bO1_inv h
                                  obtain ⟨b53, hr, h⟩ := h
                                  refine call_go rfl rfl ?_
                                  try cbv
                                  refine call_pure hM hI (T58 _ hr) rfl ?_
                                  clear hr
                                  try cbv
                                  cases b53
                                  · replace h := ite_f Bool.false_ne_true h
                                    try cbv
                                    refine ⟨true, rfl, ?_⟩
                                    try cbv
                                    refine seq_go ?_
                                    try cbv
                                    obtain rfl := Option.some.inj h
                                    refine fin_go ?_
                                    try cbv
                                    exact ⟨[], rfl, rfl, trivial, trivial, trivial⟩
                                  · replace h := ite_t rfl h
                                    try cbv
                                    refine ⟨false, rfl, ?_⟩
                                    try cbv
                                    refine seq_go ?_
                                    try cbv
                                    obtain rfl := Option.some.inj h
                                    refine fin_go ?_
                                    try cbv
                                    exact ⟨[], rfl, rfl, trivial, trivial, trivial⟩
                              · replace h := ite_t rfl h
                                try cbv
                                refine seq_go ?_
                                try cbv
                                obtain rfl := Option.some.inj h
                                refine fin_go ?_
                                try cbv
                                exact ⟨[], rfl, rfl, trivial, trivial, trivial⟩
                        · replace h := ite_t rfl h
                          try cbv
                          refine seq_go ?_
                          try cbv
                          obtain rfl := Option.some.inj h
                          refine fin_go ?_
                          try cbv
                          exact ⟨[], rfl, rfl, trivial, trivial, trivial⟩
                  · replace h := ite_f (Int.not_lt.2 e) h
                    clear e
                    try cbv
                    replace h := lenF_inv M h
                    obtain ⟨z35, hz, h⟩ := h
                    refine ⟨z35, hz, ?_⟩
                    clear hz
                    try cbv
                    refine splitL (fun e => ?_) (fun e => ?_)
                    · replace h := ite_t e h
                      clear e
                      try cbv
                      refine seq_go ?_
                      try cbv
                      obtain rfl := Option.some.inj h
                      refine fin_go ?_
                      try cbv
                      exact ⟨[], rfl, rfl, trivial, trivial, trivial⟩
                    · replace h := ite_f (Int.not_lt.2 e) h
                      clear e
                      try cbv
                      replace h := bO1_inv h
                      obtain ⟨b36, hr, h⟩ := h
                      refine call_go rfl rfl ?_
                      try cbv
                      refine call_pure hM hI (T56 _ hr) rfl ?_
                      clear hr
                      try cbv
                      cases b36
                      · replace h := ite_f Bool.false_ne_true h
                        try cbv
                        refine seq_go ?_
                        try cbv
                        replace h := lenF_inv M h
                        obtain ⟨z54, hz, h⟩ := h
                        refine ⟨z54, hz, ?_⟩
                        clear hz
                        try cbv
                        refine splitL (fun e => ?_) (fun e => ?_)
                        · replace h := ite_t e h
                          clear e
                          try cbv
                          cases b18
                          · replace h := ite_f Bool.false_ne_true h
                            try cbv
                            refine ⟨true, rfl, ?_⟩
                            try cbv
                            refine seq_go ?_
                            try cbv
                            obtain rfl := Option.some.inj h
                            refine fin_go ?_
                            try cbv
                            exact ⟨[], rfl, rfl, trivial, trivial, trivial⟩
                          · replace h := ite_t rfl h
                            try cbv
                            refine ⟨false, rfl, ?_⟩
                            try cbv
                            replace h := lenF_inv M h
                            obtain ⟨z55, hz, h⟩ := h
                            refine ⟨z55, hz, ?_⟩
                            clear hz
                            try cbv
                            refine splitL (fun e => ?_) (fun e => ?_)
                            · replace h := ite_t e h
                              clear e
                              try cbv
                              refine seq_go ?_
                              try cbv
                              obtain rfl := Option.some.inj h
                              refine fin_go ?_
                              try cbv
                              exact ⟨[], rfl, rfl, trivial, trivial, trivial⟩
                            · replace h := ite_f (Int.not_lt.2 e) h
                              clear e
                              try cbv
                              replace h := bO5_inv h
                              obtain ⟨b56, s57, z58, z59, l60, hr, h⟩ := h
                              refine call_go rfl rfl ?_
                              try cbv
                              refine call_with hM hI [.loc 960] (T57 _ hr) rfl (by simp) ⟨rfl, trivial⟩ ⟨trivial, trivial⟩ (by simp) ?_
                              clear hr
                              try cbv
                              cases b56
                              · replace h := ite_f Bool.false_ne_true h
                                try cbv
                                refine seq_go ?_
                                try cbv
                                replace h := bO1_inv h
                                obtain ⟨b67, hr, h⟩ := h
                                refine call_go rfl rfl ?_
                                try cbv
                                refine call_pure hM hI (T58 _ hr) rfl ?_
                                clear hr
                                try cbv
                                cases b67
                                · replace h := ite_f Bool.false_ne_true h
                                  try cbv
                                  refine ⟨true, rfl, ?_⟩
                                  try cbv
                                  refine seq_go ?_
                                  try cbv
                                  obtain rfl := Option.some.inj h
                                  refine fin_go ?_
                                  try cbv
                                  exact ⟨[], rfl, rfl, trivial, trivial, trivial⟩
                                · replace h := ite_t rfl h
                                  try cbv
                                  refine ⟨false, rfl, ?_⟩
                                  try cbv
                                  replace h := bO1_inv h
                                  obtain ⟨b68, hr, h⟩ := h
                                  refine call_go rfl rfl ?_
                                  try cbv
                                  refine call_pure hM hI (T58 _ hr) rfl ?_
                                  clear hr
                                  try cbv
                                  cases b68
                                  · replace h := ite_f Bool.false_ne_true h
                                    try cbv
                                    refine ⟨true, rfl, ?_⟩
                                    try cbv
                                    refine seq_go ?_
                                    try cbv
                                    obtain rfl := Option.some.inj h
                                    refine fin_go ?_
                                    try cbv
                                    exact ⟨[], rfl, rfl, trivial, trivial, trivial⟩
                                  · replace h := ite_t rfl h
                                    try cbv
                                    refine ⟨false, rfl, ?_⟩
                                    try cbv
                                    refine seq_go ?_
                                    try cbv
                                    obtain rfl := Option.some.inj h
                                    refine fin_go ?_
                                    try cbv
                                    exact ⟨[], rfl, rfl, trivial, trivial, trivial⟩
                              · replace h := ite_t rfl h
                                try cbv
                                refine seq_go ?_
                                try cbv
                                obtain rfl := Option.some.inj h
                                refine fin_go ?_
                                try cbv
                                exact ⟨[], rfl, rfl, trivial, trivial, trivial⟩
                        · replace h := ite_f (Int.not_lt.2 e) h
                          clear e
                          try cbv
                          replace h := lenF_inv M h
                          obtain ⟨z61, hz, h⟩ := h
                          refine ⟨z61, hz, ?_⟩
                          clear hz
                          try cbv
                          refine splitL (fun e => ?_) (fun e => ?_)
                          · replace h := ite_t e h
                            clear e
                            try cbv
                            refine seq_go ?_
                            try cbv
                            obtain rfl := Option.some.inj h
                            refine fin_go ?_
                            try cbv
                            exact ⟨[], rfl, rfl, trivial, trivial, trivial⟩
                          · replace h := ite_f (Int.not_lt.2 e) h
                            clear e
                            try cbv
                            replace h := bO5_inv h
                            obtain ⟨b62, s63, z64, z65, l66, hr, h⟩ := h
                            refine call_go rfl rfl ?_
                            try cbv
                            refine call_with hM hI [.loc 960] (T57 _ hr) rfl (by simp) ⟨rfl, trivial⟩ ⟨trivial, trivial⟩ (by simp) ?_
                            clear hr
                            try cbv
                            cases b62
                            · replace h := ite_f Bool.false_ne_true h
                              try cbv
                              refine seq_go ?_
                              try cbv
                              replace h := bO1_inv h
                              obtain ⟨b69, hr, h⟩ := h
                              refine call_go rfl rfl ?_
                              try cbv
                              refine call_pure hM hI (T58 _ hr) rfl ?_
                              clear hr
                              try cbv
                              cases b69
                              · replace h := ite_f Bool.false_ne_true h
                                try cbv
                                refine ⟨true, rfl, ?_⟩
                                try cbv
                                refine seq_go ?_
                                try cbv
                                obtain rfl := Option.some.inj h
                                refine fin_go ?_
                                try cbv
                                exact ⟨[], rfl, rfl, trivial, trivial, trivial⟩
                              · replace h := ite_t rfl h
                                try cbv
                                refine ⟨false, rfl, ?_⟩
                                try cbv
                                replace h := bO1_inv h
                                obtain ⟨b70, hr, h⟩ := h
                                refine call_go rfl rfl ?_
                                try cbv
                                refine call_pure hM hI (T58 _ hr) rfl ?_
                                clear hr
                                try cbv
                                cases b70
                                · replace h := ite_f Bool.false_ne_true h
                                  try cbv
                                  refine ⟨true, rfl, ?_⟩
                                  try cbv
                                  refine seq_go ?_
                                  try cbv
                                  obtain rfl := Option.some.inj h
                                  refine fin_go ?_
                                  try cbv
                                  exact ⟨[], rfl, rfl, trivial, trivial, trivial⟩
                                · replace h := ite_t rfl h
                                  try cbv
                                  refine ⟨false, rfl, ?_⟩
                                  try cbv
                                  refine seq_go ?_
                                  try cbv
                                  obtain rfl := Option.some.inj h
                                  refine fin_go ?_
                                  try cbv
                                  exact ⟨[], rfl, rfl, trivial, trivial, trivial⟩
                            · replace h := ite_t rfl h
                              try cbv
                              refine seq_go ?_
                              try cbv
                              obtain rfl := Option.some.inj h
                              refine fin_go ?_
                              try cbv
                              exact ⟨[], rfl, rfl, trivial, trivial, trivial⟩
                      · replace h := ite_t rfl h
                        try cbv
                        refine seq_go ?_
                        try cbv
                        obtain rfl := Option.some.inj h
                        refine fin_go ?_
                        try cbv
                        exact ⟨[], rfl, rfl, trivial, trivial, trivial⟩
                · replace h := ite_t rfl h
                  try cbv
                  refine ⟨true, rfl, ?_⟩
                  try cbv
                  refine seq_go ?_
                  try cbv
                  obtain rfl := Option.some.inj h
                  refine fin_go ?_
                  try cbv
                  exact ⟨[], rfl, rfl, trivial, trivial, trivial⟩
              · replace h := ite_f (bytes_ne.1 e) h
                clear e
                try cbv
                cases b20
                · replace h := ite_f Bool.false_ne_true h
                  try cbv
                  refine ⟨true, rfl, ?_⟩
                  try cbv
                  refine seq_go ?_
                  try cbv
                  obtain rfl := Option.some.inj h
                  refine fin_go ?_
                  try cbv
                  exact ⟨[], rfl, rfl, trivial, trivial, trivial⟩
                · replace h := ite_t rfl h
                  try cbv
                  refine ⟨false, rfl, ?_⟩
                  try cbv
                  replace h := bO1_inv h
                  obtain ⟨b31, hr, h⟩ := h
                  refine call_go rfl rfl ?_
                  try cbv
                  refine call_pure hM hI (T53 _ hr) rfl ?_
                  clear hr
                  try cbv
                  cases b31
                  · replace h := ite_f Bool.false_ne_true h
                    try cbv
                    refine ⟨true, rfl, ?_⟩
                    try cbv
                    refine seq_go ?_
                    try cbv
                    obtain rfl := Option.some.inj h
                    refine fin_go ?_
                    try cbv
                    exact ⟨[], rfl, rfl, trivial, trivial, trivial⟩
                  · replace h := ite_t rfl h
                    try cbv
                    refine ⟨false, rfl, ?_⟩
                    try cbv
                    refine seq_go ?_
                    try cbv
                    replace h := lenF_inv M h
                    obtain ⟨z71, hz, h⟩ := h
                    refine ⟨z71, hz, ?_⟩
                    clear hz
                    try cbv
                    refine splitL (fun e => ?_) (fun e => ?_)
                    · replace h := ite_t e h
                      clear e
                      try cbv
                      cases b17
                      · replace h := ite_f Bool.false_ne_true h
                        try cbv
                        refine ⟨true, rfl, ?_⟩
                        try cbv
                        refine seq_go ?_
                        try cbv
                        obtain rfl := Option.some.inj h
                        refine fin_go ?_
                        try cbv
                        exact ⟨[], rfl, rfl, trivial, trivial, trivial⟩
                      · replace h := ite_t rfl h
                        try cbv
                        refine ⟨false, rfl, ?_⟩
                        try cbv
                        replace h := lenF_inv M h
                        obtain ⟨z72, hz, h⟩ := h
                        refine ⟨z72, hz, ?_⟩
                        clear hz
                        try cbv
                        refine splitL (fun e => ?_) (fun e => ?_)
                        · replace h := ite_t e h
                          clear e
                          try cbv
                          refine seq_go ?_
                          try cbv
                          obtain rfl := Option.some.inj h
                          refine fin_go ?_
                          try cbv
                          exact ⟨[], rfl, rfl, trivial, trivial, trivial⟩
                        · replace h := ite_f (Int.not_lt.2 e) h
                          clear e
                          try cbv
                          replace h := bO1_inv h
                          obtain ⟨b73, hr, h⟩ := h
                          refine call_go rfl rfl ?_
                          try cbv
                          refine call_pure hM hI (T56 _ hr) rfl ?_
                          clear hr
                          try cbv
                          cases b73
                          · replace h := ite_f Bool.false_ne_true h
                            try cbv
                            refine seq_go ?_
                            try cbv
                            replace h := lenF_inv M h
                            obtain ⟨z76, hz, h⟩ := h
                            refine ⟨z76, hz, ?_⟩
                            clear hz
                            try cbv
                            refine splitL (fun e => ?_) (fun e => ?_)
                            · replace h := ite_t e h
                              clear e
                              try cbv
                              cases b18
                              · replace h := ite_f Bool.false_ne_true h
                                try cbv
                                refine ⟨true, rfl, ?_⟩
                                try cbv
                                refine seq_go ?_
                                try cbv
                                obtain rfl := Option.some.inj h
                                refine fin_go ?_
                                try cbv
                                exact ⟨[], rfl, rfl, trivial, trivial, trivial⟩
                              · replace h := ite_t rfl h
                                try cbv
                                refine ⟨false, rfl, ?_⟩
                                try cbv
                                replace h := lenF_inv M h
                                obtain ⟨z77, hz, h⟩ := h
                                refine ⟨z77, hz, ?_⟩
                                clear hz
                                try cbv
                                refine splitL (fun e => ?_) (fun e => ?_)
                                · replace h := ite_t e h
                                  clear e
                                  try cbv
                                  refine seq_go ?_
                                  try cbv
                                  obtain rfl := Option.some.inj h
                                  refine fin_go ?_
                                  try cbv
                                  exact ⟨[], rfl, rfl, trivial, trivial, trivial⟩
                                · replace h := ite_f (Int.not_lt.2 e) h
                                  clear e
                                  try cbv
                                  replace h := bO5_inv h
                                  obtain ⟨b78, s79, z80, z81, l82, hr, h⟩ := h
                                  refine call_go rfl rfl ?_
                                  try cbv
                                  refine call_with hM hI [.loc 960] (T57 _ hr) rfl (by simp) ⟨rfl, trivial⟩ ⟨trivial, trivial⟩ (by simp) ?_
                                  clear hr
                                  try cbv
                                  cases b78
                                  · replace h := ite_f Bool.false_ne_true h
                                    try cbv
                                    refine seq_go ?_
                                    try cbv
                                    replace h := bO1_inv h
                                    obtain ⟨b89, hr, h⟩ := h
                                    refine call_go rfl rfl ?_
                                    try cbv
                                    refine call_pure hM hI (T58 _ hr) rfl ?_
                                    clear hr
                                    try cbv
                                    cases b89
                                    · replace h := ite_f Bool.false_ne_true h
                                      try cbv
                                      refine ⟨true, rfl, ?_⟩
                                      try cbv
                                      refine seq_go ?_
                                      try cbv
                                      obtain rfl := Option.some.inj h
                                      refine fin_go ?_
                                      try cbv
                                      exact ⟨[], rfl, rfl, trivial, trivial, trivial⟩
                                    · replace h := ite_t rfl h
                                      try cbv
                                      refine ⟨false, rfl, ?_⟩
                                      try cbv
                                      replace h := bO1_inv h
                                      obtain ⟨b90, hr, h⟩ := h
                                      refine call_go rfl rfl ?_
                                      try cbv
                                      refine call_pure hM hI (T58 _ hr) rfl ?_
                                      clear hr
                                      try cbv
                                      cases b90
                                      · replace h := ite_f Bool.false_ne_true h
                                        try cbv
                                        refine ⟨true, rfl, ?_⟩
                                        try cbv
                                        refine seq_go ?_
                                        try cbv
                                        obtain rfl := Option.some.inj h
                                        refine fin_go ?_
                                        try cbv
                                        exact ⟨[], rfl, rfl, trivial, trivial, trivial⟩
                                      · replace h := ite_t rfl h
                                        try cbv
                                        refine ⟨false, rfl, ?_⟩
                                        try cbv
                                        refine seq_go ?_
                                        try cbv
                                        obtain rfl := Option.some.inj h
                                        refine fin_go ?_
                                        try cbv
                                        exact ⟨[], rfl, rfl, trivial, trivial, trivial⟩
                                  · replace h := ite_t rfl h
                                    try cbv
                                    refine seq_go ?_
                                    try cbv
                                    obtain rfl := Option.some.inj h
                                    refine fin_go ?_
                                    try cbv
                                    exact ⟨[], rfl, rfl, trivial, trivial, trivial⟩
                            · replace h := ite_f (Int.not_lt.2 e) h
                              clear e
                              try cbv
                              replace h := lenF_inv M h
                              obtain ⟨z83, hz, h⟩ := h
                              refine ⟨z83, hz, ?_⟩
                              clear hz
                              try cbv
                              refine splitL (fun e => ?_) (fun e => ?_)
                              · replace h := ite_t e h
                                clear e
                                try cbv
                                refine seq_go ?_
                                try cbv
                                obtain rfl := Option.some.inj h
                                refine fin_go ?_
                                try cbv
                                exact ⟨[], rfl, rfl, trivial, trivial, trivial⟩
                              · replace h := ite_f (Int.not_lt.2 e) h
                                clear e
                                try cbv
                                replace h := bO5_inv h
                                obtain ⟨b84, s85, z86, z87, l88, hr, h⟩ := h
                                refine call_go rfl rfl ?_
                                try cbv
                                refine call_with hM hI [.loc 960] (T57 _ hr) rfl (by simp) ⟨rfl, trivial⟩ ⟨trivial, trivial⟩ (by simp) ?_
                                clear hr
                                try cbv
                                cases b84
                                · replace h := ite_f Bool.false_ne_true h
                                  try cbv
                                  refine seq_go ?_
                                  try cbv
                                  replace h := bO1_inv h
                                  obtain ⟨b91, hr, h⟩ := h
                                  refine call_go rfl rfl ?_
                                  try cbv
                                  refine call_pure hM hI (T58 _ hr) rfl ?_
                                  clear hr
                                  try cbv
                                  cases b91
                                  · replace h := ite_f Bool.false_ne_true h
                                    try cbv
                                    refine ⟨true, rfl, ?_⟩
                                    try cbv
                                    refine seq_go ?_
                                    try cbv
                                    obtain rfl := Option.some.inj h
                                    refine fin_go ?_
                                    try cbv
                                    exact ⟨[], rfl, rfl, trivial, trivial, trivial⟩
                                  · replace h := ite_t rfl h
                                    try cbv
                                    refine ⟨false, rfl, ?_⟩
                                    try cbv
                                    replace h := bO1_inv h
                                    obtain ⟨b92, hr, h⟩ := h
                                    refine call_go rfl rfl ?_
                                    try cbv
                                    refine call_pure hM hI (T58 _ hr) rfl ?_
                                    clear hr
                                    try cbv
                                    cases b92
                                    · replace h := ite_f Bool.false_ne_true h
                                      try cbv
                                      refine ⟨true, rfl, ?_⟩
                                      try cbv
                                      refine seq_go ?_
                                      try cbv
                                      obtain rfl := Option.some.inj h
                                      refine fin_go ?_
                                      try cbv
                                      exact ⟨[], rfl, rfl, trivial, trivial, trivial⟩
                                    · replace h := ite_t rfl h
                                      try cbv
                                      refine ⟨false, rfl, ?_⟩
                                      try cbv
                                      refine seq_go ?_
                                      try cbv
                                      obtain rfl := Option.some.inj h
                                      refine fin_go ?_
                                      try cbv
                                      exact ⟨[], rfl, rfl, trivial, trivial, trivial⟩
                                · replace h := ite_t rfl h
                                  try cbv
                                  refine seq_go ?_
                                  try cbv
                                  obtain rfl := Option.some.inj h
                                  refine fin_go ?_
                                  try cbv
                                  exact ⟨[], rfl, rfl, trivial, trivial, trivial⟩
                          · replace h := ite_t rfl h
                            try cbv
                            refine seq_go ?_
                            try cbv
                            obtain rfl := Option.some.inj h
                            refine fin_go ?_
                            try cbv
                            exact ⟨[], rfl, rfl, trivial, trivial, trivial⟩
                    · replace h := ite_f (Int.not_lt.2 e) h
                      clear e
                      try cbv
                      replace h := lenF_inv M h
                      obtain ⟨z74, hz, h⟩ := h
                      refine ⟨z74, hz, ?_⟩
                      clear hz
                      try cbv
                      refine splitL (fun e => ?_) (fun e => ?_)
                      · replace h := ite_t e h
                        clear e
                        try cbv
                        refine seq_go ?_
                        try cbv
                        obtain rfl := Option.some.inj h
                        refine fin_go ?_
                        try cbv
                        exact ⟨[], rfl, rfl, trivial, trivial, trivial⟩
                      · replace h := ite_f (Int.not_lt.2 e) h
                        clear e
                        try cbv
                        replace h := bO1_inv h
                        obtain ⟨b75, hr, h⟩ := h
                        refine call_go rfl rfl ?_
                        try cbv
                        refine call_pure hM hI (T56 _ hr) rfl ?_
                        clear hr
                        try cbv
                        cases b75
                        · replace h := ite_f Bool.false_ne_true h
                          try cbv
                          refine seq_go ?_
                          try cbv
                          replace h := lenF_inv M h
                          obtain ⟨z93, hz, h⟩ := h
                          refine ⟨z93, hz, ?_⟩
                          clear hz
                          try cbv
                          refine splitL (fun e => ?_) (fun e => ?_)
                          · replace h := ite_t e h
                            clear e
                            try cbv
                            cases b18
                            · replace h := ite_f Bool.false_ne_true h
                              try cbv
                              refine ⟨true, rfl, ?_⟩
                              try cbv
                              refine seq_go ?_
                              try cbv
                              obtain rfl := Option.some.inj h
                              refine fin_go ?_
                              try cbv
                              exact ⟨[], rfl, rfl, trivial, trivial, trivial⟩
                            · replace h := ite_t rfl h
                              try cbv
                              refine ⟨false, rfl, ?_⟩
                              try cbv
                              replace h := lenF_inv M h
                              obtain ⟨z94, hz, h⟩ := h
                              refine ⟨z94, hz, ?_⟩
                              clear hz
                              try cbv
                              refine splitL (fun e => ?_) (fun e => ?_)
                              · replace h := ite_t e h
                                clear e
                                try cbv
                                refine seq_go ?_
                                try cbv
                                obtain rfl := Option.some.inj h
                                refine fin_go ?_
                                try cbv
                                exact ⟨[], rfl, rfl, trivial, trivial, trivial⟩
                              · replace h := ite_f (Int.not_lt.2 e) h
                                clear e
                                try cbv
                                replace h := bO5_inv h
                                obtain ⟨b95, s96, z97, z98, l99, hr, h⟩ := h
                                refine call_go rfl rfl ?_
                                try cbv
                                refine call_with hM hI [.loc 960] (T57 _ hr) rfl (by simp) ⟨rfl, trivial⟩ ⟨trivial, trivial⟩ (by simp) ?_
                                clear hr
                                try cbv
                                cases b95
                                · replace h := ite_f Bool.false_ne_true h
                                  try cbv
                                  refine seq_go ?_
                                  try cbv
                                  replace h := bO1_inv h
                                  obtain ⟨b106, hr, h⟩ := h
                                  refine call_go rfl rfl ?_
                                  try cbv
                                  refine call_pure hM hI (T58 _ hr) rfl ?_
                                  clear hr
                                  try cbv
                                  cases b106
                                  · replace h := ite_f Bool.false_ne_true h
                                    try cbv
                                    refine ⟨true, rfl, ?_⟩
                                    try cbv
                                    refine seq_go ?_
                                    try cbv
                                    obtain rfl := Option.some.inj h
                                    refine fin_go ?_
                                    try cbv
                                    exact ⟨[], rfl, rfl, trivial, trivial, trivial⟩
                                  · replace h := ite_t rfl h
                                    try cbv
                                    refine ⟨false, rfl, ?_⟩
                                    try cbv
                                    replace h := bO1_inv h
                                    obtain ⟨b107, hr, h⟩ := h
                                    refine call_go rfl rfl ?_
                                    try cbv
                                    refine call_pure hM hI (T58 _ hr) rfl ?_
                                    clear hr
                                    try cbv
                                    cases b107
                                    · replace h := ite_f Bool.false_ne_true h
                                      try cbv
                                      refine ⟨true, rfl, ?_⟩
                                      try cbv
                                      refine seq_go ?_
                                      try cbv
                                      obtain rfl := Option.some.inj h
                                      refine fin_go ?_
                                      try cbv
                                      exact ⟨[], rfl, rfl, trivial, trivial, trivial⟩
                                    · replace h := ite_t rfl h
                                      try cbv
                                      refine ⟨false, rfl, ?_⟩
                                      try cbv
                                      refine seq_go ?_
                                      try cbv
                                      obtain rfl := Option.some.inj h
                                      refine fin_go ?_
                                      try cbv
                                      exact ⟨[], rfl, rfl, trivial, trivial, trivial⟩
                                · replace h := ite_t rfl h
                                  try cbv
                                  refine seq_go ?_
                                  try cbv
                                  obtain rfl := Option.some.inj h
                                  refine fin_go ?_
                                  try cbv
                                  exact ⟨[], rfl, rfl, trivial, trivial, trivial⟩
                          · replace h := ite_f (Int.not_lt.2 e) h
                            clear e
                            try cbv
                            replace h := lenF_inv M h
                            obtain ⟨z100, hz, h⟩ := h
                            refine ⟨z100, hz, ?_⟩
                            clear hz
                            try cbv
                            refine splitL (fun e => ?_) (fun e => ?_)
                            · replace h := ite_t e h
                              clear e
                              try cbv
                              refine seq_go ?_
                              try cbv
                              obtain rfl := Option.some.inj h
                              refine fin_go ?_
                              try cbv
                              exact ⟨[], rfl, rfl, trivial, trivial, trivial⟩
                            · replace h := ite_f (Int.not_lt.2 e) h
                              clear e
                              try cbv
                              replace h := bO5_inv h
                              obtain ⟨b101, s102, z103, z104, l105, hr, h⟩ := h
                              refine call_go rfl rfl ?_
                              try cbv
                              refine call_with hM hI [.loc 960] (T57 _ hr) rfl (by simp) ⟨rfl, trivial⟩ ⟨trivial, trivial⟩ (by simp) ?_
                              clear hr
                              try cbv
                              cases b101
                              · replace h := ite_f Bool.false_ne_true h
                                try cbv
                                refine seq_go ?_
                                try cbv
                                replace h := bO1_inv h
                                obtain ⟨b108, hr, h⟩ := h
                                refine call_go rfl rfl ?_
                                try cbv
                                refine call_pure hM hI (T58 _ hr) rfl ?_
                                clear hr
                                try cbv
                                cases b108
                                · replace h := ite_f Bool.false_ne_true h
                                  try cbv
                                  refine ⟨true, rfl, ?_⟩
                                  try cbv
                                  refine seq_go ?_
                                  try cbv
                                  obtain rfl := Option.some.inj h
                                  refine fin_go ?_
                                  try cbv
                                  exact ⟨[], rfl, rfl, trivial, trivial, trivial⟩
                                · replace h := ite_t rfl h
                                  try cbv
                                  refine ⟨false, rfl, ?_⟩
                                  try cbv
                                  replace h := bO1_inv h
                                  obtain ⟨b109, hr, h⟩ := h
                                  refine call_go rfl rfl ?_
                                  try cbv
                                  refine call_pure hM hI (T58 _ hr) rfl ?_
                                  clear hr
                                  try cbv
                                  cases b109
                                  · replace h := ite_f Bool.false_ne_true h
                                    try cbv
                                    refine ⟨true, rfl, ?_⟩
                                    try cbv
                                    refine seq_go ?_
                                    try cbv
                                    obtain rfl := Option.some.inj h
                                    refine fin_go ?_
                                    try cbv
                                    exact ⟨[], rfl, rfl, trivial, trivial, trivial⟩
                                  · replace h := ite_t rfl h
                                    try cbv
                                    refine ⟨false, rfl, ?_⟩
                                    try cbv
                                    refine seq_go ?_
                                    try cbv
                                    obtain rfl := Option.some.inj h
                                    refine fin_go ?_
                                    try cbv
                                    exact ⟨[], rfl, rfl, trivial, trivial, trivial⟩
                              · replace h := ite_t rfl h
                                try cbv
                                refine seq_go ?_
                                try cbv
                                obtain rfl := Option.some.inj h
                                refine fin_go ?_
                                try cbv
                                exact ⟨[], rfl, rfl, trivial, trivial, trivial⟩
                        · replace h := ite_t rfl h
                          try cbv
                          refine seq_go ?_
                          try cbv
                          obtain rfl := Option.some.inj h
                          refine fin_go ?_
                          try cbv
                          exact ⟨[], rfl, rfl, trivial, trivial, trivial⟩
        · replace h := ite_f e h
          clear e
          try cbv
          refine seq_go ?_
          try cbv
          obtain rfl := Option.some.inj h
          refine fin_go ?_
          try cbv
          exact ⟨[], rfl, rfl, trivial, trivial, trivial⟩
end Go.Proofs.YtjobleemmjjocaaDoor
end

set_option linter.unusedVariables false
noncomputable section
namespace Go.Proofs.YtjobleemmjjocaaDoor
open Go Go.AM

theorem ilt {i N : Nat} (h : i < N) : (i : Int) < (N : Int) := Int.ofNat_lt.2 h
theorem all_drop {L : List D} {i : Nat} {x : D} (h : L[i]? = some x) (p : D → Bool) : (L.drop i).all p = (p x && (L.drop (i + 1)).all p) := by
  obtain ⟨hi, rfl⟩ := List.getElem?_eq_some_iff.1 h
  rw [List.drop_eq_getElem_cons hi, List.all_cons]
theorem any_drop {L : List D} {i : Nat} {x : D} (h : L[i]? = some x) (p : D → Bool) : (L.drop i).any p = (p x || (L.drop (i + 1)).any p) := by
  obtain ⟨hi, rfl⟩ := List.getElem?_eq_some_iff.1 h
  rw [List.drop_eq_getElem_cons hi, List.any_cons]

def okName (s : ByteArray) : Bool := decide ((1 : Int) ≤ s.size) && decide ((s.size : Int) ≤ 16)
def stepOk : D → Bool
  | .str s => decide (s = k__) || okName s
  | _ => false
def inB (e : Int) : D → Bool
  | .int .i64 z => decide (0 ≤ z) && decide (z ≤ e)
  | _ => false
def isI (z : Int) : D → Bool
  | .int .i64 y => decide (z = y)
  | _ => false

theorem e53 (n : Nat) (s : ByteArray) : F53 n s = some (okName s) := by
  unfold F53 okName
  simp only [szF]
  by_cases h : (1 : Int) ≤ s.size <;> by_cases h2 : (s.size : Int) ≤ 16 <;> simp [h, h2]
theorem e52 (n : Nat) (s : ByteArray) : F52 n s = some (!stepOk (.str s)) := by
  unfold F52
  rw [e53]
  by_cases h : s = k__ <;> cases h2 : okName s <;> simp [h, h2, stepOk, bO1]
theorem e54 (n : Nat) (z : Int) (s : ByteArray) (a b : Int) (l : List D) : F54 n z s a b l = some (!inB l.length (.int .i64 z), s, a, b, l) := by
  unfold F54 lenF inB
  by_cases h : z < 0 <;> by_cases h2 : (l.length : Int) < z <;> simp [h, h2] <;> omega

theorem ev72 {L : List D} (hL : ListS tab 9 L) : ∃ r, Ev (fun n => F72 n L) r ∧ decide (0 ≤ r) = !L.all stepOk := by
  have loop : ∀ i, i ≤ L.length → ∃ r, Ev (fun n => L72_1 n L (L.length : Int) (i : Int)) r ∧ decide (0 ≤ r) = !(L.drop i).all stepOk := by
    refine down L.length ⟨-1, Ev.succ (by simp [L72_1, Ev.ret]), by simp⟩ (fun i hi ih => ?_)
    obtain ⟨x, hx, hm, hr⟩ := hL.get hi
    obtain ⟨s, rfl, _⟩ := rs9 hr
    obtain ⟨r, h1, h2⟩ := ih
    rw [all_drop hx]
    cases h : stepOk (.str s)
    · refine ⟨i, Ev.succ ?_, by simp⟩
      simp only [L72_1, if_pos (ilt hi), getF_nat hx, ds_str, e52, bO1, h]; exact Ev.ret
    · refine ⟨r, Ev.succ ?_, by simpa using h2⟩
      simpa only [L72_1, letF, if_pos (ilt hi), getF_nat hx, ds_str, e52, bO1, h, wrap_succ hi hL.1, Bool.not_true, if_neg Bool.false_ne_true] using h1
  obtain ⟨r, h1, h2⟩ := loop 0 (Nat.zero_le _)
  exact ⟨r, by simp only [F72, lenF]; exact h1, by simpa using h2⟩
theorem ev56 {L : List D} (hL : ListS tab 9 L) : Ev (fun n => F56 n L) (!L.all stepOk) := by
  obtain ⟨r, h1, h2⟩ := ev72 hL
  unfold F56
  refine Ev.bO1 h1 ?_
  rw [← h2]
  by_cases h : 0 ≤ r <;> simp only [h, if_true, if_false, decide_true, decide_false] <;> exact Ev.ret

theorem ev73 {L : List D} (hL : ListS tab 3 L) (s : ByteArray) (a b : Int) (l : List D) : ∃ r, Ev (fun n => F73 n L s a b l) (r, s, a, b, l) ∧ decide (0 ≤ r) = !L.all (inB l.length) := by
  have loop : ∀ i, i ≤ L.length → ∃ r, Ev (fun n => L73_1 n L (L.length : Int) (i : Int) s a b l) (r, s, a, b, l) ∧ decide (0 ≤ r) = !(L.drop i).all (inB l.length) := by
    refine down L.length ⟨-1, Ev.succ (by simp [L73_1, Ev.ret]), by simp⟩ (fun i hi ih => ?_)
    obtain ⟨x, hx, hm, hr⟩ := hL.get hi
    obtain ⟨z, rfl, _⟩ := rs3 hr
    obtain ⟨r, h1, h2⟩ := ih
    rw [all_drop hx]
    cases h : inB l.length (.int .i64 z)
    · refine ⟨i, Ev.succ ?_, by simp⟩
      simp only [L73_1, if_pos (ilt hi), getF_nat hx, ds_i64, e54, bO5, h]; exact Ev.ret
    · refine ⟨r, Ev.succ ?_, by simpa using h2⟩
      simpa only [L73_1, letF, if_pos (ilt hi), getF_nat hx, ds_i64, e54, bO5, h, wrap_succ hi hL.1, Bool.not_true, if_neg Bool.false_ne_true] using h1
  obtain ⟨r, h1, h2⟩ := loop 0 (Nat.zero_le _)
  exact ⟨r, by simp only [F73, lenF]; exact h1, by simpa using h2⟩
theorem ev57 {L : List D} (hL : ListS tab 3 L) (s : ByteArray) (a b : Int) (l : List D) : Ev (fun n => F57 n L s a b l) (!L.all (inB l.length), s, a, b, l) := by
  obtain ⟨r, ⟨N, h1⟩, h2⟩ := ev73 hL s a b l
  refine ⟨N, fun n hn => ?_⟩
  have h1 : F73 n L s a b l = _ := h1 n hn
  show F57 n L s a b l = _
  unfold F57
  rw [h1, ← h2]
  by_cases h : 0 ≤ r <;> simp [bO5, h]

theorem ev84 {L : List D} (hL : ListS tab 3 L) (z : Int) : ∃ r, Ev (fun n => F84 n L z) r ∧ decide (0 ≤ r) = L.any (isI z) := by
  have loop : ∀ i, i ≤ L.length → ∃ r, Ev (fun n => L84_1 n L z (L.length : Int) (i : Int)) r ∧ decide (0 ≤ r) = (L.drop i).any (isI z) := by
    refine down L.length ⟨-1, Ev.succ (by simp [L84_1, Ev.ret]), by simp⟩ (fun i hi ih => ?_)
    obtain ⟨x, hx, hm, hr⟩ := hL.get hi
    obtain ⟨y, rfl, _⟩ := rs3 hr
    obtain ⟨r, h1, h2⟩ := ih
    rw [any_drop hx]
    by_cases h : z = y
    · refine ⟨i, Ev.succ ?_, by simp [isI, h]⟩
      simp only [L84_1, if_pos (ilt hi), getF_nat hx, ds_i64, if_pos h]; exact Ev.ret
    · refine ⟨r, Ev.succ ?_, by simpa [isI, h] using h2⟩
      simpa only [L84_1, letF, if_pos (ilt hi), getF_nat hx, ds_i64, if_neg h, wrap_succ hi hL.1] using h1
  obtain ⟨r, h1, h2⟩ := loop 0 (Nat.zero_le _)
  exact ⟨r, by simp only [F84, lenF]; exact h1, by simpa using h2⟩
theorem ev74 {L : List D} (hL : ListS tab 3 L) (z : Int) : Ev (fun n => F74 n L z) (L.any (isI z)) := by
  obtain ⟨r, h1, h2⟩ := ev84 hL z
  unfold F74
  refine Ev.bO1 h1 ?_
  rw [← h2]
  by_cases h : 0 ≤ r <;> simp only [h, if_true, if_false, decide_true, decide_false] <;> exact Ev.ret

end Go.Proofs.YtjobleemmjjocaaDoor
end

set_option linter.unusedVariables false
noncomputable section
namespace Go.Proofs.YtjobleemmjjocaaDoor
open Go Go.AM

theorem sh1 (n : Nat) : F51 n 1 = some (k_live, 1, 0, false, false, false, false, [], true) := rfl
theorem sh2 (n : Nat) : F51 n 2 = some (k_dead, 1, 0, false, false, false, false, [], true) := rfl
theorem sh3 (n : Nat) : F51 n 3 = some (k_const, 4, 0, false, false, true, false, [.int .i64 1, .int .i64 2, .int .i64 3], true) := rfl
theorem sh4 (n : Nat) : F51 n 4 = some (k_use, 1, 0, true, false, false, false, [], true) := rfl
theorem sh5 (n : Nat) : F51 n 5 = some (k_ref, 1, 0, true, false, false, false, [], true) := rfl
theorem sh6 (n : Nat) : F51 n 6 = some (k_mut, 1, 0, true, false, false, false, [], true) := rfl
theorem sh7 (n : Nat) : F51 n 7 = some (k_put, 1, 0, true, false, false, false, [], true) := rfl
theorem sh8 (n : Nat) : F51 n 8 = some (k_drop, 1, 0, true, false, false, false, [], true) := rfl
theorem sh9 (n : Nat) : F51 n 9 = some (k_unary, 4, 0, false, false, false, false, [.int .i64 7, .int .i64 8], true) := rfl
theorem sh10 (n : Nat) : F51 n 10 = some (k_binary, 4, 0, false, false, false, false, [.int .i64 9, .int .i64 10, .int .i64 11, .int .i64 12, .int .i64 13, .int .i64 14, .int .i64 15, .int .i64 16, .int .i64 17], true) := rfl
theorem sh11 (n : Nat) : F51 n 11 = some (k_struct, 0, 7, false, false, false, true, [], true) := rfl
theorem sh12 (n : Nat) : F51 n 12 = some (k_enum, 7, 6, false, false, false, true, [], true) := rfl
theorem sh13 (n : Nat) : F51 n 13 = some (k_split, 0, 7, false, false, false, true, [], true) := rfl
theorem sh14 (n : Nat) : F51 n 14 = some (k_jump, 2, 0, false, false, false, false, [], true) := rfl
theorem sh15 (n : Nat) : F51 n 15 = some (k_branch, 2, 0, false, false, false, false, [], true) := rfl
theorem sh16 (n : Nat) : F51 n 16 = some (k_switch, 0, 0, false, true, false, true, [], true) := rfl
theorem sh17 (n : Nat) : F51 n 17 = some (k_call, 3, 5, false, false, false, false, [], true) := rfl
theorem sh18 (n : Nat) : F51 n 18 = some (k_return, 0, 0, false, false, false, false, [], true) := rfl
theorem sh19 (n : Nat) : F51 n 19 = some (k_wrap, 4, 0, false, false, false, false, [.int .i64 6, .int .i64 7, .int .i64 8, .int .i64 9, .int .i64 10, .int .i64 11], true) := rfl
theorem sh20 (n : Nat) : F51 n 20 = some (k_unwrap, 4, 0, false, false, false, false, [.int .i64 6, .int .i64 10], true) := rfl
theorem sh21 (n : Nat) : F51 n 21 = some (k_clone, 1, 0, true, false, false, false, [], true) := rfl
theorem sh22 (n : Nat) : F51 n 22 = some (k_cellget, 1, 0, true, false, false, false, [], true) := rfl
theorem sh23 (n : Nat) : F51 n 23 = some (k_cellset, 1, 0, true, false, false, false, [], true) := rfl
theorem sh24 (n : Nat) : F51 n 24 = some (k_load, 1, 0, true, false, false, false, [], true) := rfl
theorem sh25 (n : Nat) : F51 n 25 = some (k_store, 1, 0, true, false, false, false, [], true) := rfl
theorem sh26 (n : Nat) : F51 n 26 = some (k_fetch, 1, 0, true, false, false, false, [], true) := rfl
theorem sh27 (n : Nat) : F51 n 27 = some (k_chan, 0, 0, false, false, true, false, [], true) := rfl
theorem sh28 (n : Nat) : F51 n 28 = some (k_send, 1, 0, true, false, false, false, [], true) := rfl
theorem sh29 (n : Nat) : F51 n 29 = some (k_recv, 1, 0, true, false, false, false, [], true) := rfl
theorem sh30 (n : Nat) : F51 n 30 = some (k_lock, 1, 1, true, false, false, false, [], true) := rfl
theorem sh31 (n : Nat) : F51 n 31 = some (k_unlock, 0, 0, false, false, false, false, [], true) := rfl
theorem sh32 (n : Nat) : F51 n 32 = some (k_scope, 0, 0, false, false, false, false, [], true) := rfl
theorem sh33 (n : Nat) : F51 n 33 = some (k_spawn, 3, 5, false, false, false, false, [], true) := rfl
theorem sh34 (n : Nat) : F51 n 34 = some (k_join, 0, 0, false, false, false, false, [], true) := rfl
theorem sh0 (n : Nat) : F51 n 0 = some (ByteArray.empty, 0, 0, false, false, false, false, [], false) := rfl
theorem shB (n : Nat) {z : Int} (h : 35 ≤ z) (h2 : z < 256) : F51 n z = some (ByteArray.empty, 0, 0, false, false, false, false, [], false) := by
  have e : F71 n = some ([.int .i64 1, .int .i64 2, .int .i64 3], k_use, k_ref, k_mut, k_put, k_drop, [.int .i64 7, .int .i64 8], [.int .i64 9, .int .i64 10, .int .i64 11, .int .i64 12, .int .i64 13, .int .i64 14, .int .i64 15, .int .i64 16, .int .i64 17], [.int .i64 6, .int .i64 7, .int .i64 8, .int .i64 9, .int .i64 10, .int .i64 11], [.int .i64 6, .int .i64 10], k_clone, k_cellget, k_cellset, k_load, k_store, k_fetch, k_send, k_recv) := rfl
  unfold F51
  rw [e]
  simp only [bO18, letF]
  rw [if_neg (by omega : ¬ z = 0), wrap_i64' (by omega), if_pos h]

def parIs (l1 : List D) (a n : Int) : Bool := match l1[a.toNat]? with
  | some (.agg [_, .int _ p, _, _]) => decide (n = p)
  | _ => false
def fitsB (l1 : List D) (sl en : Int) (kd : List D) (op a ask n : Int) : Bool :=
  if ask = 0 then decide (n = 0) else if ask = 1 then decide (0 ≤ n) && decide (n < sl) else if ask = 2 then decide (0 ≤ n) && decide (n ≤ en) else if ask = 3 then decide (0 ≤ n) && decide (n < l1.length)
  else if ask = 4 then kd.any (isI n) else if ask = 5 then decide (0 ≤ a) && decide (a < l1.length) && parIs l1 a n else if ask = 6 then decide (n = 0) || decide (n = 1) else decide (0 ≤ n) && (decide (n < 6) || decide (n = 6) && !decide (op = 12))
def wholeB (w : Bool) (op a i : Int) : Bool :=
  if w = true then (if op = 27 then decide (1 ≤ i) && decide (i ≤ 8) else if a = 2 then decide (i = 0) || decide (i = 1) else decide (a = 1) || decide (i = 0)) else decide (i = 0)
def nilB (l : List D) : Bool := decide ((l.length : Int) ≤ 0)
def insB (l1 : List D) (sl en : Int) (s : ByteArray × Int × Int × Bool × Bool × Bool × Bool × List D × Bool) (op a b c : Int) (l9 l10 : List D) (i : Int) (s12 : ByteArray) (l13 : List D) : Bool :=
  s.2.2.2.2.2.2.2.2 && decide (c = 0) && nilB l13 && wholeB s.2.2.2.2.2.1 op a i && (s.2.2.2.2.2.2.1 == !decide (s12 = ByteArray.empty)) && (!s.2.2.2.2.2.2.1 || okName s12) &&
  (nilB l10 || s.2.2.2.1) && decide ((l10.length : Int) ≤ 40) && l10.all stepOk && (nilB l9 || s.2.2.2.2.1) && decide ((l9.length : Int) ≤ 6) && l9.all (inB en) &&
  fitsB l1 sl en s.2.2.2.2.2.2.2.1 op a s.2.1 a && fitsB l1 sl en s.2.2.2.2.2.2.2.1 op a s.2.2.1 b
def rc (b : Bool) : Int := if b = true then 0 else 170

theorem e55 (n : Nat) (s1 : ByteArray) (z2 z3 : Int) (b4 b5 b6 b7 : Bool) (l8 : List D) (z9 z10 z11 z12 : Int) (l13 l14 : List D) (z15 : Int) (s16 : ByteArray) (l17 : List D) :
    F55 n s1 z2 z3 b4 b5 b6 b7 l8 z9 z10 z11 z12 l13 l14 z15 s16 l17 = some (wholeB b6 z9 z10 z15) := by
  unfold F55 wholeB
  cases b6
  · by_cases h : z15 = 0 <;> simp [h]
  · by_cases h : z9 = 27
    · by_cases h1 : 1 ≤ z15 <;> by_cases h2 : z15 ≤ 8 <;> simp [h, h1, h2]
    · by_cases h1 : z10 = 2
      · by_cases h2 : z15 = 0
        · simp [h, h1, h2]
        · by_cases h3 : z15 = 1 <;> simp [h, h1, h2, h3]
      · by_cases h2 : z10 = 1 <;> by_cases h3 : z15 = 0 <;> simp [h, h1, h2, h3]

theorem ev58 {l1 : List D} (hF : ListS tab 56 l1) {l15 : List D} (hk : ListS tab 3 l15) (z2 : Int) (l3 : List D) (s4 : ByteArray) (z5 z6 : Int) (l7 : List D) (s8 : ByteArray) (z9 z10 : Int) (b11 b12 b13 b14 : Bool) (z16 z17 z18 z19 : Int) (l20 l21 : List D) (z22 : Int) (s23 : ByteArray) (l24 : List D) (z25 z26 : Int) :
    Ev (fun n => F58 n l1 z2 l3 s4 z5 z6 l7 s8 z9 z10 b11 b12 b13 b14 l15 z16 z17 z18 z19 l20 l21 z22 s23 l24 z25 z26) (fitsB l1 z6 l7.length l15 z16 z17 z25 z26) := by
  unfold F58 fitsB
  by_cases h0 : z25 = 0
  · simp only [if_pos h0]; by_cases h : z26 = 0 <;> simp only [h, if_true, if_false, decide_true, decide_false] <;> exact Ev.ret
  by_cases h1 : z25 = 1
  · simp only [if_neg h0, if_pos h1]; by_cases h : 0 ≤ z26 <;> by_cases h' : z26 < z6 <;> simp only [h, h', if_true, if_false, decide_true, decide_false, Bool.and_self, Bool.and_false, Bool.false_and] <;> exact Ev.ret
  by_cases h2 : z25 = 2
  · simp only [if_neg h0, if_neg h1, if_pos h2, lenF]; by_cases h : 0 ≤ z26 <;> by_cases h' : z26 ≤ (l7.length : Int) <;> simp only [h, h', if_true, if_false, decide_true, decide_false, Bool.and_self, Bool.and_false, Bool.false_and] <;> exact Ev.ret
  by_cases h3 : z25 = 3
  · simp only [if_neg h0, if_neg h1, if_neg h2, if_pos h3, lenF]; by_cases h : 0 ≤ z26 <;> by_cases h' : z26 < (l1.length : Int) <;> simp only [h, h', if_true, if_false, decide_true, decide_false, Bool.and_self, Bool.and_false, Bool.false_and] <;> exact Ev.ret
  by_cases h4 : z25 = 4
  · simp only [if_neg h0, if_neg h1, if_neg h2, if_neg h3, if_pos h4]; exact Ev.bO1 (ev74 hk _) Ev.ret
  by_cases h5 : z25 = 5
  · simp only [if_neg h0, if_neg h1, if_neg h2, if_neg h3, if_neg h4, if_pos h5, lenF]
    by_cases h : 0 ≤ z17
    · by_cases h' : z17 < (l1.length : Int)
      · obtain ⟨k, rfl⟩ : ∃ k : Nat, z17 = k := ⟨z17.toNat, by omega⟩
        obtain ⟨x, hx, hm, hr⟩ := hF.get (i := k) (by omega)
        obtain ⟨a, b, c, l, rfl, _⟩ := rs56 hr
        simp only [if_pos h, if_pos h', getF_nat hx, ds_t56, parIs, Int.toNat_natCast, hx, h, h', decide_true, Bool.true_and]
        by_cases e : z26 = b <;> simp only [e, if_true, if_false, decide_true, decide_false] <;> exact Ev.ret
      · simp only [if_pos h, if_neg h', decide_false, Bool.and_false, Bool.false_and, h']; exact Ev.ret
    · simp only [if_neg h, decide_false, Bool.and_false, Bool.false_and, h]; exact Ev.ret
  by_cases h6 : z25 = 6
  · simp only [if_neg h0, if_neg h1, if_neg h2, if_neg h3, if_neg h4, if_neg h5, if_pos h6]
    by_cases h : z26 = 0
    · simp only [if_pos h, decide_true, h, Bool.true_or]; exact Ev.ret
    · by_cases h' : z26 = 1
      · simp only [if_neg h, if_pos h', decide_true, h', Bool.or_true]; exact Ev.ret
      · simp only [if_neg h, if_neg h', decide_false, h, h', Bool.or_self]; exact Ev.ret
  · simp only [if_neg h0, if_neg h1, if_neg h2, if_neg h3, if_neg h4, if_neg h5, if_neg h6]
    by_cases h : 0 ≤ z26 <;> by_cases h' : z26 < 6 <;> by_cases e : z26 = 6 <;> by_cases e' : z16 = 12 <;> simp [h, h', e, e'] <;> first | exact Ev.ret | omega

theorem ev33 {l1 : List D} (hF : ListS tab 56 l1) {z4 : Int} {x : Nat} (hx0 : z4 = x) {nm : ByteArray} {pa sl : Int} {cd : List D} (hx : l1[x]? = some (.agg [.str nm, .int .i64 pa, .int .i64 sl, .list true 9 cd]))
    {op a b c i : Int} {l9 l10 l13 : List D} {s12 : ByteArray} (h9 : ListS tab 3 l9) (h10 : ListS tab 9 l10) (z2 : Int) (l3 : List D) {s : ByteArray} {A B : Int} {p w t m : Bool} {kd : List D} (hk : ListS tab 3 kd) {y : Bool}
    (h : ∀ n, F51 n op = some (s, A, B, p, t, w, m, kd, y)) :
    Ev (fun n => F33 n l1 z2 l3 z4 op a b c l9 l10 i s12 l13) (rc (insB l1 sl cd.length (s, A, B, p, t, w, m, kd, y) op a b c l9 l10 i s12 l13)) := by
  subst hx0
  have hlt := (List.getElem?_eq_some_iff.1 hx).1
  obtain ⟨N1, e56⟩ := ev56 h10
  obtain ⟨N2, e57⟩ := ev57 h9 nm pa sl cd
  obtain ⟨N3, e58⟩ := ev58 hF hk z2 l3 nm pa sl cd s A B p t w m op a b c l9 l10 i s12 l13 A a
  obtain ⟨N4, e58'⟩ := ev58 hF hk z2 l3 nm pa sl cd s A B p t w m op a b c l9 l10 i s12 l13 B b
  refine ⟨N1 + N2 + N3 + N4, fun n hn => ?_⟩
  replace e56 : F56 n l10 = _ := e56 n (by omega)
  replace e57 : F57 n l9 nm pa sl cd = _ := e57 n (by omega)
  replace e58 : F58 n _ _ _ _ _ _ _ _ _ _ _ _ _ _ _ _ _ _ _ _ _ _ _ _ _ _ = _ := e58 n (by omega)
  replace e58' : F58 n _ _ _ _ _ _ _ _ _ _ _ _ _ _ _ _ _ _ _ _ _ _ _ _ _ _ = _ := e58' n (by omega)
  show F33 n _ _ _ _ _ _ _ _ _ _ _ _ _ = _
  unfold F33
  simp only [h n, bO9, bO1, bO5, lenF, getF_nat hx, ds_t56, e53, e55, e56, e57, e58, e58', if_neg (by omega : ¬ (x : Int) < 0), if_neg (by omega : ¬ (l1.length : Int) ≤ x)]
  unfold insB rc nilB
  generalize wholeB w op a i = w1
  generalize okName s12 = w2
  generalize List.all l10 stepOk = w3
  generalize List.all l9 (inB cd.length) = w4
  generalize fitsB l1 sl cd.length kd op a A a = w5
  generalize fitsB l1 sl cd.length kd op a B b = w6
  have d1 : (0 < (l13.length : Int)) = ¬ ((l13.length : Int) ≤ 0) := propext (by omega)
  have d2 : (0 < (l10.length : Int)) = ¬ ((l10.length : Int) ≤ 0) := propext (by omega)
  have d3 : (0 < (l9.length : Int)) = ¬ ((l9.length : Int) ≤ 0) := propext (by omega)
  have d4 : (40 < (l10.length : Int)) = ¬ ((l10.length : Int) ≤ 40) := propext (by omega)
  have d5 : (6 < (l9.length : Int)) = ¬ ((l9.length : Int) ≤ 6) := propext (by omega)
  simp only [d1, d2, d3, d4, d5]
  cases y
  · simp
  by_cases c1 : c = 0
  rotate_left
  · simp [c1]
  by_cases c2 : (l13.length : Int) ≤ 0
  rotate_left
  · simp only [c2]; simp
  cases w1
  · simp
  simp only [c1, c2, decide_true, Bool.true_and, if_true, not_true_eq_false, if_false]
  have fin : ∀ (q : Prop) [Decidable q] (u v : Bool), True := fun _ _ _ _ => trivial
  by_cases c3 : s12 = ByteArray.empty <;> by_cases c4 : (l10.length : Int) ≤ 0 <;> by_cases c5 : (l10.length : Int) ≤ 40 <;> by_cases c6 : (l9.length : Int) ≤ 0 <;> by_cases c7 : (l9.length : Int) ≤ 6 <;>
    simp only [c3, c4, c5, c6, c7, if_true, if_false, decide_true, decide_false, Bool.not_true, Bool.not_false, Bool.true_and, Bool.and_true, Bool.false_and, Bool.and_false, Bool.true_or, Bool.false_or, not_true_eq_false, not_false_eq_true, if_neg Bool.false_ne_true, Bool.false_eq_true] <;>
    cases m <;> cases w2 <;> cases p <;> cases w3 <;> cases t <;> cases w4 <;> cases w5 <;> cases w6 <;> rfl
end Go.Proofs.YtjobleemmjjocaaDoor
end

set_option linter.unusedVariables false
noncomputable section
namespace Go.Proofs.YtjobleemmjjocaaDoor
open Go Go.AM
def F63 (n : Nat) (l1 : List D) : Option (List D) :=
  (nilF l1 (some ([] : List D)) (needF (scalB l1 = true) (appF 8 ([] : List D) l1 fun l2 => some l2)))
set_option maxRecDepth 100000 in
set_option maxHeartbeats 40000000 in
theorem T63 (n : Nat) : ∀ ⦃l1 : List D⦄ ⦃r1 : List D⦄, F63 n l1 = some r1 →
    Trip Tryd.prog inv 63 [.d (.list false 1 l1)] [] (.v (.c (.ow (.loc 0)))) [] [.tree .row false 1 r1 none] := by
  intro l1 r1 h
  unfold F63 at h
  refine Trip.of tab_ok tab_one fol Tryd.func63 rfl (by kernel_rfl) rfl rfl rfl (fun M hM hI => ?_)
  try cbv
  refine seq_go ?_
  try cbv
  refine seq_go ?_
  try cbv
  refine seq_go ?_
  try cbv
  replace h := nilF_inv h
  obtain ⟨h, hA⟩ := h
  refine nil_both ?_ (fun e => ?_)
  · clear hA
    try cbv
    refine seq_go ?_
    try cbv
    refine ⟨true, ?_⟩
    try cbv
    refine ⟨[], ?_⟩
    try cbv
    refine ⟨[], rfl, ?_⟩
    try cbv
    refine op_pl ?_
    try cbv
    refine ⟨true, ?_⟩
    try cbv
    refine ⟨true, ?_⟩
    try cbv
    refine ⟨[], ?_⟩
    try cbv
    replace h := needF_inv h
    obtain ⟨hs, h⟩ := h
    replace h := appF_inv h
    obtain ⟨l2, hb, hz, h⟩ := h
    refine ⟨scalB_iff.1 hs, (M.lock_iff _).2 hb, l2, hz, ?_⟩
    clear hs hb hz
    try cbv
    obtain rfl := Option.some.inj h
    refine fin_go ?_
    try cbv
    exact ⟨[.loc 160], rfl, rfl, trivial, ⟨rfl, trivial⟩, trivial⟩
  · replace h := hA e
    clear hA
    try cbv
    refine seq_go ?_
    try cbv
    obtain rfl := Option.some.inj h
    refine ⟨_, _, _, ⟨rfl, rfl, rfl⟩, [.treeS 2 false 1], ?_⟩
    try cbv
    exact ⟨[.loc 128], rfl, rfl, trivial, ⟨rfl, trivial⟩, trivial⟩
end Go.Proofs.YtjobleemmjjocaaDoor
end

set_option linter.unusedVariables false
noncomputable section
namespace Go.Proofs.YtjobleemmjjocaaDoor
open Go Go.AM
def F36 (n : Nat) (z1 : Int) (z2 : Int) (z3 : Int) (z4 : Int) (l5 : List D) (l6 : List D) (z7 : Int) (s8 : ByteArray) (l9 : List D) : Option (List D) :=
  (if z1 = (14 : Int) then letL [.int .i64 z2] fun l10 => some l10 else (if z1 = (15 : Int) then letL [.int .i64 z2] fun l11 => some l11 else (if z1 = (16 : Int) then bO1 (F63 n l5) fun l12 => some l12 else some ([] : List D))))
set_option maxRecDepth 100000 in
set_option maxHeartbeats 40000000 in
theorem T36 (n : Nat) : ∀ ⦃z1 : Int⦄ ⦃z2 : Int⦄ ⦃z3 : Int⦄ ⦃z4 : Int⦄ ⦃l5 : List D⦄ ⦃l6 : List D⦄ ⦃z7 : Int⦄ ⦃s8 : ByteArray⦄ ⦃l9 : List D⦄ ⦃r1 : List D⦄, F36 n z1 z2 z3 z4 l5 l6 z7 s8 l9 = some r1 →
    Trip Tryd.prog inv 36 [.d (.agg [.int .u8 z1, .int .i64 z2, .int .i64 z3, .int .i64 z4, .list false 1 l5, .list false 1 l6, .int .i64 z7, .str s8, .list false 1 l9])] [] (.v (.c (.ow (.loc 0)))) [] [.tree .row false 1 r1 none] := by
  intro z1 z2 z3 z4 l5 l6 z7 s8 l9 r1 h
  unfold F36 at h
  refine Trip.of tab_ok tab_one fol Tryd.func36 rfl (by kernel_rfl) rfl rfl rfl (fun M hM hI => ?_)
  try cbv
  refine seq_go ?_
  try cbv
  refine seq_go ?_
  try cbv
  refine seq_go ?_
  try cbv
  refine seq_go ?_
  try cbv
  refine seq_go ?_
  try cbv
  refine splitI (fun e => ?_) (fun e => ?_)
  · replace h := ite_t e h
    clear e
    try cbv
    refine seq_go ?_
    try cbv
    refine ⟨true, ?_⟩
    try cbv
    refine ⟨[], ?_⟩
    try cbv
    replace h := letL_inv h
    obtain ⟨l10, hz, h⟩ := h
    refine ⟨l10, hz, ?_⟩
    clear hz
    try cbv
    obtain rfl := Option.some.inj h
    refine fin_go ?_
    try cbv
    exact ⟨[.loc 256], rfl, rfl, trivial, ⟨rfl, trivial⟩, trivial⟩
  · replace h := ite_f e h
    clear e
    try cbv
    refine splitI (fun e => ?_) (fun e => ?_)
    · replace h := ite_t e h
      clear e
      try cbv
      refine seq_go ?_
      try cbv
      refine ⟨true, ?_⟩
      try cbv
      refine ⟨[], ?_⟩
      try cbv
      replace h := letL_inv h
      obtain ⟨l11, hz, h⟩ := h
      refine ⟨l11, hz, ?_⟩
      clear hz
      try cbv
      obtain rfl := Option.some.inj h
      refine fin_go ?_
      try cbv
      exact ⟨[.loc 320], rfl, rfl, trivial, ⟨rfl, trivial⟩, trivial⟩
    · replace h := ite_f e h
      clear e
      try cbv
      refine seq_go ?_
      try cbv
      refine splitI (fun e => ?_) (fun e => ?_)
      · replace h := ite_t e h
        clear e
        try cbv
        refine seq_go ?_
        try cbv
        replace h := bO1_inv h
        obtain ⟨l12, hr, h⟩ := h
        refine call_go rfl rfl ?_
        try cbv
        refine call_with hM hI [] (T63 _ hr) rfl (by simp) trivial trivial (by simp) ?_
        clear hr
        try cbv
        obtain rfl := Option.some.inj h
        refine fin_go ?_
        try cbv
        exact ⟨[.loc 384], rfl, rfl, trivial, ⟨rfl, trivial⟩, trivial⟩
      · replace h := ite_f e h
        clear e
        try cbv
        refine seq_go ?_
        try cbv
        obtain rfl := Option.some.inj h
        refine ⟨_, _, _, ⟨rfl, rfl, rfl⟩, [.treeS 2 false 1], ?_⟩
        try cbv
        exact ⟨[.loc 352], rfl, rfl, trivial, ⟨rfl, trivial⟩, trivial⟩
end Go.Proofs.YtjobleemmjjocaaDoor
end

set_option linter.unusedVariables false
noncomputable section
namespace Go.Proofs.YtjobleemmjjocaaDoor
open Go Go.AM
def F75 (n : Nat) (b1 : Bool) (s2 : ByteArray) (s3 : ByteArray) : Option (ByteArray) :=
  (if b1 = true then (if s2 = ByteArray.empty then some s3 else catF k___2 s2 fun s4 => catF s3 s4 fun s5 => some s5) else some s3)
set_option maxRecDepth 100000 in
set_option maxHeartbeats 40000000 in
theorem T75 (n : Nat) : ∀ ⦃b1 : Bool⦄ ⦃s2 : ByteArray⦄ ⦃s3 : ByteArray⦄ ⦃r1 : ByteArray⦄, F75 n b1 s2 s3 = some r1 →
    Trip Tryd.prog inv 75 [.d (.bool b1), .d (.str s2), .c (.ptr (.ext 0) 0)] [.cells [.d (.str s3)]] (.t []) [.cells [.d (.str r1)]] [] := by
  intro b1 s2 s3 r1 h
  unfold F75 at h
  refine Trip.of tab_ok tab_one fol Tryd.func75 rfl (by kernel_rfl) rfl rfl rfl (fun M hM hI => ?_)
  try cbv
  refine seq_go ?_
  try cbv
  cases b1
  · replace h := ite_f Bool.false_ne_true h
    try cbv
    obtain rfl := Option.some.inj h
    refine fin_go ?_
    try cbv
    exact ⟨[], rfl, rfl, ⟨rfl, trivial⟩, trivial, trivial⟩
  · replace h := ite_t rfl h
    try cbv
    refine splitS (fun e => ?_) (fun e => ?_)
    · replace h := ite_t (bytes_eq.1 e) h
      clear e
      try cbv
      obtain rfl := Option.some.inj h
      refine fin_go ?_
      try cbv
      exact ⟨[], rfl, rfl, ⟨rfl, trivial⟩, trivial, trivial⟩
    · replace h := ite_f (bytes_ne.1 e) h
      clear e
      try cbv
      replace h := catF_inv h
      obtain ⟨s4, hz, hb, h⟩ := h
      refine ⟨s4, hz, hb, ?_⟩
      clear hb hz
      try cbv
      replace h := catF_inv h
      obtain ⟨s5, hz, hb, h⟩ := h
      refine ⟨s5, hz, hb, ?_⟩
      clear hb hz
      try cbv
      obtain rfl := Option.some.inj h
      refine fin_go ?_
      try cbv
      exact ⟨[], rfl, rfl, ⟨rfl, trivial⟩, trivial, trivial⟩
end Go.Proofs.YtjobleemmjjocaaDoor
end

set_option linter.unusedVariables false
noncomputable section
namespace Go.Proofs.YtjobleemmjjocaaDoor
open Go Go.AM
def L62_2 : Nat → (List D) → Int → ByteArray → Bool → Bool → Bool → ByteArray → Int → (List D) → Int → Option (ByteArray)
  | 0, _, _, _, _, _, _, _, _, _, _ => none
  | n + 1, l5, z7, s8, b14, b15, b16, s33, z36, l37, z38 =>
    (if z38 < z36 then getF l5 z38 fun x39 => ds_i64 x39 fun z40 => bO1 (F44 n z40) fun s41 => appF 16 l37 ([.str s41]) fun l42 => letF (IntKind.wrap .i64 (z38 + 1)) fun z43 => L62_2 n l5 z7 s8 b14 b15 b16 s33 z36 l42 z43 else bO1 (F76 n l37 k___4) fun s44 => bO1 (F75 n b14 s44 s33) fun s45 => bO1 (F77 n z7 (10 : Int)) fun s46 => bO1 (F75 n b15 s46 s45) fun s47 => bO1 (F75 n b16 s8 s47) fun s48 => some s48)
def L62_3 : Nat → (List D) → Int → ByteArray → Bool → Bool → Bool → ByteArray → Int → (List D) → Int → Option (ByteArray)
  | 0, _, _, _, _, _, _, _, _, _, _ => none
  | n + 1, l5, z7, s8, b14, b15, b16, s35, z49, l50, z51 =>
    (if z51 < z49 then getF l5 z51 fun x52 => ds_i64 x52 fun z53 => bO1 (F44 n z53) fun s54 => appF 16 l50 ([.str s54]) fun l55 => letF (IntKind.wrap .i64 (z51 + 1)) fun z56 => L62_3 n l5 z7 s8 b14 b15 b16 s35 z49 l55 z56 else bO1 (F76 n l50 k___4) fun s57 => bO1 (F75 n b14 s57 s35) fun s58 => bO1 (F77 n z7 (10 : Int)) fun s59 => bO1 (F75 n b15 s59 s58) fun s60 => bO1 (F75 n b16 s8 s60) fun s61 => some s61)
def L62_1 : Nat → Int → (List D) → (List D) → Int → ByteArray → Int → Bool → Bool → Bool → Bool → ByteArray → Int → ByteArray → Int → Option (ByteArray)
  | 0, _, _, _, _, _, _, _, _, _, _, _, _, _, _ => none
  | n + 1, z3, l5, l6, z7, s8, z12, b13, b14, b15, b16, s20, z23, s24, z25 =>
    (if z25 < z23 then getF l6 z25 fun x26 => ds_str x26 fun s27 => catF k___3 s27 fun s28 => catF s24 s28 fun s29 => letF (IntKind.wrap .i64 (z25 + 1)) fun z30 => L62_1 n z3 l5 l6 z7 s8 z12 b13 b14 b15 b16 s20 z23 s29 z30 else bO1 (F75 n b13 s24 s20) fun s31 => (if z12 = (0 : Int) then bO1 (F44 n z3) fun s32 => bO1 (F75 n false s32 s31) fun s33 => lenF l5 fun z36 => L62_2 n l5 z7 s8 b14 b15 b16 s33 z36 ([] : List D) (0 : Int) else bO1 (F44 n z3) fun s34 => bO1 (F75 n true s34 s31) fun s35 => lenF l5 fun z49 => L62_3 n l5 z7 s8 b14 b15 b16 s35 z49 ([] : List D) (0 : Int)))
def L62_5 : Nat → (List D) → Int → ByteArray → Bool → Bool → Bool → ByteArray → Int → (List D) → Int → Option (ByteArray)
  | 0, _, _, _, _, _, _, _, _, _, _ => none
  | n + 1, l5, z7, s8, b14, b15, b16, s72, z75, l76, z77 =>
    (if z77 < z75 then getF l5 z77 fun x78 => ds_i64 x78 fun z79 => bO1 (F44 n z79) fun s80 => appF 16 l76 ([.str s80]) fun l81 => letF (IntKind.wrap .i64 (z77 + 1)) fun z82 => L62_5 n l5 z7 s8 b14 b15 b16 s72 z75 l81 z82 else bO1 (F76 n l76 k___4) fun s83 => bO1 (F75 n b14 s83 s72) fun s84 => bO1 (F77 n z7 (10 : Int)) fun s85 => bO1 (F75 n b15 s85 s84) fun s86 => bO1 (F75 n b16 s8 s86) fun s87 => some s87)
def L62_6 : Nat → (List D) → Int → ByteArray → Bool → Bool → Bool → ByteArray → Int → (List D) → Int → Option (ByteArray)
  | 0, _, _, _, _, _, _, _, _, _, _ => none
  | n + 1, l5, z7, s8, b14, b15, b16, s74, z88, l89, z90 =>
    (if z90 < z88 then getF l5 z90 fun x91 => ds_i64 x91 fun z92 => bO1 (F44 n z92) fun s93 => appF 16 l89 ([.str s93]) fun l94 => letF (IntKind.wrap .i64 (z90 + 1)) fun z95 => L62_6 n l5 z7 s8 b14 b15 b16 s74 z88 l94 z95 else bO1 (F76 n l89 k___4) fun s96 => bO1 (F75 n b14 s96 s74) fun s97 => bO1 (F77 n z7 (10 : Int)) fun s98 => bO1 (F75 n b15 s98 s97) fun s99 => bO1 (F75 n b16 s8 s99) fun s100 => some s100)
def L62_4 : Nat → Int → (List D) → (List D) → Int → ByteArray → Int → Bool → Bool → Bool → Bool → ByteArray → Int → ByteArray → Int → Option (ByteArray)
  | 0, _, _, _, _, _, _, _, _, _, _, _, _, _, _ => none
  | n + 1, z3, l5, l6, z7, s8, z12, b13, b14, b15, b16, s22, z62, s63, z64 =>
    (if z64 < z62 then getF l6 z64 fun x65 => ds_str x65 fun s66 => catF k___3 s66 fun s67 => catF s63 s67 fun s68 => letF (IntKind.wrap .i64 (z64 + 1)) fun z69 => L62_4 n z3 l5 l6 z7 s8 z12 b13 b14 b15 b16 s22 z62 s68 z69 else bO1 (F75 n b13 s63 s22) fun s70 => (if z12 = (0 : Int) then bO1 (F44 n z3) fun s71 => bO1 (F75 n false s71 s70) fun s72 => lenF l5 fun z75 => L62_5 n l5 z7 s8 b14 b15 b16 s72 z75 ([] : List D) (0 : Int) else bO1 (F44 n z3) fun s73 => bO1 (F75 n true s73 s70) fun s74 => lenF l5 fun z88 => L62_6 n l5 z7 s8 b14 b15 b16 s74 z88 ([] : List D) (0 : Int)))
def F62 (n : Nat) (z1 : Int) (z2 : Int) (z3 : Int) (z4 : Int) (l5 : List D) (l6 : List D) (z7 : Int) (s8 : ByteArray) (l9 : List D) : Option (ByteArray) :=
  bO9 (F51 n z1) fun s10 z11 z12 b13 b14 b15 b16 l17 b18 => (if b18 = true then (if z11 = (0 : Int) then bO1 (F44 n z2) fun s19 => bO1 (F75 n false s19 s10) fun s20 => lenF l6 fun z23 => L62_1 n z3 l5 l6 z7 s8 z12 b13 b14 b15 b16 s20 z23 ByteArray.empty (0 : Int) else bO1 (F44 n z2) fun s21 => bO1 (F75 n true s21 s10) fun s22 => lenF l6 fun z62 => L62_4 n z3 l5 l6 z7 s8 z12 b13 b14 b15 b16 s22 z62 ByteArray.empty (0 : Int)) else some k___1)
set_option maxRecDepth 100000 in
set_option maxHeartbeats 40000000 in
theorem T62 (n : Nat) : ∀ ⦃z1 : Int⦄ ⦃z2 : Int⦄ ⦃z3 : Int⦄ ⦃z4 : Int⦄ ⦃l5 : List D⦄ ⦃l6 : List D⦄ ⦃z7 : Int⦄ ⦃s8 : ByteArray⦄ ⦃l9 : List D⦄ ⦃r1 : ByteArray⦄, F62 n z1 z2 z3 z4 l5 l6 z7 s8 l9 = some r1 →
    Trip Tryd.prog inv 62 [.d (.agg [.int .u8 z1, .int .i64 z2, .int .i64 z3, .int .i64 z4, .list false 1 l5, .list false 1 l6, .int .i64 z7, .str s8, .list false 1 l9])] [] (.v (.d (.str r1))) [] [] := by
  intro z1 z2 z3 z4 l5 l6 z7 s8 l9 r1 h
  unfold F62 at h
  refine Trip.of tab_ok tab_one fol Tryd.func62 rfl (by kernel_rfl) rfl rfl rfl (fun M hM hI => ?_)
  try cbv
  refine seq_go ?_
  try cbv
  refine seq_go ?_
  try cbv
  replace h := bO9_inv h
  obtain ⟨s10, z11, z12, b13, b14, b15, b16, l17, b18, hr, h⟩ := h
  refine call_go rfl rfl ?_
  try cbv
  refine call_pure hM hI (T51 _ hr) rfl ?_
  clear hr
  try cbv
  refine seq_go ?_
  try cbv
  refine seq_go ?_
  try cbv
  cases b18
  · replace h := ite_f Bool.false_ne_true h
    try cbv
    refine ⟨true, rfl, ?_⟩
    try cbv
    refine seq_go ?_
    try cbv
    obtain rfl := Option.some.inj h
    refine fin_go ?_
    try cbv
    exact ⟨[], rfl, rfl, trivial, trivial, trivial⟩
  · replace h := ite_t rfl h
    try cbv
    refine ⟨false, rfl, ?_⟩
    try cbv
    refine seq_go ?_
    try cbv
    refine seq_go ?_
    try cbv
    refine seq_go ?_
    try cbv
    refine splitI (fun e => ?_) (fun e => ?_)
    · replace h := ite_t e h
      clear e
      try cbv
      replace h := bO1_inv h
      obtain ⟨s19, hr, h⟩ := h
      first | refine .inr ⟨[], ?_⟩ | refine ⟨[], ?_⟩
      try cbv
      refine call_pure hM hI (T44 _ hr) rfl ?_
      clear hr
      try cbv
      replace h := bO1_inv h
      obtain ⟨s20, hr, h⟩ := h
      first | refine .inr ⟨[], ?_⟩ | refine ⟨[], ?_⟩
      try cbv
      refine call_with hM hI [.loc 480] (T75 _ hr) rfl (by simp) ⟨rfl, trivial⟩ ⟨trivial, trivial⟩ (by simp) ?_
      clear hr
      try cbv
      refine drawn ?_ ?_
      · show _ = true
        kernel_rfl
      try cbv
      refine seq_go ?_
      try cbv
      refine seq_go ?_
      try cbv
      refine seq_go ?_
      try cbv
      replace h := lenF_inv M h
      obtain ⟨z23, hz, h⟩ := h
      refine ⟨z23, hz, ?_⟩
      clear hz
      try cbv
      refine loop_inv (T := Nat × ByteArray × Int) [1, 2, 3, 5, 6, 7, 33, 34, 35] [.loc 0, .loc 256, .loc 480] 1024 (fun t => ⟨[(1, .v (.c (.ptr (.loc 0) 0))), (2, .v (.d (.str ByteArray.empty))), (3, .v (.c (.ptr (.loc 256) 0))), (5, .v (.c (.ptr (.loc 480) 0))), (6, .v (.c (.fn 75 [.loc 480]))), (7, .v (.d (.str t.2.1))), (33, .v (.d (.list false 1 l6))), (34, .v (.d (.int .i64 z23))), (35, .v (.d (.int .i64 t.2.2)))], [(.loc 0, .cells [.d (.int .u8 z1), .d (.int .i64 z2), .d (.int .i64 z3), .d (.int .i64 z4), .d (.list false 1 l5), .d (.list false 1 l6), .d (.int .i64 z7), .d (.str s8), .d (.list false 1 l9)]), (.loc 256, .cells [.d (.str s10), .d (.int .i64 z11), .d (.int .i64 z12), .d (.bool b13), .d (.bool b14), .d (.bool b15), .d (.bool b16), .d (.list false 1 l17)]), (.loc 480, .cells [.d (.str s20)])], 1024⟩)
        (fun t => t.1 ≤ n ∧ L62_1 t.1 z3 l5 l6 z7 s8 z12 b13 b14 b15 b16 s20 z23 t.2.1 t.2.2 = some r1) (fun t => t.1) (n, (ByteArray.empty, (0 : Int))) ⟨Nat.le_refl _, h⟩ (by cbv) ?_
      clear h
      rintro ⟨m1, s24, z25⟩ ⟨hm1, h⟩
      replace hm1 : m1 ≤ n := hm1
      cases m1 with
      | zero =>
        replace h : L62_1 0 z3 l5 l6 z7 s8 z12 b13 b14 b15 b16 s20 z23 s24 z25 = some r1 := h
        rw [L62_1] at h
        cases h
      | succ m1 =>
        replace h : L62_1 (m1 + 1) z3 l5 l6 z7 s8 z12 b13 b14 b15 b16 s20 z23 s24 z25 = some r1 := h
        rw [L62_1] at h
        try cbv
        refine seq_go ?_
        try cbv
        refine splitL (fun e => ?_) (fun e => ?_)
        · replace h := ite_t e h
          clear e
          try cbv
          refine seq_go ?_
          try cbv
          refine seq_go ?_
          try cbv
          refine seq_go ?_
          try cbv
          replace h := getF_inv h
          obtain ⟨x26, ⟨hx0, hx⟩, h⟩ := h
          refine ⟨x26, hx0, hx, ?_⟩
          clear hx0 hx
          replace h := ds_str_inv h
          obtain ⟨s27, rfl, h⟩ := h
          try cbv
          replace h := catF_inv h
          obtain ⟨s28, hz, hb, h⟩ := h
          refine ⟨s28, hz, hb, ?_⟩
          clear hb hz
          try cbv
          replace h := catF_inv h
          obtain ⟨s29, hz, hb, h⟩ := h
          refine ⟨s29, hz, hb, ?_⟩
          clear hb hz
          try cbv
          replace h := letF_inv h
          obtain ⟨z30, hz, h⟩ := h
          refine ⟨z30, hz, ?_⟩
          clear hz
          try cbv
          exact loop_next (m1, (s29, z30)) [1, 2, 3, 5, 6, 7, 33, 34, 35] [.loc 0, .loc 256, .loc 480] 1024 ⟨by omega, h⟩ (Nat.lt_succ_of_le (by omega)) (by cbv)
        · replace h := ite_f (Int.not_lt.2 e) h
          clear e
          try cbv
          refine seq_go ?_
          try cbv
          refine seq_go ?_
          try cbv
          replace h := bO1_inv h
          obtain ⟨s31, hr, h⟩ := h
          refine call_go rfl rfl ?_
          try cbv
          refine call_with hM hI [.loc 480] (T75 _ hr) rfl (by simp) ⟨rfl, trivial⟩ ⟨trivial, trivial⟩ (by simp) ?_
          clear hr
          try cbv
          refine seq_go ?_
          try cbv
          refine splitI (fun e => ?_) (fun e => ?_)
          · replace h := ite_t e h
            clear e
            try cbv
            replace h := bO1_inv h
            obtain ⟨s32, hr, h⟩ := h
            first | refine .inr ⟨[], ?_⟩ | refine ⟨[], ?_⟩
            try cbv
            refine call_pure hM hI (T44 _ hr) rfl ?_
            clear hr
            try cbv
            replace h := bO1_inv h
            obtain ⟨s33, hr, h⟩ := h
            first | refine .inr ⟨[], ?_⟩ | refine ⟨[], ?_⟩
            try cbv
            refine call_with hM hI [.loc 480] (T75 _ hr) rfl (by simp) ⟨rfl, trivial⟩ ⟨trivial, trivial⟩ (by simp) ?_
            clear hr
            try cbv
            refine drawn ?_ ?_
            · show _ = true
              kernel_rfl
            try cbv
            refine seq_go ?_
            try cbv
            refine seq_go ?_
            try cbv
            refine seq_go ?_
            try cbv
            replace h := lenF_inv M h
            obtain ⟨z36, hz, h⟩ := h
            refine ⟨z36, hz, ?_⟩
            clear hz
            try cbv
            refine loop_invT (T := Nat × List D × Int) [.slot 10 false 1 9] [1, 2, 3, 5, 6, 7, 10, 33, 34, 35, 58, 59, 60] [.loc 0, .loc 256, .loc 480, .loc 1632] 1664 (fun t => ⟨[(1, .v (.c (.ptr (.loc 0) 0))), (2, .v (.d (.str ByteArray.empty))), (3, .v (.c (.ptr (.loc 256) 0))), (5, .v (.c (.ptr (.loc 480) 0))), (6, .v (.c (.fn 75 [.loc 480]))), (7, .v (.d (.str s24))), (10, .v (.c (.lst (.loc 1632) false 1 t.2.1))), (33, .v (.d (.list false 1 l6))), (34, .v (.d (.int .i64 z23))), (35, .v (.d (.int .i64 z25))), (58, .v (.d (.list false 1 l5))), (59, .v (.d (.int .i64 z36))), (60, .v (.d (.int .i64 t.2.2)))], [(.loc 0, .cells [.d (.int .u8 z1), .d (.int .i64 z2), .d (.int .i64 z3), .d (.int .i64 z4), .d (.list false 1 l5), .d (.list false 1 l6), .d (.int .i64 z7), .d (.str s8), .d (.list false 1 l9)]), (.loc 256, .cells [.d (.str s10), .d (.int .i64 z11), .d (.int .i64 z12), .d (.bool b13), .d (.bool b14), .d (.bool b15), .d (.bool b16), .d (.list false 1 l17)]), (.loc 480, .cells [.d (.str s33)]), (.loc 1632, .tok t.2.1.length 1 9)], 1664⟩)
              (fun t => t.1 ≤ m1 ∧ L62_2 t.1 l5 z7 s8 b14 b15 b16 s33 z36 t.2.1 t.2.2 = some r1) (fun t => t.1) (m1, (([] : List D), (0 : Int))) ⟨Nat.le_refl _, h⟩ (by cbv) ?_
            clear h
            rintro ⟨m2, l37, z38⟩ ⟨hm2, h⟩
            replace hm2 : m2 ≤ m1 := hm2
            cases m2 with
            | zero =>
              replace h : L62_2 0 l5 z7 s8 b14 b15 b16 s33 z36 l37 z38 = some r1 := h
              rw [L62_2] at h
              cases h
            | succ m2 =>
              replace h : L62_2 (m2 + 1) l5 z7 s8 b14 b15 b16 s33 z36 l37 z38 = some r1 := h
              rw [L62_2] at h
              try cbv
              refine seq_go ?_
              try cbv
              refine splitL (fun e => ?_) (fun e => ?_)
              · replace h := ite_t e h
                clear e
                try cbv
                refine seq_go ?_
                try cbv
                refine seq_go ?_
                try cbv
                refine seq_go ?_
                try cbv
                replace h := getF_inv h
                obtain ⟨x39, ⟨hx0, hx⟩, h⟩ := h
                refine ⟨x39, hx0, hx, ?_⟩
                clear hx0 hx
                replace h := ds_i64_inv h
                obtain ⟨z40, rfl, h⟩ := h
                try cbv
                replace h := bO1_inv h
                obtain ⟨s41, hr, h⟩ := h
                refine call_go rfl rfl ?_
                try cbv
                refine call_pure hM hI (T44 _ hr) rfl ?_
                clear hr
                try cbv
                refine ⟨false, ?_⟩
                try cbv
                refine ⟨true, ?_⟩
                try cbv
                replace h := appF_inv h
                obtain ⟨l42, hb, hz, h⟩ := h
                refine ⟨false, ?_⟩
                try cbv
                first | refine ⟨rfl, (M.lock_iff _).2 hb, l42, hz, ?_⟩ | refine ⟨(M.lock_iff _).2 hb, l42, hz, ?_⟩
                clear hb hz
                try cbv
                replace h := letF_inv h
                obtain ⟨z43, hz, h⟩ := h
                refine ⟨z43, hz, ?_⟩
                clear hz
                try cbv
                exact loop_next (m2, (l42, z43)) [1, 2, 3, 5, 6, 7, 10, 33, 34, 35, 58, 59, 60] [.loc 0, .loc 256, .loc 480, .loc 1632] 1664 ⟨by omega, h⟩ (Nat.lt_succ_of_le (by omega)) (by cbv)
              · replace h := ite_f (Int.not_lt.2 e) h
                clear e
                try cbv
                refine seq_go ?_
                try cbv
                refine seq_go ?_
                try cbv
                replace h := bO1_inv h
                obtain ⟨s44, hr, h⟩ := h
                first | refine .inr ⟨[], ?_⟩ | refine ⟨[], ?_⟩
                try cbv
                refine call_pure hM hI (T76 _ hr) rfl ?_
                clear hr
                try cbv
                replace h := bO1_inv h
                obtain ⟨s45, hr, h⟩ := h
                first | refine .inr ⟨[], ?_⟩ | refine ⟨[], ?_⟩
                try cbv
                refine call_with hM hI [.loc 480] (T75 _ hr) rfl (by simp) ⟨rfl, trivial⟩ ⟨trivial, trivial⟩ (by simp) ?_
                clear hr
                try cbv
                refine drawn ?_ ?_
                · show _ = true
                  kernel_rfl
                try cbv
                refine seq_go ?_
                try cbv
                replace h := bO1_inv h
                obtain ⟨s46, hr, h⟩ := h
                first | refine .inr ⟨[], ?_⟩ | refine ⟨[], ?_⟩
                try cbv
                refine call_pure hM hI (T77 _ hr) rfl ?_
                clear hr
                try cbv
                replace h := bO1_inv h
                obtain ⟨s47, hr, h⟩ := h
                first | refine .inr ⟨[], ?_⟩ | refine ⟨[], ?_⟩
                try cbv
                refine call_with hM hI [.loc 480] (T75 _ hr) rfl (by simp) ⟨rfl, trivial⟩ ⟨trivial, trivial⟩ (by simp) ?_
                clear hr
                try cbv
                refine drawn ?_ ?_
                · show _ = true
                  kernel_rfl
                try cbv
                refine seq_go ?_
                try cbv
                replace h := bO1_inv h
                obtain ⟨s48, hr, h⟩ := h
                refine call_go rfl rfl ?_
                try cbv
                refine call_with hM hI [.loc 480] (T75 _ hr) rfl (by simp) ⟨rfl, trivial⟩ ⟨trivial, trivial⟩ (by simp) ?_
                clear hr
                try cbv
                refine seq_go ?_
                try cbv
                obtain rfl := Option.some.inj h
                refine fin_go ?_
                try cbv
                exact ⟨[], rfl, rfl, trivial, trivial, trivial⟩
          · replace h := ite_f e h
            clear e
            try cbv
            replace h := bO1_inv h
            obtain ⟨s34, hr, h⟩ := h
            first | refine .inr ⟨[], ?_⟩ | refine ⟨[], ?_⟩
            try cbv
            refine call_pure hM hI (T44 _ hr) rfl ?_
            clear hr
            try cbv
            replace h := bO1_inv h
            obtain ⟨s35, hr, h⟩ := h
            first | refine .inr ⟨[], ?_⟩ | refine ⟨[], ?_⟩
            try cbv
            refine call_with hM hI [.loc 480] (T75 _ hr) rfl (by simp) ⟨rfl, trivial⟩ ⟨trivial, trivial⟩ (by simp) ?_
            clear hr
            try cbv
            refine drawn ?_ ?_
            · show _ = true
              kernel_rfl
            try cbv
            refine seq_go ?_
            try cbv
            refine seq_go ?_
            try cbv
            refine seq_go ?_
            try cbv
            replace h := lenF_inv M h
            obtain ⟨z49, hz, h⟩ := h
            refine ⟨z49, hz, ?_⟩
            clear hz
            try cbv
            refine loop_invT (T := Nat × List D × Int) [.slot 10 false 1 9] [1, 2, 3, 5, 6, 7, 10, 33, 34, 35, 58, 59, 60] [.loc 0, .loc 256, .loc 480, .loc 1632] 1664 (fun t => ⟨[(1, .v (.c (.ptr (.loc 0) 0))), (2, .v (.d (.str ByteArray.empty))), (3, .v (.c (.ptr (.loc 256) 0))), (5, .v (.c (.ptr (.loc 480) 0))), (6, .v (.c (.fn 75 [.loc 480]))), (7, .v (.d (.str s24))), (10, .v (.c (.lst (.loc 1632) false 1 t.2.1))), (33, .v (.d (.list false 1 l6))), (34, .v (.d (.int .i64 z23))), (35, .v (.d (.int .i64 z25))), (58, .v (.d (.list false 1 l5))), (59, .v (.d (.int .i64 z49))), (60, .v (.d (.int .i64 t.2.2)))], [(.loc 0, .cells [.d (.int .u8 z1), .d (.int .i64 z2), .d (.int .i64 z3), .d (.int .i64 z4), .d (.list false 1 l5), .d (.list false 1 l6), .d (.int .i64 z7), .d (.str s8), .d (.list false 1 l9)]), (.loc 256, .cells [.d (.str s10), .d (.int .i64 z11), .d (.int .i64 z12), .d (.bool b13), .d (.bool b14), .d (.bool b15), .d (.bool b16), .d (.list false 1 l17)]), (.loc 480, .cells [.d (.str s35)]), (.loc 1632, .tok t.2.1.length 1 9)], 1664⟩)
              (fun t => t.1 ≤ m1 ∧ L62_3 t.1 l5 z7 s8 b14 b15 b16 s35 z49 t.2.1 t.2.2 = some r1) (fun t => t.1) (m1, (([] : List D), (0 : Int))) ⟨Nat.le_refl _, h⟩ (by cbv) ?_
            clear h
            rintro ⟨m3, l50, z51⟩ ⟨hm3, h⟩
            replace hm3 : m3 ≤ m1 := hm3
            cases m3 with
            | zero =>
              replace h : L62_3 0 l5 z7 s8 b14 b15 b16 s35 z49 l50 z51 = some r1 := h
              rw [L62_3] at h
              cases h
            | succ m3 =>
              replace h : L62_3 (m3 + 1) l5 z7 s8 b14 b15 b16 s35 z49 l50 z51 = some r1 := h
              rw [L62_3] at h
              try cbv
              refine seq_go ?_
              try cbv
              refine splitL (fun e => ?_) (fun e => ?_)
              · replace h := ite_t e h
                clear e
                try cbv
                refine seq_go ?_
                try cbv
                refine seq_go ?_
                try cbv
                refine seq_go ?_
                try cbv
                replace h := getF_inv h
                obtain ⟨x52, ⟨hx0, hx⟩, h⟩ := h
                refine ⟨x52, hx0, hx, ?_⟩
                clear hx0 hx
                replace h := ds_i64_inv h
                obtain ⟨z53, rfl, h⟩ := h
                try cbv
                replace h := bO1_inv h
                obtain ⟨s54, hr, h⟩ := h
                refine call_go rfl rfl ?_
                try cbv
                refine call_pure hM hI (T44 _ hr) rfl ?_
                clear hr
                try cbv
                refine ⟨false, ?_⟩
                try cbv
                refine ⟨true, ?_⟩
                try cbv
                replace h := appF_inv h
                obtain ⟨l55, hb, hz, h⟩ := h
                refine ⟨false, ?_⟩
                try cbv
                first | refine ⟨rfl, (M.lock_iff _).2 hb, l55, hz, ?_⟩ | refine ⟨(M.lock_iff _).2 hb, l55, hz, ?_⟩
                clear hb hz
                try cbv
                replace h := letF_inv h
                obtain ⟨z56, hz, h⟩ := h
                refine ⟨z56, hz, ?_⟩
                clear hz
                try cbv
                exact loop_next (m3, (l55, z56)) [1, 2, 3, 5, 6, 7, 10, 33, 34, 35, 58, 59, 60] [.loc 0, .loc 256, .loc 480, .loc 1632] 1664 ⟨by omega, h⟩ (Nat.lt_succ_of_le (by omega)) (by cbv)
              · replace h := ite_f (Int.not_lt.2 e) h
                clear e
                try cbv
                refine seq_go ?_
                try cbv
                refine seq_go ?_
                try cbv
                replace h := bO1_inv h
                obtain ⟨s57, hr, h⟩ := h
                first | refine .inr ⟨[], ?_⟩ | refine ⟨[], ?_⟩
                try cbv
                refine call_pure hM hI (T76 _ hr) rfl ?_
                clear hr
                try cbv
                replace h := bO1_inv h
                obtain ⟨s58, hr, h⟩ := h
                first | refine .inr ⟨[], ?_⟩ | refine ⟨[], ?_⟩
                try cbv
                refine call_with hM hI [.loc 480] (T75 _ hr) rfl (by simp) ⟨rfl, trivial⟩ ⟨trivial, trivial⟩ (by simp) ?_
                clear hr
                try cbv
                refine drawn ?_ ?_
                · show _ = true
                  kernel_rfl
                try cbv
                refine seq_go ?_
                try cbv
                replace h := bO1_inv h
                obtain ⟨s59, hr, h⟩ := h
                first | refine .inr ⟨[], ?_⟩ | refine ⟨[], ?_⟩
                try cbv
                refine call_pure hM hI (T77 _ hr) rfl ?_
                clear hr
                try cbv
                replace h := bO1_inv h
                obtain ⟨s60, hr, h⟩ := h
                first | refine .inr ⟨[], ?_⟩ | refine ⟨[], ?_⟩
                try cbv
                refine call_with hM hI [.loc 480] (T75 _ hr) rfl (by simp) ⟨rfl, trivial⟩ ⟨trivial, trivial⟩ (by simp) ?_
                clear hr
                try cbv
                refine drawn ?_ ?_
                · show _ = true
                  kernel_rfl
                try cbv
                refine seq_go ?_
                try cbv
                replace h := bO1_inv h
                obtain ⟨s61, hr, h⟩ := h
                refine call_go rfl rfl ?_
                try cbv
                refine call_with hM hI [.loc 480] (T75 _ hr) rfl (by simp) ⟨rfl, trivial⟩ ⟨trivial, trivial⟩ (by simp) ?_
                clear hr
                try cbv
                refine seq_go ?_
                try cbv
                obtain rfl := Option.some.inj h
                refine fin_go ?_
                try cbv
                exact ⟨[], rfl, rfl, trivial, trivial, trivial⟩
    · replace h := ite_f e h
      clear e
      try cbv
      replace h := bO1_inv h
      obtain ⟨s21, hr, h⟩ := h
      first | refine .inr ⟨[], ?_⟩ | refine ⟨[], ?_⟩
      try cbv
      refine call_pure hM hI (T44 _ hr) rfl ?_
      clear hr
      try cbv
      replace h := bO1_inv h
      obtain ⟨s22, hr, h⟩ := h
      first | refine .inr ⟨[], ?_⟩ | refine ⟨[], ?_⟩
      try cbv
      refine call_with hM hI [.loc 480] (T75 _ hr) rfl (by simp) ⟨rfl, trivial⟩ ⟨trivial, trivial⟩ (by simp) ?_
      clear hr
      try cbv
      refine drawn ?_ ?_
      · show _ = true
        kernel_rfl
      try cbv
      refine seq_go ?_
      try cbv
      refine seq_go ?_
      try cbv
      refine seq_go ?_
      try cbv
      replace h := lenF_inv M h
      obtain ⟨z62, hz, h⟩ := h
      refine ⟨z62, hz, ?_⟩
      clear hz
      try cbv
      refine loop_inv (T := Nat × ByteArray × Int) [1, 2, 3, 5, 6, 7, 33, 34, 35] [.loc 0, .loc 256, .loc 480] 1024 (fun t => ⟨[(1, .v (.c (.ptr (.loc 0) 0))), (2, .v (.d (.str ByteArray.empty))), (3, .v (.c (.ptr (.loc 256) 0))), (5, .v (.c (.ptr (.loc 480) 0))), (6, .v (.c (.fn 75 [.loc 480]))), (7, .v (.d (.str t.2.1))), (33, .v (.d (.list false 1 l6))), (34, .v (.d (.int .i64 z62))), (35, .v (.d (.int .i64 t.2.2)))], [(.loc 0, .cells [.d (.int .u8 z1), .d (.int .i64 z2), .d (.int .i64 z3), .d (.int .i64 z4), .d (.list false 1 l5), .d (.list false 1 l6), .d (.int .i64 z7), .d (.str s8), .d (.list false 1 l9)]), (.loc 256, .cells [.d (.str s10), .d (.int .i64 z11), .d (.int .i64 z12), .d (.bool b13), .d (.bool b14), .d (.bool b15), .d (.bool b16), .d (.list false 1 l17)]), (.loc 480, .cells [.d (.str s22)])], 1024⟩)
        (fun t => t.1 ≤ n ∧ L62_4 t.1 z3 l5 l6 z7 s8 z12 b13 b14 b15 b16 s22 z62 t.2.1 t.2.2 = some r1) (fun t => t.1) (n, (ByteArray.empty, (0 : Int))) ⟨Nat.le_refl _, h⟩ (by cbv) ?_
      clear h
      rintro ⟨m4, s63, z64⟩ ⟨hm4, h⟩
      replace hm4 : m4 ≤ n := hm4
      cases m4 with
      | zero =>
        replace h : L62_4 0 z3 l5 l6 z7 s8 z12 b13 b14 b15 b16 s22 z62 s63 z64 = some r1 := h
        rw [L62_4] at h
        cases h
      | succ m4 =>
        replace h : L62_4 (m4 + 1) z3 l5 l6 z7 s8 z12 b13 b14 b15 b16 s22 z62 s63 z64 = some r1 := h
        rw [L62_4] at h
        try cbv
        refine seq_go ?_
        try cbv
        refine splitL (fun e => ?_) (fun e => ?_)
        · replace h := ite_t e h
          clear e
          try cbv
          refine seq_go ?_
          try cbv
          refine seq_go ?_
          try cbv
          refine seq_go ?_
          try cbv
          replace h := getF_inv h
          obtain ⟨x65, ⟨hx0, hx⟩, h⟩ := h
          refine ⟨x65, hx0, hx, ?_⟩
          clear hx0 hx
          replace h := ds_str_inv h
          obtain ⟨s66, rfl, h⟩ := h
          try cbv
          replace h := catF_inv h
          obtain ⟨s67, hz, hb, h⟩ := h
          refine ⟨s67, hz, hb, ?_⟩
          clear hb hz
          try cbv
          replace h := catF_inv h
          obtain ⟨s68, hz, hb, h⟩ := h
          refine ⟨s68, hz, hb, ?_⟩
          clear hb hz
          try cbv
          replace h := letF_inv h
          obtain ⟨z69, hz, h⟩ := h
          refine ⟨z69, hz, ?_⟩
          clear hz
          try cbv
          exact loop_next (m4, (s68, z69)) [1, 2, 3, 5, 6, 7, 33, 34, 35] [.loc 0, .loc 256, .loc 480] 1024 ⟨by omega, h⟩ (Nat.lt_succ_of_le (by omega)) (by cbv)
        · replace h := ite_f (Int.not_lt.2 e) h
          clear e
          try cbv
          refine seq_go ?_
          try cbv
          refine seq_go ?_
          try cbv
          replace h := bO1_inv h
          obtain ⟨s70, hr, h⟩ := h
          refine call_go rfl rfl ?_
          try cbv
          refine call_with hM hI [.loc 480] (T75 _ hr) rfl (by simp) ⟨rfl, trivial⟩ ⟨trivial, trivial⟩ (by simp) ?_
          clear hr
          try cbv
          refine seq_go ?_
          try cbv
          refine splitI (fun e => ?_) (fun e => ?_)
          · replace h := ite_t e h
            clear e
            try cbv
            replace h := bO1_inv h
            obtain ⟨s71, hr, h⟩ := h
            first | refine .inr ⟨[], ?_⟩ | refine ⟨[], ?_⟩
            try cbv
            refine call_pure hM hI (T44 _ hr) rfl ?_
            clear hr
            try cbv
            replace h := bO1_inv h
            obtain ⟨s72, hr, h⟩ := h
            first | refine .inr ⟨[], ?_⟩ | refine ⟨[], ?_⟩
            try cbv
            refine call_with hM hI [.loc 480] (T75 _ hr) rfl (by simp) ⟨rfl, trivial⟩ ⟨trivial, trivial⟩ (by simp) ?_
            clear hr
            try cbv
            refine drawn ?_ ?_
            · show _ = true
              kernel_rfl
            try cbv
            refine seq_go ?_
            try cbv
            refine seq_go ?_
            try cbv
            refine seq_go ?_
            try cbv
            replace h := lenF_inv M h
            obtain ⟨z75, hz, h⟩ := h
            refine ⟨z75, hz, ?_⟩
            clear hz
            try cbv
            refine loop_invT (T := Nat × List D × Int) [.slot 10 false 1 9] [1, 2, 3, 5, 6, 7, 10, 33, 34, 35, 58, 59, 60] [.loc 0, .loc 256, .loc 480, .loc 1632] 1664 (fun t => ⟨[(1, .v (.c (.ptr (.loc 0) 0))), (2, .v (.d (.str ByteArray.empty))), (3, .v (.c (.ptr (.loc 256) 0))), (5, .v (.c (.ptr (.loc 480) 0))), (6, .v (.c (.fn 75 [.loc 480]))), (7, .v (.d (.str s63))), (10, .v (.c (.lst (.loc 1632) false 1 t.2.1))), (33, .v (.d (.list false 1 l6))), (34, .v (.d (.int .i64 z62))), (35, .v (.d (.int .i64 z64))), (58, .v (.d (.list false 1 l5))), (59, .v (.d (.int .i64 z75))), (60, .v (.d (.int .i64 t.2.2)))], [(.loc 0, .cells [.d (.int .u8 z1), .d (.int .i64 z2), .d (.int .i64 z3), .d (.int .i64 z4), .d (.list false 1 l5), .d (.list false 1 l6), .d (.int .i64 z7), .d (.str s8), .d (.list false 1 l9)]), (.loc 256, .cells [.d (.str s10), .d (.int .i64 z11), .d (.int .i64 z12), .d (.bool b13), .d (.bool b14), .d (.bool b15), .d (.bool b16), .d (.list false 1 l17)]), (.loc 480, .cells [.d (.str s72)]), (.loc 1632, .tok t.2.1.length 1 9)], 1664⟩)
              (fun t => t.1 ≤ m4 ∧ L62_5 t.1 l5 z7 s8 b14 b15 b16 s72 z75 t.2.1 t.2.2 = some r1) (fun t => t.1) (m4, (([] : List D), (0 : Int))) ⟨Nat.le_refl _, h⟩ (by cbv) ?_
            clear h
            rintro ⟨m5, l76, z77⟩ ⟨hm5, h⟩
            replace hm5 : m5 ≤ m4 := hm5
            cases m5 with
            | zero =>
              replace h : L62_5 0 l5 z7 s8 b14 b15 b16 s72 z75 l76 z77 = some r1 := h
              rw [L62_5] at h
              cases h
            | succ m5 =>
              replace h : L62_5 (m5 + 1) l5 z7 s8 b14 b15 b16 s72 z75 l76 z77 = some r1 := h
              rw [L62_5] at h
              try cbv
              refine seq_go ?_
              try cbv
              refine splitL (fun e => ?_) (fun e => ?_)
              · replace h := ite_t e h
                clear e
                try cbv
                refine seq_go ?_
                try cbv
                refine seq_go ?_
                try cbv
                refine seq_go ?_
                try cbv
                replace h := getF_inv h
                obtain ⟨x78, ⟨hx0, hx⟩, h⟩ := h
                refine ⟨x78, hx0, hx, ?_⟩
                clear hx0 hx
                replace h := ds_i64_inv h
                obtain ⟨z79, rfl, h⟩ := h
                try cbv
                replace h := bO1_inv h
                obtain ⟨s80, hr, h⟩ := h
                refine call_go rfl rfl ?_
                try cbv
                refine call_pure hM hI (T44 _ hr) rfl ?_
                clear hr
                try cbv
                refine ⟨false, ?_⟩
                try cbv
                refine ⟨true, ?_⟩
                try cbv
                replace h := appF_inv h
                obtain ⟨l81, hb, hz, h⟩ := h
                refine ⟨false, ?_⟩
                try cbv
                first | refine ⟨rfl, (M.lock_iff _).2 hb, l81, hz, ?_⟩ | refine ⟨(M.lock_iff _).2 hb, l81, hz, ?_⟩
                clear hb hz
                try cbv
                replace h := letF_inv h
                obtain ⟨z82, hz, h⟩ := h
                refine ⟨z82, hz, ?_⟩
                clear hz
                try cbv
                exact loop_next (m5, (l81, z82)) [1, 2, 3, 5, 6, 7, 10, 33, 34, 35, 58, 59, 60] [.loc 0, .loc 256, .loc 480, .loc 1632] 1664 ⟨by omega, h⟩ (Nat.lt_succ_of_le (by omega)) (by cbv)
              · replace h := ite_f (Int.not_lt.2 e) h
                clear e
                try cbv
                refine seq_go ?_
                try cbv
                refine seq_go ?_
                try cbv
                replace h := bO1_inv h
                obtain ⟨s83, hr, h⟩ := h
                first | refine .inr ⟨[], ?_⟩ | refine ⟨[], ?_⟩
                try cbv
                refine call_pure hM hI (T76 _ hr) rfl ?_
                clear hr
                try cbv
                replace h := bO1_inv h
                obtain ⟨s84, hr, h⟩ := h
                first | refine .inr ⟨[], ?_⟩ | refine ⟨[], ?_⟩
                try cbv
                refine call_with hM hI [.loc 480] (T75 _ hr) rfl (by simp) ⟨rfl, trivial⟩ ⟨trivial, trivial⟩ (by simp) ?_
                clear hr
                try cbv
                refine drawn ?_ ?_
                · show _ = true
                  kernel_rfl
                try cbv
                refine seq_go ?_
                try cbv
                replace h := bO1_inv h
                obtain ⟨s85, hr, h⟩ := h
                first | refine .inr ⟨[], ?_⟩ | refine ⟨[], ?_⟩
                try cbv
                refine call_pure hM hI (T77 _ hr) rfl ?_
                clear hr
                try cbv
                replace h := bO1_inv h
                obtain ⟨s86, hr, h⟩ := h
                first | refine .inr ⟨[], ?_⟩ | refine ⟨[], ?_⟩
                try cbv
                refine call_with hM hI [.loc 480] (T75 _ hr) rfl (by simp) ⟨rfl, trivial⟩ ⟨trivial, trivial⟩ (by simp) ?_
                clear hr
                try cbv
                refine drawn ?_ ?_
                · show _ = true
                  kernel_rfl
                try cbv
                refine seq_go ?_
                try cbv
                replace h := bO1_inv h
                obtain ⟨s87, hr, h⟩ := h
                refine call_go rfl rfl ?_
                try cbv
                refine call_with hM hI [.loc 480] (T75 _ hr) rfl (by simp) ⟨rfl, trivial⟩ ⟨trivial, trivial⟩ (by simp) ?_
                clear hr
                try cbv
                refine seq_go ?_
                try cbv
                obtain rfl := Option.some.inj h
                refine fin_go ?_
                try cbv
                exact ⟨[], rfl, rfl, trivial, trivial, trivial⟩
          · replace h := ite_f e h
            clear e
            try cbv
            replace h := bO1_inv h
            obtain ⟨s73, hr, h⟩ := h
            first | refine .inr ⟨[], ?_⟩ | refine ⟨[], ?_⟩
            try cbv
            refine call_pure hM hI (T44 _ hr) rfl ?_
            clear hr
            try cbv
            replace h := bO1_inv h
            obtain ⟨s74, hr, h⟩ := h
            first | refine .inr ⟨[], ?_⟩ | refine ⟨[], ?_⟩
            try cbv
            refine call_with hM hI [.loc 480] (T75 _ hr) rfl (by simp) ⟨rfl, trivial⟩ ⟨trivial, trivial⟩ (by simp) ?_
            clear hr
            try cbv
            refine drawn ?_ ?_
            · show _ = true
              kernel_rfl
            try cbv
            refine seq_go ?_
            try cbv
            refine seq_go ?_
            try cbv
            refine seq_go ?_
            try cbv
            replace h := lenF_inv M h
            obtain ⟨z88, hz, h⟩ := h
            refine ⟨z88, hz, ?_⟩
            clear hz
            try cbv
            refine loop_invT (T := Nat × List D × Int) [.slot 10 false 1 9] [1, 2, 3, 5, 6, 7, 10, 33, 34, 35, 58, 59, 60] [.loc 0, .loc 256, .loc 480, .loc 1632] 1664 (fun t => ⟨[(1, .v (.c (.ptr (.loc 0) 0))), (2, .v (.d (.str ByteArray.empty))), (3, .v (.c (.ptr (.loc 256) 0))), (5, .v (.c (.ptr (.loc 480) 0))), (6, .v (.c (.fn 75 [.loc 480]))), (7, .v (.d (.str s63))), (10, .v (.c (.lst (.loc 1632) false 1 t.2.1))), (33, .v (.d (.list false 1 l6))), (34, .v (.d (.int .i64 z62))), (35, .v (.d (.int .i64 z64))), (58, .v (.d (.list false 1 l5))), (59, .v (.d (.int .i64 z88))), (60, .v (.d (.int .i64 t.2.2)))], [(.loc 0, .cells [.d (.int .u8 z1), .d (.int .i64 z2), .d (.int .i64 z3), .d (.int .i64 z4), .d (.list false 1 l5), .d (.list false 1 l6), .d (.int .i64 z7), .d (.str s8), .d (.list false 1 l9)]), (.loc 256, .cells [.d (.str s10), .d (.int .i64 z11), .d (.int .i64 z12), .d (.bool b13), .d (.bool b14), .d (.bool b15), .d (.bool b16), .d (.list false 1 l17)]), (.loc 480, .cells [.d (.str s74)]), (.loc 1632, .tok t.2.1.length 1 9)], 1664⟩)
              (fun t => t.1 ≤ m4 ∧ L62_6 t.1 l5 z7 s8 b14 b15 b16 s74 z88 t.2.1 t.2.2 = some r1) (fun t => t.1) (m4, (([] : List D), (0 : Int))) ⟨Nat.le_refl _, h⟩ (by cbv) ?_
            clear h
            rintro ⟨m6, l89, z90⟩ ⟨hm6, h⟩
            replace hm6 : m6 ≤ m4 := hm6
            cases m6 with
            | zero =>
              replace h : L62_6 0 l5 z7 s8 b14 b15 b16 s74 z88 l89 z90 = some r1 := h
              rw [L62_6] at h
              cases h
            | succ m6 =>
              replace h : L62_6 (m6 + 1) l5 z7 s8 b14 b15 b16 s74 z88 l89 z90 = some r1 := h
              rw [L62_6] at h
              try cbv
              refine seq_go ?_
              try cbv
              refine splitL (fun e => ?_) (fun e => ?_)
              · replace h := ite_t e h
                clear e
                try cbv
                refine seq_go ?_
                try cbv
                refine seq_go ?_
                try cbv
                refine seq_go ?_
                try cbv
                replace h := getF_inv h
                obtain ⟨x91, ⟨hx0, hx⟩, h⟩ := h
                refine ⟨x91, hx0, hx, ?_⟩
                clear hx0 hx
                replace h := ds_i64_inv h
                obtain ⟨z92, rfl, h⟩ := h
                try cbv
                replace h := bO1_inv h
                obtain ⟨s93, hr, h⟩ := h
                refine call_go rfl rfl ?_
                try cbv
                refine call_pure hM hI (T44 _ hr) rfl ?_
                clear hr
                try cbv
                refine ⟨false, ?_⟩
                try cbv
                refine ⟨true, ?_⟩
                try cbv
                replace h := appF_inv h
                obtain ⟨l94, hb, hz, h⟩ := h
                refine ⟨false, ?_⟩
                try cbv
                first | refine ⟨rfl, (M.lock_iff _).2 hb, l94, hz, ?_⟩ | refine ⟨(M.lock_iff _).2 hb, l94, hz, ?_⟩
                clear hb hz
                try cbv
                replace h := letF_inv h
                obtain ⟨z95, hz, h⟩ := h
                refine ⟨z95, hz, ?_⟩
                clear hz
                try cbv
                exact loop_next (m6, (l94, z95)) [1, 2, 3, 5, 6, 7, 10, 33, 34, 35, 58, 59, 60] [.loc 0, .loc 256, .loc 480, .loc 1632] 1664 ⟨by omega, h⟩ (Nat.lt_succ_of_le (by omega)) (by cbv)
              · replace h := ite_f (Int.not_lt.2 e) h
                clear e
                try cbv
                refine seq_go ?_
                try cbv
                refine seq_go ?_
                try cbv
                replace h := bO1_inv h
                obtain ⟨s96, hr, h⟩ := h
                first | refine .inr ⟨[], ?_⟩ | refine ⟨[], ?_⟩
                try cbv
                refine call_pure hM hI (T76 _ hr) rfl ?_
                clear hr
                try cbv
                replace h := bO1_inv h
                obtain ⟨s97, hr, h⟩ := h
                first | refine .inr ⟨[], ?_⟩ | refine ⟨[], ?_⟩
                try cbv
                refine call_with hM hI [.loc 480] (T75 _ hr) rfl (by simp) ⟨rfl, trivial⟩ ⟨trivial, trivial⟩ (by simp) ?_
                clear hr
                try cbv
                refine drawn ?_ ?_
                · show _ = true
                  kernel_rfl
                try cbv
                refine seq_go ?_
                try cbv
                replace h := bO1_inv h
                obtain ⟨s98, hr, h⟩ := h
                first | refine .inr ⟨[], ?_⟩ | refine ⟨[], ?_⟩
                try cbv
                refine call_pure hM hI (T77 _ hr) rfl ?_
                clear hr
                try cbv
                replace h := bO1_inv h
                obtain ⟨s99, hr, h⟩ := h
                first | refine .inr ⟨[], ?_⟩ | refine ⟨[], ?_⟩
                try cbv
                refine call_with hM hI [.loc 480] (T75 _ hr) rfl (by simp) ⟨rfl, trivial⟩ ⟨trivial, trivial⟩ (by simp) ?_
                clear hr
                try cbv
                refine drawn ?_ ?_
                · show _ = true
                  kernel_rfl
                try cbv
                refine seq_go ?_
                try cbv
                replace h := bO1_inv h
                obtain ⟨s100, hr, h⟩ := h
                refine call_go rfl rfl ?_
                try cbv
                refine call_with hM hI [.loc 480] (T75 _ hr) rfl (by simp) ⟨rfl, trivial⟩ ⟨trivial, trivial⟩ (by simp) ?_
                clear hr
                try cbv
                refine seq_go ?_
                try cbv
                obtain rfl := Option.some.inj h
                refine fin_go ?_
                try cbv
                exact ⟨[], rfl, rfl, trivial, trivial, trivial⟩
end Go.Proofs.YtjobleemmjjocaaDoor
end

set_option linter.unusedVariables false
noncomputable section
namespace Go.Proofs.YtjobleemmjjocaaDoor
open Go Go.AM
def F35 (n : Nat) : Option (Bool) :=
  makeF 128 (.agg [.int .u8 0, .int .i64 0, .int .i64 0, .int .i64 0, .list false 1 [], .list false 1 [], .int .i64 0, .str ByteArray.empty, .list false 1 []]) (4 : Int) (4 : Int) fun l1 => bO1 (F33 n ([.agg [.str k_main, .int .i64 0, .int .i64 3, .list true 9 l1]]) (0 : Int) ([] : List D) (0 : Int) (1 : Int) (3 : Int) (0 : Int) (0 : Int) ([] : List D) ([] : List D) (0 : Int) ByteArray.empty ([] : List D)) fun z2 => bO1 (F33 n ([.agg [.str k_main, .int .i64 0, .int .i64 3, .list true 9 l1]]) (0 : Int) ([] : List D) (0 : Int) (1 : Int) (2 : Int) (0 : Int) (0 : Int) ([] : List D) ([] : List D) (0 : Int) ByteArray.empty ([] : List D)) fun z3 => bO1 (F33 n ([.agg [.str k_main, .int .i64 0, .int .i64 3, .list true 9 l1]]) (0 : Int) ([] : List D) (0 : Int) (3 : Int) (2 : Int) (0 : Int) (0 : Int) ([] : List D) ([] : List D) (2 : Int) ByteArray.empty ([] : List D)) fun z4 => bO1 (F33 n ([.agg [.str k_main, .int .i64 0, .int .i64 3, .list true 9 l1]]) (0 : Int) ([] : List D) (0 : Int) (14 : Int) (5 : Int) (0 : Int) (0 : Int) ([] : List D) ([] : List D) (0 : Int) ByteArray.empty ([] : List D)) fun z5 => bO1 (F62 n (16 : Int) (0 : Int) (0 : Int) (0 : Int) ([.int .i64 4, .int .i64 7]) ([] : List D) (0 : Int) k_E ([] : List D)) fun s6 => bO1 (F62 n (4 : Int) (2 : Int) (0 : Int) (0 : Int) ([] : List D) ([.str k_a, .str k__]) (0 : Int) ByteArray.empty ([] : List D)) fun s7 => bO1 (F36 n (16 : Int) (0 : Int) (0 : Int) (0 : Int) ([.int .i64 4, .int .i64 7]) ([] : List D) (0 : Int) k_E ([] : List D)) fun l8 => (if z2 = (170 : Int) then (if z3 = (0 : Int) then (if z4 = (170 : Int) then (if z5 = (170 : Int) then (if s6 = k_switch_4_7_E then (if s7 = k_use_2__a__ then lenF l8 fun z9 => (if z9 = (2 : Int) then needF (0 ≤ (1 : Int) ∧ (1 : Int).toNat < l8.length) (getN l8 ((1 : Int).toNat) fun x10 => ds_i64 x10 fun z11 => (if z11 = (7 : Int) then bO1 (F62 n (3 : Int) (1 : Int) (0 : Int) (0 : Int) ([] : List D) ([] : List D) (5 : Int) ByteArray.empty ([] : List D)) fun s12 => (if s12 = k_const_1_5 then some true else some false) else some false)) else some false) else some false) else some false) else some false) else some false) else some false) else some false)
set_option maxRecDepth 100000 in
set_option maxHeartbeats 40000000 in
theorem T35 (n : Nat) : ∀ ⦃r1 : Bool⦄, F35 n = some r1 →
    Trip Tryd.prog inv 35 [] [] (.v (.d (.bool r1))) [] [] := by
  intro r1 h
  unfold F35 at h
  refine Trip.of tab_ok tab_one fol Tryd.func35 rfl (by kernel_rfl) rfl rfl rfl (fun M hM hI => ?_)
  try cbv
  refine seq_go ?_
  try cbv
  refine seq_go ?_
  try cbv
  replace h := makeF_inv h
  obtain ⟨l1, hb, hz, h⟩ := h
  refine ⟨(M.lock_iff _).2 hb, l1, hz, false, ?_⟩
  clear hb hz
  try cbv
  refine ⟨false, ?_⟩
  try cbv
  refine ⟨true, ?_⟩
  try cbv
  refine seq_go ?_
  try cbv
  replace h := bO1_inv h
  obtain ⟨z2, hr, h⟩ := h
  first | refine .inr ⟨[], ?_⟩ | refine ⟨[], ?_⟩
  try cbv
  refine call_pure hM hI (T33 _ hr) rfl ?_
  clear hr
  try cbv
  replace h := bO1_inv h
  obtain ⟨z3, hr, h⟩ := h
  first | refine .inr ⟨[], ?_⟩ | refine ⟨[], ?_⟩
  try cbv
  refine call_pure hM hI (T33 _ hr) rfl ?_
  clear hr
  try cbv
  refine drawn ?_ ?_
  · show _ = true
    kernel_rfl
  try cbv
  refine seq_go ?_
  try cbv
  replace h := bO1_inv h
  obtain ⟨z4, hr, h⟩ := h
  first | refine .inr ⟨[], ?_⟩ | refine ⟨[], ?_⟩
  try cbv
  refine call_pure hM hI (T33 _ hr) rfl ?_
  clear hr
  try cbv
  replace h := bO1_inv h
  obtain ⟨z5, hr, h⟩ := h
  first | refine .inr ⟨[], ?_⟩ | refine ⟨[], ?_⟩
  try cbv
  refine call_pure hM hI (T33 _ hr) rfl ?_
  clear hr
  try cbv
  refine drawn ?_ ?_
  · show _ = true
    kernel_rfl
  try cbv
  refine seq_go ?_
  try cbv
  refine ⟨false, ?_⟩
  try cbv
  refine ⟨true, ?_⟩
  try cbv
  replace h := bO1_inv h
  obtain ⟨s6, hr, h⟩ := h
  refine call_go rfl rfl ?_
  try cbv
  refine call_pure hM hI (T62 _ hr) rfl ?_
  clear hr
  try cbv
  refine seq_go ?_
  try cbv
  refine ⟨false, ?_⟩
  try cbv
  refine ⟨true, ?_⟩
  try cbv
  replace h := bO1_inv h
  obtain ⟨s7, hr, h⟩ := h
  refine call_go rfl rfl ?_
  try cbv
  refine call_pure hM hI (T62 _ hr) rfl ?_
  clear hr
  try cbv
  refine seq_go ?_
  try cbv
  refine ⟨false, ?_⟩
  try cbv
  refine ⟨true, ?_⟩
  try cbv
  replace h := bO1_inv h
  obtain ⟨l8, hr, h⟩ := h
  refine call_go rfl rfl ?_
  try cbv
  refine call_with hM hI [] (T36 _ hr) rfl (by simp) trivial trivial (by simp) ?_
  clear hr
  try cbv
  refine seq_go ?_
  try cbv
  refine splitI (fun e => ?_) (fun e => ?_)
  · replace h := ite_t e h
    clear e
    try cbv
    refine splitI (fun e => ?_) (fun e => ?_)
    · replace h := ite_t e h
      clear e
      try cbv
      refine splitI (fun e => ?_) (fun e => ?_)
      · replace h := ite_t e h
        clear e
        try cbv
        refine splitI (fun e => ?_) (fun e => ?_)
        · replace h := ite_t e h
          clear e
          try cbv
          refine splitS (fun e => ?_) (fun e => ?_)
          · replace h := ite_t (bytes_eq.1 e) h
            clear e
            try cbv
            refine splitS (fun e => ?_) (fun e => ?_)
            · replace h := ite_t (bytes_eq.1 e) h
              clear e
              try cbv
              replace h := lenF_inv M h
              obtain ⟨z9, hz, h⟩ := h
              refine ⟨false, ?_⟩
              try cbv
              refine ⟨z9, hz, ?_⟩
              clear hz
              try cbv
              refine splitI (fun e => ?_) (fun e => ?_)
              · replace h := ite_t e h
                clear e
                try cbv
                replace h := needF_inv h
                obtain ⟨hn, h⟩ := h
                refine ⟨(M.lock_iff _).2 hn, ?_⟩
                clear hn
                try cbv
                refine ⟨[], ?_⟩
                try cbv
                replace h := getN_inv h
                obtain ⟨x10, hx, h⟩ := h
                replace h := ds_i64_inv h
                obtain ⟨z11, rfl, h⟩ := h
                refine ⟨_, hx, ?_⟩
                clear hx
                try cbv
                refine ⟨true, ?_⟩
                try cbv
                refine splitI (fun e => ?_) (fun e => ?_)
                · replace h := ite_t e h
                  clear e
                  try cbv
                  replace h := bO1_inv h
                  obtain ⟨s12, hr, h⟩ := h
                  refine call_go rfl rfl ?_
                  try cbv
                  refine call_pure hM hI (T62 _ hr) rfl ?_
                  clear hr
                  try cbv
                  refine splitS (fun e => ?_) (fun e => ?_)
                  · replace h := ite_t (bytes_eq.1 e) h
                    clear e
                    try cbv
                    obtain rfl := Option.some.inj h
                    refine fin_go ?_
                    try cbv
                    exact ⟨[], rfl, rfl, trivial, trivial, trivial⟩
                  · replace h := ite_f (bytes_ne.1 e) h
                    clear e
                    try cbv
                    obtain rfl := Option.some.inj h
                    refine fin_go ?_
                    try cbv
                    exact ⟨[], rfl, rfl, trivial, trivial, trivial⟩
                · replace h := ite_f e h
                  clear e
                  try cbv
                  obtain rfl := Option.some.inj h
                  refine fin_go ?_
                  try cbv
                  exact ⟨[], rfl, rfl, trivial, trivial, trivial⟩
              · replace h := ite_f e h
                clear e
                try cbv
                obtain rfl := Option.some.inj h
                refine fin_go ?_
                try cbv
                exact ⟨[], rfl, rfl, trivial, trivial, trivial⟩
            · replace h := ite_f (bytes_ne.1 e) h
              clear e
              try cbv
              obtain rfl := Option.some.inj h
              refine fin_go ?_
              try cbv
              exact ⟨[], rfl, rfl, trivial, trivial, trivial⟩
          · replace h := ite_f (bytes_ne.1 e) h
            clear e
            try cbv
            obtain rfl := Option.some.inj h
            refine fin_go ?_
            try cbv
            exact ⟨[], rfl, rfl, trivial, trivial, trivial⟩
        · replace h := ite_f e h
          clear e
          try cbv
          obtain rfl := Option.some.inj h
          refine fin_go ?_
          try cbv
          exact ⟨[], rfl, rfl, trivial, trivial, trivial⟩
      · replace h := ite_f e h
        clear e
        try cbv
        obtain rfl := Option.some.inj h
        refine fin_go ?_
        try cbv
        exact ⟨[], rfl, rfl, trivial, trivial, trivial⟩
    · replace h := ite_f e h
      clear e
      try cbv
      obtain rfl := Option.some.inj h
      refine fin_go ?_
      try cbv
      exact ⟨[], rfl, rfl, trivial, trivial, trivial⟩
  · replace h := ite_f e h
    clear e
    try cbv
    obtain rfl := Option.some.inj h
    refine fin_go ?_
    try cbv
    exact ⟨[], rfl, rfl, trivial, trivial, trivial⟩
end Go.Proofs.YtjobleemmjjocaaDoor
end

set_option linter.unusedVariables false
noncomputable section
namespace Go.Proofs.YtjobleemmjjocaaDoor
open Go Go.AM

theorem a1 (m : Nat) (l : List D) (hl : l.length = 4) : F33 (m + 20) ([.agg [.str k_main, .int .i64 0, .int .i64 3, .list true 9 l]]) (0 : Int) ([] : List D) (0 : Int) (1 : Int) (3 : Int) (0 : Int) (0 : Int) ([] : List D) ([] : List D) (0 : Int) ByteArray.empty ([] : List D) = some 170 := by
  match l, hl with
  | [_, _, _, _], _ => rfl
theorem a2 (m : Nat) (l : List D) (hl : l.length = 4) : F33 (m + 20) ([.agg [.str k_main, .int .i64 0, .int .i64 3, .list true 9 l]]) (0 : Int) ([] : List D) (0 : Int) (1 : Int) (2 : Int) (0 : Int) (0 : Int) ([] : List D) ([] : List D) (0 : Int) ByteArray.empty ([] : List D) = some 0 := by
  match l, hl with
  | [_, _, _, _], _ => rfl
theorem a3 (m : Nat) (l : List D) (hl : l.length = 4) : F33 (m + 20) ([.agg [.str k_main, .int .i64 0, .int .i64 3, .list true 9 l]]) (0 : Int) ([] : List D) (0 : Int) (3 : Int) (2 : Int) (0 : Int) (0 : Int) ([] : List D) ([] : List D) (2 : Int) ByteArray.empty ([] : List D) = some 170 := by
  match l, hl with
  | [_, _, _, _], _ => rfl
theorem a4 (m : Nat) (l : List D) (hl : l.length = 4) : F33 (m + 20) ([.agg [.str k_main, .int .i64 0, .int .i64 3, .list true 9 l]]) (0 : Int) ([] : List D) (0 : Int) (14 : Int) (5 : Int) (0 : Int) (0 : Int) ([] : List D) ([] : List D) (0 : Int) ByteArray.empty ([] : List D) = some 170 := by
  match l, hl with
  | [_, _, _, _], _ => rfl
theorem a5 (m : Nat) : F62 (m + 20) (16 : Int) (0 : Int) (0 : Int) (0 : Int) ([.int .i64 4, .int .i64 7]) ([] : List D) (0 : Int) k_E ([] : List D) = some k_switch_4_7_E := by kernel_rfl
theorem a6 (m : Nat) : F62 (m + 20) (4 : Int) (2 : Int) (0 : Int) (0 : Int) ([] : List D) ([.str k_a, .str k__]) (0 : Int) ByteArray.empty ([] : List D) = some k_use_2__a__ := by kernel_rfl
theorem a7 (m : Nat) : F62 (m + 20) (3 : Int) (1 : Int) (0 : Int) (0 : Int) ([] : List D) ([] : List D) (5 : Int) ByteArray.empty ([] : List D) = some k_const_1_5 := by kernel_rfl
theorem e63 (n : Nat) (l : List D) (h : l.length ≤ maxLen ∧ l.length * 8 ≤ 140737488355328) (hs : scalB l = true) : F63 n l = some l := by
  have e : needF (scalB l = true) (appF 8 [] l fun l2 => some l2) = some l := by
    unfold needF appF
    rw [if_pos hs, if_pos (by simpa using h)]; rfl
  unfold F63
  rw [nilF_eq (fun h => by subst h; simp [appF, needF, scalB]), e]
theorem a8 (n : Nat) : F36 n (16 : Int) (0 : Int) (0 : Int) (0 : Int) ([.int .i64 4, .int .i64 7]) ([] : List D) (0 : Int) k_E ([] : List D) = some [.int .i64 4, .int .i64 7] := by
  have e := e63 n [.int .i64 4, .int .i64 7] (by decide) (by kernel_rfl)
  simp only [F36, ↓reduceIte, Int.reduceEq, e, bO1]
end Go.Proofs.YtjobleemmjjocaaDoor
end

set_option linter.unusedVariables false
noncomputable section
namespace Go.Proofs.YtjobleemmjjocaaDoor
open Go Go.AM

theorem bO1_some {α γ : Type} (a : α) (k : α → Option γ) : bO1 (some a) k = k a := rfl
theorem lenF_eq {γ : Type} (l : List D) (k : Int → Option γ) : lenF l k = k l.length := rfl
theorem ds_i64_eq {γ : Type} (z : Int) (k : Int → Option γ) : ds_i64 (.int .i64 z) k = k z := rfl
theorem ev35 : Ev (fun n => F35 n) true := by
  refine ⟨20, fun n hn => ?_⟩
  obtain ⟨m, rfl⟩ : ∃ m, n = m + 20 := ⟨n - 20, by omega⟩
  show F35 (m + 20) = some true
  unfold F35 makeF
  rw [if_pos (by omega)]
  generalize hL : List.replicate (Int.toNat 4) (D.agg [.int .u8 0, .int .i64 0, .int .i64 0, .int .i64 0, .list false 1 [], .list false 1 [], .int .i64 0, .str ByteArray.empty, .list false 1 []]) = L
  have hl : L.length = 4 := by rw [← hL]; simp
  clear hL
  dsimp only
  generalize hM : m + 20 = M
  have h1 := a1 m L hl
  have h2 := a2 m L hl
  have h3 := a3 m L hl
  have h4 := a4 m L hl
  have h5 := a5 m
  have h6 := a6 m
  have h7 := a7 m
  have h8 := a8 M
  rw [hM] at h1 h2 h3 h4 h5 h6 h7
  clear hM hn
  rw [h1, bO1_some, h2, bO1_some, h3, bO1_some, h4, bO1_some, h5, bO1_some, h6, bO1_some, h8, bO1_some]
  rw [if_pos rfl, if_pos rfl, if_pos rfl, if_pos rfl, if_pos rfl, if_pos rfl, lenF_eq]
  rw [if_pos (show (([D.int IntKind.i64 4, D.int IntKind.i64 7].length : Nat) : Int) = 2 from rfl)]
  rw [show ∀ (X : Option Bool), needF (0 ≤ (1 : Int) ∧ (1 : Int).toNat < [D.int IntKind.i64 4, D.int IntKind.i64 7].length) X = X from fun X => if_pos (by decide)]
  rw [show ∀ (k : D → Option Bool), getN [D.int IntKind.i64 4, D.int IntKind.i64 7] ((1 : Int).toNat) k = k (.int .i64 7) from fun k => id rfl]
  rw [ds_i64_eq, if_pos rfl, h7, bO1_some, if_pos rfl]
end Go.Proofs.YtjobleemmjjocaaDoor
end

set_option linter.unusedVariables false
noncomputable section
namespace Go.Proofs.YtjobleemmjjocaaDoor
open Go Go.AM
def L32_1 : Nat → (List D) → Int → Option (Bool)
  | 0, _, _ => none
  | n + 1, l6, z14 =>
    lenF l6 fun z15 => (if z14 < z15 then getF l6 z14 fun x16 => ds_str x16 fun s17 => szF s17 fun z18 => (if (1000 : Int) < z18 then some true else letF (IntKind.wrap .i64 (z14 + 1)) fun z19 => L32_1 n l6 z19) else some false)
def F32 (n : Nat) (z1 : Int) (z2 : Int) (z3 : Int) (z4 : Int) (l5 : List D) (l6 : List D) (z7 : Int) (s8 : ByteArray) (l9 : List D) : Option (Bool) :=
  lenF l6 fun z10 => (if (60 : Int) < z10 then some true else lenF l5 fun z11 => (if (60 : Int) < z11 then some true else lenF l9 fun z12 => (if (60 : Int) < z12 then some true else szF s8 fun z13 => (if (1000 : Int) < z13 then some true else L32_1 n l6 (0 : Int)))))
set_option maxRecDepth 100000 in
set_option maxHeartbeats 40000000 in
theorem T32 (n : Nat) : ∀ ⦃z1 : Int⦄ ⦃z2 : Int⦄ ⦃z3 : Int⦄ ⦃z4 : Int⦄ ⦃l5 : List D⦄ ⦃l6 : List D⦄ ⦃z7 : Int⦄ ⦃s8 : ByteArray⦄ ⦃l9 : List D⦄ ⦃r1 : Bool⦄, F32 n z1 z2 z3 z4 l5 l6 z7 s8 l9 = some r1 →
    Trip Tryd.prog inv 32 [.d (.agg [.int .u8 z1, .int .i64 z2, .int .i64 z3, .int .i64 z4, .list false 1 l5, .list false 1 l6, .int .i64 z7, .str s8, .list false 1 l9])] [] (.v (.d (.bool r1))) [] [] := by
  intro z1 z2 z3 z4 l5 l6 z7 s8 l9 r1 h
  unfold F32 at h
  refine Trip.of tab_ok tab_one fol Tryd.func32 rfl (by kernel_rfl) rfl rfl rfl (fun M hM hI => ?_)
  try cbv
  refine seq_go ?_
  try cbv
  refine seq_go ?_
  try cbv
  refine seq_go ?_
  try cbv
  replace h := lenF_inv M h
  obtain ⟨z10, hz, h⟩ := h
  refine ⟨z10, hz, ?_⟩
  clear hz
  try cbv
  refine splitL (fun e => ?_) (fun e => ?_)
  · replace h := ite_t e h
    clear e
    try cbv
    refine seq_go ?_
    try cbv
    obtain rfl := Option.some.inj h
    refine fin_go ?_
    try cbv
    exact ⟨[], rfl, rfl, trivial, trivial, trivial⟩
  · replace h := ite_f (Int.not_lt.2 e) h
    clear e
    try cbv
    replace h := lenF_inv M h
    obtain ⟨z11, hz, h⟩ := h
    refine ⟨z11, hz, ?_⟩
    clear hz
    try cbv
    refine splitL (fun e => ?_) (fun e => ?_)
    · replace h := ite_t e h
      clear e
      try cbv
      refine seq_go ?_
      try cbv
      obtain rfl := Option.some.inj h
      refine fin_go ?_
      try cbv
      exact ⟨[], rfl, rfl, trivial, trivial, trivial⟩
    · replace h := ite_f (Int.not_lt.2 e) h
      clear e
      try cbv
      replace h := lenF_inv M h
      obtain ⟨z12, hz, h⟩ := h
      refine ⟨z12, hz, ?_⟩
      clear hz
      try cbv
      refine splitL (fun e => ?_) (fun e => ?_)
      · replace h := ite_t e h
        clear e
        try cbv
        refine seq_go ?_
        try cbv
        obtain rfl := Option.some.inj h
        refine fin_go ?_
        try cbv
        exact ⟨[], rfl, rfl, trivial, trivial, trivial⟩
      · replace h := ite_f (Int.not_lt.2 e) h
        clear e
        try cbv
        replace h := szF_inv M h
        obtain ⟨z13, hz, h⟩ := h
        refine ⟨z13, hz, ?_⟩
        clear hz
        try cbv
        refine splitL (fun e => ?_) (fun e => ?_)
        · replace h := ite_t e h
          clear e
          try cbv
          refine seq_go ?_
          try cbv
          obtain rfl := Option.some.inj h
          refine fin_go ?_
          try cbv
          exact ⟨[], rfl, rfl, trivial, trivial, trivial⟩
        · replace h := ite_f (Int.not_lt.2 e) h
          clear e
          try cbv
          refine seq_go ?_
          try cbv
          refine seq_go ?_
          try cbv
          refine loop_inv (T := Nat × Int) [1, 2, 3] [.loc 0] 800 (fun t => ⟨[(1, .v (.c (.ptr (.loc 0) 0))), (2, .v (.d (.bool false))), (3, .v (.d (.int .i64 t.2)))], [(.loc 0, .cells [.d (.int .u8 z1), .d (.int .i64 z2), .d (.int .i64 z3), .d (.int .i64 z4), .d (.list false 1 l5), .d (.list false 1 l6), .d (.int .i64 z7), .d (.str s8), .d (.list false 1 l9)])], 800⟩)
            (fun t => t.1 ≤ n ∧ L32_1 t.1 l6 t.2 = some r1) (fun t => t.1) (n, (0 : Int)) ⟨Nat.le_refl _, h⟩ (by cbv) ?_
          clear h
          rintro ⟨m1, z14⟩ ⟨hm1, h⟩
          replace hm1 : m1 ≤ n := hm1
          cases m1 with
          | zero =>
            replace h : L32_1 0 l6 z14 = some r1 := h
            rw [L32_1] at h
            cases h
          | succ m1 =>
            replace h : L32_1 (m1 + 1) l6 z14 = some r1 := h
            rw [L32_1] at h
            try cbv
            refine seq_go ?_
            try cbv
            refine seq_go ?_
            try cbv
            replace h := lenF_inv M h
            obtain ⟨z15, hz, h⟩ := h
            refine ⟨z15, hz, ?_⟩
            clear hz
            try cbv
            refine splitL (fun e => ?_) (fun e => ?_)
            · replace h := ite_t e h
              clear e
              try cbv
              refine seq_go ?_
              try cbv
              refine seq_go ?_
              try cbv
              replace h := getF_inv h
              obtain ⟨x16, ⟨hx0, hx⟩, h⟩ := h
              refine ⟨x16, hx0, hx, ?_⟩
              clear hx0 hx
              replace h := ds_str_inv h
              obtain ⟨s17, rfl, h⟩ := h
              try cbv
              replace h := szF_inv M h
              obtain ⟨z18, hz, h⟩ := h
              refine ⟨z18, hz, ?_⟩
              clear hz
              try cbv
              refine splitL (fun e => ?_) (fun e => ?_)
              · replace h := ite_t e h
                clear e
                try cbv
                refine seq_go ?_
                try cbv
                obtain rfl := Option.some.inj h
                refine fin_go ?_
                try cbv
                exact ⟨[], rfl, rfl, trivial, trivial, trivial⟩
              · replace h := ite_f (Int.not_lt.2 e) h
                clear e
                try cbv
                replace h := letF_inv h
                obtain ⟨z19, hz, h⟩ := h
                refine ⟨z19, hz, ?_⟩
                clear hz
                try cbv
                exact loop_next (m1, z19) [1, 2, 3] [.loc 0] 800 ⟨by omega, h⟩ (Nat.lt_succ_of_le (by omega)) (by cbv)
            · replace h := ite_f (Int.not_lt.2 e) h
              clear e
              try cbv
              refine seq_go ?_
              try cbv
              obtain rfl := Option.some.inj h
              refine fin_go ?_
              try cbv
              exact ⟨[], rfl, rfl, trivial, trivial, trivial⟩
end Go.Proofs.YtjobleemmjjocaaDoor
end
