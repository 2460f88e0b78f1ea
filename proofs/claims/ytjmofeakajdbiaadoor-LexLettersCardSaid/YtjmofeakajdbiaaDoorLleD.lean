/- Part of a proof. No condition. (Part 4: AmU, YtjmofeakajdbiaaDoorTab, AmKE, AmOB, AmSH, AmX, YtjmofeakajdbiaaDoorFo, YtjmofeakajdbiaaDoorShelf, YtjmofeakajdbiaaDoorSh, YtjmofeakajdbiaaDoorXDs, YtjmofeakajdbiaaDoorX30, YtjmofeakajdbiaaDoorX11, YtjmofeakajdbiaaDoorX12, LxA, YtjmofeakajdbiaaDoorX32, YtjmofeakajdbiaaDoorX34, YtjmofeakajdbiaaD.) -/
import Derived.Test.YtjmofeakajdbiaaDoorProg
import Derived.KernelRfl
import Derived.Shelf.Strings.Fields
import Derived.Shelf.Small.Strs
import Derived.Shelf.Strings.Search1
import Derived.Shelf.Strings.Prefix
import Derived.Shelf.Unicode.Latin
import Derived.Shelf.Bits.Mul64
import Derived.Shelf.Unicode.Is16White
import Derived.Shelf.Unicode.IsSpaceAny
import Derived.Shelf.Unicode.Is16Any
import Derived.Shelf.Unicode.Is32Any
import Derived.Shelf.Unicode.ExclAny
import Derived.Test.YtjmofeakajdbiaaDoorLleC
set_option linter.unusedVariables false
set_option linter.unusedSimpArgs false
/- The abstract machine, part U: functional texts with fuel: what they come to ('Ev'), counted loops; typed data, leaf by leaf. No condition. -/
namespace Go.AM
open Go

/-- With enough fuel A comes to r. -/
def Ev {α : Type} (A : Nat → Option α) (r : α) : Prop := ∃ N, ∀ n, N ≤ n → A n = some r

section
variable {α β γ : Type}
theorem Ev.ret {r : α} : Ev (fun _ => some r) r := ⟨0, fun _ _ => rfl⟩
theorem Ev.of {A : Nat → Option α} {r : α} (h : ∀ n, A n = some r) : Ev A r := ⟨0, fun n _ => h n⟩
theorem Ev.succ {A : Nat → Option α} {r : α} (h : Ev (fun n => A (n + 1)) r) : Ev A r := by
  obtain ⟨N, h⟩ := h
  refine ⟨N + 1, fun n hn => ?_⟩
  obtain ⟨m, rfl⟩ : ∃ m, n = m + 1 := ⟨n - 1, by omega⟩
  exact h m (by omega)
theorem Ev.congr {A B : Nat → Option α} {r : α} (h : Ev A r) (e : ∀ n, A n = B n) : Ev B r := by
  obtain ⟨N, h⟩ := h
  exact ⟨N, fun n hn => (e n) ▸ h n hn⟩
theorem Ev.bO0 {A : Nat → Option Unit} {k : Nat → Option γ} {r : γ} (ha : Ev A ()) (hk : Ev k r) : Ev (fun n => bO0 (A n) (k n)) r := by
  obtain ⟨N, ha⟩ := ha
  obtain ⟨M, hk⟩ := hk
  refine ⟨N + M, fun n hn => ?_⟩
  show Go.AM.bO0 (A n) (k n) = some r
  rw [ha n (by omega)]
  exact hk n (by omega)
theorem Ev.bO1 {A : Nat → Option α} {a : α} {k : Nat → α → Option γ} {r : γ} (ha : Ev A a) (hk : Ev (fun n => k n a) r) : Ev (fun n => bO1 (A n) (k n)) r := by
  obtain ⟨N, ha⟩ := ha
  obtain ⟨M, hk⟩ := hk
  refine ⟨N + M, fun n hn => ?_⟩
  show Go.AM.bO1 (A n) (k n) = some r
  rw [ha n (by omega)]
  exact hk n (by omega)
theorem Ev.bO2 {A : Nat → Option (α × β)} {a : α} {b : β} {k : Nat → α → β → Option γ} {r : γ} (ha : Ev A (a, b)) (hk : Ev (fun n => k n a b) r) : Ev (fun n => bO2 (A n) (k n)) r := by
  obtain ⟨N, ha⟩ := ha
  obtain ⟨M, hk⟩ := hk
  refine ⟨N + M, fun n hn => ?_⟩
  show Go.AM.bO2 (A n) (k n) = some r
  rw [ha n (by omega)]
  exact hk n (by omega)
theorem Ev.run {A : Nat → Option α} {r : α} (h : Ev A r) : ∃ n, A n = some r := let ⟨N, h⟩ := h; ⟨N, h N (Nat.le_refl _)⟩
/-- Of two results there is but one. -/
theorem Ev.uniq {A : Nat → Option α} {r s : α} (h : Ev A r) (h' : Ev A s) : r = s := by
  obtain ⟨N, h⟩ := h
  obtain ⟨M, h'⟩ := h'
  have a := h (N + M) (by omega)
  rw [h' (N + M) (by omega)] at a
  exact (Option.some.inj a).symm

/-- Two texts come to the same. -/
def Agree (A B : Nat → Option α) : Prop := ∃ r, Ev A r ∧ Ev B r
/-- A text comes to something. -/
def Total (A : Nat → Option α) : Prop := ∃ r, Ev A r

/-- Down from N. -/
theorem down {P : Nat → Prop} (N : Nat) (h0 : P N) (h : ∀ i, i < N → P (i + 1) → P i) : ∀ i, i ≤ N → P i := by
  intro i hi
  obtain ⟨d, hd⟩ : ∃ d, d = N - i := ⟨_, rfl⟩
  induction d generalizing i with
  | zero => obtain rfl : i = N := by omega
            exact h0
  | succ d ih => exact h i (by omega) (ih (i + 1) (by omega) (by omega))
end

section
variable {γ : Type}
theorem getF_nat {L : List D} {i : Nat} {x : D} {k : D → Option γ} (hx : L[i]? = some x) : getF L (i : Int) k = k x := getF_some (by omega) (by simpa using hx)
theorem wrap_i64' {x : Int} (h : -9223372036854775808 ≤ x ∧ x ≤ 9223372036854775807) : IntKind.i64.wrap x = x := IntWalk.i64_in x h
theorem wrap_succ {i N : Nat} (h : i < N) (hN : N ≤ maxLen) : IntKind.i64.wrap ((i : Int) + 1) = ((i + 1 : Nat) : Int) := by
  have : maxLen = 9223372036854775807 := rfl
  rw [wrap_i64' (by omega)]; omega
theorem lt_iff {i N : Nat} : ((i : Int) < (N : Int)) = (i < N) := by simp
end

/-! ### Typed data, leaf by leaf -/
/-- A value of type e. -/
def RowS (ti : Types) (e : TypeId) (x : D) : Prop := Shape ti e x.cells ∧ ∀ y, ti e = some y → x.isAgg = rowD y.desc
/-- A list of values of type e. -/
def ListS (ti : Types) (e : TypeId) (L : List D) : Prop := L.length ≤ maxLen ∧ ∀ x ∈ L, RowS ti e x

theorem ListS.get {ti : Types} {e : TypeId} {L : List D} {i : Nat} (h : ListS ti e L) (hi : i < L.length) : ∃ x, L[i]? = some x ∧ x ∈ L ∧ RowS ti e x :=
  ⟨L[i], List.getElem?_eq_getElem hi, List.getElem_mem hi, h.2 _ (List.getElem_mem hi)⟩

def flatFs (ti : Types) (rec : TypeId → Option (List TypeId)) : Nat → List Field → Option (List TypeId)
  | _, [] => some []
  | off, f :: r => match Nat.beq f.offset off with
    | false => none
    | true => match ti f.type with
      | none => none
      | some y => match rec f.type with
        | none => none
        | some l => match Nat.beq l.length y.size with
          | false => none
          | true => match flatFs ti rec (off + y.size) r with
            | none => none
            | some l' => some (l ++ l')
/-- The types of a value's cells. -/
def flatT (ti : Types) : Nat → TypeId → Option (List TypeId)
  | 0, _ => none
  | n + 1, t => match ti t with
    | none => none
    | some x => match x.desc with
      | .struct fs => match flatFs ti (flatT ti n) 0 fs.toList with
        | none => none
        | some l => match Nat.beq l.length x.size with
          | true => some l
          | false => none
      | .array .. => none
      | _ => some [t]

theorem Shape.one {ti : Types} {t : TypeId} {x : TI} {ds : List D} (h : Shape ti t ds) (hx : ti t = some x) (hd : ∀ fs, x.desc ≠ .struct fs) : ∃ c, ds = [c] := by
  cases h with
  | struct ds h1 h2 => rw [hx] at h1; obtain rfl := Option.some.inj h1; exact absurd h2 (hd _)
  | _ => exact ⟨_, rfl⟩

theorem flatFs_ok {ti : Types} {rec : TypeId → Option (List TypeId)} {ds : List D}
    (hrec : ∀ t ls cs, rec t = some ls → Shape ti t cs → cs.length = ls.length ∧ ∀ (j : Nat) c tl, cs[j]? = some c → ls[j]? = some tl → Shape ti tl [c]) :
    ∀ (fs : List Field) (off : Nat) (ls : List TypeId), flatFs ti rec off fs = some ls → (∀ f ∈ fs, ∀ y, ti f.type = some y → Shape ti f.type ((ds.drop f.offset).take y.size)) →
      ∀ (j : Nat) c tl, ds[off + j]? = some c → ls[j]? = some tl → Shape ti tl [c]
  | [], off, ls, h, _, j, c, tl, _, hl => by
    cases h; simp at hl
  | f :: fs, off, ls, h, hs, j, c, tl, hc, hl => by
    unfold flatFs at h
    split at h
    · cases h
    · rename_i ho
      have ho := Nat.eq_of_beq_eq_true ho
      split at h
      · cases h
      · rename_i y hy
        split at h
        · cases h
        · rename_i l hr
          split at h
          · cases h
          · rename_i hb
            have hb := Nat.eq_of_beq_eq_true hb
            split at h
            · cases h
            · rename_i l' hl'
              cases h
              obtain ⟨h1, h2⟩ := hrec _ _ _ hr (hs f (by simp) y hy)
              by_cases hj : j < l.length
              · rw [List.getElem?_append_left hj] at hl
                refine h2 j c tl ?_ hl
                rw [List.getElem?_take, if_pos (by omega), List.getElem?_drop, ho]
                exact hc
              · rw [List.getElem?_append_right (by omega)] at hl
                refine flatFs_ok hrec fs _ l' hl' (fun f' hf' => hs f' (List.mem_cons_of_mem _ hf')) (j - l.length) c tl ?_ hl
                rw [← hc]; congr 1; omega

/-- The cells of a value, leaf by leaf. -/
theorem Shape.flat {ti : Types} :
    ∀ (n : Nat) (t : TypeId) (ls : List TypeId) (ds : List D), flatT ti n t = some ls → Shape ti t ds → ds.length = ls.length ∧ ∀ (j : Nat) c tl, ds[j]? = some c → ls[j]? = some tl → Shape ti tl [c]
  | 0, t, ls, ds, h, _ => by cases h
  | n + 1, t, ls, ds, h, hs => by
    unfold flatT at h
    split at h
    · cases h
    · rename_i x hx
      have single : (∀ fs, x.desc ≠ .struct fs) → ls = [t] → ds.length = ls.length ∧ ∀ (j : Nat) c tl, ds[j]? = some c → ls[j]? = some tl → Shape ti tl [c] := by
        rintro hd rfl
        obtain ⟨c, rfl⟩ := hs.one hx hd
        refine ⟨rfl, fun j c' tl h1 h2 => ?_⟩
        match j with
        | 0 => simp at h1 h2; subst h1; subst h2; exact hs
        | j + 1 => simp at h1
      split at h
      · rename_i fs hd
        obtain ⟨h1, _, h3⟩ := hs.struct_inv hx hd
        split at h
        · cases h
        · rename_i l hl
          split at h
          · rename_i hb
            cases h
            refine ⟨h1.trans (Nat.eq_of_beq_eq_true hb).symm, fun j c tl h4 h5 => ?_⟩
            exact flatFs_ok (fun t ls cs h6 h7 => Shape.flat n t ls cs h6 h7) fs.toList 0 ls hl h3 j c tl (by simpa using h4) h5
          · cases h
      · cases h
      · rename_i h1 h2
        cases h
        exact single h1 rfl

/-- A struct's value. -/
theorem RowS.agg {ti : Types} {e : TypeId} {x : D} {y : TI} (h : RowS ti e x) (hy : ti e = some y) (hr : rowD y.desc = true) : ∃ cs, x = .agg cs ∧ Shape ti e cs := by
  have h1 := (h.2 y hy).trans hr
  cases x <;> simp [D.isAgg] at h1
  exact ⟨_, rfl, h.1⟩
theorem RowS.flat1 {ti : Types} {e : TypeId} {x : D} {y : TI} (h : RowS ti e x) (hy : ti e = some y) (hr : rowD y.desc = false) : Shape ti e [x] := by
  have h1 := (h.2 y hy).trans hr
  have h0 := h.1
  cases x <;> simp_all [D.isAgg, D.cells]
theorem Shape.listS {ti : Types} {t e : TypeId} {x y : TI} {c : D} (h : Shape ti t [c]) (hx : ti t = some x) (hd : x.desc = .slice e) (hy : ti e = some y) :
    ∃ L, c = .list (rowD y.desc) y.size L ∧ ListS ti e L := by
  obtain ⟨L, e1, h1, h2, h3⟩ := h.slice_inv hx hd hy
  refine ⟨L, (List.cons.inj e1).1, h1, fun r hr => ⟨h3 r hr, fun y' hy' => ?_⟩⟩
  rw [hy] at hy'
  obtain rfl := Option.some.inj hy'
  exact (h2 r hr).1
theorem Shape.intS {ti : Types} {t : TypeId} {x : TI} {k : IntKind} {c : D} (h : Shape ti t [c]) (hx : ti t = some x) (hd : x.desc = .int k) : ∃ n, c = .int k n ∧ (Lit.int k n).wf = true := by
  obtain ⟨n, e, hw⟩ := h.int_inv hx hd
  exact ⟨n, (List.cons.inj e).1, hw⟩
theorem Shape.strS {ti : Types} {t : TypeId} {x : TI} {c : D} (h : Shape ti t [c]) (hx : ti t = some x) (hd : x.desc = .string) : ∃ s, c = .str s ∧ s.size ≤ maxLen := by
  obtain ⟨n, e, hw⟩ := h.str_inv hx hd
  exact ⟨n, (List.cons.inj e).1, hw⟩
theorem Shape.boolS {ti : Types} {t : TypeId} {x : TI} {c : D} (h : Shape ti t [c]) (hx : ti t = some x) (hd : x.desc = .bool) : ∃ b, c = .bool b := by
  obtain ⟨n, e⟩ := h.bool_inv hx hd
  exact ⟨n, (List.cons.inj e).1⟩
theorem u8_range {n : Int} (h : (Lit.int .u8 n).wf = true) : 0 ≤ n ∧ n < 256 := by
  simp [Lit.wf, show IntKind.u8.min = 0 from rfl, show IntKind.u8.max = 255 from rfl, show IntKind.i64.min = -9223372036854775808 from rfl, show IntKind.i64.max = 9223372036854775807 from rfl] at h
  omega
theorem i64_range {n : Int} (h : (Lit.int .i64 n).wf = true) : -9223372036854775808 ≤ n ∧ n ≤ 9223372036854775807 := by
  simp [Lit.wf, show IntKind.u8.min = 0 from rfl, show IntKind.u8.max = 255 from rfl, show IntKind.i64.min = -9223372036854775808 from rfl, show IntKind.i64.max = 9223372036854775807 from rfl] at h
  omega

/-- What lies in a row is smaller than its list. -/
theorem size_row {ag : Bool} {sz : Nat} {L M : List D} {cs : List D} (h : D.agg cs ∈ L) (h2 : D.list ag sz M ∈ cs) : SizeOf.sizeOf M < SizeOf.sizeOf L := by
  have h1 := List.sizeOf_lt_of_mem h
  have h3 := List.sizeOf_lt_of_mem h2
  simp at h1 h3
  omega
/-- Induction on lists by what lies in their rows. -/
theorem list_ind {P : List D → Prop} (H : ∀ L, (∀ M, SizeOf.sizeOf M < SizeOf.sizeOf L → P M) → P L) (L : List D) : P L := by
  obtain ⟨m, hm⟩ : ∃ m, SizeOf.sizeOf L < m := ⟨_, Nat.lt_succ_self _⟩
  induction m generalizing L with
  | zero => omega
  | succ m ih => exact H L (fun M hM => ih M (by omega))
end Go.AM

/- The types of the dump, as the abstract machine takes them: a table, and that the program bears each row. Printed by gentypes.py. No condition. -/
namespace Go.Proofs.YtjmofeakajdbiaaDoor
open Go Go.AM
def tabC0 : List (Nat × TI) := [(1, ⟨.func #[] #[] false, 1, 8, .nilFunc, [.nilf]⟩),
  (2, ⟨.int .i64, 1, 8, .int .i64 0, [.d (.int .i64 0)]⟩),
  (3, ⟨.int .i64, 1, 8, .int .i64 0, [.d (.int .i64 0)]⟩),
  (4, ⟨.bool, 1, 1, .bool false, [.d (.bool false)]⟩),
  (5, ⟨.int .u8, 1, 1, .int .u8 0, [.d (.int .u8 0)]⟩),
  (6, ⟨.int .u8, 1, 1, .int .u8 0, [.d (.int .u8 0)]⟩),
  (7, ⟨.struct #[⟨"x", 2, 0, false, "", "runtime", 0⟩, ⟨"y", 3, 1, false, "", "runtime", 8⟩, ⟨"signed", 4, 2, false, "", "runtime", 16⟩, ⟨"code", 6, 3, false, "", "runtime", 17⟩], 4, 24, .agg #[.int .i64 0, .int .i64 0, .bool false, .int .u8 0], [.d (.int .i64 0), .d (.int .i64 0), .d (.bool false), .d (.int .u8 0)]⟩),
  (8, ⟨.struct #[⟨"x", 2, 0, false, "", "runtime", 0⟩, ⟨"y", 3, 1, false, "", "runtime", 8⟩, ⟨"signed", 4, 2, false, "", "runtime", 16⟩, ⟨"code", 6, 3, false, "", "runtime", 17⟩], 4, 24, .agg #[.int .i64 0, .int .i64 0, .bool false, .int .u8 0], [.d (.int .i64 0), .d (.int .i64 0), .d (.bool false), .d (.int .u8 0)]⟩),
  (9, ⟨.string, 1, 16, .string ByteArray.empty, [.d (.str ByteArray.empty)]⟩),
  (10, ⟨.string, 1, 16, .string ByteArray.empty, [.d (.str ByteArray.empty)]⟩),
  (11, ⟨.string, 1, 16, .string ByteArray.empty, [.d (.str ByteArray.empty)]⟩),
  (12, ⟨.int .u64, 1, 8, .int .u64 0, [.d (.int .u64 0)]⟩),
  (13, ⟨.struct #[⟨"msg", 9, 0, false, "", "runtime", 0⟩, ⟨"addr", 12, 1, false, "", "runtime", 16⟩], 2, 24, .agg #[.string ByteArray.empty, .int .u64 0], [.d (.str ByteArray.empty), .d (.int .u64 0)]⟩),
  (14, ⟨.struct #[⟨"msg", 9, 0, false, "", "runtime", 0⟩, ⟨"addr", 12, 1, false, "", "runtime", 16⟩], 2, 24, .agg #[.string ByteArray.empty, .int .u64 0], [.d (.str ByteArray.empty), .d (.int .u64 0)]⟩),
  (15, ⟨.pointer 125, 1, 8, .pointer none, [.nilp]⟩)]
def tabC1 : List (Nat × TI) := [(16, ⟨.pointer 128, 1, 8, .pointer none, [.nilp]⟩),
  (17, ⟨.pointer 137, 1, 8, .pointer none, [.nilp]⟩),
  (18, ⟨.struct #[⟨"typ", 17, 0, false, "", "internal/runtime/maps", 0⟩], 1, 8, .agg #[.pointer none], [.nilp]⟩),
  (19, ⟨.struct #[⟨"typ", 17, 0, false, "", "internal/runtime/maps", 0⟩], 1, 8, .agg #[.pointer none], [.nilp]⟩),
  (21, ⟨.int .i32, 1, 4, .int .i32 0, [.d (.int .i32 0)]⟩),
  (22, ⟨.func #[9] #[4] false, 1, 8, .nilFunc, [.nilf]⟩),
  (23, ⟨.slice 25, 1, 24, .slice none 0 0, [.nils true 3]⟩),
  (24, ⟨.struct #[⟨"Kind", 5, 0, false, "", "", 0⟩, ⟨"Name", 9, 1, false, "", "", 8⟩, ⟨"Args", 23, 2, false, "", "", 24⟩], 3, 48, .agg #[.int .u8 0, .string ByteArray.empty, .slice none 0 0], [.d (.int .u8 0), .d (.str ByteArray.empty), .nils true 3]⟩),
  (25, ⟨.struct #[⟨"Kind", 5, 0, false, "", "", 0⟩, ⟨"Name", 9, 1, false, "", "", 8⟩, ⟨"Args", 23, 2, false, "", "", 24⟩], 3, 48, .agg #[.int .u8 0, .string ByteArray.empty, .slice none 0 0], [.d (.int .u8 0), .d (.str ByteArray.empty), .nils true 3]⟩),
  (26, ⟨.slice 9, 1, 24, .slice none 0 0, [.nils false 1]⟩),
  (27, ⟨.struct #[⟨"Name", 9, 0, false, "", "", 0⟩, ⟨"Path", 26, 1, false, "", "", 16⟩], 2, 40, .agg #[.string ByteArray.empty, .slice none 0 0], [.d (.str ByteArray.empty), .nils false 1]⟩),
  (28, ⟨.struct #[⟨"Name", 9, 0, false, "", "", 0⟩, ⟨"Path", 26, 1, false, "", "", 16⟩], 2, 40, .agg #[.string ByteArray.empty, .slice none 0 0], [.d (.str ByteArray.empty), .nils false 1]⟩),
  (29, ⟨.slice 31, 1, 24, .slice none 0 0, [.nils true 8]⟩),
  (30, ⟨.struct #[⟨"Op", 5, 0, false, "", "", 0⟩, ⟨"Int", 2, 1, false, "", "", 8⟩, ⟨"Name", 9, 2, false, "", "", 16⟩, ⟨"Second", 9, 3, false, "", "", 32⟩, ⟨"Place", 28, 4, false, "", "", 48⟩, ⟨"Args", 29, 6, false, "", "", 88⟩, ⟨"At", 3, 7, false, "", "", 112⟩], 8, 120, .agg #[.int .u8 0, .int .i64 0, .string ByteArray.empty, .string ByteArray.empty, .string ByteArray.empty, .slice none 0 0, .slice none 0 0, .int .i64 0], [.d (.int .u8 0), .d (.int .i64 0), .d (.str ByteArray.empty), .d (.str ByteArray.empty), .d (.str ByteArray.empty), .nils false 1, .nils true 8, .d (.int .i64 0)]⟩),
  (31, ⟨.struct #[⟨"Op", 5, 0, false, "", "", 0⟩, ⟨"Int", 2, 1, false, "", "", 8⟩, ⟨"Name", 9, 2, false, "", "", 16⟩, ⟨"Second", 9, 3, false, "", "", 32⟩, ⟨"Place", 28, 4, false, "", "", 48⟩, ⟨"Args", 29, 6, false, "", "", 88⟩, ⟨"At", 3, 7, false, "", "", 112⟩], 8, 120, .agg #[.int .u8 0, .int .i64 0, .string ByteArray.empty, .string ByteArray.empty, .string ByteArray.empty, .slice none 0 0, .slice none 0 0, .int .i64 0], [.d (.int .u8 0), .d (.int .i64 0), .d (.str ByteArray.empty), .d (.str ByteArray.empty), .d (.str ByteArray.empty), .nils false 1, .nils true 8, .d (.int .i64 0)]⟩)]
def tabC2 : List (Nat × TI) := [(32, ⟨.func #[25] #[4] false, 1, 8, .nilFunc, [.nilf]⟩),
  (33, ⟨.func #[31] #[4] false, 1, 8, .nilFunc, [.nilf]⟩),
  (34, ⟨.func #[25, 3] #[4] false, 1, 8, .nilFunc, [.nilf]⟩),
  (35, ⟨.func #[31, 3] #[4] false, 1, 8, .nilFunc, [.nilf]⟩),
  (36, ⟨.func #[28] #[4] false, 1, 8, .nilFunc, [.nilf]⟩),
  (37, ⟨.func #[25, 31] #[4] false, 1, 8, .nilFunc, [.nilf]⟩),
  (38, ⟨.slice 47, 1, 24, .slice none 0 0, [.nils true 3]⟩),
  (40, ⟨.func #[9] #[38, 3, 3] false, 1, 8, .nilFunc, [.nilf]⟩),
  (41, ⟨.slice 46, 1, 24, .slice none 0 0, [.nils true 3]⟩),
  (42, ⟨.int .i64, 1, 8, .int .i64 0, [.d (.int .i64 0)]⟩),
  (44, ⟨.func #[9] #[41, 3, 42] false, 1, 8, .nilFunc, [.nilf]⟩),
  (45, ⟨.struct #[⟨"Kind", 5, 0, false, "", "", 0⟩, ⟨"Text", 9, 1, false, "", "", 8⟩, ⟨"At", 3, 2, false, "", "", 24⟩], 3, 32, .agg #[.int .u8 0, .string ByteArray.empty, .int .i64 0], [.d (.int .u8 0), .d (.str ByteArray.empty), .d (.int .i64 0)]⟩),
  (46, ⟨.struct #[⟨"Kind", 5, 0, false, "", "", 0⟩, ⟨"Text", 9, 1, false, "", "", 8⟩, ⟨"At", 3, 2, false, "", "", 24⟩], 3, 32, .agg #[.int .u8 0, .string ByteArray.empty, .int .i64 0], [.d (.int .u8 0), .d (.str ByteArray.empty), .d (.int .i64 0)]⟩),
  (47, ⟨.struct #[⟨"Kind", 5, 0, false, "", "", 0⟩, ⟨"Text", 9, 1, false, "", "", 8⟩, ⟨"At", 3, 2, false, "", "", 24⟩], 3, 32, .agg #[.int .u8 0, .string ByteArray.empty, .int .i64 0], [.d (.int .u8 0), .d (.str ByteArray.empty), .d (.int .i64 0)]⟩)]
def tabC3 : List (Nat × TI) := [(48, ⟨.func #[] #[4] false, 1, 8, .nilFunc, [.nilf]⟩),
  (49, ⟨.slice 5, 1, 24, .slice none 0 0, [.nils false 1]⟩),
  (50, ⟨.func #[9, 9] #[4] false, 1, 8, .nilFunc, [.nilf]⟩),
  (51, ⟨.int .u64, 1, 8, .int .u64 0, [.d (.int .u64 0)]⟩),
  (52, ⟨.func #[49, 4, 51] #[4] false, 1, 8, .nilFunc, [.nilf]⟩),
  (53, ⟨.map 9 3, 1, 8, .map none, [.nilm]⟩),
  (54, ⟨.func #[] #[53] false, 1, 8, .nilFunc, [.nilf]⟩),
  (55, ⟨.func #[9, 56] #[4] false, 1, 8, .nilFunc, [.nilf]⟩),
  (56, ⟨.func #[5] #[4] false, 1, 8, .nilFunc, [.nilf]⟩),
  (57, ⟨.func #[9, 5, 5] #[4] false, 1, 8, .nilFunc, [.nilf]⟩),
  (58, ⟨.pointer 60, 1, 8, .pointer none, [.nilp]⟩),
  (59, ⟨.struct #[⟨"Left", 3, 0, false, "", "", 0⟩], 1, 8, .agg #[.int .i64 0], [.d (.int .i64 0)]⟩),
  (60, ⟨.struct #[⟨"Left", 3, 0, false, "", "", 0⟩], 1, 8, .agg #[.int .i64 0], [.d (.int .i64 0)]⟩),
  (61, ⟨.func #[25] #[] false, 1, 8, .nilFunc, [.nilf]⟩),
  (62, ⟨.func #[31] #[] false, 1, 8, .nilFunc, [.nilf]⟩),
  (63, ⟨.func #[5] #[9] false, 1, 8, .nilFunc, [.nilf]⟩)]
def tabC4 : List (Nat × TI) := [(64, ⟨.func #[9, 3] #[4] false, 1, 8, .nilFunc, [.nilf]⟩),
  (65, ⟨.func #[9, 5] #[4] false, 1, 8, .nilFunc, [.nilf]⟩),
  (66, ⟨.func #[26, 3, 22] #[4] false, 1, 8, .nilFunc, [.nilf]⟩),
  (67, ⟨.func #[9, 3] #[3] false, 1, 8, .nilFunc, [.nilf]⟩),
  (68, ⟨.func #[9] #[5] false, 1, 8, .nilFunc, [.nilf]⟩),
  (69, ⟨.func #[9] #[3] false, 1, 8, .nilFunc, [.nilf]⟩),
  (70, ⟨.func #[9] #[46] false, 1, 8, .nilFunc, [.nilf]⟩),
  (71, ⟨.func #[9] #[26] false, 1, 8, .nilFunc, [.nilf]⟩),
  (72, ⟨.func #[9, 56] #[3] false, 1, 8, .nilFunc, [.nilf]⟩),
  (73, ⟨.func #[9] #[] false, 1, 8, .nilFunc, [.nilf]⟩),
  (74, ⟨.func #[28] #[] false, 1, 8, .nilFunc, [.nilf]⟩),
  (75, ⟨.func #[23, 3, 32] #[4] false, 1, 8, .nilFunc, [.nilf]⟩),
  (76, ⟨.struct #[⟨"place", 4, 0, false, "", "weftway/tree", 0⟩, ⟨"least", 3, 1, false, "", "weftway/tree", 8⟩, ⟨"most", 3, 2, false, "", "weftway/tree", 16⟩], 3, 24, .agg #[.bool false, .int .i64 0, .int .i64 0], [.d (.bool false), .d (.int .i64 0), .d (.int .i64 0)]⟩),
  (77, ⟨.struct #[⟨"place", 4, 0, false, "", "weftway/tree", 0⟩, ⟨"least", 3, 1, false, "", "weftway/tree", 8⟩, ⟨"most", 3, 2, false, "", "weftway/tree", 16⟩], 3, 24, .agg #[.bool false, .int .i64 0, .int .i64 0], [.d (.bool false), .d (.int .i64 0), .d (.int .i64 0)]⟩),
  (79, ⟨.func #[5] #[77, 4] false, 1, 8, .nilFunc, [.nilf]⟩)]
def tabC5 : List (Nat × TI) := [(80, ⟨.func #[31, 4] #[4] false, 1, 8, .nilFunc, [.nilf]⟩),
  (81, ⟨.func #[29, 3, 33] #[4] false, 1, 8, .nilFunc, [.nilf]⟩),
  (83, ⟨.func #[9] #[2, 3] false, 1, 8, .nilFunc, [.nilf]⟩),
  (84, ⟨.func #[9, 5] #[3] false, 1, 8, .nilFunc, [.nilf]⟩),
  (86, ⟨.func #[9] #[2, 42] false, 1, 8, .nilFunc, [.nilf]⟩),
  (88, ⟨.func #[9, 89] #[26] false, 1, 8, .nilFunc, [.nilf]⟩),
  (89, ⟨.func #[21] #[4] false, 1, 8, .nilFunc, [.nilf]⟩),
  (90, ⟨.func #[26] #[] false, 1, 8, .nilFunc, [.nilf]⟩),
  (91, ⟨.func #[2, 2] #[2, 3] false, 1, 8, .nilFunc, [.nilf]⟩),
  (92, ⟨.func #[2] #[2, 3] false, 1, 8, .nilFunc, [.nilf]⟩),
  (93, ⟨.func #[9, 4] #[4] false, 1, 8, .nilFunc, [.nilf]⟩),
  (94, ⟨.struct #[⟨"lower", 4, 0, false, "", "weftway/num", 0⟩, ⟨"size", 51, 1, false, "", "weftway/num", 8⟩], 2, 16, .agg #[.bool false, .int .u64 0], [.d (.bool false), .d (.int .u64 0)]⟩),
  (95, ⟨.struct #[⟨"lower", 4, 0, false, "", "weftway/num", 0⟩, ⟨"size", 51, 1, false, "", "weftway/num", 8⟩], 2, 16, .agg #[.bool false, .int .u64 0], [.d (.bool false), .d (.int .u64 0)]⟩)]
def tabC6 : List (Nat × TI) := [(97, ⟨.func #[95] #[95, 4] false, 1, 8, .nilFunc, [.nilf]⟩),
  (98, ⟨.func #[4] #[2, 42] false, 1, 8, .nilFunc, [.nilf]⟩),
  (99, ⟨.slice 101, 1, 24, .slice none 0 0, [.nils true 2]⟩),
  (100, ⟨.struct #[⟨"start", 3, 0, false, "", "strings", 0⟩, ⟨"end", 3, 1, false, "", "strings", 8⟩], 2, 16, .agg #[.int .i64 0, .int .i64 0], [.d (.int .i64 0), .d (.int .i64 0)]⟩),
  (101, ⟨.struct #[⟨"start", 3, 0, false, "", "strings", 0⟩, ⟨"end", 3, 1, false, "", "strings", 8⟩], 2, 16, .agg #[.int .i64 0, .int .i64 0], [.d (.int .i64 0), .d (.int .i64 0)]⟩),
  (102, ⟨.int .u32, 1, 4, .int .u32 0, [.d (.int .u32 0)]⟩),
  (103, ⟨.func #[104, 21] #[4] false, 1, 8, .nilFunc, [.nilf]⟩),
  (104, ⟨.pointer 112, 1, 8, .pointer none, [.nilp]⟩),
  (105, ⟨.func #[2] #[2] false, 1, 8, .nilFunc, [.nilf]⟩),
  (107, ⟨.func #[51, 51] #[51, 51] false, 1, 8, .nilFunc, [.nilf]⟩),
  (108, ⟨.func #[51, 51, 51] #[51, 51] false, 1, 8, .nilFunc, [.nilf]⟩),
  (109, ⟨.slice 115, 1, 24, .slice none 0 0, [.nils true 3]⟩),
  (110, ⟨.slice 118, 1, 24, .slice none 0 0, [.nils true 3]⟩),
  (111, ⟨.struct #[⟨"R16", 109, 0, false, "", "", 0⟩, ⟨"R32", 110, 1, false, "", "", 24⟩, ⟨"LatinOffset", 3, 2, false, "", "", 48⟩], 3, 56, .agg #[.slice none 0 0, .slice none 0 0, .int .i64 0], [.nils true 3, .nils true 3, .d (.int .i64 0)]⟩)]
def tabC7 : List (Nat × TI) := [(112, ⟨.struct #[⟨"R16", 109, 0, false, "", "", 0⟩, ⟨"R32", 110, 1, false, "", "", 24⟩, ⟨"LatinOffset", 3, 2, false, "", "", 48⟩], 3, 56, .agg #[.slice none 0 0, .slice none 0 0, .int .i64 0], [.nils true 3, .nils true 3, .d (.int .i64 0)]⟩),
  (113, ⟨.int .u16, 1, 2, .int .u16 0, [.d (.int .u16 0)]⟩),
  (114, ⟨.struct #[⟨"Lo", 113, 0, false, "", "", 0⟩, ⟨"Hi", 113, 1, false, "", "", 2⟩, ⟨"Stride", 113, 2, false, "", "", 4⟩], 3, 6, .agg #[.int .u16 0, .int .u16 0, .int .u16 0], [.d (.int .u16 0), .d (.int .u16 0), .d (.int .u16 0)]⟩),
  (115, ⟨.struct #[⟨"Lo", 113, 0, false, "", "", 0⟩, ⟨"Hi", 113, 1, false, "", "", 2⟩, ⟨"Stride", 113, 2, false, "", "", 4⟩], 3, 6, .agg #[.int .u16 0, .int .u16 0, .int .u16 0], [.d (.int .u16 0), .d (.int .u16 0), .d (.int .u16 0)]⟩),
  (116, ⟨.func #[109, 113] #[4] false, 1, 8, .nilFunc, [.nilf]⟩),
  (117, ⟨.struct #[⟨"Lo", 102, 0, false, "", "", 0⟩, ⟨"Hi", 102, 1, false, "", "", 4⟩, ⟨"Stride", 102, 2, false, "", "", 8⟩], 3, 12, .agg #[.int .u32 0, .int .u32 0, .int .u32 0], [.d (.int .u32 0), .d (.int .u32 0), .d (.int .u32 0)]⟩),
  (118, ⟨.struct #[⟨"Lo", 102, 0, false, "", "", 0⟩, ⟨"Hi", 102, 1, false, "", "", 4⟩, ⟨"Stride", 102, 2, false, "", "", 8⟩], 3, 12, .agg #[.int .u32 0, .int .u32 0, .int .u32 0], [.d (.int .u32 0), .d (.int .u32 0), .d (.int .u32 0)]⟩),
  (119, ⟨.func #[110, 102] #[4] false, 1, 8, .nilFunc, [.nilf]⟩),
  (120, ⟨.int .u64, 1, 8, .int .u64 0, [.d (.int .u64 0)]⟩),
  (121, ⟨.pointer 115, 1, 8, .pointer none, [.nilp]⟩),
  (122, ⟨.pointer 118, 1, 8, .pointer none, [.nilp]⟩),
  (123, ⟨.func #[] #[9] false, 1, 8, .nilFunc, [.nilf]⟩),
  (124, ⟨.struct #[⟨"_interface", 17, 0, false, "", "runtime", 0⟩, ⟨"concrete", 17, 1, false, "", "runtime", 8⟩, ⟨"asserted", 17, 2, false, "", "runtime", 16⟩, ⟨"missingMethod", 9, 3, false, "", "runtime", 24⟩], 4, 40, .agg #[.pointer none, .pointer none, .pointer none, .string ByteArray.empty], [.nilp, .nilp, .nilp, .d (.str ByteArray.empty)]⟩),
  (125, ⟨.struct #[⟨"_interface", 17, 0, false, "", "runtime", 0⟩, ⟨"concrete", 17, 1, false, "", "runtime", 8⟩, ⟨"asserted", 17, 2, false, "", "runtime", 16⟩, ⟨"missingMethod", 9, 3, false, "", "runtime", 24⟩], 4, 40, .agg #[.pointer none, .pointer none, .pointer none, .string ByteArray.empty], [.nilp, .nilp, .nilp, .d (.str ByteArray.empty)]⟩)]
def tabC8 : List (Nat × TI) := [(129, ⟨.func #[] #[3] false, 1, 8, .nilFunc, [.nilf]⟩),
  (130, ⟨.int .u8, 1, 1, .int .u8 0, [.d (.int .u8 0)]⟩),
  (131, ⟨.int .u8, 1, 1, .int .u8 0, [.d (.int .u8 0)]⟩),
  (132, ⟨.func #[139, 139] #[4] false, 1, 8, .nilFunc, [.nilf]⟩),
  (133, ⟨.pointer 5, 1, 8, .pointer none, [.nilp]⟩),
  (134, ⟨.int .i32, 1, 4, .int .i32 0, [.d (.int .i32 0)]⟩),
  (135, ⟨.int .i32, 1, 4, .int .i32 0, [.d (.int .i32 0)]⟩),
  (136, ⟨.struct #[⟨"Size_", 12, 0, false, "", "", 0⟩, ⟨"PtrBytes", 12, 1, false, "", "", 8⟩, ⟨"Hash", 102, 2, false, "", "", 16⟩, ⟨"TFlag", 130, 3, false, "", "", 20⟩, ⟨"Align_", 5, 4, false, "", "", 21⟩, ⟨"FieldAlign_", 5, 5, false, "", "", 22⟩, ⟨"Kind_", 131, 6, false, "", "", 23⟩, ⟨"Equal", 132, 7, false, "", "", 24⟩, ⟨"GCData", 133, 8, false, "", "", 32⟩, ⟨"Str", 134, 9, false, "", "", 40⟩, ⟨"PtrToThis", 135, 10, false, "", "", 44⟩], 11, 48, .agg #[.int .u64 0, .int .u64 0, .int .u32 0, .int .u8 0, .int .u8 0, .int .u8 0, .int .u8 0, .nilFunc, .pointer none, .int .i32 0, .int .i32 0], [.d (.int .u64 0), .d (.int .u64 0), .d (.int .u32 0), .d (.int .u8 0), .d (.int .u8 0), .d (.int .u8 0), .d (.int .u8 0), .nilf, .nilp, .d (.int .i32 0), .d (.int .i32 0)]⟩),
  (137, ⟨.struct #[⟨"Size_", 12, 0, false, "", "", 0⟩, ⟨"PtrBytes", 12, 1, false, "", "", 8⟩, ⟨"Hash", 102, 2, false, "", "", 16⟩, ⟨"TFlag", 130, 3, false, "", "", 20⟩, ⟨"Align_", 5, 4, false, "", "", 21⟩, ⟨"FieldAlign_", 5, 5, false, "", "", 22⟩, ⟨"Kind_", 131, 6, false, "", "", 23⟩, ⟨"Equal", 132, 7, false, "", "", 24⟩, ⟨"GCData", 133, 8, false, "", "", 32⟩, ⟨"Str", 134, 9, false, "", "", 40⟩, ⟨"PtrToThis", 135, 10, false, "", "", 44⟩], 11, 48, .agg #[.int .u64 0, .int .u64 0, .int .u32 0, .int .u8 0, .int .u8 0, .int .u8 0, .int .u8 0, .nilFunc, .pointer none, .int .i32 0, .int .i32 0], [.d (.int .u64 0), .d (.int .u64 0), .d (.int .u32 0), .d (.int .u8 0), .d (.int .u8 0), .d (.int .u8 0), .d (.int .u8 0), .nilf, .nilp, .d (.int .i32 0), .d (.int .i32 0)]⟩),
  (138, ⟨.func #[] #[95] false, 1, 8, .nilFunc, [.nilf]⟩)]
def tabAll : List (List (Nat × TI)) := [tabC0, tabC1, tabC2, tabC3, tabC4, tabC5, tabC6, tabC7, tabC8]
def tab : Types := tabOf tabAll
theorem tabG0 : allGood Tryd.prog tabC0 := ⟨⟨by kernel_rfl, by kernel_rfl, by kernel_rfl⟩, ⟨by kernel_rfl, by kernel_rfl, by kernel_rfl⟩, ⟨by kernel_rfl, by kernel_rfl, by kernel_rfl⟩, ⟨by kernel_rfl, by kernel_rfl, by kernel_rfl⟩, ⟨by kernel_rfl, by kernel_rfl, by kernel_rfl⟩, ⟨by kernel_rfl, by kernel_rfl, by kernel_rfl⟩, ⟨by kernel_rfl, by kernel_rfl, by kernel_rfl⟩, ⟨by kernel_rfl, by kernel_rfl, by kernel_rfl⟩, ⟨by kernel_rfl, by kernel_rfl, by kernel_rfl⟩, ⟨by kernel_rfl, by kernel_rfl, by kernel_rfl⟩, ⟨by kernel_rfl, by kernel_rfl, by kernel_rfl⟩, ⟨by kernel_rfl, by kernel_rfl, by kernel_rfl⟩, ⟨by kernel_rfl, by kernel_rfl, by kernel_rfl⟩, ⟨by kernel_rfl, by kernel_rfl, by kernel_rfl⟩, ⟨by kernel_rfl, by kernel_rfl, by kernel_rfl⟩, trivial⟩
theorem tabG1 : allGood Tryd.prog tabC1 := ⟨⟨by kernel_rfl, by kernel_rfl, by kernel_rfl⟩, ⟨by kernel_rfl, by kernel_rfl, by kernel_rfl⟩, ⟨by kernel_rfl, by kernel_rfl, by kernel_rfl⟩, ⟨by kernel_rfl, by kernel_rfl, by kernel_rfl⟩, ⟨by kernel_rfl, by kernel_rfl, by kernel_rfl⟩, ⟨by kernel_rfl, by kernel_rfl, by kernel_rfl⟩, ⟨by kernel_rfl, by kernel_rfl, by kernel_rfl⟩, ⟨by kernel_rfl, by kernel_rfl, by kernel_rfl⟩, ⟨by kernel_rfl, by kernel_rfl, by kernel_rfl⟩, ⟨by kernel_rfl, by kernel_rfl, by kernel_rfl⟩, ⟨by kernel_rfl, by kernel_rfl, by kernel_rfl⟩, ⟨by kernel_rfl, by kernel_rfl, by kernel_rfl⟩, ⟨by kernel_rfl, by kernel_rfl, by kernel_rfl⟩, ⟨by kernel_rfl, by kernel_rfl, by kernel_rfl⟩, ⟨by kernel_rfl, by kernel_rfl, by kernel_rfl⟩, trivial⟩
theorem tabG2 : allGood Tryd.prog tabC2 := ⟨⟨by kernel_rfl, by kernel_rfl, by kernel_rfl⟩, ⟨by kernel_rfl, by kernel_rfl, by kernel_rfl⟩, ⟨by kernel_rfl, by kernel_rfl, by kernel_rfl⟩, ⟨by kernel_rfl, by kernel_rfl, by kernel_rfl⟩, ⟨by kernel_rfl, by kernel_rfl, by kernel_rfl⟩, ⟨by kernel_rfl, by kernel_rfl, by kernel_rfl⟩, ⟨by kernel_rfl, by kernel_rfl, by kernel_rfl⟩, ⟨by kernel_rfl, by kernel_rfl, by kernel_rfl⟩, ⟨by kernel_rfl, by kernel_rfl, by kernel_rfl⟩, ⟨by kernel_rfl, by kernel_rfl, by kernel_rfl⟩, ⟨by kernel_rfl, by kernel_rfl, by kernel_rfl⟩, ⟨by kernel_rfl, by kernel_rfl, by kernel_rfl⟩, ⟨by kernel_rfl, by kernel_rfl, by kernel_rfl⟩, ⟨by kernel_rfl, by kernel_rfl, by kernel_rfl⟩, trivial⟩
theorem tabG3 : allGood Tryd.prog tabC3 := ⟨⟨by kernel_rfl, by kernel_rfl, by kernel_rfl⟩, ⟨by kernel_rfl, by kernel_rfl, by kernel_rfl⟩, ⟨by kernel_rfl, by kernel_rfl, by kernel_rfl⟩, ⟨by kernel_rfl, by kernel_rfl, by kernel_rfl⟩, ⟨by kernel_rfl, by kernel_rfl, by kernel_rfl⟩, ⟨by kernel_rfl, by kernel_rfl, by kernel_rfl⟩, ⟨by kernel_rfl, by kernel_rfl, by kernel_rfl⟩, ⟨by kernel_rfl, by kernel_rfl, by kernel_rfl⟩, ⟨by kernel_rfl, by kernel_rfl, by kernel_rfl⟩, ⟨by kernel_rfl, by kernel_rfl, by kernel_rfl⟩, ⟨by kernel_rfl, by kernel_rfl, by kernel_rfl⟩, ⟨by kernel_rfl, by kernel_rfl, by kernel_rfl⟩, ⟨by kernel_rfl, by kernel_rfl, by kernel_rfl⟩, ⟨by kernel_rfl, by kernel_rfl, by kernel_rfl⟩, ⟨by kernel_rfl, by kernel_rfl, by kernel_rfl⟩, ⟨by kernel_rfl, by kernel_rfl, by kernel_rfl⟩, trivial⟩
theorem tabG4 : allGood Tryd.prog tabC4 := ⟨⟨by kernel_rfl, by kernel_rfl, by kernel_rfl⟩, ⟨by kernel_rfl, by kernel_rfl, by kernel_rfl⟩, ⟨by kernel_rfl, by kernel_rfl, by kernel_rfl⟩, ⟨by kernel_rfl, by kernel_rfl, by kernel_rfl⟩, ⟨by kernel_rfl, by kernel_rfl, by kernel_rfl⟩, ⟨by kernel_rfl, by kernel_rfl, by kernel_rfl⟩, ⟨by kernel_rfl, by kernel_rfl, by kernel_rfl⟩, ⟨by kernel_rfl, by kernel_rfl, by kernel_rfl⟩, ⟨by kernel_rfl, by kernel_rfl, by kernel_rfl⟩, ⟨by kernel_rfl, by kernel_rfl, by kernel_rfl⟩, ⟨by kernel_rfl, by kernel_rfl, by kernel_rfl⟩, ⟨by kernel_rfl, by kernel_rfl, by kernel_rfl⟩, ⟨by kernel_rfl, by kernel_rfl, by kernel_rfl⟩, ⟨by kernel_rfl, by kernel_rfl, by kernel_rfl⟩, ⟨by kernel_rfl, by kernel_rfl, by kernel_rfl⟩, trivial⟩
theorem tabG5 : allGood Tryd.prog tabC5 := ⟨⟨by kernel_rfl, by kernel_rfl, by kernel_rfl⟩, ⟨by kernel_rfl, by kernel_rfl, by kernel_rfl⟩, ⟨by kernel_rfl, by kernel_rfl, by kernel_rfl⟩, ⟨by kernel_rfl, by kernel_rfl, by kernel_rfl⟩, ⟨by kernel_rfl, by kernel_rfl, by kernel_rfl⟩, ⟨by kernel_rfl, by kernel_rfl, by kernel_rfl⟩, ⟨by kernel_rfl, by kernel_rfl, by kernel_rfl⟩, ⟨by kernel_rfl, by kernel_rfl, by kernel_rfl⟩, ⟨by kernel_rfl, by kernel_rfl, by kernel_rfl⟩, ⟨by kernel_rfl, by kernel_rfl, by kernel_rfl⟩, ⟨by kernel_rfl, by kernel_rfl, by kernel_rfl⟩, ⟨by kernel_rfl, by kernel_rfl, by kernel_rfl⟩, ⟨by kernel_rfl, by kernel_rfl, by kernel_rfl⟩, trivial⟩
theorem tabG6 : allGood Tryd.prog tabC6 := ⟨⟨by kernel_rfl, by kernel_rfl, by kernel_rfl⟩, ⟨by kernel_rfl, by kernel_rfl, by kernel_rfl⟩, ⟨by kernel_rfl, by kernel_rfl, by kernel_rfl⟩, ⟨by kernel_rfl, by kernel_rfl, by kernel_rfl⟩, ⟨by kernel_rfl, by kernel_rfl, by kernel_rfl⟩, ⟨by kernel_rfl, by kernel_rfl, by kernel_rfl⟩, ⟨by kernel_rfl, by kernel_rfl, by kernel_rfl⟩, ⟨by kernel_rfl, by kernel_rfl, by kernel_rfl⟩, ⟨by kernel_rfl, by kernel_rfl, by kernel_rfl⟩, ⟨by kernel_rfl, by kernel_rfl, by kernel_rfl⟩, ⟨by kernel_rfl, by kernel_rfl, by kernel_rfl⟩, ⟨by kernel_rfl, by kernel_rfl, by kernel_rfl⟩, ⟨by kernel_rfl, by kernel_rfl, by kernel_rfl⟩, ⟨by kernel_rfl, by kernel_rfl, by kernel_rfl⟩, trivial⟩
theorem tabG7 : allGood Tryd.prog tabC7 := ⟨⟨by kernel_rfl, by kernel_rfl, by kernel_rfl⟩, ⟨by kernel_rfl, by kernel_rfl, by kernel_rfl⟩, ⟨by kernel_rfl, by kernel_rfl, by kernel_rfl⟩, ⟨by kernel_rfl, by kernel_rfl, by kernel_rfl⟩, ⟨by kernel_rfl, by kernel_rfl, by kernel_rfl⟩, ⟨by kernel_rfl, by kernel_rfl, by kernel_rfl⟩, ⟨by kernel_rfl, by kernel_rfl, by kernel_rfl⟩, ⟨by kernel_rfl, by kernel_rfl, by kernel_rfl⟩, ⟨by kernel_rfl, by kernel_rfl, by kernel_rfl⟩, ⟨by kernel_rfl, by kernel_rfl, by kernel_rfl⟩, ⟨by kernel_rfl, by kernel_rfl, by kernel_rfl⟩, ⟨by kernel_rfl, by kernel_rfl, by kernel_rfl⟩, ⟨by kernel_rfl, by kernel_rfl, by kernel_rfl⟩, ⟨by kernel_rfl, by kernel_rfl, by kernel_rfl⟩, trivial⟩
theorem tabG8 : allGood Tryd.prog tabC8 := ⟨⟨by kernel_rfl, by kernel_rfl, by kernel_rfl⟩, ⟨by kernel_rfl, by kernel_rfl, by kernel_rfl⟩, ⟨by kernel_rfl, by kernel_rfl, by kernel_rfl⟩, ⟨by kernel_rfl, by kernel_rfl, by kernel_rfl⟩, ⟨by kernel_rfl, by kernel_rfl, by kernel_rfl⟩, ⟨by kernel_rfl, by kernel_rfl, by kernel_rfl⟩, ⟨by kernel_rfl, by kernel_rfl, by kernel_rfl⟩, ⟨by kernel_rfl, by kernel_rfl, by kernel_rfl⟩, ⟨by kernel_rfl, by kernel_rfl, by kernel_rfl⟩, ⟨by kernel_rfl, by kernel_rfl, by kernel_rfl⟩, trivial⟩
theorem tab_all : allGoods Tryd.prog tabAll := ⟨tabG0, tabG1, tabG2, tabG3, tabG4, tabG5, tabG6, tabG7, tabG8, trivial⟩
theorem tab_ok : TIok Tryd.prog tab := tabOf_ok tab_all
theorem tab_one : TIone tab := tabOf_one tab_all
end Go.Proofs.YtjmofeakajdbiaaDoor

/- The abstract machine, part KE: numbers of objects turned. No condition. -/
namespace Go.AM
open Go Go.RowKit

/-! ### Numbers turned -/
def cvP (p : Id → Bool) : CV → Bool
  | .ptr i _ => p i
  | .fn _ cap => allB p cap
  | .lst i _ _ _ => p i
  | .sl i _ => p i
  | .map i => p i
  | .ap i _ _ _ _ => p i
  | .ow i => p i
  | .op i _ _ _ => p i
  | .yl i => p i
  | _ => true
def v1P (p : Id → Bool) : V1 → Bool
  | .d _ => true
  | .c x => cvP p x
  | .agg cs => allB (cvP p) cs
def avP (p : Id → Bool) : AV → Bool
  | .u => true
  | .v x => v1P p x
  | .t xs => allB (v1P p) xs
def objP (p : Id → Bool) : AObj → Bool
  | .cells cs => allB (cvP p) cs
  | .tok .. => true
  | .map _ _ es => allB (fun e => v1P p e.2) es
  | .arr cs1 _ _ _ cs2 => match allB (cvP p) cs1 with
    | true => allB (cvP p) cs2
    | false => false
  | .tree _ _ _ _ foc => match foc with
    | some x => allB (cvP p) x.2
    | none => true
  | .gone => true
  | .rnd _ sl => allB (fun x => avP p x.2) sl
  | .rndX _ => true

section
variable {p : Id → Bool} {f e : Id → Id} (hp : ∀ i, p i = true → f (e i) = i)
include hp
theorem ren_cv {c : CV} (h : cvP p c = true) : (c.ren e).ren f = c := by
  cases c <;> simp only [CV.ren, cvP] at h ⊢
  · rw [hp _ h]
  · rw [List.map_map]
    congr 1
    rw [allB_iff] at h
    exact map_same fun i hi => hp _ (h i hi)
  · rw [hp _ h]
  · rw [hp _ h]
  · rw [hp _ h]
  · rw [hp _ h]
  · rw [hp _ h]
  · rw [hp _ h]
  · rw [hp _ h]
theorem ren_cvs {cs : List CV} (h : allB (cvP p) cs = true) : (cs.map (CV.ren e)).map (CV.ren f) = cs := by
  rw [List.map_map]
  rw [allB_iff] at h
  exact map_same fun i hi => ren_cv hp (h i hi)
theorem ren_v1 {c : V1} (h : v1P p c = true) : (c.ren e).ren f = c := by
  cases c <;> simp only [V1.ren, v1P] at h ⊢
  · rw [ren_cv hp h]
  · rw [ren_cvs hp h]
theorem ren_av {c : AV} (h : avP p c = true) : (c.ren e).ren f = c := by
  cases c <;> simp only [AV.ren, avP] at h ⊢
  · rw [ren_v1 hp h]
  · rw [List.map_map]
    congr 1
    rw [allB_iff] at h
    exact map_same fun i hi => ren_v1 hp (h i hi)
theorem ren_obj {c : AObj} (h : objP p c = true) : (c.ren e).ren f = c := by
  cases c <;> simp only [AObj.ren, objP] at h ⊢
  · rw [ren_cvs hp h]
  · rw [List.map_map]
    congr 1
    rw [allB_iff] at h
    refine map_same fun i hi => ?_
    show (i.1, (i.2.ren e).ren f) = i
    rw [ren_v1 hp (h i hi)]
  · split at h
    · rename_i h1
      rw [ren_cvs hp h, ren_cvs hp h1]
    · cases h
  · congr 1
    split at h
    · show some (_, List.map (CV.ren f) (List.map (CV.ren e) _)) = _
      rw [ren_cvs hp h]
    · rfl
  · rw [List.map_map]
    congr 1
    rw [allB_iff] at h
    refine map_same fun i hi => ?_
    show (i.1, (i.2.ren e).ren f) = i
    rw [ren_av hp (h i hi)]
end

/-- σ' holds a part of what σ holds, its objects numbered anew. -/
theorem weak_ren {σ σ' : St} (r : Id → Id) (hext : ∀ j, r (.ext j) = .ext j) (hbig : ∀ n, σ'.next ≤ n → ∃ N, σ.next ≤ N ∧ r (.loc n) = .loc N)
    (hs : ∀ t, getS σ'.slots t = .u ∨ getS σ.slots t = (getS σ'.slots t).ren r) (hh : ∀ i o, getH σ'.heap i = some o → getH σ.heap (r i) = some (o.ren r))
    (hinj : ∀ i j o o', getH σ'.heap i = some o → getH σ'.heap j = some o' → r i = r j → i = j) (hlow : ∀ n, σ'.next ≤ n → getH σ'.heap (.loc n) = none) : Weak σ σ' := by
  rintro C a w ⟨g, R⟩
  let g' : Ghost := fun i => g (r i)
  have hz : ∀ b o, zone g' (getH σ'.heap) b o → zone g (getH σ.heap) b o := by
    rintro b o ⟨i, ob, hi, h1⟩
    exact ⟨r i, _, hh i ob hi, zone1_ren.2 h1⟩
  have hzz : ∀ b o, zor (zone g' (getH σ'.heap)) C.X b o → zor (zone g (getH σ.heap)) C.X b o := fun b o hx => hx.imp (hz b o) id
  have ht : ∀ i n sz e, getH σ'.heap i = some (.tok n sz e) → getH σ.heap (r i) = some (.tok n sz e) := fun i n sz e hi => hh i _ hi
  have hw : ∀ i, isLive (getH σ'.heap i) = true → isLive (getH σ.heap (r i)) = true := by
    intro i hi
    cases hc : getH σ'.heap i with
    | none => rw [hc] at hi; cases hi
    | some o =>
      rw [hh i o hc]
      rw [hc] at hi
      exact isLive_ren.trans hi
  refine ⟨g', R.size, R.defers, fun t => ?_, ⟨fun i o hi => RelObj.pull (r := r) (g' := g') hzz (fun _ => rfl) ht hw (R.heap.objs _ _ (hh i o hi)), fun i j oi oj b hi hj bi bj => ?_, fun i oi b o hi bi => R.heap.apart _ _ b o (hh i oi hi) (Obk_ren.2 bi)⟩, R.frame, fun j => ?_,
    fun j ob b o hj hz' => R.within _ _ b o (hh j ob hj) (zone1_ren.2 hz'), R.xs, fun n hn => ⟨?_, hlow n hn⟩⟩
  · rcases hs t with e | e
    · rw [e]; trivial
    · have := R.slots t
      rw [e] at this
      exact RelAV.pull (r := r) hzz (fun _ => rfl) ht hw this
  · exact hinj i j oi oj hi hj (R.heap.sep _ _ _ _ b (hh i oi hi) (hh j oj hj) (Obk_ren.2 bi) (Obk_ren.2 bj))
  · show gsame (C.g0 (.ext j)) (g (r (.ext j)))
    rw [hext]
    exact R.ext j
  · obtain ⟨N, hN, e⟩ := hbig n hn
    show g (r (.loc n)) = undef
    rw [e]
    exact (R.free N hN).1

/-- Which number becomes which. -/
def fstOf : List (Nat × Nat) → Nat → Option Nat
  | [], _ => none
  | (a, b) :: l, k => match Nat.beq a k with
    | true => some b
    | false => fstOf l k
def sndOf : List (Nat × Nat) → Nat → Option Nat
  | [], _ => none
  | (a, b) :: l, k => match Nat.beq b k with
    | true => some a
    | false => sndOf l k
def invF (l : List (Nat × Nat)) : Id → Id
  | .ext j => .ext j
  | .loc k => match fstOf l k with
    | some m => .loc m
    | none => .loc k
def backF (l : List (Nat × Nat)) : Id → Id
  | .ext j => .ext j
  | .loc k => match sndOf l k with
    | some m => .loc m
    | none => .loc k
def okId (l : List (Nat × Nat)) (n : Nat) (i : Id) : Bool :=
  match Id.beq (backF l (invF l i)) i with
  | true => idB n (invF l i)
  | false => false
def renS (l : List (Nat × Nat)) : List (Nat × AV) → List (Nat × AV)
  | [] => []
  | (t, x) :: r => (t, x.ren (invF l)) :: renS l r
def renH (l : List (Nat × Nat)) : List (Id × AObj) → List (Id × AObj)
  | [] => []
  | (i, x) :: r => (invF l i, x.ren (invF l)) :: renH l r
def keepR (ks : List Nat) (is : List Id) (n : Nat) (l : List (Nat × Nat)) (σ : St) (K : St → Prop) : Prop :=
  match keepH σ.heap is with
  | none => False
  | some hp => req (allB (fun x : Nat × AV => avP (okId l n) x.2) (keepS σ.slots ks)) <| req (allB (fun x : Id × AObj => match okId l n x.1 with | true => objP (okId l n) x.2 | false => false) hp) <|
      K ⟨renS l (keepS σ.slots ks), renH l hp, n⟩

theorem renS_get {l : List (Nat × Nat)} {s : List (Nat × AV)} (t : Nat) : getS (renS l s) t = (getS s t).ren (invF l) := by
  induction s with
  | nil => rfl
  | cons x s ih =>
    obtain ⟨k, v⟩ := x
    show getS ((k, v.ren (invF l)) :: renS l s) t = _
    rw [getS_cons, getS_cons]
    simp only []
    split
    · rfl
    · exact ih
theorem renH_get {l : List (Nat × Nat)} {p : Id → Bool} {f : Id → Id} (hp : ∀ i, p i = true → f (invF l i) = i) : ∀ {s : List (Id × AObj)}, (∀ x ∈ s, p x.1 = true) → ∀ {i : Id} {o : AObj}, getH (renH l s) i = some o → p (f i) = true ∧ invF l (f i) = i ∧ ∃ o', getH s (f i) = some o' ∧ o = o'.ren (invF l)
  | [], _, i, o, h => by simp [renH, getH] at h
  | (k, v) :: s, hs, i, o, h => by
    have hk := hs (k, v) (by simp)
    rw [show renH l ((k, v) :: s) = (invF l k, v.ren (invF l)) :: renH l s from rfl, getH_cons] at h
    simp only [updO] at h
    by_cases e : i = invF l k
    · rw [if_pos e] at h
      simp at h
      have hf : f i = k := by rw [e]; exact hp k hk
      rw [hf]
      exact ⟨hk, e.symm, v, by rw [getH_cons]; simp [updO], h.symm⟩
    · rw [if_neg e] at h
      obtain ⟨h1, h2, o', h3, h4⟩ := renH_get hp (fun x hx => hs x (List.mem_cons_of_mem _ hx)) h
      refine ⟨h1, h2, o', ?_, h4⟩
      rw [getH_cons]
      simp only [updO]
      rw [if_neg]
      · exact h3
      · rintro rfl
        exact e h2.symm
theorem getH_all {q : Id × AObj → Bool} {l : List (Id × AObj)} (h : allB q l = true) {i : Id} {o : AObj} (hi : getH l i = some o) : q (i, o) = true := by
  induction l with
  | nil => simp [getH] at hi
  | cons x l ih =>
    obtain ⟨k, v⟩ := x
    rw [allB_iff] at h
    rw [getH_cons] at hi
    simp only [updO] at hi
    split at hi
    · rename_i e
      cases hi
      rw [e]
      exact h _ (List.mem_cons_self ..)
    · exact ih (allB_iff.2 fun x hx => h x (by simp [hx])) hi

theorem keepR_weak {ks : List Nat} {is : List Id} {n : Nat} {l : List (Nat × Nat)} {σ : St} {K : St → Prop} (h : keepR ks is n l σ K) : ∃ σ', Weak σ σ' ∧ K σ' := by
  unfold keepR at h
  split at h
  · exact h.elim
  · rename_i hp hhp
    obtain ⟨h1, h⟩ := req_iff.1 h
    obtain ⟨h2, h⟩ := req_iff.1 h
    let N := max σ.next n
    let f : Id → Id := fun i => if idB n i = true then backF l i else .loc N
    have hpf : ∀ i, okId l n i = true → f (invF l i) = i := by
      intro i hi
      unfold okId at hi
      split at hi
      · rename_i hb
        show (if idB n (invF l i) = true then _ else _) = i
        rw [if_pos hi]
        exact Id.beq_iff.1 hb
      · cases hi
    have hk2 : ∀ x ∈ hp, okId l n x.1 = true ∧ objP (okId l n) x.2 = true := by
      intro x hx
      have := allB_iff.1 h2 x hx
      split at this
      · rename_i hb; exact ⟨hb, this⟩
      · cases this
    have hnew : ∀ i o, getH (renH l hp) i = some o → okId l n (f i) = true ∧ invF l (f i) = i ∧ ∃ o', getH hp (f i) = some o' ∧ o = o'.ren (invF l) := fun i o hi => renH_get hpf (fun x hx => (hk2 x hx).1) hi
    refine ⟨_, weak_ren f (fun j => by show (if idB n (.ext j) = true then _ else _) = _; simp [idB, backF]) (fun m hm => ⟨N, Nat.le_max_left _ _, ?_⟩) (fun t => ?_) (fun i o hi => ?_) (fun i j o o' hi hj e => ?_) (fun m hm => ?_), h⟩
    · have hm : n ≤ m := hm
      have : idB n (.loc m) = false := by
        cases hb : idB n (.loc m) with
        | false => rfl
        | true => simp [idB] at hb; omega
      show (if idB n (.loc m) = true then _ else _) = _
      rw [this]; rfl
    · rw [renS_get]
      rcases keepS_get (l := σ.slots) (ks := ks) t with e | e
      · rw [e]; exact .inl rfl
      · right
        rw [← e]
        exact (ren_av hpf (getS_all (p := avP (okId l n)) rfl h1 t)).symm
    · obtain ⟨p1, p2, o', p3, rfl⟩ := hnew i o hi
      have hq := getH_all (q := fun x => objP (okId l n) x.2) (allB_iff.2 fun x hx => (hk2 x hx).2) p3
      rw [ren_obj hpf hq]
      exact (keepH_get hhp _ _ p3).1
    · obtain ⟨_, p2, _⟩ := hnew i o hi
      obtain ⟨_, q2, _⟩ := hnew j o' hj
      rw [← p2, ← q2, e]
    · cases hc : getH (renH l hp) (.loc m) with
      | none => rfl
      | some o =>
        obtain ⟨p1, p2, _⟩ := hnew _ o hc
        have hm : n ≤ m := hm
        unfold okId at p1
        split at p1
        · rw [p2] at p1
          simp [idB] at p1
          omega
        · cases p1
end Go.AM

/- The abstract machine, part OB: loops whose objects are numbered anew; holders lent to a function that only reads plain data. No condition. -/
namespace Go.AM
open Go Go.RowKit

/-- A loop: first what is done between operations, then what is kept, numbered anew. -/
theorem loop_invG {M : Mach} {ex : St → (AExit → St → Prop) → Prop} {σ : St} {K : AExit → St → Prop} (gs : List Gh) (l : List (Nat × Nat)) (ks : List Nat) (is : List Id) (nx : Nat) {T : Type} (S : T → St) (I : T → Prop) (m : T → Nat) (t0 : T)
    (hI : I t0) (h0 : gh gs σ fun σ => keepR ks is nx l σ (· = S t0))
    (hr : ∀ t, I t → ex (S t) fun e σ2 => match e with
      | .normal => ∃ n' σ3, n' < m t ∧ Weak σ2 σ3 ∧ ∃ t', I t' ∧ n' = m t' ∧ σ3 = S t'
      | .exit id => K (.exit id) σ2
      | .ret => K .ret σ2) : M.lock fun _ => loopP ex σ K ∨ ∃ n, unrollP ex K n σ := by
  refine (M.lock_iff _).2 <| .inl ⟨fun n σ => ∃ t, I t ∧ n = m t ∧ σ = S t, m t0, ?_, ?_⟩
  · obtain ⟨σ1, hw1, h1⟩ := gh_weak h0
    obtain ⟨σ', hw, e⟩ := keepR_weak h1
    exact ⟨σ', Weak.trans hw1 hw, t0, hI, rfl, e⟩
  · rintro n σ1 ⟨t, h1, rfl, rfl⟩
    exact hr t h1
theorem loop_nextG {T : Type} {m : T → Nat} {I : T → Prop} {S : T → St} {σ2 : St} {k : Nat} (t' : T) (gs : List Gh) (l : List (Nat × Nat)) (ks : List Nat) (is : List Id) (nx : Nat) (hI : I t') (hm : m t' < k)
    (hk : gh gs σ2 fun σ => keepR ks is nx l σ (· = S t')) : ∃ n' σ3, n' < k ∧ Weak σ2 σ3 ∧ ∃ t', I t' ∧ n' = m t' ∧ σ3 = S t' := by
  obtain ⟨σ1, hw1, h1⟩ := gh_weak hk
  obtain ⟨σ', hw, e⟩ := keepR_weak h1
  exact ⟨m t', σ', hm, Weak.trans hw1 hw, t', hI, rfl, e⟩

/-! ### Lent -/
def lentD : AObj → Option D
  | .tree k ag sz rows foc => match foc with
    | none => conD k ag sz rows
    | some _ => none
  | _ => none
def lentB (o : AObj) : Bool :=
  match lentD o with
  | some _ => true
  | none => false
def lendC (n : Nat) (L : List AObj) : CV → CV
  | .ow i => match i with
    | .ext j => match Nat.blt j n with
      | true => .ow (.ext j)
      | false => match L[j - n]? with
        | some o => match lentD o with
          | some x => .d x
          | none => .un
        | none => .un
    | .loc k => .ow (.loc k)
  | c => c
def lendV (n : Nat) (L : List AObj) : V1 → V1
  | .d x => .d x
  | .c c => V1.ofC (lendC n L c)
  | .agg cs => V1.norm (.agg (cs.map (lendC n L)))

def plC : D → Bool
  | .list _ _ _ => false
  | _ => true
def plD : D → Bool
  | .agg cs => allB plC cs
  | x => plC x
def extB (n : Nat) : Id → Bool
  | .ext j => Nat.blt j n
  | .loc _ => true
def plCV (n : Nat) : CV → Bool
  | .un => true
  | .d x => plD x
  | .ptr i _ => extB n i
  | .nilp => true
  | .fn _ cap => allB (extB n) cap
  | .nilf => true
  | .nils _ _ => true
  | .sl i _ => extB n i
  | .map i => extB n i
  | .nilm => true
  | .ap i _ _ _ _ => extB n i
  | .ow i => extB n i
  | .op i _ _ _ => extB n i
  | .yl i => extB n i
  | _ => false
def plV (n : Nat) : V1 → Bool
  | .d x => plD x
  | .c c => plCV n c
  | .agg cs => allB (plCV n) cs
def plA (n : Nat) : AV → Bool
  | .u => true
  | .v x => plV n x
  | .t xs => allB (plV n) xs
def plO (n : Nat) : AObj → Bool
  | .cells cs => allB (plCV n) cs
  | .tok .. => true
  | .tree kd _ _ _ foc => notFlat kd && match foc with
    | some x => allB (plCV n) x.2
    | none => true
  | .gone => true
  | .rnd _ sl => allB (fun x => plA n x.2) sl
  | .rndX _ => true
  | _ => false

theorem CV.ren_id (c : CV) : c.ren (fun i => i) = c := by cases c <;> simp [CV.ren]
theorem V1.ren_id (c : V1) : c.ren (fun i => i) = c := by
  cases c with
  | d x => rfl
  | c x => simp [V1.ren, CV.ren_id]
  | agg cs => simp only [V1.ren]; congr 1; exact map_same fun x _ => CV.ren_id x
theorem AObj.ren_id (c : AObj) : c.ren (fun i => i) = c := by
  have hc : ∀ cs : List CV, cs.map (CV.ren fun i => i) = cs := fun cs => map_same fun x _ => CV.ren_id x
  cases c with
  | cells cs => simp only [AObj.ren, hc]
  | tok => rfl
  | map kt et es => simp only [AObj.ren]; congr 1; exact map_same fun x _ => by simp [V1.ren_id]
  | arr => simp only [AObj.ren, hc]
  | tree kd ag sz rows foc => cases foc <;> simp [AObj.ren, hc]
  | gone => rfl
  | rnd r sl =>
    simp only [AObj.ren]; congr 1
    refine map_same fun x _ => ?_
    show (x.1, x.2.ren fun i => i) = x
    have : x.2.ren (fun i => i) = x.2 := by
      cases hx : x.2 with
      | u => rfl
      | v y => simp [AV.ren, V1.ren_id]
      | t ys => simp only [AV.ren]; congr 1; exact map_same fun y _ => V1.ren_id y
    rw [this]
  | rndX j => rfl

section
variable {w : World} {Z Z' X : Zone} {g g' : Ghost} {h h' : Heap}

theorem plC_any {x : D} {v : Value} (r : RelD w Z x v) (hx : plC x = true) (ha : x.isAgg = false) : RelD w Z' x v := by
  cases r with
  | int k n => exact .int k n
  | bool b => exact .bool b
  | str s => exact .str s
  | nil => exact .nil
  | box cs v hv => exact .box cs v hv
  | map sz rows v hv => exact .map sz rows v hv
  | agg => cases ha
  | list => cases hx
theorem plD_any {x : D} {v : Value} (r : RelD w Z x v) (hx : plD x = true) : RelD w Z' x v := by
  cases ha : x.isAgg with
  | true =>
    cases r with
    | agg cs vs hs h1 hr => exact .agg cs vs hs h1 fun j c u hc hu => plC_any (hr j c u hc hu) (allB_iff.1 hx c (List.mem_of_getElem? hc)) (h1 c (List.mem_of_getElem? hc))
    | _ => cases ha
  | false =>
    refine plC_any r ?_ ha
    cases x <;> first | exact hx | cases ha

theorem plCV_any {n : Nat} (hg : ∀ i, extB n i = true → g' i = g i) (hh : ∀ i, extB n i = true → h' i = h i) {c : CV} {v : Value} (r : RelC w Z g h c v) (hc : plCV n c = true) : RelC w Z' g' h' c v := by
  cases c with
  | un => exact r
  | d x => exact ⟨plD_any r.1 hc, r.2⟩
  | ptr i o => simp only [RelC, hg i hc] at r ⊢; exact r
  | nilp => exact r
  | fn f cap =>
    have hc : allB (extB n) cap = true := hc
    rw [allB_iff] at hc
    obtain ⟨r1, r2⟩ := r
    refine ⟨?_, fun i hi => by rw [hg i (hc i hi)]; exact r2 i hi⟩
    rw [r1]
    congr 2
    exact List.map_congr_left fun i hi => by rw [hg i (hc i hi)]
  | nilf => exact r
  | nils => exact r
  | sl i k => simp only [RelC, hg i hc] at r ⊢; exact r
  | map i => simp only [RelC, hg i hc] at r ⊢; exact r
  | nilm => exact r
  | ap i b sz k o => simp only [RelC, hg i hc] at r ⊢; exact r
  | ow i => simp only [RelC, hg i hc, hh i hc] at r ⊢; exact r
  | op i sz k o => simp only [RelC, hg i hc, hh i hc] at r ⊢; exact r
  | yl i => simp only [RelC, hg i hc] at r ⊢; exact r
  | _ => cases hc
theorem plV_any {n : Nat} (hg : ∀ i, extB n i = true → g' i = g i) (hh : ∀ i, extB n i = true → h' i = h i) {c : V1} {v : Value} (r : RelV1 w Z g h c v) (hc : plV n c = true) : RelV1 w Z' g' h' c v := by
  cases c with
  | d x => exact plD_any r hc
  | c x => exact plCV_any hg hh r hc
  | agg cs =>
    obtain ⟨vs, hv, hs, hr⟩ := r
    exact ⟨vs, hv, hs, fun j c u h1 h2 => plCV_any hg hh (hr j c u h1 h2) (allB_iff.1 hc c (List.mem_of_getElem? h1))⟩
theorem plA_any {n : Nat} (hg : ∀ i, extB n i = true → g' i = g i) (hh : ∀ i, extB n i = true → h' i = h i) {c : AV} {v : Value} (r : RelAV w Z g h c v) (hc : plA n c = true) : RelAV w Z' g' h' c v := by
  cases c with
  | u => trivial
  | v x => exact plV_any hg hh r hc
  | t xs =>
    obtain ⟨vs, hv, hs, hr⟩ := r
    exact ⟨vs, hv, hs, fun j c u h1 h2 => plV_any hg hh (hr j c u h1 h2) (allB_iff.1 hc c (List.mem_of_getElem? h1))⟩
theorem plO_any {n : Nat} (hg : ∀ i, extB n i = true → g' i = g i) (hh : ∀ i, extB n i = true → h' i = h i) {o : AObj} {v : Value} (r : RelObj w Z g h o v) (hc : plO n o = true) : RelObj w Z' g' h' o v := by
  cases o with
  | cells cs =>
    obtain ⟨b, c, e, hv, hb, hs, hr⟩ := r
    exact ⟨b, c, e, hv, hb, hs, fun j x u h1 h2 => plCV_any hg hh (hr j x u h1 h2) (allB_iff.1 hc x (List.mem_of_getElem? h1))⟩
  | tok => exact r
  | tree kd ag sz rows foc =>
    obtain ⟨ht, h0, hf, xs, hx, hcc, U, T, q⟩ := r
    unfold plO at hc
    rw [Bool.and_eq_true] at hc
    obtain ⟨hnf, hc⟩ := hc
    have hkf := notFlat_iff.1 hnf
    refine ⟨ht, h0, hf, xs, hx, fun k cs hk => ?_, U, T, fun i r j c h1 h2 h3 => ⟨(q.1 i r j c h1 h2 h3).1, (RelK.own hkf).2 ((RelK.own hkf).1 (q.1 i r j c h1 h2 h3).2)⟩, q.2⟩
    subst hk
    obtain ⟨p1, p2, p3⟩ := hcc k cs rfl
    exact ⟨p1, p2, fun j c u h1 h2 => plCV_any hg hh (p3 j c u h1 h2) (allB_iff.1 hc c (List.mem_of_getElem? h1))⟩
  | gone => trivial
  | rnd rf sl =>
    obtain ⟨l, L, hv, hh', h1, h2, h3, h4, h5, h6, h7⟩ := r
    refine ⟨l, L, hv, hh', h1, h2, h3, h4, h5, h6, fun t => plA_any hg hh (h7 t) ?_⟩
    have hc : allB (fun x => plA n x.2) sl = true := hc
    rw [allB_iff] at hc
    exact getS_ind (p := fun x => plA n x = true) rfl hc t
  | rndX j => exact r
  | _ => cases hc
end

/-- A contract over plain data serves holders that are lent. -/
theorem Trip.lend {P : Program} {I : Inv} {f : FuncId} {targs targs' : List V1} {pre post new : List AObj} {res : AV} (ht : Trip P I f targs pre res post new) (L : List AObj) (hL : allB lentB L = true)
    (he : targs'.map (lendV pre.length L) = targs) (hlen : post.length = pre.length) (hres : plA pre.length res = true) (hpost : allB (plO pre.length) post = true) (hnew : allB (plO pre.length) new = true) :
    Trip P I f targs' (pre ++ L) res (post ++ L) new := by
  refine Trip.mk' ht.1 fun w X g vals hX hI RH hgl hsz hargs => ?_
  let n := pre.length
  let hs : Heap := heapOf pre
  let hb : Heap := heapOf (pre ++ L)
  have sub : ∀ i o, hs i = some o → hb i = some o ∧ extB n i = true := by
    intro i o hi
    cases i with
    | loc k => simp [hs, heapOf] at hi
    | ext j =>
      have hi : pre[j]? = some o := hi
      have hlt := (List.getElem?_eq_some_iff.1 hi).1
      refine ⟨?_, by simp [extB, n, hlt]⟩
      show (pre ++ L)[j]? = some o
      rw [List.getElem?_append_left hlt]; exact hi
  have lent : ∀ i o, hb i = some o → hs i = some o ∨ ∃ j, i = .ext j ∧ n ≤ j ∧ L[j - n]? = some o := by
    intro i o hi
    cases i with
    | loc k => simp [hb, heapOf] at hi
    | ext j =>
      have hi : (pre ++ L)[j]? = some o := hi
      by_cases hj : j < n
      · rw [List.getElem?_append_left hj] at hi; exact .inl hi
      · rw [List.getElem?_append_right (by omega)] at hi
        exact .inr ⟨j, rfl, by omega, hi⟩
  have lentO : ∀ (k : Nat) o, L[k]? = some o → ∃ kd ag sz rows x, o = .tree kd ag sz rows none ∧ conD kd ag sz rows = some x := by
    intro k o hk
    have := allB_iff.1 hL o (List.mem_of_getElem? hk)
    unfold lentB at this
    cases o with
    | tree kd ag sz rows foc =>
      cases foc with
      | none =>
        simp only [lentD] at this
        split at this
        · rename_i x hx; exact ⟨kd, ag, sz, rows, x, rfl, hx⟩
        · cases this
      | some _ => simp [lentD] at this
    | _ => simp [lentD] at this
  have zsub : ∀ b o, zone g hs b o → zone g hb b o := fun b o ⟨i, ob, hi, h1⟩ => ⟨i, ob, (sub i ob hi).1, h1⟩
  have zz : ∀ b o, zor (zone g hs) X b o → zor (zone g hb) X b o := fun b o hz => hz.imp (zsub b o) id
  -- the lent blocks are nobody else's
  have apart : ∀ j o, n ≤ j → L[j - n]? = some o → ∀ b, Blk (g (.ext j)) b → ∀ q, ¬ zor (zone g hs) X b q := by
    intro j o hj ho b hbb q hz
    obtain ⟨kd, ag, sz, rows, x, rfl, hx⟩ := lentO _ _ ho
    have hbj : hb (.ext j) = some (.tree kd ag sz rows none) := by
      show (pre ++ L)[j]? = _
      rw [List.getElem?_append_right (by omega)]; exact ho
    rcases hz with ⟨i, ob, hi, h1⟩ | hx'
    · have := RH.sep i (.ext j) ob _ b (sub i ob hi).1 hbj h1.obk hbb
      subst this
      have := (sub _ ob hi).2
      simp [extB] at this
      omega
    · exact RH.apart (.ext j) _ b q hbj hbb hx'
  have RS : RelH w X g hs := by
    refine ⟨fun i o hi => ?_, fun i j oi oj b hi hj bi bj => RH.sep i j oi oj b (sub i oi hi).1 (sub j oj hj).1 bi bj, fun i oi b o hi bi => RH.apart i oi b o (sub i oi hi).1 bi⟩
    refine RelObj.pull (r := fun i => i) (g := g) (h := hb) zz (fun _ => rfl) (fun i n sz e hi => (sub i _ hi).1) (fun i hi => ?_) (by rw [AObj.ren_id]; exact RH.objs i o (sub i o hi).1)
    cases hc : hs i with
    | none => rw [hc] at hi; cases hi
    | some o => rw [(sub i o hc).1]; rw [hc] at hi; exact hi
  have live : ∀ i, isLive (hs i) = true → isLive (hb i) = true := fun i hi => by
    cases hc : hs i with
    | none => rw [hc] at hi; cases hi
    | some o => rw [(sub i o hc).1]; rw [hc] at hi; exact hi
  have cv : ∀ {c : CV} {v : Value}, RelC w (zor (zone g hb) X) g hb c v → RelC w (zor (zone g hs) X) g hs (lendC n L c) v := by
    intro c v hr
    have triv : RelC w (zor (zone g hs) X) g hs c v := RelC.pull (r := fun i => i) (g := g) (h := hb) zz (fun _ => rfl) (fun i n sz e hi => (sub i _ hi).1) live (by rw [CV.ren_id]; exact hr)
    cases c with
    | ow i =>
      cases i with
      | loc k => exact triv
      | ext j =>
        show RelC w _ g hs (match Nat.blt j n with
          | true => .ow (.ext j)
          | false => match L[j - n]? with
            | some o => match lentD o with
              | some x => .d x
              | none => .un
            | none => .un) v
        cases hj : Nat.blt j n with
        | true => exact triv
        | false =>
          have hj : n ≤ j := by
            have : ¬ j < n := by
              intro hlt
              have : Nat.blt j n = true := by simpa using hlt
              rw [this] at hj; cases hj
            omega
          simp only []
          cases ho : L[j - n]? with
          | none => exact hr.1
          | some o =>
            obtain ⟨kd, ag, sz, rows, x, rfl, hx⟩ := lentO _ _ ho
            have hbj : hb (.ext j) = some (.tree kd ag sz rows none) := by
              show (pre ++ L)[j]? = _
              rw [List.getElem?_append_right (by omega)]; exact ho
            simp only [lentD, hx]
            have hv := hr.2.2 (by rw [hbj]; rfl)
            have ho' := ((tree_iff hx).1 (RH.objs _ _ hbj)).2
            rw [hv]
            exact ⟨ho'.toD fun b q hb => apart j _ hj ho b hb q, ho'.isAgg⟩
    | _ => exact triv
  have hargs' : ∀ (j : Nat) x v, targs[j]? = some x → vals[j]? = some v → RelV1 w (zor (zone g hs) X) g hs x v := by
    intro j x v hx hv
    rw [← he, List.getElem?_map, Option.map_eq_some_iff] at hx
    obtain ⟨x', hx', rfl⟩ := hx
    have hr := hargs j x' v hx' hv
    cases x' with
    | d x => exact RelD.mono (fun b o u hu hn => ⟨hu, fun hz => hn (zz b o hz)⟩) hr
    | c c => exact RelV1.ofC (cv hr)
    | agg cs =>
      obtain ⟨vs, hv', hs', hr⟩ := hr
      refine RelV1.norm (show RelV1 w (zor (zone g hs) X) g hs (.agg (cs.map (lendC n L))) v from ⟨vs, hv', by simpa using hs', fun q c u hc hu => ?_⟩)
      rw [List.getElem?_map, Option.map_eq_some_iff] at hc
      obtain ⟨c', hc', rfl⟩ := hc
      exact cv (hr q c' u hc' hu)
  refine (ht.calls (X := X) (g := g) (vals := vals) hX (hI.mono zz) RS hgl (by rw [hsz, ← he]; simp) hargs').mono ?_
  rintro e w' ⟨v, g', rfl, CP⟩
  let g2 : Ghost := fun i => match i with
    | .ext j => if j < n then g' (.ext j) else g (.ext j)
    | .loc k => g' (.loc k)
  let hs2 : Heap := heapOf2 post new
  let hb2 : Heap := heapOf2 (post ++ L) new
  have hg2 : ∀ i, extB n i = true → g2 i = g' i := by
    intro i hi
    cases i with
    | loc k => rfl
    | ext j =>
      have : j < n := by simpa [extB] using hi
      show (if j < n then _ else _) = _
      rw [if_pos this]
  have hh2 : ∀ i, extB n i = true → hb2 i = hs2 i := by
    intro i hi
    cases i with
    | loc k => rfl
    | ext j =>
      have : j < n := by simpa [extB] using hi
      show (post ++ L)[j]? = post[j]?
      rw [List.getElem?_append_left (by omega)]
  have case2 : ∀ i o, hb2 i = some o → (extB n i = true ∧ hs2 i = some o) ∨ ∃ j, i = .ext j ∧ n ≤ j ∧ L[j - n]? = some o ∧ g2 i = g i ∧ hb i = some o := by
    intro i o hi
    cases i with
    | loc k => exact .inl ⟨rfl, hi⟩
    | ext j =>
      have hi' : (post ++ L)[j]? = some o := hi
      by_cases hj : j < n
      · exact .inl ⟨by simp [extB, hj], by rw [← hh2 _ (by simp [extB, hj])]; exact hi⟩
      · rw [List.getElem?_append_right (by omega), hlen] at hi'
        refine .inr ⟨j, rfl, by omega, hi', ?_, ?_⟩
        · show (if j < n then _ else _) = _
          rw [if_neg hj]
        · show (pre ++ L)[j]? = _
          rw [List.getElem?_append_right (by omega)]; exact hi'
  have small : ∀ i o, hs2 i = some o → plO n o = true ∧ extB n i = true := by
    intro i o hi
    cases i with
    | loc k => exact ⟨allB_iff.1 hnew o (List.mem_of_getElem? (show new[k]? = some o from hi)), rfl⟩
    | ext j =>
      have hi : post[j]? = some o := hi
      exact ⟨allB_iff.1 hpost o (List.mem_of_getElem? hi), by simp [extB, n, ← hlen, (List.getElem?_eq_some_iff.1 hi).1]⟩
  have old : ∀ j o, n ≤ j → L[j - n]? = some o → hb (.ext j) = some o → ∀ b, Obk (g (.ext j)) o b → b < w.heap.size ∧ Blk (g (.ext j)) b := fun j o hj ho hbj b hb => ⟨(RH.objs _ _ hbj).lt hb, hb.blk⟩
  refine ⟨v, g2, rfl, ⟨⟨fun i o hi => ?_, fun i j oi oj b hi hj bi bj => ?_, fun i oi b o hi bi => ?_⟩, plA_any hg2 hh2 CP.res hres, CP.frame.weaken zsub, fun j => ?_, fun i ob b o hi hz => ?_, fun k hk => CP.none k hk⟩⟩
  · rcases case2 i o hi with ⟨h1, h2⟩ | ⟨j, rfl, hj, ho, hg, hbj⟩
    · rw [hg2 i h1]
      exact plO_any hg2 hh2 (CP.heap.objs i o h2) (small i o h2).1
    · rw [hg]
      obtain ⟨kd, ag, sz, rows, x, rfl, hx⟩ := lentO _ _ ho
      obtain ⟨h1, h2⟩ := (tree_iff hx).1 (RH.objs _ _ hbj)
      exact (tree_iff hx).2 ⟨h1, h2.same fun b hb => CP.frame.block b (h2.lt b hb) (fun q hz => apart j _ hj ho b hb q (.inl hz))⟩
  · have mixed : ∀ i j oi oj, extB n i = true → hs2 i = some oi → ∀ k, j = .ext k → n ≤ k → L[k - n]? = some oj → hb j = some oj → Obk (g' i) oi b → Obk (g j) oj b → False := by
      rintro i j oi oj h1 h2 k rfl hk ho hbj bi bj
      obtain ⟨q, hq⟩ := bi.zone
      obtain ⟨p1, p2⟩ := old k oj hk ho hbj b bj
      rcases CP.within i oi b q h2 hq with hz | hz
      · exact apart k oj hk ho b p2 q (.inl hz)
      · omega
    rcases case2 i oi hi with ⟨h1, h2⟩ | ⟨k, hk1, hk, ho, hg, hbj⟩
    · rw [hg2 i h1] at bi
      rcases case2 j oj hj with ⟨h3, h4⟩ | ⟨k', hk1', hk', ho', hg', hbj'⟩
      · rw [hg2 j h3] at bj
        exact CP.heap.sep i j oi oj b h2 h4 bi bj
      · rw [hg'] at bj
        exact (mixed i j oi oj h1 h2 k' hk1' hk' ho' hbj' bi bj).elim
    · rw [hg] at bi
      rcases case2 j oj hj with ⟨h3, h4⟩ | ⟨k', hk1', hk', ho', hg', hbj'⟩
      · rw [hg2 j h3] at bj
        exact (mixed j i oj oi h3 h4 k hk1 hk ho hbj bj bi).elim
      · rw [hg'] at bj
        exact RH.sep i j oi oj b hbj hbj' bi bj
  · rcases case2 i oi hi with ⟨h1, h2⟩ | ⟨k, hk1, hk, ho, hg, hbj⟩
    · rw [hg2 i h1] at bi
      exact CP.heap.apart i oi b o h2 bi
    · rw [hg] at bi
      exact RH.apart i oi b o hbj bi
  · show gsame (g (.ext j)) (if j < n then g' (.ext j) else g (.ext j))
    split
    · exact CP.ext j
    · exact .refl _
  · rcases case2 i ob hi with ⟨h1, h2⟩ | ⟨k, hk1, hk, ho, hg, hbj⟩
    · rw [hg2 i h1] at hz
      rcases CP.within i ob b o h2 hz with h3 | h3
      · exact .inl (zsub b o h3)
      · exact .inr h3
    · rw [hg] at hz
      exact .inl ⟨i, ob, hbj, hz⟩
end Go.AM

/- The abstract machine, part SH: contracts of the library's functions, as contracts over abstract states. No condition. -/
namespace Go.AM
open Go Go.RowKit

/-- A contract over plain data, out of what is known of the calls. -/
theorem Trip.ofCalls {P : Program} {I : Inv} {f : FuncId} {xs : List D} {res : V1} (hf : ∃ fn c, P.funcs[f]? = some fn ∧ fn.body = some c ∧ (fn.name == "runtime.NumGoroutine") = false)
    (h : ∀ (w : World) (Z : Zone) (vals : Array Value), I.rel w → vals.size = xs.length → (∀ (j : Nat) x v, xs[j]? = some x → vals[j]? = some v → RelD w Z x v) →
      Calls P f vals w fun e w' => ∃ v, e = .returned v ∧ ApartW (fun _ => False) w w' ∧ ∀ Z' g' h', RelV1 w' Z' g' h' res v) : Trip P I f (xs.map V1.d) [] (.v res) [] [] := by
  refine Trip.mk' hf fun w X g vals hX hI RH hg hsz hargs => ?_
  have none : ∀ {i o}, heapOf [] i = some o → False := by
    intro i o h
    cases i <;> simp [heapOf] at h
  have none2 : ∀ {i o}, heapOf2 [] [] i = some o → False := by
    intro i o h
    cases i <;> simp [heapOf2] at h
  refine (h w (zor (zone g (heapOf [])) X) vals hI.1 (by simpa using hsz) (fun j x v hx hv => hargs j (.d x) v (by simp [hx]) hv)).mono ?_
  rintro e w' ⟨v, rfl, A, hr⟩
  refine ⟨v, g, rfl, ⟨⟨fun i o hi => (none2 hi).elim, fun i j oi oj b hi => (none2 hi).elim, fun i oi b o hi => (none2 hi).elim⟩, hr _ _ _, ?_, fun j => .refl _, fun i ob b o hi => (none2 hi).elim, fun k _ => hg k⟩⟩
  exact ⟨A.os, A.tape, A.output, A.size, fun b hb _ => A.block b hb id, fun b o u hu _ => A.cell hu id⟩

/-- The same, of any result; what the zone holds was there ahead of the call. -/
theorem Trip.ofCallsT {P : Program} {I : Inv} {f : FuncId} {xs : List D} {res : AV} (hf : ∃ fn c, P.funcs[f]? = some fn ∧ fn.body = some c ∧ (fn.name == "runtime.NumGoroutine") = false)
    (h : ∀ (w : World) (Z : Zone) (vals : Array Value), I.rel w → vals.size = xs.length → (∀ (j : Nat) x v, xs[j]? = some x → vals[j]? = some v → RelD w Z x v) →
      Calls P f vals w fun e w' => ∃ v, e = .returned v ∧ ApartW (fun _ => False) w w' ∧ ∀ Z' g' h', (∀ b o, Z' b o → b < w.heap.size) → RelAV w' Z' g' h' res v) : Trip P I f (xs.map V1.d) [] res [] [] := by
  refine Trip.mk' hf fun w X g vals hX hI RH hg hsz hargs => ?_
  have none : ∀ {i o}, heapOf [] i = some o → False := by
    intro i o h
    cases i <;> simp [heapOf] at h
  have none2 : ∀ {i o}, heapOf2 [] [] i = some o → False := by
    intro i o h
    cases i <;> simp [heapOf2] at h
  refine (h w (zor (zone g (heapOf [])) X) vals hI.1 (by simpa using hsz) (fun j x v hx hv => hargs j (.d x) v (by simp [hx]) hv)).mono ?_
  rintro e w' ⟨v, rfl, A, hr⟩
  refine ⟨v, g, rfl, ⟨⟨fun i o hi => (none2 hi).elim, fun i j oi oj b hi => (none2 hi).elim, fun i oi b o hi => (none2 hi).elim⟩, hr _ _ _ ?_, ?_, fun j => .refl _, fun i ob b o hi => (none2 hi).elim, fun k _ => hg k⟩⟩
  · rintro b o (⟨i, ob, hi, _⟩ | hx)
    · exact (none2 hi).elim
    · exact hX b o hx
  · exact ⟨A.os, A.tape, A.output, A.size, fun b hb _ => A.block b hb id, fun b o u hu _ => A.cell hu id⟩

/-- The texts of a list. -/
def strsD : List D → Option (List ByteArray)
  | [] => some []
  | .str s :: r => match strsD r with
    | some l => some (s :: l)
    | none => none
  | _ :: _ => none
theorem strsD_map : ∀ {rows : List D} {xs : List ByteArray}, strsD rows = some xs → rows = xs.map D.str
  | [], xs, h => by cases h; rfl
  | x :: r, xs, h => by
    cases x <;> simp only [strsD] at h <;> try (exact absurd h (by simp))
    split at h
    · rename_i l hl
      cases h
      rw [strsD_map hl]; rfl
    · cases h
theorem strsD_of : ∀ (xs : List ByteArray), strsD (xs.map D.str) = some xs
  | [] => rfl
  | x :: xs => by simp [strsD, strsD_of xs]

theorem grow_apart {w w' : World} (h : w'.os = w.os) (h1 : w'.tape = w.tape) (h2 : w'.output = w.output) (h3 : w.heap.size ≤ w'.heap.size) (h4 : ∀ b, b < w.heap.size → w'.heap[b]? = w.heap[b]?) : ApartW (fun _ => False) w w' :=
  ⟨h, h1, h2, h3, fun b hb _ => h4 b hb⟩
theorem below_apart {w w' : World} (h : Below w.heap.size w w') : ApartW (fun _ => False) w w' := ⟨h.os, h.tape, h.output, h.size, fun b hb _ => h.block b hb⟩
end Go.AM

/- The abstract machine, part X: rounds of a range over a function, and results of several shapes. No condition. -/
namespace Go.AM
open Go Go.RowKit

section
variable {α β γ : Type}
def bS (x : Option (α ⊕ β)) (k1 : α → Option γ) (k2 : β → Option γ) : Option γ :=
  match x with
  | some (.inl a) => k1 a
  | some (.inr b) => k2 b
  | none => none
theorem bS_inv {x : Option (α ⊕ β)} {k1 : α → Option γ} {k2 : β → Option γ} {r : γ} (h : bS x k1 k2 = some r) : (∃ a, x = some (.inl a) ∧ k1 a = some r) ∨ ∃ b, x = some (.inr b) ∧ k2 b = some r := by
  unfold bS at h
  split at h
  · exact .inl ⟨_, rfl, h⟩
  · exact .inr ⟨_, rfl, h⟩
  · cases h
end

section
variable {γ : Type}
def letB (b : Bool) (k : Bool → Option γ) : Option γ := k b
theorem letB_inv {b : Bool} {k : Bool → Option γ} {r : γ} (h : letB b k = some r) : ∃ y, b = y ∧ k y = some r := ⟨b, rfl, h⟩
/-- Bytes as a text. -/
def strF (L : List D) (k : ByteArray → Option γ) : Option γ :=
  match bytesD L with
  | some ns => k (bytesB ns)
  | none => none
theorem strF_inv {L : List D} {k : ByteArray → Option γ} {r : γ} (h : strF L k = some r) : ∃ ns s, bytesD L = some ns ∧ bytesB ns = s ∧ k s = some r := by
  unfold strF at h
  split at h
  · rename_i ns hn
    exact ⟨ns, _, hn, rfl, h⟩
  · cases h
/-- Looked up in a map. -/
def findF (e : Bool) (key : D) (rows : List D) (k1 : D → Option γ) (k0 : Option γ) : Option γ :=
  match findR e key rows with
  | some (some y) => k1 y
  | some none => k0
  | none => none
theorem findF_inv {e : Bool} {key : D} {rows : List D} {k1 : D → Option γ} {k0 : Option γ} {r : γ} (h : findF e key rows k1 k0 = some r) : (∃ y, findR e key rows = some (some y) ∧ k1 y = some r) ∨ (findR e key rows = some none ∧ k0 = some r) := by
  unfold findF at h
  split at h
  · rename_i y hy
    exact .inl ⟨y, hy, h⟩
  · rename_i hy
    exact .inr ⟨hy, h⟩
  · cases h
/-- Written into a map. -/
def putF (key : D) (ws rows : List D) (k : List D → Option γ) : Option γ :=
  match putR key ws rows with
  | some r => k r
  | none => none
theorem putF_inv {key : D} {ws rows : List D} {k : List D → Option γ} {r : γ} (h : putF key ws rows k = some r) : ∃ out, putR key ws rows = some out ∧ k out = some r := by
  unfold putF at h
  split at h
  · rename_i out ho
    exact ⟨out, ho, h⟩
  · cases h
/-- bits.Add64. -/
def addF (x y c : Int) (k : Int → Int → Option γ) : Option γ :=
  if 0 ≤ x ∧ 0 ≤ y ∧ 0 ≤ c ∧ c ≤ 1 then k ((x + y + c) % 18446744073709551616) ((x + y + c) / 18446744073709551616) else none
theorem addF_inv {x y c : Int} {k : Int → Int → Option γ} {r : γ} (h : addF x y c k = some r) : ∃ z u, (0 ≤ x ∧ 0 ≤ y ∧ 0 ≤ c ∧ c ≤ 1) ∧ (x + y + c) % 18446744073709551616 = z ∧ (x + y + c) / 18446744073709551616 = u ∧ k z u = some r := by
  unfold addF at h
  split at h
  · rename_i hb
    exact ⟨_, _, hb, rfl, rfl, h⟩
  · cases h
end
/-- Ways down a body. -/
def cL : Code → Code
  | .seq a _ => a
  | .cond _ a _ => a
  | .block _ b => b
  | .loop b => b
  | .rangeFunc _ _ a _ => a
  | c => c
def cR : Code → Code
  | .seq _ b => b
  | .cond _ _ b => b
  | .rangeFunc _ _ _ b => b
  | c => c
def cP : Code → Array Tmp
  | .rangeFunc _ p _ _ => p
  | _ => #[]
def bodyOf (fn : Func) : Code :=
  match fn.body with
  | some c => c
  | none => .skip

/-- What a round sees of the slots. -/
def slOK (s : Slots) : List (Nat × AV) → Prop
  | [] => True
  | (t, v) :: r => s t = v ∧ slOK s r
theorem slOK_get {s : Slots} : ∀ {sl : List (Nat × AV)}, slOK s sl → ∀ t, getS sl t = .u ∨ getS sl t = s t
  | [], _, _ => .inl rfl
  | (k, v) :: r, h, t => by
    show (match Nat.beq k t with | true => v | false => getS r t) = .u ∨ (match Nat.beq k t with | true => v | false => getS r t) = s t
    cases e : Nat.beq k t with
    | true => exact .inr (by rw [← Nat.eq_of_beq_eq_true e]; exact h.1.symm)
    | false => exact slOK_get h.2 t

theorem eqv_eq {a b q : Bool} (h : (a == b) = q) : eqvB a b = q := (eqvB_eq a b).trans h
theorem eqv_ne {a b q : Bool} (h : (!(a == b)) = q) : notB (eqvB a b) = q := by rw [eqvB_eq, notB_eq]; exact h
theorem not_eq' {a q : Bool} (h : (!a) = q) : notB a = q := by rw [notB_eq]; exact h

/-- One behind the other: each way goes on by itself. -/
theorem seq_go {M : Mach} {ea eb : St → (AExit → St → Prop) → Prop} {σ : St} {K : AExit → St → Prop} (h : ea σ fun e σ' => match e with
    | .normal => eb σ' K
    | .exit id => K (.exit id) σ'
    | .ret => K .ret σ') : M.lock fun _ => seqP ea eb σ K := (M.lock_iff _).2 (.inl h)
/-- The ways of the first join. -/
theorem seq_join {M : Mach} {ea eb : St → (AExit → St → Prop) → Prop} {σ : St} {K : AExit → St → Prop} {T : Type} (S : T → St) (I : T → Prop)
    (ha : ea σ fun e σ' => match e with
      | .normal => ∃ σ'', Weak σ' σ'' ∧ ∃ t, I t ∧ σ'' = S t
      | .exit id => K (.exit id) σ'
      | .ret => K .ret σ') (hb : ∀ t, I t → eb (S t) K) : M.lock fun _ => seqP ea eb σ K := by
  refine (M.lock_iff _).2 (.inr ⟨fun σ => ∃ t, I t ∧ σ = S t, ha, ?_⟩)
  rintro σ2 ⟨t, hi, rfl⟩
  exact hb t hi
theorem join_nextG {T : Type} {I : T → Prop} {S : T → St} {σ2 : St} (t' : T) (gs : List Gh) (l : List (Nat × Nat)) (ks : List Nat) (is : List Id) (nx : Nat) (hI : I t') (hk : gh gs σ2 fun σ => keepR ks is nx l σ (· = S t')) :
    ∃ σ'', Weak σ2 σ'' ∧ ∃ t, I t ∧ σ'' = S t := by
  obtain ⟨σ1, hw1, h1⟩ := gh_weak hk
  obtain ⟨σ', hw, e⟩ := keepR_weak h1
  exact ⟨σ', Weak.trans hw1 hw, t', hI, e⟩
theorem join_next {T : Type} {I : T → Prop} {S : T → St} {σ2 : St} (t' : T) (ks : List Nat) (is : List Id) (nx : Nat) (hI : I t') (hk : keep ks is nx σ2 (· = S t')) :
    ∃ σ'', Weak σ2 σ'' ∧ ∃ t, I t ∧ σ'' = S t := by
  obtain ⟨σ', hw, e⟩ := keep_weak hk
  exact ⟨σ', hw, t', hI, e⟩

section
variable {M : Mach} {P : Program} {I : Inv}

/-- A round's contract, at the program itself. -/
theorem RoundK.of' {ti : Types} (hti : TIok P ti) (h1 : TIone ti) (hm : P.follows .mixedOrders = true) {r : RF} {sl : List (Nat × AV)} {args : List V1} {pre : List AObj} {Q : Jump → List AObj → List AObj → Prop} {nt : Nat} {ps : List Tmp} {ca cb : Code}
    (hnt : r.nt = nt) (hpl : r.params.toList = ps) (ha : r.assign = ca) (hb : r.body = cb) (hlen : args.length = ps.length) (hps : allB (fun p => Nat.blt p nt) ps = true)
    (hx : ∀ M : Mach, M.P = P → M.I = I → exec M ti nt (execDraw ti M nt) ca ⟨putPs ps args sl, extsOf pre 0, 0⟩ fun e σ => match e with
      | .normal => exec M ti nt (execDraw ti M nt) cb σ fun e σ => ∃ post new, Q (jumpOf e) post new ∧ FinR σ post new
      | _ => False) : RoundK P I r sl args pre Q := by
  subst hnt
  subst hpl
  subst ha
  subst hb
  exact RoundK.intro (fun M nt => execDraw ti M nt) hti h1 (draw_P hti h1 hm) (by simpa using hlen) hps hx
theorem finR_go {Q : Jump → List AObj → List AObj → Prop} {σ : St} {j : Jump} {post new : List AObj} (hQ : Q j post new) (h : ∃ nm : List Id, nodupB nm = true ∧ postOK (getH σ.heap) (renN nm σ.next) post 0 ∧ newOK (getH σ.heap) (renN nm σ.next) new nm ∧ handOK post nm) :
    ∃ post new, Q j post new ∧ FinR σ post new := ⟨_, _, hQ, [], h⟩
theorem finQ_go {Q : AV → List AObj → List AObj → Prop} {ti : Types} {rs : List ResultVar} {σ : St} {res : AV} {post new : List AObj} (hQ : Q res post new)
    (h : withRes ti σ rs fun xs => ∃ nm : List Id, nodupB nm = true ∧ mkRes xs = res.ren (renN nm σ.next) ∧ postOK (getH σ.heap) (renN nm σ.next) post 0 ∧ newOK (getH σ.heap) (renN nm σ.next) new nm ∧ handOK post nm) :
    ∃ r p n, Q r p n ∧ Fin' ti rs σ r p n := ⟨_, _, _, hQ, [], h⟩

/-- yield, called: the round's contract. -/
theorem yl_with {A : Prop} {ti : Types} {o : Oper} {c : Call} {f : Operand} {fresh : Nat} {σ : St} {K : St → Prop} {i : Id} {r : Unit → RF} {sl sl0 : List (Nat × AV)} {xs targs : List V1} {pre post new : List AObj} {j : Jump}
    (hP : M.P = P) (hI : M.I = I) (m : List Id) (ho : o.op = .call c) (hc : c.callee = .value f) (hf : opd ti (getS σ.slots) 0 f = .v (.c (.yl i))) (hr : getH σ.heap i = some (.rnd r sl))
    (hR : RoundK P I (r ()) sl0 targs pre fun j' p n => j' = j ∧ p = post ∧ n = new) (hxs : vals1 (opsArgs ti (getS σ.slots) c.args.toList c.argTypes.toList) = some xs)
    (he : xs = targs.map (V1.ren (renM (m ++ [i]) fresh))) (hsl : sl = renSl (renM (m ++ [i]) fresh) sl0) (hm : (m ++ [i]).Nodup) (hpre : preOK (getH σ.heap) (renM (m ++ [i]) fresh) m pre) (hkd : allKinds pre post) (hn : new.length ≤ 31)
    (hk : K ⟨putS σ.slots o.dst (.v (.d (.bool j.isNone))), setW σ.heap (wrM (m ++ [i]) (renM (m ++ [i]) fresh) (post ++ [putRec j r sl0]) ++ wrNew fresh (renM (m ++ [i]) fresh) 0 new), fresh⟩) :
    M.lock fun _ => A ∨ callK M ti o fresh σ K := by
  refine call_in ?_
  unfold callK
  rw [ho]
  simp only []
  rw [hc]
  simp only []
  refine ⟨⟨σ.slots, σ.heap, fresh⟩, Weak.refl _, rfl, ?_⟩
  simp only [hf]
  unfold withArgs
  rw [hxs]
  simp only [hr]
  refine ⟨m, targs, pre, sl0, _, hP ▸ hI ▸ hR, he, hsl, (preOK_get hpre).1, hm, (preOK_get hpre).2, ?_⟩
  rintro j' post' new' ⟨rfl, rfl, rfl⟩
  exact ⟨⟨hkd, hn⟩, hk⟩

/-- A call, behind what is done ahead of it. -/
def callFV (M : Mach) (ti : Types) (o : Oper) (c : Call) (f : Operand) (fresh : Nat) (σ : St) (K : St → Prop) : Prop :=
  match opd ti (getS σ.slots) 0 f with
  | .v (.c (.fn n cap)) => withArgs (opsArgs ti (getS σ.slots) c.args.toList c.argTypes.toList) fun xs => callFn M o.dst fresh σ n (xs ++ cap.map fun i => V1.c (.ptr i 0)) K
  | _ => False
theorem call_gs {A : Prop} {ti : Types} {o : Oper} {c : Call} {f : Operand} {fresh : Nat} {σ : St} {K : St → Prop} (gs : List Gh) (ho : o.op = .call c) (hc : c.callee = .value f)
    (hk : gh gs ⟨σ.slots, σ.heap, fresh⟩ fun σ' => σ'.next = fresh ∧ M.lock fun _ => callFV M ti o c f fresh σ' K) : M.lock fun _ => A ∨ callK M ti o fresh σ K := by
  refine call_in ?_
  obtain ⟨σ', hw, hn, hk⟩ := gh_weak hk
  have hk := (M.lock_iff _).1 hk
  unfold callK
  rw [ho]
  simp only []
  rw [hc]
  simp only []
  refine ⟨σ', hw, hn, ?_⟩
  unfold callFV at hk
  split at hk
  · rename_i n cap h
    rw [h]
    exact hk
  · exact hk.elim
theorem callfv_with {ti : Types} {o : Oper} {c : Call} {f : Operand} {fresh : Nat} {σ : St} {K : St → Prop} {n : FuncId} {cap : List Id} {xs targs : List V1} {pre post new : List AObj} {res : AV} (hP : M.P = P) (hI : M.I = I) (m : List Id)
    (hf : opd ti (getS σ.slots) 0 f = .v (.c (.fn n cap))) (hxs : vals1 (opsArgs ti (getS σ.slots) c.args.toList c.argTypes.toList) = some xs) (ht : Trip P I n targs pre res post new)
    (he : (xs ++ cap.map fun i => V1.c (.ptr i 0)) = targs.map (V1.ren (renM m fresh))) (hm : m.Nodup) (hpre : preOK (getH σ.heap) (renM m fresh) m pre) (hkd : allKinds pre post) (hn : new.length ≤ 31)
    (hk : K ⟨putS σ.slots o.dst (res.ren (renM m fresh)), setW σ.heap (wrM m (renM m fresh) post ++ wrNew fresh (renM m fresh) 0 new), σ.next⟩) : M.lock fun _ => callFV M ti o c f fresh σ K := by
  refine (M.lock_iff _).2 ?_
  unfold callFV
  rw [hf]
  simp only []
  unfold withArgs
  rw [hxs]
  refine ⟨m, targs, pre, _, hP ▸ hI ▸ ht, he, (preOK_get hpre).1, hm, (preOK_get hpre).2, ?_⟩
  rintro res' post' new' ⟨rfl, rfl, rfl⟩
  exact ⟨⟨hkd, hn⟩, hk⟩
/-- A range over a function, by the function's contract. -/
theorem range_with {ti : Types} {nt : Nat} {g : Operand} {ps : Array Tmp} {assign body : Code} {σ : St} {K : AExit → St → Prop} {n : FuncId} {cap : List Id} {targs : List V1} {pre post new : List AObj} {res : AV}
    (hP : M.P = P) (hI : M.I = I) (m : List Id) (sl : List (Nat × AV)) (hg : opd ti (getS σ.slots) 0 g = .v (.c (.fn n cap))) (hsl : slOK (getS σ.slots) sl)
    (ht : Trip P I n targs pre res post new) (he : (V1.c (.yl (.loc σ.next)) :: cap.map fun i => V1.c (.ptr i 0)) = targs.map (V1.ren (renM m (σ.next + 32)))) (hm : m.Nodup)
    (hpre : preOK (getH (setH σ.heap (.loc σ.next) (.rnd (fun _ => ⟨ps, assign, body, nt⟩) sl))) (renM m (σ.next + 32)) m pre) (hkd : allKinds pre post) (hn : new.length ≤ 31)
    (hk : match getH (setW (setH σ.heap (.loc σ.next) (.rnd (fun _ => ⟨ps, assign, body, nt⟩) sl)) (wrM m (renM m (σ.next + 32)) post ++ wrNew (σ.next + 32) (renM m (σ.next + 32)) 0 new)) (.loc σ.next) with
      | some (.rnd _ _) => K .normal ⟨σ.slots, setH (setW (setH σ.heap (.loc σ.next) (.rnd (fun _ => ⟨ps, assign, body, nt⟩) sl)) (wrM m (renM m (σ.next + 32)) post ++ wrNew (σ.next + 32) (renM m (σ.next + 32)) 0 new)) (.loc σ.next) .gone, σ.next + 64⟩
      | some (.rndX j) => (match j with
        | none => K .ret ⟨σ.slots, setH (setW (setH σ.heap (.loc σ.next) (.rnd (fun _ => ⟨ps, assign, body, nt⟩) sl)) (wrM m (renM m (σ.next + 32)) post ++ wrNew (σ.next + 32) (renM m (σ.next + 32)) 0 new)) (.loc σ.next) .gone, σ.next + 64⟩
        | some id => K (.exit id) ⟨σ.slots, setH (setW (setH σ.heap (.loc σ.next) (.rnd (fun _ => ⟨ps, assign, body, nt⟩) sl)) (wrM m (renM m (σ.next + 32)) post ++ wrNew (σ.next + 32) (renM m (σ.next + 32)) 0 new)) (.loc σ.next) .gone, σ.next + 64⟩)
      | _ => False) :
    M.lock fun _ => rangeP M ti nt g ps assign body σ K := by
  refine (M.lock_iff _).2 ⟨σ, Weak.refl _, ?_⟩
  rw [hg]
  refine ⟨sl, slOK_get hsl, m, targs, pre, _, hP ▸ hI ▸ ht, he, (preOK_get hpre).1, hm, (preOK_get hpre).2, ?_⟩
  rintro res' post' new' ⟨rfl, rfl, rfl⟩
  exact ⟨⟨hkd, hn⟩, hk⟩
end
end Go.AM

/- The seat's table, the order in which it is run, what is known of the library's variables. No condition. -/
namespace Go.Proofs.YtjmofeakajdbiaaDoor
open Go Go.AM
theorem fol : Tryd.prog.follows .mixedOrders = true := by kernel_rfl
theorem var_same {P : Program} {name : String} {g : Nat} (hg : P.globalNamed name = some g) {w w' : World} (h : w'.heap[g]? = w.heap[g]?) : w'.var? P name = w.var? P name := by
  unfold World.var?
  rw [hg]
  simp only [Option.bind_some, h]
theorem space_no : ∃ g, Tryd.prog.globalNamed "strings.asciiSpace" = some g := ⟨0, by kernel_rfl⟩
def inv : Inv := ⟨fun b => Tryd.prog.globalNamed "strings.asciiSpace" = some b, fun w => Lib.TabIs Tryd.prog w "strings.asciiSpace" .u8 Lib.asciiSpaceTab, fun h hr => by
  obtain ⟨g, hg⟩ := space_no
  unfold Lib.TabIs at hr ⊢
  rw [var_same hg (h g hg)]
  exact hr⟩
end Go.Proofs.YtjmofeakajdbiaaDoor

/-
  DERIVED: THE SHELF's CONTRACTS AT THIS DUMP, IN PLAIN WORDS (tools/lay-plain.mjs out of 'TrydShelf.lean', which tools/lay-shelf.mjs wrote): THE SAME DECLARATIONS UNDER THE SAME NAMES: 'import', 'namespace', 'open', 'def', 'theorem' AND NOTHING ELSE: no command of the shelf's: FOR A HAND-IN. Each laying: the table of numbers ('.._ren') and one theorem, a field a fact of the dump's own or the kernel's comparison; each contract: ONE APPLICATION.
-/
namespace Go.Proofs
open Go.Shelf
def Tryd.lays137_ren : Go.Shelf.Ren := ⟨fun | 137 => 64 | 217 => 77 | 266 => 85 | n => n, fun | 9 => 9 | 5 => 5 | 3 => 3 | n => n, fun | n => n⟩
theorem Tryd.lays137 : Go.Proofs.Lays.n137 Tryd.prog Tryd.lays137_ren := {
  mixed := by kernel_rfl
  f137 := Tryd.func64.trans (congrArg some (by kernel_rfl))
  f217 := Tryd.func77.trans (congrArg some (by kernel_rfl))
  f266 := Tryd.func85.trans (congrArg some (by kernel_rfl))
  t3 := Tryd.underlying3
  a3 := Tryd.isAgg3
  z3 := Tryd.sizeOf3
  v3 := Tryd.zeroValue3
  t5 := Tryd.underlying5
  a5 := Tryd.isAgg5
  z5 := Tryd.sizeOf5
  v5 := Tryd.zeroValue5
  t9 := Tryd.underlying9
  a9 := Tryd.isAgg9
  z9 := Tryd.sizeOf9
  v9 := Tryd.zeroValue9 }
open Go.RowKit in
/-- strings.IndexByte: "IndexByte returns the index of the first instance of c in s, or -1 if c is not present in s.": IT RETURNS 'Lib.indexByte s c'; the world is as it was. (LAID: no walk: one application.) -/
theorem Tryd.strings_IndexByte (s : ByteArray) (c : Int) (w : World) :
    Calls Tryd.prog 64 #[.string s, .int .u8 c] w fun e w' => e = .returned (.int .i64 (Lib.indexByte s.data.toList c.toNat.toUInt8)) ∧ w' = w := Any.strings_IndexByte Tryd.lays137 s c w
def Tryd.lays217_ren : Go.Shelf.Ren := ⟨fun | 217 => 77 | 266 => 85 | n => n, fun | 9 => 9 | 5 => 5 | 3 => 3 | n => n, fun | n => n⟩
theorem Tryd.lays217 : Go.Proofs.Lays.n217 Tryd.prog Tryd.lays217_ren := {
  mixed := by kernel_rfl
  f217 := Tryd.func77.trans (congrArg some (by kernel_rfl))
  f266 := Tryd.func85.trans (congrArg some (by kernel_rfl))
  t3 := Tryd.underlying3
  a3 := Tryd.isAgg3
  z3 := Tryd.sizeOf3
  v3 := Tryd.zeroValue3
  t5 := Tryd.underlying5
  a5 := Tryd.isAgg5
  z5 := Tryd.sizeOf5
  v5 := Tryd.zeroValue5
  t9 := Tryd.underlying9
  a9 := Tryd.isAgg9
  z9 := Tryd.sizeOf9
  v9 := Tryd.zeroValue9 }
open Go.RowKit Go.Lib in
/-- internal/stringslite.IndexByte (what strings.IndexByte calls): IT RETURNS 'Lib.indexByte s c'; the world is as it was. (LAID: no walk: one application.) -/
theorem Tryd.stringslite_IndexByte (s : ByteArray) (c : Int) (w : World) :
    Calls Tryd.prog 77 #[.string s, .int .u8 c] w fun e w' => e = .returned (.int .i64 (Lib.indexByte s.data.toList c.toNat.toUInt8)) ∧ w' = w := Any.stringslite_IndexByte Tryd.lays217 s c w
def Tryd.lays206_ren : Go.Shelf.Ren := ⟨fun | 206 => 78 | n => n, fun | 9 => 9 | 4 => 4 | 3 => 3 | n => n, fun | n => n⟩
theorem Tryd.lays206 : Go.Proofs.Lays.n206 Tryd.prog Tryd.lays206_ren := {
  mixed := by kernel_rfl
  f206 := Tryd.func78.trans (congrArg some (by kernel_rfl))
  t3 := Tryd.underlying3
  a3 := Tryd.isAgg3
  z3 := Tryd.sizeOf3
  v3 := Tryd.zeroValue3
  t4 := Tryd.underlying4
  a4 := Tryd.isAgg4
  z4 := Tryd.sizeOf4
  v4 := Tryd.zeroValue4
  t9 := Tryd.underlying9
  a9 := Tryd.isAgg9
  z9 := Tryd.sizeOf9
  v9 := Tryd.zeroValue9 }
open Go.RowKit Go.Lib in
/-- internal/stringslite.HasPrefix (what strings.HasPrefix calls). (LAID: no walk: one application.) -/
theorem Tryd.stringslite_HasPrefix (s p : ByteArray) (w : World) :
    Calls Tryd.prog 78 #[.string s, .string p] w fun e w' => e = .returned (.bool (Lib.hasPrefix s.data.toList p.data.toList)) ∧ w' = w := Any.stringslite_HasPrefix Tryd.lays206 s p w
def Tryd.lays99_ren : Go.Shelf.Ren := ⟨fun | 99 => 65 | 206 => 78 | n => n, fun | 9 => 9 | 4 => 4 | 3 => 3 | n => n, fun | n => n⟩
theorem Tryd.lays99 : Go.Proofs.Lays.n99 Tryd.prog Tryd.lays99_ren := {
  mixed := by kernel_rfl
  f99 := Tryd.func65.trans (congrArg some (by kernel_rfl))
  f206 := Tryd.func78.trans (congrArg some (by kernel_rfl))
  t3 := Tryd.underlying3
  a3 := Tryd.isAgg3
  z3 := Tryd.sizeOf3
  v3 := Tryd.zeroValue3
  t4 := Tryd.underlying4
  a4 := Tryd.isAgg4
  z4 := Tryd.sizeOf4
  v4 := Tryd.zeroValue4
  t9 := Tryd.underlying9
  a9 := Tryd.isAgg9
  z9 := Tryd.sizeOf9
  v9 := Tryd.zeroValue9 }
open Go.RowKit Go.Lib in
/-- strings.HasPrefix: "HasPrefix reports whether the string s begins with prefix.": IT RETURNS 'Lib.hasPrefix s prefix'; the world is as it was. (LAID: no walk: one application.) -/
theorem Tryd.strings_HasPrefix (s p : ByteArray) (w : World) :
    Calls Tryd.prog 65 #[.string s, .string p] w fun e w' => e = .returned (.bool (Lib.hasPrefix s.data.toList p.data.toList)) ∧ w' = w := Any.strings_HasPrefix Tryd.lays99 s p w
def Tryd.lays157_ren : Go.Shelf.Ren := ⟨fun | 157 => 50 | 229 => 70 | 199 => 71 | 261 => 83 | 311 => 88 | 312 => 89 | n => n, fun | 9 => 9 | 31 => 26 | 3 => 3 | 5 => 5 | 4 => 4 | 119 => 87 | 0 => 0 | 40 => 89 | 152 => 99 | 21 => 21 | 154 => 101 | 51 => 102 | 141 => 104 | 196 => 112 | 193 => 109 | 198 => 115 | 49 => 113 | 194 => 110 | 201 => 118 | 226 => 121 | 46 => 120 | 227 => 122 | n => n, fun | 0 => 0 | 6 => 1 | n => n⟩
theorem Tryd.lays157 : Go.Proofs.Lays.n157 Tryd.prog Tryd.lays157_ren := {
  mixed := by kernel_rfl
  f157 := Tryd.func50.trans (congrArg some (by kernel_rfl))
  f199 := Tryd.func71.trans (congrArg some (by kernel_rfl))
  f229 := Tryd.func70.trans (congrArg some (by kernel_rfl))
  f261 := Tryd.func83.trans (congrArg some (by kernel_rfl))
  f311 := Tryd.func88.trans (congrArg some (by kernel_rfl))
  f312 := Tryd.func89.trans (congrArg some (by kernel_rfl))
  t0 := Tryd.underlying0
  a0 := Tryd.isAgg0
  z0 := Tryd.sizeOf0
  v0 := Tryd.zeroValue0
  t3 := Tryd.underlying3
  a3 := Tryd.isAgg3
  z3 := Tryd.sizeOf3
  v3 := Tryd.zeroValue3
  t4 := Tryd.underlying4
  a4 := Tryd.isAgg4
  z4 := Tryd.sizeOf4
  v4 := Tryd.zeroValue4
  t5 := Tryd.underlying5
  a5 := Tryd.isAgg5
  z5 := Tryd.sizeOf5
  v5 := Tryd.zeroValue5
  t9 := Tryd.underlying9
  a9 := Tryd.isAgg9
  z9 := Tryd.sizeOf9
  v9 := Tryd.zeroValue9
  t21 := Tryd.underlying21
  a21 := Tryd.isAgg21
  z21 := Tryd.sizeOf21
  v21 := Tryd.zeroValue21
  t31 := Tryd.underlying26
  a31 := Tryd.isAgg26
  z31 := Tryd.sizeOf26
  v31 := Tryd.zeroValue26
  t40 := Tryd.underlying89
  a40 := Tryd.isAgg89
  z40 := Tryd.sizeOf89
  v40 := Tryd.zeroValue89
  t46 := Tryd.underlying120
  a46 := Tryd.isAgg120
  z46 := Tryd.sizeOf120
  v46 := Tryd.zeroValue120
  t49 := Tryd.underlying113
  a49 := Tryd.isAgg113
  z49 := Tryd.sizeOf113
  v49 := Tryd.zeroValue113
  t51 := Tryd.underlying102
  a51 := Tryd.isAgg102
  z51 := Tryd.sizeOf102
  v51 := Tryd.zeroValue102
  t119 := Tryd.underlying87
  a119 := Tryd.isAgg87
  z119 := Tryd.sizeOf87
  t141 := Tryd.underlying104
  a141 := Tryd.isAgg104
  z141 := Tryd.sizeOf104
  v141 := Tryd.zeroValue104
  t152 := Tryd.underlying99
  a152 := Tryd.isAgg99
  z152 := Tryd.sizeOf99
  v152 := Tryd.zeroValue99
  t154 := Tryd.underlying101
  a154 := Tryd.isAgg101
  z154 := Tryd.sizeOf101
  v154 := Tryd.zeroValue101
  t193 := Tryd.underlying109
  a193 := Tryd.isAgg109
  z193 := Tryd.sizeOf109
  v193 := Tryd.zeroValue109
  t194 := Tryd.underlying110
  a194 := Tryd.isAgg110
  z194 := Tryd.sizeOf110
  v194 := Tryd.zeroValue110
  t196 := Tryd.underlying112
  a196 := Tryd.isAgg112
  z196 := Tryd.sizeOf112
  v196 := Tryd.zeroValue112
  t198 := Tryd.underlying115
  a198 := Tryd.isAgg115
  z198 := Tryd.sizeOf115
  v198 := Tryd.zeroValue115
  t201 := Tryd.underlying118
  a201 := Tryd.isAgg118
  z201 := Tryd.sizeOf118
  v201 := Tryd.zeroValue118
  t226 := Tryd.underlying121
  a226 := Tryd.isAgg121
  z226 := Tryd.sizeOf121
  v226 := Tryd.zeroValue121
  t227 := Tryd.underlying122
  a227 := Tryd.isAgg122
  z227 := Tryd.sizeOf122
  v227 := Tryd.zeroValue122
  g0 := by kernel_rfl
  g6 := by kernel_rfl }
open Go.RowKit Go.Lib in
/-- strings.Fields, the table by 'Lib.TabIs' (as strings.TrimSpace's contract). 'hg': the table's number, by its name: at a dump 'by kernel_rfl'. (LAID: no walk: one application.) -/
theorem Tryd.strings_Fields (s : ByteArray) (w : World) (hs : s.size < 4294967281) (hascii : ∀ (j : Nat) b, s.data.toList[j]? = some b → b.toNat < 128) (htab : Lib.TabIs Tryd.prog w "strings.asciiSpace" .u8 Lib.asciiSpaceTab) :
    Calls Tryd.prog 50 #[.string s] w fun e w' =>
      e = .returned (.slice (some ⟨w.heap.size, 0, none⟩) (Lib.fields s.data.toList).length (Lib.fields s.data.toList).length) ∧ w' = w.alloc (.cells ((Lib.fields s.data.toList).map fun l => Value.string ⟨l.toArray⟩).toArray 9) := Any.strings_Fields Tryd.lays157 (by kernel_rfl) (by kernel_rfl) s w hs hascii htab
def Tryd.lays199_ren : Go.Shelf.Ren := ⟨fun | 199 => 71 | 261 => 83 | 311 => 88 | 312 => 89 | n => n, fun | 21 => 21 | 4 => 4 | 51 => 102 | 141 => 104 | 0 => 0 | 196 => 112 | 193 => 109 | 3 => 3 | 198 => 115 | 49 => 113 | 194 => 110 | 201 => 118 | 226 => 121 | 46 => 120 | 227 => 122 | n => n, fun | 6 => 1 | n => n⟩
theorem Tryd.lays199 : Go.Proofs.Lays.n199 Tryd.prog Tryd.lays199_ren := {
  mixed := by kernel_rfl
  f199 := Tryd.func71.trans (congrArg some (by kernel_rfl))
  f261 := Tryd.func83.trans (congrArg some (by kernel_rfl))
  f311 := Tryd.func88.trans (congrArg some (by kernel_rfl))
  f312 := Tryd.func89.trans (congrArg some (by kernel_rfl))
  t0 := Tryd.underlying0
  a0 := Tryd.isAgg0
  z0 := Tryd.sizeOf0
  v0 := Tryd.zeroValue0
  t3 := Tryd.underlying3
  a3 := Tryd.isAgg3
  z3 := Tryd.sizeOf3
  v3 := Tryd.zeroValue3
  t4 := Tryd.underlying4
  a4 := Tryd.isAgg4
  z4 := Tryd.sizeOf4
  v4 := Tryd.zeroValue4
  t21 := Tryd.underlying21
  a21 := Tryd.isAgg21
  z21 := Tryd.sizeOf21
  v21 := Tryd.zeroValue21
  t46 := Tryd.underlying120
  a46 := Tryd.isAgg120
  z46 := Tryd.sizeOf120
  v46 := Tryd.zeroValue120
  t49 := Tryd.underlying113
  a49 := Tryd.isAgg113
  z49 := Tryd.sizeOf113
  v49 := Tryd.zeroValue113
  t51 := Tryd.underlying102
  a51 := Tryd.isAgg102
  z51 := Tryd.sizeOf102
  v51 := Tryd.zeroValue102
  t141 := Tryd.underlying104
  a141 := Tryd.isAgg104
  z141 := Tryd.sizeOf104
  v141 := Tryd.zeroValue104
  t193 := Tryd.underlying109
  a193 := Tryd.isAgg109
  z193 := Tryd.sizeOf109
  v193 := Tryd.zeroValue109
  t194 := Tryd.underlying110
  a194 := Tryd.isAgg110
  z194 := Tryd.sizeOf110
  v194 := Tryd.zeroValue110
  t196 := Tryd.underlying112
  a196 := Tryd.isAgg112
  z196 := Tryd.sizeOf112
  v196 := Tryd.zeroValue112
  t198 := Tryd.underlying115
  a198 := Tryd.isAgg115
  z198 := Tryd.sizeOf115
  v198 := Tryd.zeroValue115
  t201 := Tryd.underlying118
  a201 := Tryd.isAgg118
  z201 := Tryd.sizeOf118
  v201 := Tryd.zeroValue118
  t226 := Tryd.underlying121
  a226 := Tryd.isAgg121
  z226 := Tryd.sizeOf121
  v226 := Tryd.zeroValue121
  t227 := Tryd.underlying122
  a227 := Tryd.isAgg122
  z227 := Tryd.sizeOf122
  v227 := Tryd.zeroValue122
  g6 := by kernel_rfl }
open Go.RowKit Go.Lib in
theorem Tryd.unicode_IsSpace (r : Int) (w : World) (h0 : 0 ≤ r) (h : r ≤ 255) :
    Calls Tryd.prog 71 #[.int .i32 r] w fun e w' => e = .returned (.bool (Lib.isSpaceL r)) ∧ w' = w := Any.unicode_IsSpace Tryd.lays199 r w h0 h
def Tryd.lays264_ren : Go.Shelf.Ren := ⟨fun | 264 => 86 | n => n, fun | 53 => 51 | 46 => 120 | n => n, fun | n => n⟩
theorem Tryd.lays264 : Go.Proofs.Lays.n264 Tryd.prog Tryd.lays264_ren := {
  mixed := by kernel_rfl
  f264 := Tryd.func86.trans (congrArg some (by kernel_rfl))
  t46 := Tryd.underlying120
  a46 := Tryd.isAgg120
  z46 := Tryd.sizeOf120
  v46 := Tryd.zeroValue120
  t53 := Tryd.underlying51
  a53 := Tryd.isAgg51
  z53 := Tryd.sizeOf51
  v53 := Tryd.zeroValue51 }
open Go.RowKit Go.Lib in
theorem Tryd.bits_Mul64 (x y : Nat) (hx : x < 18446744073709551616) (hy : y < 18446744073709551616) (w : World) :
    Calls Tryd.prog 86 #[.int .u64 x, .int .u64 y] w fun e w' => e = .returned (.tuple #[.int .u64 ((x * y / 18446744073709551616 : Nat) : Int), .int .u64 ((x * y % 18446744073709551616 : Nat) : Int)]) ∧ w' = w := Any.bits_Mul64 Tryd.lays264 x y hx hy w
def Tryd.lays311_ren : Go.Shelf.Ren := ⟨fun | 311 => 88 | n => n, fun | 193 => 109 | 49 => 113 | 4 => 4 | 3 => 3 | 0 => 0 | 226 => 121 | 198 => 115 | 46 => 120 | n => n, fun | n => n⟩
theorem Tryd.lays311 : Go.Proofs.Lays.n311 Tryd.prog Tryd.lays311_ren := {
  mixed := by kernel_rfl
  f311 := Tryd.func88.trans (congrArg some (by kernel_rfl))
  t0 := Tryd.underlying0
  a0 := Tryd.isAgg0
  z0 := Tryd.sizeOf0
  v0 := Tryd.zeroValue0
  t3 := Tryd.underlying3
  a3 := Tryd.isAgg3
  z3 := Tryd.sizeOf3
  v3 := Tryd.zeroValue3
  t4 := Tryd.underlying4
  a4 := Tryd.isAgg4
  z4 := Tryd.sizeOf4
  v4 := Tryd.zeroValue4
  t46 := Tryd.underlying120
  a46 := Tryd.isAgg120
  z46 := Tryd.sizeOf120
  v46 := Tryd.zeroValue120
  t49 := Tryd.underlying113
  a49 := Tryd.isAgg113
  z49 := Tryd.sizeOf113
  v49 := Tryd.zeroValue113
  t193 := Tryd.underlying109
  a193 := Tryd.isAgg109
  z193 := Tryd.sizeOf109
  v193 := Tryd.zeroValue109
  t198 := Tryd.underlying115
  a198 := Tryd.isAgg115
  z198 := Tryd.sizeOf115
  v198 := Tryd.zeroValue115
  t226 := Tryd.underlying121
  a226 := Tryd.isAgg121
  z226 := Tryd.sizeOf121
  v226 := Tryd.zeroValue121 }
open Go.RowKit Go.Lib in
theorem Tryd.unicode_is16_white (R oR : Nat) (z : Nat) (w : World) (hz : z < 65536) (hz0 : 255 < z) (c6 : w.cell? ⟨R, oR + 6, none⟩ = some (.int .u16 160)) (c7 : w.cell? ⟨R, oR + 7, none⟩ = some (.int .u16 5760)) (c8 : w.cell? ⟨R, oR + 8, none⟩ = some (.int .u16 5600)) (c9 : w.cell? ⟨R, oR + 9, none⟩ = some (.int .u16 8192)) (c10 : w.cell? ⟨R, oR + 10, none⟩ = some (.int .u16 8202)) (c11 : w.cell? ⟨R, oR + 11, none⟩ = some (.int .u16 1)) (c12 : w.cell? ⟨R, oR + 12, none⟩ = some (.int .u16 8232)) (c13 : w.cell? ⟨R, oR + 13, none⟩ = some (.int .u16 8233)) (c14 : w.cell? ⟨R, oR + 14, none⟩ = some (.int .u16 1)) (c15 : w.cell? ⟨R, oR + 15, none⟩ = some (.int .u16 8239)) (c16 : w.cell? ⟨R, oR + 16, none⟩ = some (.int .u16 8287)) (c17 : w.cell? ⟨R, oR + 17, none⟩ = some (.int .u16 48)) (c18 : w.cell? ⟨R, oR + 18, none⟩ = some (.int .u16 12288)) (c19 : w.cell? ⟨R, oR + 19, none⟩ = some (.int .u16 12288)) (c20 : w.cell? ⟨R, oR + 20, none⟩ = some (.int .u16 1)) :
    Calls Tryd.prog 88 #[.slice (some ⟨R, oR + 6, none⟩) 5 5, .int .u16 z] w fun e w' => e = .returned (.bool (Lib.isSpaceR z)) ∧ Below w.heap.size w w' := Any.unicode_is16_white Tryd.lays311 R oR z w hz hz0 c6 c7 c8 c9 c10 c11 c12 c13 c14 c15 c16 c17 c18 c19 c20
def Tryd.lays261_ren : Go.Shelf.Ren := ⟨fun | 261 => 83 | 311 => 88 | 312 => 89 | n => n, fun | 141 => 104 | 21 => 21 | 4 => 4 | 0 => 0 | 196 => 112 | 193 => 109 | 3 => 3 | 51 => 102 | 198 => 115 | 49 => 113 | 194 => 110 | 201 => 118 | 226 => 121 | 46 => 120 | 227 => 122 | n => n, fun | n => n⟩
theorem Tryd.lays261 : Go.Proofs.Lays.n261 Tryd.prog Tryd.lays261_ren := {
  mixed := by kernel_rfl
  f261 := Tryd.func83.trans (congrArg some (by kernel_rfl))
  f311 := Tryd.func88.trans (congrArg some (by kernel_rfl))
  f312 := Tryd.func89.trans (congrArg some (by kernel_rfl))
  t0 := Tryd.underlying0
  a0 := Tryd.isAgg0
  z0 := Tryd.sizeOf0
  v0 := Tryd.zeroValue0
  t3 := Tryd.underlying3
  a3 := Tryd.isAgg3
  z3 := Tryd.sizeOf3
  v3 := Tryd.zeroValue3
  t4 := Tryd.underlying4
  a4 := Tryd.isAgg4
  z4 := Tryd.sizeOf4
  v4 := Tryd.zeroValue4
  t21 := Tryd.underlying21
  a21 := Tryd.isAgg21
  z21 := Tryd.sizeOf21
  v21 := Tryd.zeroValue21
  t46 := Tryd.underlying120
  a46 := Tryd.isAgg120
  z46 := Tryd.sizeOf120
  v46 := Tryd.zeroValue120
  t49 := Tryd.underlying113
  a49 := Tryd.isAgg113
  z49 := Tryd.sizeOf113
  v49 := Tryd.zeroValue113
  t51 := Tryd.underlying102
  a51 := Tryd.isAgg102
  z51 := Tryd.sizeOf102
  v51 := Tryd.zeroValue102
  t141 := Tryd.underlying104
  a141 := Tryd.isAgg104
  z141 := Tryd.sizeOf104
  v141 := Tryd.zeroValue104
  t193 := Tryd.underlying109
  a193 := Tryd.isAgg109
  z193 := Tryd.sizeOf109
  v193 := Tryd.zeroValue109
  t194 := Tryd.underlying110
  a194 := Tryd.isAgg110
  z194 := Tryd.sizeOf110
  v194 := Tryd.zeroValue110
  t196 := Tryd.underlying112
  a196 := Tryd.isAgg112
  z196 := Tryd.sizeOf112
  v196 := Tryd.zeroValue112
  t198 := Tryd.underlying115
  a198 := Tryd.isAgg115
  z198 := Tryd.sizeOf115
  v198 := Tryd.zeroValue115
  t201 := Tryd.underlying118
  a201 := Tryd.isAgg118
  z201 := Tryd.sizeOf118
  v201 := Tryd.zeroValue118
  t226 := Tryd.underlying121
  a226 := Tryd.isAgg121
  z226 := Tryd.sizeOf121
  v226 := Tryd.zeroValue121
  t227 := Tryd.underlying122
  a227 := Tryd.isAgg122
  z227 := Tryd.sizeOf122
  v227 := Tryd.zeroValue122 }
open Go.RowKit Go.Lib in
/-- unicode.isExcludingLatin(White_Space, r), r beyond U+00FF or negative. (LAID: no walk: one application.) -/
theorem Tryd.unicode_isExcludingLatin_white (T oT R oR : Nat) (r : Int) (w : World) (hlo : -2147483648 ≤ r) (hhi : r ≤ 2147483647) (hr : r < 0 ∨ 255 < r) (h2 : w.cell? ⟨T, oT, none⟩ = some (.slice (some ⟨R, oR, none⟩) 7 7)) (h3 : w.cell? ⟨T, oT + 1, none⟩ = some (.slice none 0 0)) (h4 : w.cell? ⟨T, oT + 2, none⟩ = some (.int .i64 2)) (h5 : ∀ i, i < 21 → w.cell? ⟨R, oR + i, none⟩ = some (.int .u16 (whiteT.getD i 0))) :
    Calls Tryd.prog 83 #[.pointer (some ⟨T, oT, none⟩), .int .i32 r] w fun e w' => e = .returned (.bool (Lib.isSpaceZ r)) ∧ Below w.heap.size w w' := Any.unicode_isExcludingLatin_white Tryd.lays261 T oT R oR r w hlo hhi hr h2 h3 h4 h5
open Go.RowKit Go.Lib in
/-- **unicode.IsSpace AT EVERY int32.** (LAID: no walk: one application.) -/
theorem Tryd.unicode_IsSpace_any (r : Int) (w : World) (hlo : -2147483648 ≤ r) (hhi : r ≤ 2147483647) (hW : Lib.WhiteTab 1 w) :
    Calls Tryd.prog 71 #[.int .i32 r] w fun e w' => e = .returned (.bool (Lib.isSpaceZ r)) ∧ Below w.heap.size w w' := Any.unicode_IsSpace_any Tryd.lays199 r w hlo hhi hW
open Go.RowKit Go.Lib in
theorem Tryd.unicode_is16_any (T : Array Rg) (R oR cap : Nat) (z : Nat) (w : World) (hz : z < 65536) (hT : RgTab .u16 R oR T w) (hok : RgOk 65536 T) (hn : T.size ≤ 1000000000) :
    Calls Tryd.prog 88 #[.slice (some ⟨R, oR, none⟩) T.size cap, .int .u16 z] w fun e w' => e = .returned (.bool (is16Go T z)) ∧ ∃ q, w' = w.drewN q := Any.unicode_is16_any Tryd.lays311 T R oR cap z w hz hT hok hn
def Tryd.lays312_ren : Go.Shelf.Ren := ⟨fun | 312 => 89 | n => n, fun | 194 => 110 | 51 => 102 | 4 => 4 | 3 => 3 | 0 => 0 | 227 => 122 | 201 => 118 | 46 => 120 | n => n, fun | n => n⟩
theorem Tryd.lays312 : Go.Proofs.Lays.n312 Tryd.prog Tryd.lays312_ren := {
  mixed := by kernel_rfl
  f312 := Tryd.func89.trans (congrArg some (by kernel_rfl))
  t0 := Tryd.underlying0
  a0 := Tryd.isAgg0
  z0 := Tryd.sizeOf0
  v0 := Tryd.zeroValue0
  t3 := Tryd.underlying3
  a3 := Tryd.isAgg3
  z3 := Tryd.sizeOf3
  v3 := Tryd.zeroValue3
  t4 := Tryd.underlying4
  a4 := Tryd.isAgg4
  z4 := Tryd.sizeOf4
  v4 := Tryd.zeroValue4
  t46 := Tryd.underlying120
  a46 := Tryd.isAgg120
  z46 := Tryd.sizeOf120
  v46 := Tryd.zeroValue120
  t51 := Tryd.underlying102
  a51 := Tryd.isAgg102
  z51 := Tryd.sizeOf102
  v51 := Tryd.zeroValue102
  t194 := Tryd.underlying110
  a194 := Tryd.isAgg110
  z194 := Tryd.sizeOf110
  v194 := Tryd.zeroValue110
  t201 := Tryd.underlying118
  a201 := Tryd.isAgg118
  z201 := Tryd.sizeOf118
  v201 := Tryd.zeroValue118
  t227 := Tryd.underlying122
  a227 := Tryd.isAgg122
  z227 := Tryd.sizeOf122
  v227 := Tryd.zeroValue122 }
open Go.RowKit Go.Lib in
theorem Tryd.unicode_is32_any (T : Array Rg) (R oR cap : Nat) (z : Nat) (w : World) (hz : z < 4294967296) (hT : RgTab .u32 R oR T w) (hok : RgOk 4294967296 T) (hn : T.size ≤ 1000000000) :
    Calls Tryd.prog 89 #[.slice (some ⟨R, oR, none⟩) T.size cap, .int .u32 z] w fun e w' => e = .returned (.bool (is32Go T z)) ∧ Below w.heap.size w w' := Any.unicode_is32_any Tryd.lays312 T R oR cap z w hz hT hok hn
open Go.RowKit Go.Lib in
theorem Tryd.unicode_isExcludingLatin_any (Tb oT : Nat) (T : RTab) (r : Int) (w : World) (hlo : -2147483648 ≤ r) (hhi : r ≤ 2147483647) (hA : RTabAt Tb oT T w) (hok : RTabOk T) :
    Calls Tryd.prog 83 #[.pointer (some ⟨Tb, oT, none⟩), .int .i32 r] w fun e w' => e = .returned (.bool (exclGo T r)) ∧ Below w.heap.size w w' := Any.unicode_isExcludingLatin_any Tryd.lays261 Tb oT T r w hlo hhi hA hok
end Go.Proofs

/- Contracts of strings and math/bits at the seat's program. No condition. -/
set_option linter.unusedVariables false
namespace Go.Proofs.YtjmofeakajdbiaaDoor
open Go Go.AM

theorem two {vals : Array Value} (h : vals.size = 2) : ∃ v u, vals = #[v, u] :=
  ⟨vals[0], vals[1], by
    apply Array.ext
    · simpa using h
    · intro i h1 h2
      match i, h2 with
      | 0, _ => rfl
      | 1, _ => rfl⟩
theorem relStr {w : World} {Z : Zone} {s : ByteArray} {v : Value} (h : RelD w Z (.str s) v) : v = .string s := by cases h; rfl
def fieldsD (s : ByteArray) : List D := (Lib.fields s.data.toList).map fun l => D.str ⟨l.toArray⟩
def F50 (n : Nat) (s : ByteArray) : Option (List D) := if s.size < 4294967281 ∧ (s.data.toList.all fun b => b.toNat < 128) = true ∧ (Lib.fields s.data.toList).length ≤ maxLen then some (fieldsD s) else none
def F64 (n : Nat) (s : ByteArray) (c : Int) : Option Int := some (Lib.indexByte s.data.toList c.toNat.toUInt8)
def F65 (n : Nat) (s p : ByteArray) : Option Bool := some (Lib.hasPrefix s.data.toList p.data.toList)
def F86 (n : Nat) (x y : Int) : Option (Int × Int) := if 0 ≤ x ∧ x < 18446744073709551616 ∧ 0 ≤ y ∧ y < 18446744073709551616 then some (x * y / 18446744073709551616, x * y % 18446744073709551616) else none

theorem T64 (n : Nat) : ∀ ⦃s : ByteArray⦄ ⦃c r1 : Int⦄, F64 n s c = some r1 → Trip Tryd.prog inv 64 [.d (.str s), .d (.int .u8 c)] [] (.v (.d (.int .i64 r1))) [] [] := by
  intro s c r1 h
  cases h
  refine Trip.ofCalls (xs := [.str s, .int .u8 c]) ⟨_, _, Tryd.func64, rfl, by kernel_rfl⟩ fun w Z vals hr hsz hv => ?_
  obtain ⟨v, u, rfl⟩ := two hsz
  cases hv 0 _ _ rfl rfl
  cases hv 1 _ _ rfl rfl
  refine (Tryd.strings_IndexByte s c w).mono ?_
  rintro e w' ⟨rfl, rfl⟩
  exact ⟨_, rfl, ⟨rfl, rfl, rfl, Nat.le_refl _, fun _ _ _ => rfl⟩, fun _ _ _ => .int _ _⟩
theorem T65 (n : Nat) : ∀ ⦃s p : ByteArray⦄ ⦃r1 : Bool⦄, F65 n s p = some r1 → Trip Tryd.prog inv 65 [.d (.str s), .d (.str p)] [] (.v (.d (.bool r1))) [] [] := by
  intro s p r1 h
  cases h
  refine Trip.ofCalls (xs := [.str s, .str p]) ⟨_, _, Tryd.func65, rfl, by kernel_rfl⟩ fun w Z vals hr hsz hv => ?_
  obtain ⟨v, u, rfl⟩ := two hsz
  cases hv 0 _ _ rfl rfl
  cases hv 1 _ _ rfl rfl
  refine (Tryd.strings_HasPrefix s p w).mono ?_
  rintro e w' ⟨rfl, rfl⟩
  exact ⟨_, rfl, ⟨rfl, rfl, rfl, Nat.le_refl _, fun _ _ _ => rfl⟩, fun _ _ _ => .bool _⟩
theorem T86 (n : Nat) : ∀ ⦃x y r1 r2 : Int⦄, F86 n x y = some (r1, r2) → Trip Tryd.prog inv 86 [.d (.int .u64 x), .d (.int .u64 y)] [] (.t [.d (.int .u64 r1), .d (.int .u64 r2)]) [] [] := by
  intro x y r1 r2 h
  unfold F86 at h
  split at h
  · rename_i hb
    cases h
    obtain ⟨h1, h2, h3, h4⟩ := hb
    obtain ⟨x, rfl⟩ := Int.eq_ofNat_of_zero_le h1
    obtain ⟨y, rfl⟩ := Int.eq_ofNat_of_zero_le h3
    have tr : ∀ w : World, Trip Tryd.prog inv 86 [.d (.int .u64 x), .d (.int .u64 y)] [] (.t [.d (.int .u64 ((x * y / 18446744073709551616 : Nat) : Int)), .d (.int .u64 ((x * y % 18446744073709551616 : Nat) : Int))]) [] [] := by
      intro _
      refine Trip.ofCallsT (xs := [.int .u64 x, .int .u64 y]) ⟨_, _, Tryd.func86, rfl, by kernel_rfl⟩ fun w Z vals hr hsz hv => ?_
      obtain ⟨v, u, rfl⟩ := two hsz
      cases hv 0 _ _ rfl rfl
      cases hv 1 _ _ rfl rfl
      refine (Tryd.bits_Mul64 x y (by omega) (by omega) w).mono ?_
      rintro e w' ⟨rfl, rfl⟩
      refine ⟨_, rfl, ⟨rfl, rfl, rfl, Nat.le_refl _, fun _ _ _ => rfl⟩, fun _ _ _ _ => ⟨_, rfl, rfl, fun q c u hc hu => ?_⟩⟩
      match q with
      | 0 => simp at hc hu; subst hc; subst hu; exact .int _ _
      | 1 => simp at hc hu; subst hc; subst hu; exact .int _ _
      | q + 2 => simp at hc
    exact tr default
  · cases h
theorem T50 (n : Nat) : ∀ ⦃s : ByteArray⦄ ⦃r1 : List D⦄, F50 n s = some r1 → Trip Tryd.prog inv 50 [.d (.str s)] [] (.v (.d (.list false 1 r1))) [] [] := by
  intro s r1 h
  unfold F50 at h
  split at h
  · rename_i hb
    cases h
    obtain ⟨h1, h2, h3⟩ := hb
    refine Trip.ofCallsT (xs := [.str s]) ⟨_, _, Tryd.func50, rfl, by kernel_rfl⟩ fun w Z vals hr hsz hv => ?_
    obtain ⟨v, rfl⟩ : ∃ v, vals = #[v] := Array.size_eq_one_iff.1 hsz
    cases hv 0 _ _ rfl rfl
    refine (Tryd.strings_Fields s w h1 (fun j b hj => by
      have := List.all_eq_true.1 h2 b (List.mem_of_getElem? hj)
      simpa using this) hr).mono ?_
    rintro e w' ⟨rfl, rfl⟩
    refine ⟨_, rfl, grow_apart rfl rfl rfl (by simp) (fun b hb => Go.RowKit.Below.heap_alloc w _ b hb), fun Z' _ _ hZ => ?_⟩
    have hl : (fieldsD s).length = (Lib.fields s.data.toList).length := by simp [fieldsD]
    show RelD _ Z' (.list false 1 (fieldsD s)) _
    rw [← hl]
    refine .list false 1 (fieldsD s) _ _ w.heap.size 0 (fun i _ => .string ⟨((Lib.fields s.data.toList).getD i []).toArray⟩) (Nat.le_refl _) (by rw [hl]; exact h3) ?_ (fun _ => rfl) ?_ ?_
    · intro r hr
      obtain ⟨l, _, rfl⟩ := List.mem_map.1 hr
      exact ⟨rfl, rfl, fun c hc => by simp [D.cells] at hc; subst hc; rfl⟩
    · intro i r j c hi hj
      have hi' : ((Lib.fields s.data.toList).map fun l => D.str ⟨l.toArray⟩)[i]? = some r := hi
      rw [List.getElem?_map, Option.map_eq_some_iff] at hi'
      obtain ⟨l, hl', rfl⟩ := hi'
      match j with
      | 0 =>
        refine ⟨?_, fun hz => absurd (hZ _ _ hz) (Nat.lt_irrefl _)⟩
        have := heap_alloc_new w (.cells ((Lib.fields s.data.toList).map fun l => Value.string ⟨l.toArray⟩).toArray 9)
        unfold World.cell?
        simp only [Nat.zero_add, Nat.mul_one, Nat.add_zero]
        rw [this]
        simp [hl']
      | j + 1 => simp [D.cells] at hj
    · intro i r j c hi hj
      have hi' : ((Lib.fields s.data.toList).map fun l => D.str ⟨l.toArray⟩)[i]? = some r := hi
      rw [List.getElem?_map, Option.map_eq_some_iff] at hi'
      obtain ⟨l, hl', rfl⟩ := hi'
      match j with
      | 0 =>
        simp [D.cells] at hj
        subst hj
        simp only [List.getD_eq_getElem?_getD, hl', Option.getD_some]
        exact .str _
      | j + 1 => simp [D.cells] at hj
  · cases h
end Go.Proofs.YtjmofeakajdbiaaDoor

/- Printed by lift.py: functional texts of functions, and their contracts. No condition. -/
set_option linter.unusedVariables false
noncomputable section
namespace Go.Proofs.YtjmofeakajdbiaaDoor
open Go Go.AM
def k_let_if_else_while_match_ : ByteArray := ⟨#[108, 101, 116, 32, 105, 102, 32, 101, 108, 115, 101, 32, 119, 104, 105, 108, 101, 32, 109, 97, 116, 99, 104, 32, 115, 99, 111, 112, 101, 32, 115, 112, 97, 119, 110, 32, 108, 111, 99, 107, 32, 97, 115, 32, 99, 104, 97, 110, 32, 100, 114, 111, 112, 32, 102, 110, 32, 115, 116, 114, 117, 99, 116, 32, 101, 110, 117, 109, 32, 116, 114, 117, 101, 32, 102, 97, 108, 115, 101, 32, 97, 110, 100, 32, 111, 114, 32, 110, 111, 116, 32, 105, 110, 116, 32, 98, 111, 111, 108, 32, 117, 110, 105, 116, 32, 109, 117, 116, 32, 98, 111, 120, 32, 117, 110, 98, 111, 120, 32, 99, 101, 108, 108, 32, 103, 101, 116, 32, 115, 101, 116, 32, 114, 99, 32, 97, 114, 99, 32, 99, 108, 111, 110, 101, 32, 109, 117, 116, 101, 120, 32, 111, 112, 101, 110, 32, 97, 116, 111, 109, 105, 99, 32, 108, 111, 97, 100, 32, 115, 116, 111, 114, 101, 32, 102, 101, 116, 99, 104, 32, 115, 101, 110, 100, 32, 114, 101, 99, 118, 32, 66, 111, 120, 32, 67, 101, 108, 108, 32, 82, 99, 32, 65, 114, 99, 32, 77, 117, 116, 101, 120, 32, 65, 116, 111, 109, 105, 99, 32, 83, 101, 110, 100, 101, 114, 32, 82, 101, 99, 101, 105, 118, 101, 114]⟩
def ds_str {γ : Type} (x : D) (k : ByteArray → Option γ) : Option γ := match x with | .str a0 => k a0 | _ => none
theorem ds_str_inv {γ : Type} {x : D} {k : ByteArray → Option γ} {r : γ} (h : ds_str x k = some r) : ∃ a0, x = .str a0 ∧ k a0 = some r := by
  unfold ds_str at h
  split at h
  · exact ⟨_, rfl, h⟩
  · cases h
def ds_i64 {γ : Type} (x : D) (k : Int → Option γ) : Option γ := match x with | .int .i64 a0 => k a0 | _ => none
theorem ds_i64_inv {γ : Type} {x : D} {k : Int → Option γ} {r : γ} (h : ds_i64 x k = some r) : ∃ a0, x = .int .i64 a0 ∧ k a0 = some r := by
  unfold ds_i64 at h
  split at h
  · exact ⟨_, rfl, h⟩
  · cases h
def k_let : ByteArray := ⟨#[108, 101, 116]⟩
def k_if : ByteArray := ⟨#[105, 102]⟩
def k_else : ByteArray := ⟨#[101, 108, 115, 101]⟩
def k_while : ByteArray := ⟨#[119, 104, 105, 108, 101]⟩
def k_match : ByteArray := ⟨#[109, 97, 116, 99, 104]⟩
def k_scope : ByteArray := ⟨#[115, 99, 111, 112, 101]⟩
def k_spawn : ByteArray := ⟨#[115, 112, 97, 119, 110]⟩
def k_lock : ByteArray := ⟨#[108, 111, 99, 107]⟩
def k_as : ByteArray := ⟨#[97, 115]⟩
def k_chan : ByteArray := ⟨#[99, 104, 97, 110]⟩
def k_drop : ByteArray := ⟨#[100, 114, 111, 112]⟩
def k_fn : ByteArray := ⟨#[102, 110]⟩
def k_struct : ByteArray := ⟨#[115, 116, 114, 117, 99, 116]⟩
def k_enum : ByteArray := ⟨#[101, 110, 117, 109]⟩
def k_true : ByteArray := ⟨#[116, 114, 117, 101]⟩
def k_false : ByteArray := ⟨#[102, 97, 108, 115, 101]⟩
def k_and : ByteArray := ⟨#[97, 110, 100]⟩
def k_or : ByteArray := ⟨#[111, 114]⟩
def k_not : ByteArray := ⟨#[110, 111, 116]⟩
def k_int : ByteArray := ⟨#[105, 110, 116]⟩
def k_bool : ByteArray := ⟨#[98, 111, 111, 108]⟩
def k_unit : ByteArray := ⟨#[117, 110, 105, 116]⟩
def k_mut : ByteArray := ⟨#[109, 117, 116]⟩
def k_box : ByteArray := ⟨#[98, 111, 120]⟩
def k_unbox : ByteArray := ⟨#[117, 110, 98, 111, 120]⟩
def k_cell : ByteArray := ⟨#[99, 101, 108, 108]⟩
def k_get : ByteArray := ⟨#[103, 101, 116]⟩
def k_set : ByteArray := ⟨#[115, 101, 116]⟩
def k_rc : ByteArray := ⟨#[114, 99]⟩
def k_arc : ByteArray := ⟨#[97, 114, 99]⟩
def k_clone : ByteArray := ⟨#[99, 108, 111, 110, 101]⟩
def k_mutex : ByteArray := ⟨#[109, 117, 116, 101, 120]⟩
def k_open : ByteArray := ⟨#[111, 112, 101, 110]⟩
def k_atomic : ByteArray := ⟨#[97, 116, 111, 109, 105, 99]⟩
def k_load : ByteArray := ⟨#[108, 111, 97, 100]⟩
def k_store : ByteArray := ⟨#[115, 116, 111, 114, 101]⟩
def k_fetch : ByteArray := ⟨#[102, 101, 116, 99, 104]⟩
def k_send : ByteArray := ⟨#[115, 101, 110, 100]⟩
def k_recv : ByteArray := ⟨#[114, 101, 99, 118]⟩
def k_Box : ByteArray := ⟨#[66, 111, 120]⟩
def k_Cell : ByteArray := ⟨#[67, 101, 108, 108]⟩
def k_Rc : ByteArray := ⟨#[82, 99]⟩
def k_Arc : ByteArray := ⟨#[65, 114, 99]⟩
def k_Mutex : ByteArray := ⟨#[77, 117, 116, 101, 120]⟩
def k_Atomic : ByteArray := ⟨#[65, 116, 111, 109, 105, 99]⟩
def k_Sender : ByteArray := ⟨#[83, 101, 110, 100, 101, 114]⟩
def k_Receiver : ByteArray := ⟨#[82, 101, 99, 101, 105, 118, 101, 114]⟩
def ds_t25 {γ : Type} (x : D) (k : Int → ByteArray → List D → Option γ) : Option γ := match x with | .agg [.int .u8 a0, .str a1, .list true 3 a2] => k a0 a1 a2 | _ => none
theorem ds_t25_inv {γ : Type} {x : D} {k : Int → ByteArray → List D → Option γ} {r : γ} (h : ds_t25 x k = some r) : ∃ a0 a1 a2, x = .agg [.int .u8 a0, .str a1, .list true 3 a2] ∧ k a0 a1 a2 = some r := by
  unfold ds_t25 at h
  split at h
  · exact ⟨_, _, _, rfl, h⟩
  · cases h
def ds_t31 {γ : Type} (x : D) (k : Int → Int → ByteArray → ByteArray → ByteArray → List D → List D → Int → Option γ) : Option γ := match x with | .agg [.int .u8 a0, .int .i64 a1, .str a2, .str a3, .str a4, .list false 1 a5, .list true 8 a6, .int .i64 a7] => k a0 a1 a2 a3 a4 a5 a6 a7 | _ => none
theorem ds_t31_inv {γ : Type} {x : D} {k : Int → Int → ByteArray → ByteArray → ByteArray → List D → List D → Int → Option γ} {r : γ} (h : ds_t31 x k = some r) : ∃ a0 a1 a2 a3 a4 a5 a6 a7, x = .agg [.int .u8 a0, .int .i64 a1, .str a2, .str a3, .str a4, .list false 1 a5, .list true 8 a6, .int .i64 a7] ∧ k a0 a1 a2 a3 a4 a5 a6 a7 = some r := by
  unfold ds_t31 at h
  split at h
  · exact ⟨_, _, _, _, _, _, _, _, rfl, h⟩
  · cases h
def k__ : ByteArray := ⟨#[42]⟩
def k_i0 : ByteArray := ⟨#[105, 48]⟩
def k_b0 : ByteArray := ⟨#[98, 48]⟩
def k_0 : ByteArray := ⟨#[48]⟩
def k_p0 : ByteArray := ⟨#[112, 48]⟩
def k_1 : ByteArray := ⟨#[49]⟩
def k_2 : ByteArray := ⟨#[50]⟩
def k_n6 : ByteArray := ⟨#[110, 54]⟩
def k_tf6 : ByteArray := ⟨#[116, 102, 54]⟩
def k_tv9 : ByteArray := ⟨#[116, 118, 57]⟩
def k_p1 : ByteArray := ⟨#[112, 49]⟩
def k___ : ByteArray := ⟨#[61, 61]⟩
def k____1 : ByteArray := ⟨#[61, 62]⟩
def k____2 : ByteArray := ⟨#[45, 62]⟩
def k___1 : ByteArray := ⟨#[40]⟩
def k___2 : ByteArray := ⟨#[41]⟩
def k___3 : ByteArray := ⟨#[123]⟩
def k___4 : ByteArray := ⟨#[125]⟩
def k___5 : ByteArray := ⟨#[60]⟩
def k___6 : ByteArray := ⟨#[62]⟩
def k___7 : ByteArray := ⟨#[44]⟩
def k___8 : ByteArray := ⟨#[59]⟩
def k___9 : ByteArray := ⟨#[58]⟩
def k___10 : ByteArray := ⟨#[61]⟩
def k___11 : ByteArray := ⟨#[38]⟩
def k___12 : ByteArray := ⟨#[46]⟩
def k___13 : ByteArray := ⟨#[43]⟩
def k___14 : ByteArray := ⟨#[45]⟩
def k___15 : ByteArray := ⟨#[47]⟩
def k___16 : ByteArray := ⟨#[37]⟩
def k_____ : ByteArray := ⟨#[32, 9, 10, 13]⟩
def k____3 : ByteArray := ⟨#[47, 47]⟩
theorem ext87 : isAdd64 Tryd.prog 87 := ⟨_, Tryd.func87, by kernel_rfl, by kernel_rfl, by kernel_rfl, by rfl⟩
def k__________________ : ByteArray := ⟨#[40, 41, 123, 125, 60, 62, 44, 59, 58, 61, 38, 42, 46, 43, 45, 47, 37]⟩
def ds_t46 {γ : Type} (x : D) (k : Int → ByteArray → Int → Option γ) : Option γ := match x with | .agg [.int .u8 a0, .str a1, .int .i64 a2] => k a0 a1 a2 | _ => none
theorem ds_t46_inv {γ : Type} {x : D} {k : Int → ByteArray → Int → Option γ} {r : γ} (h : ds_t46 x k = some r) : ∃ a0 a1 a2, x = .agg [.int .u8 a0, .str a1, .int .i64 a2] ∧ k a0 a1 a2 = some r := by
  unfold ds_t46 at h
  split at h
  · exact ⟨_, _, _, rfl, h⟩
  · cases h
def ds_t47 {γ : Type} (x : D) (k : Int → ByteArray → Int → Option γ) : Option γ := match x with | .agg [.int .u8 a0, .str a1, .int .i64 a2] => k a0 a1 a2 | _ => none
theorem ds_t47_inv {γ : Type} {x : D} {k : Int → ByteArray → Int → Option γ} {r : γ} (h : ds_t47 x k = some r) : ∃ a0 a1 a2, x = .agg [.int .u8 a0, .str a1, .int .i64 a2] ∧ k a0 a1 a2 = some r := by
  unfold ds_t47 at h
  split at h
  · exact ⟨_, _, _, rfl, h⟩
  · cases h
def k_spoilt : ByteArray := ⟨#[115, 112, 111, 105, 108, 116]⟩
def k_let_a1___box_Node2______ : ByteArray := ⟨#[108, 101, 116, 32, 97, 49, 32, 61, 32, 98, 111, 120, 40, 78, 111, 100, 101, 50, 41, 59, 32, 47, 47, 32, 115, 111]⟩
def k_x_____1 : ByteArray := ⟨#[120, 46, 42, 61, 61, 45, 49]⟩
def k_a_ : ByteArray := ⟨#[97, 36]⟩
def k_let_9223372036854775808 : ByteArray := ⟨#[108, 101, 116, 32, 57, 50, 50, 51, 51, 55, 50, 48, 51, 54, 56, 53, 52, 55, 55, 53, 56, 48, 56]⟩
def k_a1 : ByteArray := ⟨#[97, 49]⟩
def k_Node2 : ByteArray := ⟨#[78, 111, 100, 101, 50]⟩
def k___17 : ByteArray := ⟨#[10]⟩
def k_abcdefghijklmnopqrstuvwx : ByteArray := ⟨#[97, 98, 99, 100, 101, 102, 103, 104, 105, 106, 107, 108, 109, 110, 111, 112, 113, 114, 115, 116, 117, 118, 119, 120, 121, 122, 48, 49, 50, 51, 52, 53, 54, 55, 56, 57, 95, 65, 66, 67, 68, 69, 70, 71, 72, 73, 74, 75, 76, 77, 78, 79, 80, 81, 82, 83, 84, 85, 86, 87, 88, 89, 90]⟩
def ds_u8 {γ : Type} (x : D) (k : Int → Option γ) : Option γ := match x with | .int .u8 a0 => k a0 | _ => none
theorem ds_u8_inv {γ : Type} {x : D} {k : Int → Option γ} {r : γ} (h : ds_u8 x k = some r) : ∃ a0, x = .int .u8 a0 ∧ k a0 = some r := by
  unfold ds_u8 at h
  split at h
  · exact ⟨_, rfl, h⟩
  · cases h
def k___18 : ByteArray := ⟨#[32]⟩
end Go.Proofs.YtjmofeakajdbiaaDoor
end

/- Printed by lift.py: functional texts of functions, and their contracts. No condition. -/
set_option linter.unusedVariables false
noncomputable section
namespace Go.Proofs.YtjmofeakajdbiaaDoor
open Go Go.AM
mutual
def L30_1 : Nat → (List D) → Int → Int → (List D) → Option (List D)
  | 0, _, _, _, _ => none
  | n + 1, l1, z2, z3, l4 =>
    (if z3 < z2 then L30_2 n l1 z2 z3 l4 true else L30_2 n l1 z2 z3 l4 false)
def L30_2 : Nat → (List D) → Int → Int → (List D) → Bool → Option (List D)
  | 0, _, _, _, _, _ => none
  | n + 1, l1, z2, z3, l4, b5 =>
    (if b5 = true then getF l1 z3 fun x6 => ds_str x6 fun s7 => letF (IntKind.wrap .i64 (z3 + 1)) fun z8 => putF (.str s7) [.int .i64 z8] l4 fun l9 => letF (IntKind.wrap .i64 (z3 + 1)) fun z10 => L30_1 n l1 z2 z10 l9 else some l4)
end
def F30 (n : Nat) : Option (List D) :=
  bO1 (F50 n k_let_if_else_while_match_) fun l1 => lenF l1 fun z2 => L30_1 n l1 z2 (0 : Int) ([] : List D)
set_option maxRecDepth 100000 in
set_option maxHeartbeats 40000000 in
theorem T30 (n : Nat) : ∀ ⦃r1 : List D⦄, F30 n = some r1 →
    Trip Tryd.prog inv 30 [] [] (.v (.c (.ow (.loc 0)))) [] [.tree (.fmap false) true 2 r1 none] := by
  intro r1 h
  unfold F30 at h
  refine Trip.of tab_ok tab_one fol Tryd.func30 rfl (by kernel_rfl) rfl rfl rfl (fun M hM hI => ?_)
  try cbv
  refine seq_go ?_
  try cbv
  refine seq_go ?_
  try cbv
  refine seq_go ?_
  try cbv
  refine seq_go ?_
  try cbv
  replace h := bO1_inv h
  obtain ⟨l1, hr, h⟩ := h
  refine call_go rfl rfl ?_
  try cbv
  refine call_pure hM hI (T50 _ hr) rfl ?_
  clear hr
  try cbv
  replace h := lenF_inv M h
  obtain ⟨z2, hz, h⟩ := h
  refine ⟨z2, hz, ?_⟩
  clear hz
  try cbv
  refine loop_invG (T := Nat × Int × List D) [] [] [0, 1, 5, 6, 7] [.loc 32] 192 (fun t => ⟨[(0, .v (.c (.nilm))), (1, .v (.c (.ow (.loc 32)))), (5, .v (.d (.list false 1 l1))), (6, .v (.d (.int .i64 z2))), (7, .v (.d (.int .i64 t.2.1)))], [(.loc 32, .tree (.fmap false) true 2 t.2.2 none)], 192⟩)
    (fun t => t.1 ≤ n ∧ L30_1 t.1 l1 z2 t.2.1 t.2.2 = some r1) (fun t => t.1) (n, ((0 : Int), ([] : List D))) ⟨Nat.le_refl _, h⟩ (by cbv) ?_
  clear h
  rintro ⟨m1, z3, l4⟩ ⟨hm1, h⟩
  replace hm1 : m1 ≤ n := hm1
  cases m1 with
  | zero => cases (show (none : Option _) = some _ from h)
  | succ m1 =>
    replace h : L30_1 (m1 + 1) l1 z2 z3 l4 = some r1 := h
    rw [L30_1] at h
    try cbv
    refine seq_join (T := Nat × Bool) (fun t => ⟨[(0, .v (.c (.nilm))), (1, .v (.c (.ow (.loc 32)))), (5, .v (.d (.list false 1 l1))), (6, .v (.d (.int .i64 z2))), (7, .v (.d (.int .i64 z3))), (8, .v (.d (.bool t.2)))], [(.loc 32, .tree (.fmap false) true 2 l4 none)], 224⟩) (fun t => t.1 ≤ m1 ∧ L30_2 t.1 l1 z2 z3 l4 t.2 = some r1) ?_ ?_
    · try cbv
      refine splitL (fun e => ?_) (fun e => ?_)
      · replace h := ite_t e h
        clear e
        try cbv
        exact join_next (m1, true) [0, 1, 5, 6, 7, 8] [.loc 32] 224 ⟨by omega, h⟩ (by cbv)
      · replace h := ite_f (Int.not_lt.2 e) h
        clear e
        try cbv
        exact join_next (m1, false) [0, 1, 5, 6, 7, 8] [.loc 32] 224 ⟨by omega, h⟩ (by cbv)
    · clear h
      rintro ⟨m2, b5⟩ ⟨hm2, h⟩
      replace hm2 : m2 ≤ m1 := hm2
      cases m2 with
      | zero => cases (show (none : Option _) = some _ from h)
      | succ m2 =>
        replace h : L30_2 (m2 + 1) l1 z2 z3 l4 b5 = some r1 := h
        rw [L30_2] at h
        try cbv
        refine seq_go ?_
        try cbv
        cases b5
        · replace h := ite_f Bool.false_ne_true h
          try cbv
          refine seq_go ?_
          try cbv
          obtain rfl := Option.some.inj h
          refine fin_go ?_
          try cbv
          exact ⟨[.loc 32], rfl, rfl, trivial, ⟨rfl, trivial⟩, trivial⟩
        · replace h := ite_t rfl h
          try cbv
          refine seq_go ?_
          try cbv
          refine seq_go ?_
          try cbv
          replace h := getF_inv h
          obtain ⟨x6, ⟨hx0, hx⟩, h⟩ := h
          refine ⟨x6, hx0, hx, ?_⟩
          clear hx0 hx
          replace h := ds_str_inv h
          obtain ⟨s7, rfl, h⟩ := h
          try cbv
          replace h := letF_inv h
          obtain ⟨z8, hz, h⟩ := h
          refine ⟨z8, hz, ?_⟩
          clear hz
          try cbv
          replace h := putF_inv h
          obtain ⟨l9, hz, h⟩ := h
          refine ⟨l9, (M.lock_iff _).2 hz, ?_⟩
          clear hz
          try cbv
          replace h := letF_inv h
          obtain ⟨z10, hz, h⟩ := h
          refine ⟨z10, hz, ?_⟩
          clear hz
          try cbv
          refine loop_nextG (m2, (z10, l9)) [] [] [0, 1, 5, 6, 7] [.loc 32] 192 ⟨by omega, h⟩ (Nat.lt_succ_of_le (by omega)) ?_
          try cbv
end Go.Proofs.YtjmofeakajdbiaaDoor
end

/- Printed by lift.py: functional texts of functions, and their contracts. No condition. -/
set_option linter.unusedVariables false
noncomputable section
namespace Go.Proofs.YtjmofeakajdbiaaDoor
open Go Go.AM
def F11 (n : Nat) (s1 : ByteArray) : Option (Bool) :=
  bO1 (F30 n) fun l2 => (findF false (.str s1) l2 (fun x3 => ds_i64 x3 fun z4 => (if (0 : Int) < z4 then some true else some false)) (some false))
set_option maxRecDepth 100000 in
set_option maxHeartbeats 40000000 in
theorem T11 (n : Nat) : ∀ ⦃s1 : ByteArray⦄ ⦃r1 : Bool⦄, F11 n s1 = some r1 →
    Trip Tryd.prog inv 11 [.d (.str s1)] [] (.v (.d (.bool r1))) [] [] := by
  intro s1 r1 h
  unfold F11 at h
  refine Trip.of tab_ok tab_one fol Tryd.func11 rfl (by kernel_rfl) rfl rfl rfl (fun M hM hI => ?_)
  try cbv
  refine seq_go ?_
  try cbv
  refine seq_go ?_
  try cbv
  replace h := bO1_inv h
  obtain ⟨l2, hr, h⟩ := h
  refine call_go rfl rfl ?_
  try cbv
  refine call_with hM hI [] (T30 _ hr) rfl (by simp) trivial trivial (by simp) ?_
  clear hr
  try cbv
  replace h := findF_inv h
  rcases h with ⟨x3, hz, h⟩ | ⟨hz, h⟩
  · replace h := ds_i64_inv h
    obtain ⟨z4, rfl, h⟩ := h
    refine ⟨some _, (M.lock_iff _).2 hz, ?_⟩
    clear hz
    try cbv
    refine splitL (fun e => ?_) (fun e => ?_)
    · replace h := ite_t e h
      clear e
      try cbv
      obtain rfl := Option.some.inj h
      refine fin_go ?_
      try cbv
      exact ⟨[], rfl, rfl, trivial, trivial, trivial⟩
    · replace h := ite_f (Int.not_lt.2 e) h
      clear e
      try cbv
      obtain rfl := Option.some.inj h
      refine fin_go ?_
      try cbv
      exact ⟨[], rfl, rfl, trivial, trivial, trivial⟩
  · refine ⟨none, (M.lock_iff _).2 hz, ?_⟩
    clear hz
    try cbv
    refine splitL_f (by decide) ?_
    try cbv
    obtain rfl := Option.some.inj h
    refine fin_go ?_
    try cbv
    exact ⟨[], rfl, rfl, trivial, trivial, trivial⟩
end Go.Proofs.YtjmofeakajdbiaaDoor
end

/- Printed by lift.py: functional texts of functions, and their contracts. No condition. -/
set_option linter.unusedVariables false
noncomputable section
namespace Go.Proofs.YtjmofeakajdbiaaDoor
open Go Go.AM
mutual
def L12_1 : Nat → ByteArray → Int → Option (Bool)
  | 0, _, _ => none
  | n + 1, s1, z2 =>
    (if z2 < (47 : Int) then L12_2 n s1 z2 true else L12_2 n s1 z2 false)
def L12_2 : Nat → ByteArray → Int → Bool → Option (Bool)
  | 0, _, _, _ => none
  | n + 1, s1, z2, b3 =>
    (if b3 = true then getF ([.str k_let, .str k_if, .str k_else, .str k_while, .str k_match, .str k_scope, .str k_spawn, .str k_lock, .str k_as, .str k_chan, .str k_drop, .str k_fn, .str k_struct, .str k_enum, .str k_true, .str k_false, .str k_and, .str k_or, .str k_not, .str k_int, .str k_bool, .str k_unit, .str k_mut, .str k_box, .str k_unbox, .str k_cell, .str k_get, .str k_set, .str k_rc, .str k_arc, .str k_clone, .str k_mutex, .str k_open, .str k_atomic, .str k_load, .str k_store, .str k_fetch, .str k_send, .str k_recv, .str k_Box, .str k_Cell, .str k_Rc, .str k_Arc, .str k_Mutex, .str k_Atomic, .str k_Sender, .str k_Receiver]) z2 fun x4 => ds_str x4 fun s5 => (if s5 = s1 then L12_3 n s1 z2 true else L12_3 n s1 z2 false) else some false)
def L12_3 : Nat → ByteArray → Int → Bool → Option (Bool)
  | 0, _, _, _ => none
  | n + 1, s1, z2, b6 =>
    (if b6 = true then some true else letF (IntKind.wrap .i64 (z2 + 1)) fun z7 => L12_1 n s1 z7)
end
def F12 (n : Nat) (s1 : ByteArray) : Option (Bool) :=
  L12_1 n s1 (0 : Int)
set_option maxRecDepth 100000 in
set_option maxHeartbeats 40000000 in
theorem T12 (n : Nat) : ∀ ⦃s1 : ByteArray⦄ ⦃r1 : Bool⦄, F12 n s1 = some r1 →
    Trip Tryd.prog inv 12 [.d (.str s1)] [] (.v (.d (.bool r1))) [] [] := by
  intro s1 r1 h
  unfold F12 at h
  refine Trip.of tab_ok tab_one fol Tryd.func12 rfl (by kernel_rfl) rfl rfl rfl (fun M hM hI => ?_)
  try cbv
  refine seq_go ?_
  try cbv
  refine seq_go ?_
  try cbv
  refine ⟨false, ?_⟩
  try cbv
  refine ⟨true, ?_⟩
  try cbv
  refine seq_go ?_
  try cbv
  refine seq_go ?_
  try cbv
  refine loop_inv (T := Nat × Int) [0, 2, 3, 4] [] 128 (fun t => ⟨[(0, .v (.d (.str s1))), (2, .v (.d (.bool false))), (3, .v (.c (.tl false 1 ([.str k_let, .str k_if, .str k_else, .str k_while, .str k_match, .str k_scope, .str k_spawn, .str k_lock, .str k_as, .str k_chan, .str k_drop, .str k_fn, .str k_struct, .str k_enum, .str k_true, .str k_false, .str k_and, .str k_or, .str k_not, .str k_int, .str k_bool, .str k_unit, .str k_mut, .str k_box, .str k_unbox, .str k_cell, .str k_get, .str k_set, .str k_rc, .str k_arc, .str k_clone, .str k_mutex, .str k_open, .str k_atomic, .str k_load, .str k_store, .str k_fetch, .str k_send, .str k_recv, .str k_Box, .str k_Cell, .str k_Rc, .str k_Arc, .str k_Mutex, .str k_Atomic, .str k_Sender, .str k_Receiver])))), (4, .v (.d (.int .i64 t.2)))], [], 128⟩)
    (fun t => t.1 ≤ n ∧ L12_1 t.1 s1 t.2 = some r1) (fun t => t.1) (n, (0 : Int)) ⟨Nat.le_refl _, h⟩ (by cbv) ?_
  clear h
  rintro ⟨m1, z2⟩ ⟨hm1, h⟩
  replace hm1 : m1 ≤ n := hm1
  cases m1 with
  | zero => cases (show (none : Option _) = some _ from h)
  | succ m1 =>
    replace h : L12_1 (m1 + 1) s1 z2 = some r1 := h
    rw [L12_1] at h
    try cbv
    refine seq_go ?_
    try cbv
    refine seq_join (T := Nat × Bool) (fun t => ⟨[(0, .v (.d (.str s1))), (2, .v (.d (.bool false))), (3, .v (.c (.tl false 1 ([.str k_let, .str k_if, .str k_else, .str k_while, .str k_match, .str k_scope, .str k_spawn, .str k_lock, .str k_as, .str k_chan, .str k_drop, .str k_fn, .str k_struct, .str k_enum, .str k_true, .str k_false, .str k_and, .str k_or, .str k_not, .str k_int, .str k_bool, .str k_unit, .str k_mut, .str k_box, .str k_unbox, .str k_cell, .str k_get, .str k_set, .str k_rc, .str k_arc, .str k_clone, .str k_mutex, .str k_open, .str k_atomic, .str k_load, .str k_store, .str k_fetch, .str k_send, .str k_recv, .str k_Box, .str k_Cell, .str k_Rc, .str k_Arc, .str k_Mutex, .str k_Atomic, .str k_Sender, .str k_Receiver])))), (4, .v (.d (.int .i64 z2))), (9, .v (.d (.bool t.2)))], [], 256⟩) (fun t => t.1 ≤ m1 ∧ L12_2 t.1 s1 z2 t.2 = some r1) ?_ ?_
    · try cbv
      refine ⟨47, (M.lenI_eq _).trans rfl, ?_⟩
      try cbv
      refine splitL (fun e => ?_) (fun e => ?_)
      · replace h := ite_t e h
        clear e
        try cbv
        exact join_next (m1, true) [0, 2, 3, 4, 9] [] 256 ⟨by omega, h⟩ (by cbv)
      · replace h := ite_f (Int.not_lt.2 e) h
        clear e
        try cbv
        exact join_next (m1, false) [0, 2, 3, 4, 9] [] 256 ⟨by omega, h⟩ (by cbv)
    · clear h
      rintro ⟨m2, b3⟩ ⟨hm2, h⟩
      replace hm2 : m2 ≤ m1 := hm2
      cases m2 with
      | zero => cases (show (none : Option _) = some _ from h)
      | succ m2 =>
        replace h : L12_2 (m2 + 1) s1 z2 b3 = some r1 := h
        rw [L12_2] at h
        try cbv
        cases b3
        · replace h := ite_f Bool.false_ne_true h
          try cbv
          refine seq_go ?_
          try cbv
          obtain rfl := Option.some.inj h
          refine fin_go ?_
          try cbv
          exact ⟨[], rfl, rfl, trivial, trivial, trivial⟩
        · replace h := ite_t rfl h
          try cbv
          refine seq_go ?_
          try cbv
          refine seq_join (T := Nat × Bool) (fun t => ⟨[(0, .v (.d (.str s1))), (2, .v (.d (.bool false))), (3, .v (.c (.tl false 1 ([.str k_let, .str k_if, .str k_else, .str k_while, .str k_match, .str k_scope, .str k_spawn, .str k_lock, .str k_as, .str k_chan, .str k_drop, .str k_fn, .str k_struct, .str k_enum, .str k_true, .str k_false, .str k_and, .str k_or, .str k_not, .str k_int, .str k_bool, .str k_unit, .str k_mut, .str k_box, .str k_unbox, .str k_cell, .str k_get, .str k_set, .str k_rc, .str k_arc, .str k_clone, .str k_mutex, .str k_open, .str k_atomic, .str k_load, .str k_store, .str k_fetch, .str k_send, .str k_recv, .str k_Box, .str k_Cell, .str k_Rc, .str k_Arc, .str k_Mutex, .str k_Atomic, .str k_Sender, .str k_Receiver])))), (4, .v (.d (.int .i64 z2))), (17, .v (.d (.bool t.2)))], [], 448⟩) (fun t => t.1 ≤ m2 ∧ L12_3 t.1 s1 z2 t.2 = some r1) ?_ ?_
          · try cbv
            replace h := getF_inv h
            obtain ⟨x4, ⟨hx0, hx⟩, h⟩ := h
            refine ⟨x4, hx0, hx, ?_⟩
            clear hx0 hx
            replace h := ds_str_inv h
            obtain ⟨s5, rfl, h⟩ := h
            try cbv
            refine splitS (fun e => ?_) (fun e => ?_)
            · replace h := ite_t (bytes_eq.1 e) h
              clear e
              try cbv
              exact join_next (m2, true) [0, 2, 3, 4, 17] [] 448 ⟨by omega, h⟩ (by cbv)
            · replace h := ite_f (bytes_ne.1 e) h
              clear e
              try cbv
              exact join_next (m2, false) [0, 2, 3, 4, 17] [] 448 ⟨by omega, h⟩ (by cbv)
          · clear h
            rintro ⟨m3, b6⟩ ⟨hm3, h⟩
            replace hm3 : m3 ≤ m2 := hm3
            cases m3 with
            | zero => cases (show (none : Option _) = some _ from h)
            | succ m3 =>
              replace h : L12_3 (m3 + 1) s1 z2 b6 = some r1 := h
              rw [L12_3] at h
              try cbv
              cases b6
              · replace h := ite_f Bool.false_ne_true h
                try cbv
                replace h := letF_inv h
                obtain ⟨z7, hz, h⟩ := h
                refine ⟨z7, hz, ?_⟩
                clear hz
                try cbv
                exact loop_next (m3, z7) [0, 2, 3, 4] [] 128 ⟨by omega, h⟩ (Nat.lt_succ_of_le (by omega)) (by cbv)
              · replace h := ite_t rfl h
                try cbv
                refine seq_go ?_
                try cbv
                obtain rfl := Option.some.inj h
                refine fin_go ?_
                try cbv
                exact ⟨[], rfl, rfl, trivial, trivial, trivial⟩
end Go.Proofs.YtjmofeakajdbiaaDoor
end

/- Chapter 2, the plain law, part A: bytes, words. No condition. -/
set_option linter.unusedVariables false
noncomputable section
namespace Go.Proofs.YtjmofeakajdbiaaDoor
open Go Go.AM

/-- A text's bytes. -/
def bl (s : ByteArray) : List UInt8 := s.data.toList
theorem bl_len (s : ByteArray) : s.size = (bl s).length := (Array.length_toList (xs := s.data)).symm
theorem bl_inj {s t : ByteArray} (h : bl s = bl t) : s = t := by
  cases s; cases t
  simp only [bl] at h
  rw [Array.toList_inj.1 h]
theorem atF_get {γ : Type} {s : ByteArray} {i : Nat} {b : UInt8} {k : Int → Option γ} (h : (bl s)[i]? = some b) : atF s (i : Int) k = k (b.toNat : Int) := by
  have hlt : i < s.size := by rw [bl_len]; exact (List.getElem?_eq_some_iff.1 h).1
  have hb : s[i] = b := by
    have := (List.getElem?_eq_some_iff.1 h).2
    rw [← this]
    simp [bl]
    rfl
  have h1 : s[(i : Int).toNat]? = some b := by
    rw [Int.toNat_natCast, getElem?_pos s i hlt, hb]
  unfold atF
  rw [if_pos (Int.natCast_nonneg i), h1]
  rfl
theorem szF_eq {γ : Type} {s : ByteArray} {k : Int → Option γ} : szF s k = k ((bl s).length : Int) := by
  unfold szF
  rw [bl_len]
theorem byte_lt (b : UInt8) : (b.toNat : Int) < 256 := by have := b.toNat_lt; omega

/-! ### words -/
def wordsL : List ByteArray := [k_let, k_if, k_else, k_while, k_match, k_scope, k_spawn, k_lock, k_as, k_chan, k_drop, k_fn, k_struct, k_enum, k_true, k_false, k_and, k_or, k_not, k_int, k_bool, k_unit, k_mut, k_box, k_unbox, k_cell, k_get, k_set, k_rc, k_arc, k_clone, k_mutex, k_open, k_atomic, k_load, k_store, k_fetch, k_send, k_recv, k_Box, k_Cell, k_Rc, k_Arc, k_Mutex, k_Atomic, k_Sender, k_Receiver]
def word (s : ByteArray) : Bool := wordsL.any fun w => decide (bl w = bl s)
theorem word_iff {s : ByteArray} : word s = true ↔ s ∈ wordsL := by
  unfold word
  rw [List.any_eq_true]
  constructor
  · rintro ⟨w, hw, h⟩
    rw [← bl_inj (of_decide_eq_true h)]; exact hw
  · intro h
    exact ⟨s, h, decide_eq_true rfl⟩
theorem word_no {s : ByteArray} (h : s ∉ wordsL) : word s = false := by
  cases hw : word s
  · rfl
  · exact absurd (word_iff.1 hw) h

theorem beq_bytes {a b : ByteArray} : (a == b) = true ↔ a = b := by
  rw [beq_toListBytes]
  constructor
  · intro h
    have h := eq_of_beq h
    rw [ByteArray.toList_eq, ByteArray.toList_eq] at h
    exact bl_inj h
  · rintro rfl
    exact beq_self_eq_true _

/-- Rows of a map from words to what is above 0. -/
inductive WRows : List ByteArray → List D → Prop where
  | nil : WRows [] []
  | cons {w : ByteArray} {z : Int} {ws : List ByteArray} {rows : List D} (hz : 0 < z) (h : WRows ws rows) : WRows (w :: ws) (.agg [.str w, .int .i64 z] :: rows)
theorem WRows.find {s : ByteArray} : ∀ {ws : List ByteArray} {rows : List D}, WRows ws rows → (s ∉ ws ∧ findR false (.str s) rows = some none) ∨ ∃ z, s ∈ ws ∧ 0 < z ∧ findR false (.str s) rows = some (some (.int .i64 z))
  | _, _, .nil => .inl ⟨by simp, rfl⟩
  | _, _, .cons (w := w) (z := z) (ws := ws) (rows := rows) hz h => by
    cases hb : (s == w) with
    | true =>
      have := beq_bytes.1 hb
      subst this
      exact .inr ⟨z, by simp, hz, by simp [findR, eqK, hb, rowOf]⟩
    | false =>
      have hne : s ≠ w := fun e => by rw [beq_bytes.2 e] at hb; cases hb
      rcases h.find (s := s) with ⟨h1, h2⟩ | ⟨z', h1, h2, h3⟩
      · exact .inl ⟨by simp [hne, h1], by simp [findR, eqK, hb, h2]⟩
      · exact .inr ⟨z', by simp [h1], h2, by simp [findR, eqK, hb, h3]⟩
theorem WRows.put {s : ByteArray} {z : Int} (hz : 0 < z) : ∀ {ws : List ByteArray} {rows : List D}, WRows ws rows → ∃ ws' rows', putR (.str s) [.int .i64 z] rows = some rows' ∧ WRows ws' rows' ∧ ∀ t, t ∈ ws' ↔ t = s ∨ t ∈ ws
  | _, _, .nil => ⟨[s], _, rfl, .cons hz .nil, by simp⟩
  | _, _, .cons (w := w) (z := z') (ws := ws) (rows := rows) hz' h => by
    cases hb : (s == w) with
    | true =>
      have := beq_bytes.1 hb
      subst this
      exact ⟨s :: ws, .agg [.str s, .int .i64 z] :: rows, by simp [putR, eqK, hb], .cons hz h, by intro t; simp⟩
    | false =>
      obtain ⟨ws', rows', h1, h2, h3⟩ := h.put (s := s) hz
      refine ⟨w :: ws', .agg [.str w, .int .i64 z'] :: rows', by simp [putR, eqK, hb, h1], .cons hz' h2, fun t => ?_⟩
      simp only [List.mem_cons, h3]
      constructor
      · rintro (h | h | h) <;> simp [h]
      · rintro (h | h | h) <;> simp [h]

theorem fields_words : fieldsD k_let_if_else_while_match_ = wordsL.map D.str := by kernel_rfl
theorem ev50 : Ev (fun n => F50 n k_let_if_else_while_match_) (wordsL.map D.str) := Ev.of fun n => by
  rw [← fields_words]
  unfold F50
  have h1 : Nat.ble (k_let_if_else_while_match_).size 1000 = true := by kernel_rfl
  have h1 := Nat.le_of_ble_eq_true h1
  have h2 : (Lib.fields (k_let_if_else_while_match_).data.toList).length = 47 := by kernel_rfl
  rw [if_pos (by rw [h2]; exact ⟨by omega, by kernel_rfl, by decide⟩)]
theorem wordsL_len : wordsL.length = 47 := rfl

theorem ev30 : ∃ ws rows, Ev (fun n => F30 n) rows ∧ WRows ws rows ∧ ∀ t, t ∈ ws ↔ t ∈ wordsL := by
  have main : ∀ i : Nat, i ≤ 47 → ∀ ws rows, WRows ws rows → ∃ ws' rows', Ev (fun n => L30_1 n (wordsL.map D.str) 47 (i : Int) rows) rows' ∧ WRows ws' rows' ∧ ∀ t, t ∈ ws' ↔ t ∈ wordsL.drop i ∨ t ∈ ws := by
    refine down 47 ?_ ?_
    · intro ws rows h
      refine ⟨ws, rows, .succ (.succ (.of fun n => ?_)), h, fun t => ?_⟩
      · rw [L30_1, if_neg (by omega), L30_2, if_neg Bool.false_ne_true]
      · rw [List.drop_eq_nil_of_le (by rw [wordsL_len]; omega)]
        simp
    · intro i hi ih ws rows h
      have hlt : i < wordsL.length := by rw [wordsL_len]; exact hi
      obtain ⟨ws1, rows1, h1, h2, h3⟩ := h.put (s := wordsL[i]) (z := ((i + 1 : Nat) : Int)) (by omega)
      obtain ⟨ws2, rows2, h4, h5, h6⟩ := ih ws1 rows1 h2
      refine ⟨ws2, rows2, .succ (.succ (h4.congr fun n => ?_)), h5, fun t => ?_⟩
      · have hw : (wordsL.map D.str)[i]? = some (.str wordsL[i]) := by simp [hlt]
        rw [L30_1, if_pos (by omega), L30_2, if_pos rfl, getF_nat hw]
        simp only [ds_str, letF, wrap_succ (N := 47) hi (by decide)]
        unfold putF
        rw [h1]
      · rw [h6, h3, List.drop_eq_getElem_cons hlt]
        simp only [List.mem_cons]
        constructor
        · rintro (h | h | h) <;> simp [h]
        · rintro ((h | h) | h) <;> simp [h]
  obtain ⟨ws, rows, h1, h2, h3⟩ := main 0 (by omega) [] [] .nil
  refine ⟨ws, rows, ?_, h2, by simpa using h3⟩
  unfold F30
  refine Ev.bO1 ev50 (h1.congr fun n => ?_)
  unfold lenF
  rfl

/-- Word. -/
theorem ev11 (s : ByteArray) : Ev (fun n => F11 n s) (word s) := by
  obtain ⟨ws, rows, h1, h2, h3⟩ := ev30
  unfold F11
  refine Ev.bO1 h1 (Ev.of fun n => ?_)
  unfold findF
  rcases h2.find (s := s) with ⟨h4, h5⟩ | ⟨z, h4, h5, h6⟩
  · rw [h5]
    have : s ∉ wordsL := fun h => h4 ((h3 s).2 h)
    rw [word_no this]
  · rw [h6]
    have : s ∈ wordsL := (h3 s).1 h4
    rw [word_iff.2 this]
    simp [ds_i64, h5]
/-- The document's. -/
theorem ev12 (s : ByteArray) : Ev (fun n => F12 n s) (word s) := by
  have main : ∀ i : Nat, i ≤ 47 → Ev (fun n => L12_1 n s (i : Int)) ((wordsL.drop i).any fun w => decide (bl w = bl s)) := by
    refine down 47 ?_ ?_
    · refine .succ (.succ (.of fun n => ?_))
      rw [L12_1, if_neg (by omega), L12_2, if_neg Bool.false_ne_true, List.drop_eq_nil_of_le (by rw [wordsL_len]; omega)]
      rfl
    · intro i hi ih
      have hlt : i < wordsL.length := by rw [wordsL_len]; exact hi
      have hw : (wordsL.map D.str)[i]? = some (.str wordsL[i]) := by simp [hlt]
      have hw : ([.str k_let, .str k_if, .str k_else, .str k_while, .str k_match, .str k_scope, .str k_spawn, .str k_lock, .str k_as, .str k_chan, .str k_drop, .str k_fn, .str k_struct, .str k_enum, .str k_true, .str k_false, .str k_and, .str k_or, .str k_not, .str k_int, .str k_bool, .str k_unit, .str k_mut, .str k_box, .str k_unbox, .str k_cell, .str k_get, .str k_set, .str k_rc, .str k_arc, .str k_clone, .str k_mutex, .str k_open, .str k_atomic, .str k_load, .str k_store, .str k_fetch, .str k_send, .str k_recv, .str k_Box, .str k_Cell, .str k_Rc, .str k_Arc, .str k_Mutex, .str k_Atomic, .str k_Sender, .str k_Receiver] : List D)[i]? = some (.str wordsL[i]) := hw
      rw [List.drop_eq_getElem_cons hlt, List.any_cons]
      by_cases he : wordsL[i] = s
      · refine .succ (.succ (.succ (.of fun n => ?_)))
        rw [L12_1, if_pos (by omega), L12_2, if_pos rfl, getF_nat hw]
        simp only [ds_str]
        rw [if_pos he, L12_3, if_pos rfl, decide_eq_true (congrArg bl he)]
        rfl
      · rw [decide_eq_false (fun e => he (bl_inj e)), Bool.false_or]
        refine .succ (.succ (.succ (ih.congr fun n => ?_)))
        rw [L12_1, if_pos (by omega), L12_2, if_pos rfl, getF_nat hw]
        simp only [ds_str]
        rw [if_neg he, L12_3, if_neg Bool.false_ne_true]
        simp only [letF, wrap_succ (N := 47) hi (by decide)]
  have := main 0 (by omega)
  unfold F12 word
  exact this
end Go.Proofs.YtjmofeakajdbiaaDoor

/- Printed by lift.py: functional texts of functions, and their contracts. No condition. -/
set_option linter.unusedVariables false
noncomputable section
namespace Go.Proofs.YtjmofeakajdbiaaDoor
open Go Go.AM
def F32 (n : Nat) (z1 : Int) : Option (Bool) :=
  (if (97 : Int) ≤ z1 then (if z1 ≤ (122 : Int) then some true else some false) else some false)
set_option maxRecDepth 100000 in
set_option maxHeartbeats 40000000 in
theorem T32 (n : Nat) : ∀ ⦃z1 : Int⦄ ⦃r1 : Bool⦄, F32 n z1 = some r1 →
    Trip Tryd.prog inv 32 [.d (.int .u8 z1)] [] (.v (.d (.bool r1))) [] [] := by
  intro z1 r1 h
  unfold F32 at h
  refine Trip.of tab_ok tab_one fol Tryd.func32 rfl (by kernel_rfl) rfl rfl rfl (fun M hM hI => ?_)
  try cbv
  refine seq_go ?_
  try cbv
  refine seq_go ?_
  try cbv
  refine splitLe (fun e => ?_) (fun e => ?_)
  · replace h := ite_t e h
    clear e
    try cbv
    refine splitLe (fun e => ?_) (fun e => ?_)
    · replace h := ite_t e h
      clear e
      try cbv
      obtain rfl := Option.some.inj h
      refine fin_go ?_
      try cbv
      exact ⟨[], rfl, rfl, trivial, trivial, trivial⟩
    · replace h := ite_f (Int.not_le.2 e) h
      clear e
      try cbv
      obtain rfl := Option.some.inj h
      refine fin_go ?_
      try cbv
      exact ⟨[], rfl, rfl, trivial, trivial, trivial⟩
  · replace h := ite_f (Int.not_le.2 e) h
    clear e
    try cbv
    obtain rfl := Option.some.inj h
    refine fin_go ?_
    try cbv
    exact ⟨[], rfl, rfl, trivial, trivial, trivial⟩
end Go.Proofs.YtjmofeakajdbiaaDoor
end

/- Printed by lift.py: functional texts of functions, and their contracts. No condition. -/
set_option linter.unusedVariables false
noncomputable section
namespace Go.Proofs.YtjmofeakajdbiaaDoor
open Go Go.AM
def F34 (n : Nat) (z1 : Int) : Option (Bool) :=
  (if (65 : Int) ≤ z1 then (if z1 ≤ (90 : Int) then some true else some false) else some false)
set_option maxRecDepth 100000 in
set_option maxHeartbeats 40000000 in
theorem T34 (n : Nat) : ∀ ⦃z1 : Int⦄ ⦃r1 : Bool⦄, F34 n z1 = some r1 →
    Trip Tryd.prog inv 34 [.d (.int .u8 z1)] [] (.v (.d (.bool r1))) [] [] := by
  intro z1 r1 h
  unfold F34 at h
  refine Trip.of tab_ok tab_one fol Tryd.func34 rfl (by kernel_rfl) rfl rfl rfl (fun M hM hI => ?_)
  try cbv
  refine seq_go ?_
  try cbv
  refine seq_go ?_
  try cbv
  refine splitLe (fun e => ?_) (fun e => ?_)
  · replace h := ite_t e h
    clear e
    try cbv
    refine splitLe (fun e => ?_) (fun e => ?_)
    · replace h := ite_t e h
      clear e
      try cbv
      obtain rfl := Option.some.inj h
      refine fin_go ?_
      try cbv
      exact ⟨[], rfl, rfl, trivial, trivial, trivial⟩
    · replace h := ite_f (Int.not_le.2 e) h
      clear e
      try cbv
      obtain rfl := Option.some.inj h
      refine fin_go ?_
      try cbv
      exact ⟨[], rfl, rfl, trivial, trivial, trivial⟩
  · replace h := ite_f (Int.not_le.2 e) h
    clear e
    try cbv
    obtain rfl := Option.some.inj h
    refine fin_go ?_
    try cbv
    exact ⟨[], rfl, rfl, trivial, trivial, trivial⟩
end Go.Proofs.YtjmofeakajdbiaaDoor
end

/- Printed by lift.py: functional texts of functions, and their contracts. No condition. -/
set_option linter.unusedVariables false
noncomputable section
namespace Go.Proofs.YtjmofeakajdbiaaDoor
open Go Go.AM
def F67 (n : Nat) (z1 : Int) : Option (Bool) :=
  (if (48 : Int) ≤ z1 then (if z1 ≤ (57 : Int) then some true else some false) else some false)
set_option maxRecDepth 100000 in
set_option maxHeartbeats 40000000 in
theorem T67 (n : Nat) : ∀ ⦃z1 : Int⦄ ⦃r1 : Bool⦄, F67 n z1 = some r1 →
    Trip Tryd.prog inv 67 [.d (.int .u8 z1)] [] (.v (.d (.bool r1))) [] [] := by
  intro z1 r1 h
  unfold F67 at h
  refine Trip.of tab_ok tab_one fol Tryd.func67 rfl (by kernel_rfl) rfl rfl rfl (fun M hM hI => ?_)
  try cbv
  refine seq_go ?_
  try cbv
  refine seq_go ?_
  try cbv
  refine splitLe (fun e => ?_) (fun e => ?_)
  · replace h := ite_t e h
    clear e
    try cbv
    refine splitLe (fun e => ?_) (fun e => ?_)
    · replace h := ite_t e h
      clear e
      try cbv
      obtain rfl := Option.some.inj h
      refine fin_go ?_
      try cbv
      exact ⟨[], rfl, rfl, trivial, trivial, trivial⟩
    · replace h := ite_f (Int.not_le.2 e) h
      clear e
      try cbv
      obtain rfl := Option.some.inj h
      refine fin_go ?_
      try cbv
      exact ⟨[], rfl, rfl, trivial, trivial, trivial⟩
  · replace h := ite_f (Int.not_le.2 e) h
    clear e
    try cbv
    obtain rfl := Option.some.inj h
    refine fin_go ?_
    try cbv
    exact ⟨[], rfl, rfl, trivial, trivial, trivial⟩
end Go.Proofs.YtjmofeakajdbiaaDoor
end

/- Printed by lift.py: functional texts of functions, and their contracts. No condition. -/
set_option linter.unusedVariables false
noncomputable section
namespace Go.Proofs.YtjmofeakajdbiaaDoor
open Go Go.AM
def F52 (n : Nat) (z1 : Int) : Option (Bool) :=
  bO1 (F32 n z1) fun b2 => (if b2 = true then some true else bO1 (F34 n z1) fun b3 => (if b3 = true then some true else bO1 (F67 n z1) fun b4 => (if b4 = true then some true else (if z1 = (95 : Int) then some true else some false))))
set_option maxRecDepth 100000 in
set_option maxHeartbeats 40000000 in
theorem T52 (n : Nat) : ∀ ⦃z1 : Int⦄ ⦃r1 : Bool⦄, F52 n z1 = some r1 →
    Trip Tryd.prog inv 52 [.d (.int .u8 z1)] [] (.v (.d (.bool r1))) [] [] := by
  intro z1 r1 h
  unfold F52 at h
  refine Trip.of tab_ok tab_one fol Tryd.func52 rfl (by kernel_rfl) rfl rfl rfl (fun M hM hI => ?_)
  try cbv
  refine seq_go ?_
  try cbv
  refine seq_go ?_
  try cbv
  replace h := bO1_inv h
  obtain ⟨b2, hr, h⟩ := h
  refine call_go rfl rfl ?_
  try cbv
  refine call_pure hM hI (T32 _ hr) rfl ?_
  clear hr
  try cbv
  cases b2
  · replace h := ite_f Bool.false_ne_true h
    try cbv
    replace h := bO1_inv h
    obtain ⟨b3, hr, h⟩ := h
    refine call_go rfl rfl ?_
    try cbv
    refine call_pure hM hI (T34 _ hr) rfl ?_
    clear hr
    try cbv
    cases b3
    · replace h := ite_f Bool.false_ne_true h
      try cbv
      replace h := bO1_inv h
      obtain ⟨b4, hr, h⟩ := h
      refine call_go rfl rfl ?_
      try cbv
      refine call_pure hM hI (T67 _ hr) rfl ?_
      clear hr
      try cbv
      cases b4
      · replace h := ite_f Bool.false_ne_true h
        try cbv
        refine splitI (fun e => ?_) (fun e => ?_)
        · replace h := ite_t e h
          clear e
          try cbv
          obtain rfl := Option.some.inj h
          refine fin_go ?_
          try cbv
          exact ⟨[], rfl, rfl, trivial, trivial, trivial⟩
        · replace h := ite_f e h
          clear e
          try cbv
          obtain rfl := Option.some.inj h
          refine fin_go ?_
          try cbv
          exact ⟨[], rfl, rfl, trivial, trivial, trivial⟩
      · replace h := ite_t rfl h
        try cbv
        obtain rfl := Option.some.inj h
        refine fin_go ?_
        try cbv
        exact ⟨[], rfl, rfl, trivial, trivial, trivial⟩
    · replace h := ite_t rfl h
      try cbv
      obtain rfl := Option.some.inj h
      refine fin_go ?_
      try cbv
      exact ⟨[], rfl, rfl, trivial, trivial, trivial⟩
  · replace h := ite_t rfl h
    try cbv
    obtain rfl := Option.some.inj h
    refine fin_go ?_
    try cbv
    exact ⟨[], rfl, rfl, trivial, trivial, trivial⟩
end Go.Proofs.YtjmofeakajdbiaaDoor
end

/- Printed by lift.py: functional texts of functions, and their contracts. No condition. -/
set_option linter.unusedVariables false
noncomputable section
namespace Go.Proofs.YtjmofeakajdbiaaDoor
open Go Go.AM
mutual
def L51_1 : Nat → ByteArray → Int → Option (Int)
  | 0, _, _ => none
  | n + 1, s1, z2 =>
    szF s1 fun z3 => (if z2 < z3 then atF s1 z2 fun z4 => bO1 (F52 n z4) fun b5 => L51_2 n s1 z2 b5 else L51_2 n s1 z2 false)
def L51_2 : Nat → ByteArray → Int → Bool → Option (Int)
  | 0, _, _, _ => none
  | n + 1, s1, z2, b6 =>
    (if b6 = true then letF (IntKind.wrap .i64 (z2 + 1)) fun z7 => L51_1 n s1 z7 else some z2)
end
def F51 (n : Nat) (s1 : ByteArray) : Option (Int) :=
  L51_1 n s1 (0 : Int)
set_option maxRecDepth 100000 in
set_option maxHeartbeats 40000000 in
theorem T51 (n : Nat) : ∀ ⦃s1 : ByteArray⦄ ⦃r1 : Int⦄, F51 n s1 = some r1 →
    Trip Tryd.prog inv 51 [.d (.str s1), .c (.fn 52 [])] [] (.v (.d (.int .i64 r1))) [] [] := by
  intro s1 r1 h
  unfold F51 at h
  refine Trip.of tab_ok tab_one fol Tryd.func51 rfl (by kernel_rfl) rfl rfl rfl (fun M hM hI => ?_)
  try cbv
  refine seq_go ?_
  try cbv
  refine seq_go ?_
  try cbv
  refine seq_go ?_
  try cbv
  refine loop_inv (T := Nat × Int) [0, 1, 4, 5] [] 64 (fun t => ⟨[(0, .v (.d (.str s1))), (1, .v (.c (.fn 52 []))), (4, .v (.d (.int .i64 0))), (5, .v (.d (.int .i64 t.2)))], [], 64⟩)
    (fun t => t.1 ≤ n ∧ L51_1 t.1 s1 t.2 = some r1) (fun t => t.1) (n, (0 : Int)) ⟨Nat.le_refl _, h⟩ (by cbv) ?_
  clear h
  rintro ⟨m1, z2⟩ ⟨hm1, h⟩
  replace hm1 : m1 ≤ n := hm1
  cases m1 with
  | zero => cases (show (none : Option _) = some _ from h)
  | succ m1 =>
    replace h : L51_1 (m1 + 1) s1 z2 = some r1 := h
    rw [L51_1] at h
    try cbv
    refine seq_go ?_
    try cbv
    refine seq_join (T := Nat × Bool) (fun t => ⟨[(0, .v (.d (.str s1))), (1, .v (.c (.fn 52 []))), (4, .v (.d (.int .i64 0))), (5, .v (.d (.int .i64 z2))), (16, .v (.d (.bool t.2)))], [], 416⟩) (fun t => t.1 ≤ m1 ∧ L51_2 t.1 s1 z2 t.2 = some r1) ?_ ?_
    · try cbv
      replace h := szF_inv M h
      obtain ⟨z3, hz, h⟩ := h
      refine ⟨z3, hz, ?_⟩
      clear hz
      try cbv
      refine splitL (fun e => ?_) (fun e => ?_)
      · replace h := ite_t e h
        clear e
        try cbv
        replace h := atF_inv h
        obtain ⟨z4, hz, h⟩ := h
        refine ⟨z4, hz, ?_⟩
        clear hz
        try cbv
        replace h := bO1_inv h
        obtain ⟨b5, hr, h⟩ := h
        refine call_go rfl rfl ?_
        try cbv
        refine call_pure hM hI (T52 _ hr) rfl ?_
        clear hr
        try cbv
        exact join_next (m1, b5) [0, 1, 4, 5, 16] [] 416 ⟨by omega, h⟩ (by cbv)
      · replace h := ite_f (Int.not_lt.2 e) h
        clear e
        try cbv
        exact join_next (m1, false) [0, 1, 4, 5, 16] [] 416 ⟨by omega, h⟩ (by cbv)
    · clear h
      rintro ⟨m2, b6⟩ ⟨hm2, h⟩
      replace hm2 : m2 ≤ m1 := hm2
      cases m2 with
      | zero => cases (show (none : Option _) = some _ from h)
      | succ m2 =>
        replace h : L51_2 (m2 + 1) s1 z2 b6 = some r1 := h
        rw [L51_2] at h
        try cbv
        cases b6
        · replace h := ite_f Bool.false_ne_true h
          try cbv
          refine seq_go ?_
          try cbv
          obtain rfl := Option.some.inj h
          refine fin_go ?_
          try cbv
          exact ⟨[], rfl, rfl, trivial, trivial, trivial⟩
        · replace h := ite_t rfl h
          try cbv
          replace h := letF_inv h
          obtain ⟨z7, hz, h⟩ := h
          refine ⟨z7, hz, ?_⟩
          clear hz
          try cbv
          exact loop_next (m2, z7) [0, 1, 4, 5] [] 64 ⟨by omega, h⟩ (Nat.lt_succ_of_le (by omega)) (by cbv)
end Go.Proofs.YtjmofeakajdbiaaDoor
end

/- Printed by lift.py: functional texts of functions, and their contracts. No condition. -/
set_option linter.unusedVariables false
noncomputable section
namespace Go.Proofs.YtjmofeakajdbiaaDoor
open Go Go.AM
def F31 (n : Nat) (s1 : ByteArray) : Option (Bool) :=
  (if s1 = ByteArray.empty then some false else szF s1 fun z2 => (if z2 ≤ (16 : Int) then atF s1 (0 : Int) fun z3 => bO1 (F32 n z3) fun b4 => (if b4 = true then bO1 (F51 n s1) fun z5 => szF s1 fun z6 => (if z5 = z6 then bO1 (F11 n s1) fun b7 => letB (!b7) fun b8 => some b8 else some false) else some false) else some false))
set_option maxRecDepth 100000 in
set_option maxHeartbeats 40000000 in
theorem T31 (n : Nat) : ∀ ⦃s1 : ByteArray⦄ ⦃r1 : Bool⦄, F31 n s1 = some r1 →
    Trip Tryd.prog inv 31 [.d (.str s1), .c (.fn 32 [])] [] (.v (.d (.bool r1))) [] [] := by
  intro s1 r1 h
  unfold F31 at h
  refine Trip.of tab_ok tab_one fol Tryd.func31 rfl (by kernel_rfl) rfl rfl rfl (fun M hM hI => ?_)
  try cbv
  refine seq_go ?_
  try cbv
  refine seq_go ?_
  try cbv
  refine splitS (fun e => ?_) (fun e => ?_)
  · replace h := ite_t (bytes_eq.1 e) h
    clear e
    try cbv
    obtain rfl := Option.some.inj h
    refine fin_go ?_
    try cbv
    exact ⟨[], rfl, rfl, trivial, trivial, trivial⟩
  · replace h := ite_f (bytes_ne.1 e) h
    clear e
    try cbv
    replace h := szF_inv M h
    obtain ⟨z2, hz, h⟩ := h
    refine ⟨z2, hz, ?_⟩
    clear hz
    try cbv
    refine splitLe (fun e => ?_) (fun e => ?_)
    · replace h := ite_t e h
      clear e
      try cbv
      replace h := atF_inv h
      obtain ⟨z3, hz, h⟩ := h
      refine ⟨z3, hz, ?_⟩
      clear hz
      try cbv
      replace h := bO1_inv h
      obtain ⟨b4, hr, h⟩ := h
      refine call_go rfl rfl ?_
      try cbv
      refine call_pure hM hI (T32 _ hr) rfl ?_
      clear hr
      try cbv
      cases b4
      · replace h := ite_f Bool.false_ne_true h
        try cbv
        obtain rfl := Option.some.inj h
        refine fin_go ?_
        try cbv
        exact ⟨[], rfl, rfl, trivial, trivial, trivial⟩
      · replace h := ite_t rfl h
        try cbv
        replace h := bO1_inv h
        obtain ⟨z5, hr, h⟩ := h
        refine call_go rfl rfl ?_
        try cbv
        refine call_pure hM hI (T51 _ hr) rfl ?_
        clear hr
        try cbv
        replace h := szF_inv M h
        obtain ⟨z6, hz, h⟩ := h
        refine ⟨z6, hz, ?_⟩
        clear hz
        try cbv
        refine splitI (fun e => ?_) (fun e => ?_)
        · replace h := ite_t e h
          clear e
          try cbv
          replace h := bO1_inv h
          obtain ⟨b7, hr, h⟩ := h
          refine call_go rfl rfl ?_
          try cbv
          refine call_pure hM hI (T11 _ hr) rfl ?_
          clear hr
          try cbv
          replace h := letB_inv h
          obtain ⟨b8, hz, h⟩ := h
          refine ⟨b8, not_eq' hz, ?_⟩
          clear hz
          try cbv
          obtain rfl := Option.some.inj h
          refine fin_go ?_
          try cbv
          exact ⟨[], rfl, rfl, trivial, trivial, trivial⟩
        · replace h := ite_f e h
          clear e
          try cbv
          obtain rfl := Option.some.inj h
          refine fin_go ?_
          try cbv
          exact ⟨[], rfl, rfl, trivial, trivial, trivial⟩
    · replace h := ite_f (Int.not_le.2 e) h
      clear e
      try cbv
      obtain rfl := Option.some.inj h
      refine fin_go ?_
      try cbv
      exact ⟨[], rfl, rfl, trivial, trivial, trivial⟩
end Go.Proofs.YtjmofeakajdbiaaDoor
end

/- Printed by lift.py: functional texts of functions, and their contracts. No condition. -/
set_option linter.unusedVariables false
noncomputable section
namespace Go.Proofs.YtjmofeakajdbiaaDoor
open Go Go.AM
def F13 (n : Nat) (s1 : ByteArray) : Option (Bool) :=
  bO1 (F31 n s1) fun b2 => some b2
set_option maxRecDepth 100000 in
set_option maxHeartbeats 40000000 in
theorem T13 (n : Nat) : ∀ ⦃s1 : ByteArray⦄ ⦃r1 : Bool⦄, F13 n s1 = some r1 →
    Trip Tryd.prog inv 13 [.d (.str s1)] [] (.v (.d (.bool r1))) [] [] := by
  intro s1 r1 h
  unfold F13 at h
  refine Trip.of tab_ok tab_one fol Tryd.func13 rfl (by kernel_rfl) rfl rfl rfl (fun M hM hI => ?_)
  try cbv
  refine seq_go ?_
  try cbv
  refine seq_go ?_
  try cbv
  replace h := bO1_inv h
  obtain ⟨b2, hr, h⟩ := h
  refine call_go rfl rfl ?_
  try cbv
  refine call_pure hM hI (T31 _ hr) rfl ?_
  clear hr
  try cbv
  obtain rfl := Option.some.inj h
  refine fin_go ?_
  try cbv
  exact ⟨[], rfl, rfl, trivial, trivial, trivial⟩
end Go.Proofs.YtjmofeakajdbiaaDoor
end

/- Printed by lift.py: functional texts of functions, and their contracts. No condition. -/
set_option linter.unusedVariables false
noncomputable section
namespace Go.Proofs.YtjmofeakajdbiaaDoor
open Go Go.AM
def F53 (n : Nat) (z1 : Int) : Option (Bool) :=
  (if (97 : Int) ≤ z1 then (if z1 ≤ (122 : Int) then some true else (if (65 : Int) ≤ z1 then (if z1 ≤ (90 : Int) then some true else (if (48 : Int) ≤ z1 then (if z1 ≤ (57 : Int) then some true else (if z1 = (95 : Int) then some true else some false)) else (if z1 = (95 : Int) then some true else some false))) else (if (48 : Int) ≤ z1 then (if z1 ≤ (57 : Int) then some true else (if z1 = (95 : Int) then some true else some false)) else (if z1 = (95 : Int) then some true else some false)))) else (if (65 : Int) ≤ z1 then (if z1 ≤ (90 : Int) then some true else (if (48 : Int) ≤ z1 then (if z1 ≤ (57 : Int) then some true else (if z1 = (95 : Int) then some true else some false)) else (if z1 = (95 : Int) then some true else some false))) else (if (48 : Int) ≤ z1 then (if z1 ≤ (57 : Int) then some true else (if z1 = (95 : Int) then some true else some false)) else (if z1 = (95 : Int) then some true else some false))))
set_option maxRecDepth 100000 in
set_option maxHeartbeats 40000000 in
theorem T53 (n : Nat) : ∀ ⦃z1 : Int⦄ ⦃r1 : Bool⦄, F53 n z1 = some r1 →
    Trip Tryd.prog inv 53 [.d (.int .u8 z1)] [] (.v (.d (.bool r1))) [] [] := by
  intro z1 r1 h
  unfold F53 at h
  refine Trip.of tab_ok tab_one fol Tryd.func53 rfl (by kernel_rfl) rfl rfl rfl (fun M hM hI => ?_)
  try cbv
  refine seq_go ?_
  try cbv
  refine seq_go ?_
  try cbv
  refine splitLe (fun e => ?_) (fun e => ?_)
  · replace h := ite_t e h
    clear e
    try cbv
    refine splitLe (fun e => ?_) (fun e => ?_)
    · replace h := ite_t e h
      clear e
      try cbv
      obtain rfl := Option.some.inj h
      refine fin_go ?_
      try cbv
      exact ⟨[], rfl, rfl, trivial, trivial, trivial⟩
    · replace h := ite_f (Int.not_le.2 e) h
      clear e
      try cbv
      refine splitLe (fun e => ?_) (fun e => ?_)
      · replace h := ite_t e h
        clear e
        try cbv
        refine splitLe (fun e => ?_) (fun e => ?_)
        · replace h := ite_t e h
          clear e
          try cbv
          obtain rfl := Option.some.inj h
          refine fin_go ?_
          try cbv
          exact ⟨[], rfl, rfl, trivial, trivial, trivial⟩
        · replace h := ite_f (Int.not_le.2 e) h
          clear e
          try cbv
          refine splitLe (fun e => ?_) (fun e => ?_)
          · replace h := ite_t e h
            clear e
            try cbv
            refine splitLe (fun e => ?_) (fun e => ?_)
            · replace h := ite_t e h
              clear e
              try cbv
              obtain rfl := Option.some.inj h
              refine fin_go ?_
              try cbv
              exact ⟨[], rfl, rfl, trivial, trivial, trivial⟩
            · replace h := ite_f (Int.not_le.2 e) h
              clear e
              try cbv
              refine splitI (fun e => ?_) (fun e => ?_)
              · replace h := ite_t e h
                clear e
                try cbv
                obtain rfl := Option.some.inj h
                refine fin_go ?_
                try cbv
                exact ⟨[], rfl, rfl, trivial, trivial, trivial⟩
              · replace h := ite_f e h
                clear e
                try cbv
                obtain rfl := Option.some.inj h
                refine fin_go ?_
                try cbv
                exact ⟨[], rfl, rfl, trivial, trivial, trivial⟩
          · replace h := ite_f (Int.not_le.2 e) h
            clear e
            try cbv
            refine splitI (fun e => ?_) (fun e => ?_)
            · replace h := ite_t e h
              clear e
              try cbv
              obtain rfl := Option.some.inj h
              refine fin_go ?_
              try cbv
              exact ⟨[], rfl, rfl, trivial, trivial, trivial⟩
            · replace h := ite_f e h
              clear e
              try cbv
              obtain rfl := Option.some.inj h
              refine fin_go ?_
              try cbv
              exact ⟨[], rfl, rfl, trivial, trivial, trivial⟩
      · replace h := ite_f (Int.not_le.2 e) h
        clear e
        try cbv
        refine splitLe (fun e => ?_) (fun e => ?_)
        · replace h := ite_t e h
          clear e
          try cbv
          refine splitLe (fun e => ?_) (fun e => ?_)
          · replace h := ite_t e h
            clear e
            try cbv
            obtain rfl := Option.some.inj h
            refine fin_go ?_
            try cbv
            exact ⟨[], rfl, rfl, trivial, trivial, trivial⟩
          · replace h := ite_f (Int.not_le.2 e) h
            clear e
            try cbv
            refine splitI (fun e => ?_) (fun e => ?_)
            · replace h := ite_t e h
              clear e
              try cbv
              obtain rfl := Option.some.inj h
              refine fin_go ?_
              try cbv
              exact ⟨[], rfl, rfl, trivial, trivial, trivial⟩
            · replace h := ite_f e h
              clear e
              try cbv
              obtain rfl := Option.some.inj h
              refine fin_go ?_
              try cbv
              exact ⟨[], rfl, rfl, trivial, trivial, trivial⟩
        · replace h := ite_f (Int.not_le.2 e) h
          clear e
          try cbv
          refine splitI (fun e => ?_) (fun e => ?_)
          · replace h := ite_t e h
            clear e
            try cbv
            obtain rfl := Option.some.inj h
            refine fin_go ?_
            try cbv
            exact ⟨[], rfl, rfl, trivial, trivial, trivial⟩
          · replace h := ite_f e h
            clear e
            try cbv
            obtain rfl := Option.some.inj h
            refine fin_go ?_
            try cbv
            exact ⟨[], rfl, rfl, trivial, trivial, trivial⟩
  · replace h := ite_f (Int.not_le.2 e) h
    clear e
    try cbv
    refine splitLe (fun e => ?_) (fun e => ?_)
    · replace h := ite_t e h
      clear e
      try cbv
      refine splitLe (fun e => ?_) (fun e => ?_)
      · replace h := ite_t e h
        clear e
        try cbv
        obtain rfl := Option.some.inj h
        refine fin_go ?_
        try cbv
        exact ⟨[], rfl, rfl, trivial, trivial, trivial⟩
      · replace h := ite_f (Int.not_le.2 e) h
        clear e
        try cbv
        refine splitLe (fun e => ?_) (fun e => ?_)
        · replace h := ite_t e h
          clear e
          try cbv
          refine splitLe (fun e => ?_) (fun e => ?_)
          · replace h := ite_t e h
            clear e
            try cbv
            obtain rfl := Option.some.inj h
            refine fin_go ?_
            try cbv
            exact ⟨[], rfl, rfl, trivial, trivial, trivial⟩
          · replace h := ite_f (Int.not_le.2 e) h
            clear e
            try cbv
            refine splitI (fun e => ?_) (fun e => ?_)
            · replace h := ite_t e h
              clear e
              try cbv
              obtain rfl := Option.some.inj h
              refine fin_go ?_
              try cbv
              exact ⟨[], rfl, rfl, trivial, trivial, trivial⟩
            · replace h := ite_f e h
              clear e
              try cbv
              obtain rfl := Option.some.inj h
              refine fin_go ?_
              try cbv
              exact ⟨[], rfl, rfl, trivial, trivial, trivial⟩
        · replace h := ite_f (Int.not_le.2 e) h
          clear e
          try cbv
          refine splitI (fun e => ?_) (fun e => ?_)
          · replace h := ite_t e h
            clear e
            try cbv
            obtain rfl := Option.some.inj h
            refine fin_go ?_
            try cbv
            exact ⟨[], rfl, rfl, trivial, trivial, trivial⟩
          · replace h := ite_f e h
            clear e
            try cbv
            obtain rfl := Option.some.inj h
            refine fin_go ?_
            try cbv
            exact ⟨[], rfl, rfl, trivial, trivial, trivial⟩
    · replace h := ite_f (Int.not_le.2 e) h
      clear e
      try cbv
      refine splitLe (fun e => ?_) (fun e => ?_)
      · replace h := ite_t e h
        clear e
        try cbv
        refine splitLe (fun e => ?_) (fun e => ?_)
        · replace h := ite_t e h
          clear e
          try cbv
          obtain rfl := Option.some.inj h
          refine fin_go ?_
          try cbv
          exact ⟨[], rfl, rfl, trivial, trivial, trivial⟩
        · replace h := ite_f (Int.not_le.2 e) h
          clear e
          try cbv
          refine splitI (fun e => ?_) (fun e => ?_)
          · replace h := ite_t e h
            clear e
            try cbv
            obtain rfl := Option.some.inj h
            refine fin_go ?_
            try cbv
            exact ⟨[], rfl, rfl, trivial, trivial, trivial⟩
          · replace h := ite_f e h
            clear e
            try cbv
            obtain rfl := Option.some.inj h
            refine fin_go ?_
            try cbv
            exact ⟨[], rfl, rfl, trivial, trivial, trivial⟩
      · replace h := ite_f (Int.not_le.2 e) h
        clear e
        try cbv
        refine splitI (fun e => ?_) (fun e => ?_)
        · replace h := ite_t e h
          clear e
          try cbv
          obtain rfl := Option.some.inj h
          refine fin_go ?_
          try cbv
          exact ⟨[], rfl, rfl, trivial, trivial, trivial⟩
        · replace h := ite_f e h
          clear e
          try cbv
          obtain rfl := Option.some.inj h
          refine fin_go ?_
          try cbv
          exact ⟨[], rfl, rfl, trivial, trivial, trivial⟩
end Go.Proofs.YtjmofeakajdbiaaDoor
end

/- Printed by lift.py: functional texts of functions, and their contracts. No condition. -/
set_option linter.unusedVariables false
noncomputable section
namespace Go.Proofs.YtjmofeakajdbiaaDoor
open Go Go.AM
mutual
def L33_2 : Nat → ByteArray → Int → Option (Bool)
  | 0, _, _ => none
  | n + 1, s1, z9 =>
    szF s1 fun z10 => (if z9 < z10 then L33_3 n s1 z9 true else L33_3 n s1 z9 false)
def L33_3 : Nat → ByteArray → Int → Bool → Option (Bool)
  | 0, _, _, _ => none
  | n + 1, s1, z9, b11 =>
    (if b11 = true then atF s1 z9 fun z12 => bO1 (F53 n z12) fun b13 => letB (!b13) fun b14 => (if b14 = true then some false else letF (IntKind.wrap .i64 (z9 + 1)) fun z15 => L33_2 n s1 z15) else some true)
end
def L33_1 : Nat → ByteArray → Bool → Option (Bool)
  | 0, _, _ => none
  | n + 1, s1, b8 =>
    (if b8 = true then some false else L33_2 n s1 (0 : Int))
def F33 (n : Nat) (s1 : ByteArray) (z2 : Int) (z3 : Int) : Option (Bool) :=
  (if s1 = ByteArray.empty then L33_1 n s1 true else szF s1 fun z4 => (if (16 : Int) < z4 then L33_1 n s1 true else atF s1 (0 : Int) fun z5 => (if z5 < z2 then L33_1 n s1 true else atF s1 (0 : Int) fun z6 => (if z3 < z6 then L33_1 n s1 true else bO1 (F12 n s1) fun b7 => L33_1 n s1 b7))))
set_option maxRecDepth 100000 in
set_option maxHeartbeats 40000000 in
theorem T33 (n : Nat) : ∀ ⦃s1 : ByteArray⦄ ⦃z2 : Int⦄ ⦃z3 : Int⦄ ⦃r1 : Bool⦄, F33 n s1 z2 z3 = some r1 →
    Trip Tryd.prog inv 33 [.d (.str s1), .d (.int .u8 z2), .d (.int .u8 z3)] [] (.v (.d (.bool r1))) [] [] := by
  intro s1 z2 z3 r1 h
  unfold F33 at h
  refine Trip.of tab_ok tab_one fol Tryd.func33 rfl (by kernel_rfl) rfl rfl rfl (fun M hM hI => ?_)
  try cbv
  refine seq_go ?_
  try cbv
  refine seq_go ?_
  try cbv
  refine seq_join (T := Nat × Bool) (fun t => ⟨[(0, .v (.d (.str s1))), (6, .v (.d (.bool false))), (30, .v (.d (.bool t.2)))], [], 768⟩) (fun t => t.1 ≤ n ∧ L33_1 t.1 s1 t.2 = some r1) ?_ ?_
  · try cbv
    refine splitS (fun e => ?_) (fun e => ?_)
    · replace h := ite_t (bytes_eq.1 e) h
      clear e
      try cbv
      exact join_next (n, true) [0, 6, 30] [] 768 ⟨by omega, h⟩ (by cbv)
    · replace h := ite_f (bytes_ne.1 e) h
      clear e
      try cbv
      replace h := szF_inv M h
      obtain ⟨z4, hz, h⟩ := h
      refine ⟨z4, hz, ?_⟩
      clear hz
      try cbv
      refine splitL (fun e => ?_) (fun e => ?_)
      · replace h := ite_t e h
        clear e
        try cbv
        exact join_next (n, true) [0, 6, 30] [] 768 ⟨by omega, h⟩ (by cbv)
      · replace h := ite_f (Int.not_lt.2 e) h
        clear e
        try cbv
        replace h := atF_inv h
        obtain ⟨z5, hz, h⟩ := h
        refine ⟨z5, hz, ?_⟩
        clear hz
        try cbv
        refine splitL (fun e => ?_) (fun e => ?_)
        · replace h := ite_t e h
          clear e
          try cbv
          exact join_next (n, true) [0, 6, 30] [] 768 ⟨by omega, h⟩ (by cbv)
        · replace h := ite_f (Int.not_lt.2 e) h
          clear e
          try cbv
          replace h := atF_inv h
          obtain ⟨z6, hz, h⟩ := h
          refine ⟨z6, hz, ?_⟩
          clear hz
          try cbv
          refine splitL (fun e => ?_) (fun e => ?_)
          · replace h := ite_t e h
            clear e
            try cbv
            exact join_next (n, true) [0, 6, 30] [] 768 ⟨by omega, h⟩ (by cbv)
          · replace h := ite_f (Int.not_lt.2 e) h
            clear e
            try cbv
            replace h := bO1_inv h
            obtain ⟨b7, hr, h⟩ := h
            refine call_go rfl rfl ?_
            try cbv
            refine call_pure hM hI (T12 _ hr) rfl ?_
            clear hr
            try cbv
            exact join_next (n, b7) [0, 6, 30] [] 768 ⟨by omega, h⟩ (by cbv)
  · clear h
    rintro ⟨m1, b8⟩ ⟨hm1, h⟩
    replace hm1 : m1 ≤ n := hm1
    cases m1 with
    | zero => cases (show (none : Option _) = some _ from h)
    | succ m1 =>
      replace h : L33_1 (m1 + 1) s1 b8 = some r1 := h
      rw [L33_1] at h
      try cbv
      cases b8
      · replace h := ite_f Bool.false_ne_true h
        try cbv
        refine seq_go ?_
        try cbv
        refine seq_go ?_
        try cbv
        refine loop_inv (T := Nat × Int) [0, 6, 7] [] 800 (fun t => ⟨[(0, .v (.d (.str s1))), (6, .v (.d (.bool false))), (7, .v (.d (.int .i64 t.2)))], [], 800⟩)
          (fun t => t.1 ≤ m1 ∧ L33_2 t.1 s1 t.2 = some r1) (fun t => t.1) (m1, (0 : Int)) ⟨Nat.le_refl _, h⟩ (by cbv) ?_
        clear h
        rintro ⟨m2, z9⟩ ⟨hm2, h⟩
        replace hm2 : m2 ≤ m1 := hm2
        cases m2 with
        | zero => cases (show (none : Option _) = some _ from h)
        | succ m2 =>
          replace h : L33_2 (m2 + 1) s1 z9 = some r1 := h
          rw [L33_2] at h
          try cbv
          refine seq_go ?_
          try cbv
          refine seq_join (T := Nat × Bool) (fun t => ⟨[(0, .v (.d (.str s1))), (6, .v (.d (.bool false))), (7, .v (.d (.int .i64 z9))), (34, .v (.d (.bool t.2)))], [], 928⟩) (fun t => t.1 ≤ m2 ∧ L33_3 t.1 s1 z9 t.2 = some r1) ?_ ?_
          · try cbv
            replace h := szF_inv M h
            obtain ⟨z10, hz, h⟩ := h
            refine ⟨z10, hz, ?_⟩
            clear hz
            try cbv
            refine splitL (fun e => ?_) (fun e => ?_)
            · replace h := ite_t e h
              clear e
              try cbv
              exact join_next (m2, true) [0, 6, 7, 34] [] 928 ⟨by omega, h⟩ (by cbv)
            · replace h := ite_f (Int.not_lt.2 e) h
              clear e
              try cbv
              exact join_next (m2, false) [0, 6, 7, 34] [] 928 ⟨by omega, h⟩ (by cbv)
          · clear h
            rintro ⟨m3, b11⟩ ⟨hm3, h⟩
            replace hm3 : m3 ≤ m2 := hm3
            cases m3 with
            | zero => cases (show (none : Option _) = some _ from h)
            | succ m3 =>
              replace h : L33_3 (m3 + 1) s1 z9 b11 = some r1 := h
              rw [L33_3] at h
              try cbv
              cases b11
              · replace h := ite_f Bool.false_ne_true h
                try cbv
                refine seq_go ?_
                try cbv
                obtain rfl := Option.some.inj h
                refine fin_go ?_
                try cbv
                exact ⟨[], rfl, rfl, trivial, trivial, trivial⟩
              · replace h := ite_t rfl h
                try cbv
                refine seq_go ?_
                try cbv
                refine seq_go ?_
                try cbv
                replace h := atF_inv h
                obtain ⟨z12, hz, h⟩ := h
                refine ⟨z12, hz, ?_⟩
                clear hz
                try cbv
                replace h := bO1_inv h
                obtain ⟨b13, hr, h⟩ := h
                refine call_go rfl rfl ?_
                try cbv
                refine call_pure hM hI (T53 _ hr) rfl ?_
                clear hr
                try cbv
                replace h := letB_inv h
                obtain ⟨b14, hz, h⟩ := h
                refine ⟨b14, not_eq' hz, ?_⟩
                clear hz
                try cbv
                cases b14
                · replace h := ite_f Bool.false_ne_true h
                  try cbv
                  replace h := letF_inv h
                  obtain ⟨z15, hz, h⟩ := h
                  refine ⟨z15, hz, ?_⟩
                  clear hz
                  try cbv
                  exact loop_next (m3, z15) [0, 6, 7] [] 800 ⟨by omega, h⟩ (Nat.lt_succ_of_le (by omega)) (by cbv)
                · replace h := ite_t rfl h
                  try cbv
                  refine seq_go ?_
                  try cbv
                  obtain rfl := Option.some.inj h
                  refine fin_go ?_
                  try cbv
                  exact ⟨[], rfl, rfl, trivial, trivial, trivial⟩
      · replace h := ite_t rfl h
        try cbv
        refine seq_go ?_
        try cbv
        obtain rfl := Option.some.inj h
        refine fin_go ?_
        try cbv
        exact ⟨[], rfl, rfl, trivial, trivial, trivial⟩
end Go.Proofs.YtjmofeakajdbiaaDoor
end

/- Printed by lift.py: functional texts of functions, and their contracts. No condition. -/
set_option linter.unusedVariables false
noncomputable section
namespace Go.Proofs.YtjmofeakajdbiaaDoor
open Go Go.AM
def F14 (n : Nat) (s1 : ByteArray) : Option (Bool) :=
  bO1 (F33 n s1 (97 : Int) (122 : Int)) fun b2 => some b2
set_option maxRecDepth 100000 in
set_option maxHeartbeats 40000000 in
theorem T14 (n : Nat) : ∀ ⦃s1 : ByteArray⦄ ⦃r1 : Bool⦄, F14 n s1 = some r1 →
    Trip Tryd.prog inv 14 [.d (.str s1)] [] (.v (.d (.bool r1))) [] [] := by
  intro s1 r1 h
  unfold F14 at h
  refine Trip.of tab_ok tab_one fol Tryd.func14 rfl (by kernel_rfl) rfl rfl rfl (fun M hM hI => ?_)
  try cbv
  refine seq_go ?_
  try cbv
  refine seq_go ?_
  try cbv
  replace h := bO1_inv h
  obtain ⟨b2, hr, h⟩ := h
  refine call_go rfl rfl ?_
  try cbv
  refine call_pure hM hI (T33 _ hr) rfl ?_
  clear hr
  try cbv
  obtain rfl := Option.some.inj h
  refine fin_go ?_
  try cbv
  exact ⟨[], rfl, rfl, trivial, trivial, trivial⟩
end Go.Proofs.YtjmofeakajdbiaaDoor
end

/- Printed by lift.py: functional texts of functions, and their contracts. No condition. -/
set_option linter.unusedVariables false
noncomputable section
namespace Go.Proofs.YtjmofeakajdbiaaDoor
open Go Go.AM
def F31x1 (n : Nat) (s1 : ByteArray) : Option (Bool) :=
  (if s1 = ByteArray.empty then some false else szF s1 fun z2 => (if z2 ≤ (16 : Int) then atF s1 (0 : Int) fun z3 => bO1 (F34 n z3) fun b4 => (if b4 = true then bO1 (F51 n s1) fun z5 => szF s1 fun z6 => (if z5 = z6 then bO1 (F11 n s1) fun b7 => letB (!b7) fun b8 => some b8 else some false) else some false) else some false))
set_option maxRecDepth 100000 in
set_option maxHeartbeats 40000000 in
theorem T31x1 (n : Nat) : ∀ ⦃s1 : ByteArray⦄ ⦃r1 : Bool⦄, F31x1 n s1 = some r1 →
    Trip Tryd.prog inv 31 [.d (.str s1), .c (.fn 34 [])] [] (.v (.d (.bool r1))) [] [] := by
  intro s1 r1 h
  unfold F31x1 at h
  refine Trip.of tab_ok tab_one fol Tryd.func31 rfl (by kernel_rfl) rfl rfl rfl (fun M hM hI => ?_)
  try cbv
  refine seq_go ?_
  try cbv
  refine seq_go ?_
  try cbv
  refine splitS (fun e => ?_) (fun e => ?_)
  · replace h := ite_t (bytes_eq.1 e) h
    clear e
    try cbv
    obtain rfl := Option.some.inj h
    refine fin_go ?_
    try cbv
    exact ⟨[], rfl, rfl, trivial, trivial, trivial⟩
  · replace h := ite_f (bytes_ne.1 e) h
    clear e
    try cbv
    replace h := szF_inv M h
    obtain ⟨z2, hz, h⟩ := h
    refine ⟨z2, hz, ?_⟩
    clear hz
    try cbv
    refine splitLe (fun e => ?_) (fun e => ?_)
    · replace h := ite_t e h
      clear e
      try cbv
      replace h := atF_inv h
      obtain ⟨z3, hz, h⟩ := h
      refine ⟨z3, hz, ?_⟩
      clear hz
      try cbv
      replace h := bO1_inv h
      obtain ⟨b4, hr, h⟩ := h
      refine call_go rfl rfl ?_
      try cbv
      refine call_pure hM hI (T34 _ hr) rfl ?_
      clear hr
      try cbv
      cases b4
      · replace h := ite_f Bool.false_ne_true h
        try cbv
        obtain rfl := Option.some.inj h
        refine fin_go ?_
        try cbv
        exact ⟨[], rfl, rfl, trivial, trivial, trivial⟩
      · replace h := ite_t rfl h
        try cbv
        replace h := bO1_inv h
        obtain ⟨z5, hr, h⟩ := h
        refine call_go rfl rfl ?_
        try cbv
        refine call_pure hM hI (T51 _ hr) rfl ?_
        clear hr
        try cbv
        replace h := szF_inv M h
        obtain ⟨z6, hz, h⟩ := h
        refine ⟨z6, hz, ?_⟩
        clear hz
        try cbv
        refine splitI (fun e => ?_) (fun e => ?_)
        · replace h := ite_t e h
          clear e
          try cbv
          replace h := bO1_inv h
          obtain ⟨b7, hr, h⟩ := h
          refine call_go rfl rfl ?_
          try cbv
          refine call_pure hM hI (T11 _ hr) rfl ?_
          clear hr
          try cbv
          replace h := letB_inv h
          obtain ⟨b8, hz, h⟩ := h
          refine ⟨b8, not_eq' hz, ?_⟩
          clear hz
          try cbv
          obtain rfl := Option.some.inj h
          refine fin_go ?_
          try cbv
          exact ⟨[], rfl, rfl, trivial, trivial, trivial⟩
        · replace h := ite_f e h
          clear e
          try cbv
          obtain rfl := Option.some.inj h
          refine fin_go ?_
          try cbv
          exact ⟨[], rfl, rfl, trivial, trivial, trivial⟩
    · replace h := ite_f (Int.not_le.2 e) h
      clear e
      try cbv
      obtain rfl := Option.some.inj h
      refine fin_go ?_
      try cbv
      exact ⟨[], rfl, rfl, trivial, trivial, trivial⟩
end Go.Proofs.YtjmofeakajdbiaaDoor
end

/- Printed by lift.py: functional texts of functions, and their contracts. No condition. -/
set_option linter.unusedVariables false
noncomputable section
namespace Go.Proofs.YtjmofeakajdbiaaDoor
open Go Go.AM
def F15 (n : Nat) (s1 : ByteArray) : Option (Bool) :=
  bO1 (F31x1 n s1) fun b2 => some b2
set_option maxRecDepth 100000 in
set_option maxHeartbeats 40000000 in
theorem T15 (n : Nat) : ∀ ⦃s1 : ByteArray⦄ ⦃r1 : Bool⦄, F15 n s1 = some r1 →
    Trip Tryd.prog inv 15 [.d (.str s1)] [] (.v (.d (.bool r1))) [] [] := by
  intro s1 r1 h
  unfold F15 at h
  refine Trip.of tab_ok tab_one fol Tryd.func15 rfl (by kernel_rfl) rfl rfl rfl (fun M hM hI => ?_)
  try cbv
  refine seq_go ?_
  try cbv
  refine seq_go ?_
  try cbv
  replace h := bO1_inv h
  obtain ⟨b2, hr, h⟩ := h
  refine call_go rfl rfl ?_
  try cbv
  refine call_pure hM hI (T31x1 _ hr) rfl ?_
  clear hr
  try cbv
  obtain rfl := Option.some.inj h
  refine fin_go ?_
  try cbv
  exact ⟨[], rfl, rfl, trivial, trivial, trivial⟩
end Go.Proofs.YtjmofeakajdbiaaDoor
end

/- Printed by lift.py: functional texts of functions, and their contracts. No condition. -/
set_option linter.unusedVariables false
noncomputable section
namespace Go.Proofs.YtjmofeakajdbiaaDoor
open Go Go.AM
def F16 (n : Nat) (s1 : ByteArray) : Option (Bool) :=
  bO1 (F33 n s1 (65 : Int) (90 : Int)) fun b2 => some b2
set_option maxRecDepth 100000 in
set_option maxHeartbeats 40000000 in
theorem T16 (n : Nat) : ∀ ⦃s1 : ByteArray⦄ ⦃r1 : Bool⦄, F16 n s1 = some r1 →
    Trip Tryd.prog inv 16 [.d (.str s1)] [] (.v (.d (.bool r1))) [] [] := by
  intro s1 r1 h
  unfold F16 at h
  refine Trip.of tab_ok tab_one fol Tryd.func16 rfl (by kernel_rfl) rfl rfl rfl (fun M hM hI => ?_)
  try cbv
  refine seq_go ?_
  try cbv
  refine seq_go ?_
  try cbv
  replace h := bO1_inv h
  obtain ⟨b2, hr, h⟩ := h
  refine call_go rfl rfl ?_
  try cbv
  refine call_pure hM hI (T33 _ hr) rfl ?_
  clear hr
  try cbv
  obtain rfl := Option.some.inj h
  refine fin_go ?_
  try cbv
  exact ⟨[], rfl, rfl, trivial, trivial, trivial⟩
end Go.Proofs.YtjmofeakajdbiaaDoor
end

/- Chapter 2, the plain law, part B: names and types. No condition. -/
set_option linter.unusedVariables false
noncomputable section
namespace Go.Proofs.YtjmofeakajdbiaaDoor
open Go Go.AM

def inZ (lo hi z : Int) : Bool := decide (lo ≤ z ∧ z ≤ hi)
def partZ (z : Int) : Bool := inZ 97 122 z || inZ 65 90 z || inZ 48 57 z || decide (z = 95)
def pB (b : UInt8) : Bool := partZ (b.toNat : Int)
theorem f32 (n : Nat) (z : Int) : F32 n z = some (inZ 97 122 z) := by
  unfold F32 inZ
  grind
theorem f34 (n : Nat) (z : Int) : F34 n z = some (inZ 65 90 z) := by
  unfold F34 inZ
  grind
theorem f67 (n : Nat) (z : Int) : F67 n z = some (inZ 48 57 z) := by
  unfold F67 inZ
  grind
theorem f52 (n : Nat) (z : Int) : F52 n z = some (partZ z) := by
  unfold F52 partZ
  rw [f32, f34, f67]
  simp only [bO1]
  cases inZ 97 122 z <;> cases inZ 65 90 z <;> cases inZ 48 57 z <;> grind
theorem f53 (n : Nat) (z : Int) : F53 n z = some (partZ z) := by
  unfold F53 partZ inZ
  grind

theorem pre_get {α : Type} {l pre rest : List α} {b : α} (h : pre ++ b :: rest = l) : l[pre.length]? = some b := by
  rw [← h, List.getElem?_append_right (Nat.le_refl _)]
  simp

/-- What stands ahead. -/
theorem evL51 {s : ByteArray} (hs : s.size ≤ maxLen) : ∀ (rest pre : List UInt8), pre ++ rest = bl s → Ev (fun n => L51_1 n s (pre.length : Int)) (((pre.length + (rest.takeWhile pB).length : Nat) : Int))
  | [], pre, h => by
    refine .succ (.succ (.of fun n => ?_))
    rw [L51_1, szF_eq, ← h, if_neg (by simp), L51_2, if_neg Bool.false_ne_true]
    simp
  | b :: rest, pre, h => by
    have hlt : pre.length < (bl s).length := by rw [← h]; simp
    have hb := pre_get h
    cases hp : pB b with
    | false =>
      refine .succ (.succ (.of fun n => ?_))
      rw [L51_1, szF_eq, if_pos (by omega), atF_get hb, f52]
      simp only [bO1]
      rw [show partZ (b.toNat : Int) = false from hp, L51_2, if_neg Bool.false_ne_true]
      simp [hp]
    | true =>
      have ih := evL51 hs rest (pre ++ [b]) (by simpa using h)
      have e : (pre ++ [b]).length + (rest.takeWhile pB).length = pre.length + ((b :: rest).takeWhile pB).length := by
        simp [hp]; omega
      rw [e] at ih
      refine .succ (.succ (ih.congr fun n => ?_))
      rw [L51_1, szF_eq, if_pos (by omega), atF_get hb, f52]
      simp only [bO1]
      rw [show partZ (b.toNat : Int) = true from hp, L51_2, if_pos rfl]
      simp only [letF]
      rw [wrap_succ (N := (bl s).length) hlt (by rw [← bl_len]; exact hs)]
      simp
theorem ev51 {s : ByteArray} (hs : s.size ≤ maxLen) : Ev (fun n => F51 n s) (((bl s).takeWhile pB).length : Int) := by
  have := evL51 hs (bl s) [] rfl
  unfold F51
  simpa using this

/-- A name whose first byte is of a sort. -/
def nm (lo hi : Int) (s : ByteArray) : Bool :=
  match bl s with
  | [] => false
  | b :: r => decide ((b :: r).length ≤ 16) && inZ lo hi (b.toNat : Int) && (b :: r).all pB && !word s
theorem takeWhile_all {α : Type} {p : α → Bool} : ∀ {l : List α}, ((l.takeWhile p).length = l.length) ↔ l.all p = true
  | [] => by simp
  | x :: l => by
    cases h : p x
    · simp [h]
    · simp [h, takeWhile_all (l := l)]
theorem empty_iff {s : ByteArray} : s = ByteArray.empty ↔ bl s = [] := by
  constructor
  · rintro rfl; rfl
  · intro h; exact bl_inj h
theorem ev_nm {G : Nat → Int → Option Bool} {lo hi : Int} (hG : ∀ n z, G n z = some (inZ lo hi z)) {s : ByteArray} (hs : s.size ≤ maxLen) :
    Ev (fun n => (if s = ByteArray.empty then some false else szF s fun z2 => (if z2 ≤ (16 : Int) then atF s (0 : Int) fun z3 => bO1 (G n z3) fun b4 => (if b4 = true then bO1 (F51 n s) fun z5 => szF s fun z6 => (if z5 = z6 then bO1 (F11 n s) fun b7 => letB (!b7) fun b8 => some b8 else some false) else some false) else some false))) (nm lo hi s) := by
  cases h : bl s with
  | nil =>
    have hr : nm lo hi s = false := by unfold nm; rw [h]
    rw [hr]
    exact .of fun n => by rw [if_pos (empty_iff.2 h)]
  | cons b r =>
    have hr : nm lo hi s = (decide ((b :: r).length ≤ 16) && inZ lo hi (b.toNat : Int) && (b :: r).all pB && !word s) := by unfold nm; rw [h]
    rw [hr]
    clear hr
    have hne : s ≠ ByteArray.empty := fun e => by rw [empty_iff.1 e] at h; cases h
    have hb : (bl s)[0]? = some b := by rw [h]; rfl
    by_cases hl : (b :: r).length ≤ 16
    · cases hz : inZ lo hi (b.toNat : Int) with
      | false =>
        refine .of fun n => ?_
        rw [if_neg hne, szF_eq, h, if_pos (by omega), show (0 : Int) = ((0 : Nat) : Int) from rfl, atF_get hb, hG, hz]
        simp [bO1]
      | true =>
        have step : ∀ r', Ev (fun n => bO1 (F51 n s) fun z5 => szF s fun z6 => (if z5 = z6 then bO1 (F11 n s) fun b7 => letB (!b7) fun b8 => some b8 else some false)) r' →
            Ev (fun n => (if s = ByteArray.empty then some false else szF s fun z2 => (if z2 ≤ (16 : Int) then atF s (0 : Int) fun z3 => bO1 (G n z3) fun b4 => (if b4 = true then bO1 (F51 n s) fun z5 => szF s fun z6 => (if z5 = z6 then bO1 (F11 n s) fun b7 => letB (!b7) fun b8 => some b8 else some false) else some false) else some false))) r' := fun r' hr => hr.congr fun n => by
          rw [if_neg hne, szF_eq (s := s) (k := fun z2 => if z2 ≤ (16 : Int) then _ else _), h, if_pos (by omega), show (0 : Int) = ((0 : Nat) : Int) from rfl, atF_get hb, hG, hz]
          simp [bO1]
        refine step _ (Ev.bO1 (ev51 hs) ?_)
        cases ha : (b :: r).all pB with
        | false =>
          refine .of fun n => ?_
          rw [szF_eq, if_neg]
          · simp
          · intro e
            have : ((bl s).takeWhile pB).length = (bl s).length := by omega
            rw [takeWhile_all, h, ha] at this
            cases this
        | true =>
          refine Ev.congr (A := fun n => bO1 (F11 n s) fun b7 => letB (!b7) fun b8 => some b8) ?_ fun n => ?_
          · refine Ev.bO1 (ev11 s) (.of fun n => ?_)
            simp only [letB, decide_eq_true hl, Bool.true_and]
          · rw [szF_eq, if_pos]
            have := takeWhile_all.2 (h ▸ ha : (bl s).all pB = true)
            omega
    · refine .of fun n => ?_
      rw [if_neg hne, szF_eq, h, if_neg (by omega), decide_eq_false hl]
      rfl
theorem ev31 {s : ByteArray} (hs : s.size ≤ maxLen) : Ev (fun n => F31 n s) (nm 97 122 s) := ev_nm f32 hs
theorem ev31x1 {s : ByteArray} (hs : s.size ≤ maxLen) : Ev (fun n => F31x1 n s) (nm 65 90 s) := ev_nm f34 hs
theorem ev13 {s : ByteArray} (hs : s.size ≤ maxLen) : Ev (fun n => F13 n s) (nm 97 122 s) := Ev.bO1 (ev31 hs) .ret
theorem ev15 {s : ByteArray} (hs : s.size ≤ maxLen) : Ev (fun n => F15 n s) (nm 65 90 s) := Ev.bO1 (ev31x1 hs) .ret

/-! ### the document's -/
theorem evL33 {s : ByteArray} (hs : s.size ≤ maxLen) : ∀ (rest pre : List UInt8), pre ++ rest = bl s → Ev (fun n => L33_2 n s (pre.length : Int)) (rest.all pB)
  | [], pre, h => by
    refine .succ (.succ (.of fun n => ?_))
    rw [L33_2, szF_eq, ← h, if_neg (by simp), L33_3, if_neg Bool.false_ne_true]
    simp
  | b :: rest, pre, h => by
    have hlt : pre.length < (bl s).length := by rw [← h]; simp
    have hb := pre_get h
    cases hp : pB b with
    | false =>
      refine .succ (.succ (.of fun n => ?_))
      rw [L33_2, szF_eq, if_pos (by omega), L33_3, if_pos rfl, atF_get hb, f53]
      simp only [bO1, letB]
      rw [show partZ (b.toNat : Int) = false from hp]
      simp [hp]
    | true =>
      have ih := evL33 hs rest (pre ++ [b]) (by simpa using h)
      refine .succ (.succ (Ev.congr (r := (b :: rest).all pB) (by simpa [hp] using ih) fun n => ?_))
      rw [L33_2, szF_eq, if_pos (by omega), L33_3, if_pos rfl, atF_get hb, f53]
      simp only [bO1, letB]
      rw [show partZ (b.toNat : Int) = true from hp]
      simp only [letF, Bool.not_true, Bool.false_eq_true, if_false]
      rw [wrap_succ (N := (bl s).length) hlt (by rw [← bl_len]; exact hs)]
      simp
theorem ev33 {s : ByteArray} (hs : s.size ≤ maxLen) (lo hi : Int) : Ev (fun n => F33 n s lo hi) (nm lo hi s) := by
  have t : ∀ n, L33_1 (n + 1) s true = some false := fun n => by rw [L33_1, if_pos rfl]
  cases h : bl s with
  | nil =>
    have hr : nm lo hi s = false := by unfold nm; rw [h]
    rw [hr]
    exact .succ (.of fun n => by unfold F33; rw [if_pos (empty_iff.2 h), t])
  | cons b r =>
    have hr : nm lo hi s = (decide ((b :: r).length ≤ 16) && inZ lo hi (b.toNat : Int) && (b :: r).all pB && !word s) := by unfold nm; rw [h]
    rw [hr]
    clear hr
    have hne : s ≠ ByteArray.empty := fun e => by rw [empty_iff.1 e] at h; cases h
    have hb : (bl s)[0]? = some b := by rw [h]; rfl
    have z0 : (0 : Int) = ((0 : Nat) : Int) := rfl
    by_cases hl : (b :: r).length ≤ 16
    · by_cases h1 : (b.toNat : Int) < lo
      · refine .succ (.of fun n => ?_)
        unfold F33
        rw [if_neg hne, szF_eq, h, if_neg (by omega), z0, atF_get hb, if_pos h1, t]
        simp [inZ, show ¬ lo ≤ (b.toNat : Int) by omega]
      · by_cases h2 : hi < (b.toNat : Int)
        · refine .succ (.of fun n => ?_)
          unfold F33
          rw [if_neg hne, szF_eq, h, if_neg (by omega), z0, atF_get hb, if_neg h1, atF_get hb, if_pos h2, t]
          simp [inZ, show ¬ (b.toNat : Int) ≤ hi by omega]
        · have hin : inZ lo hi (b.toNat : Int) = true := by simp [inZ]; omega
          refine Ev.congr (A := fun n => bO1 (F12 n s) fun b7 => L33_1 n s b7) (Ev.bO1 (ev12 s) ?_) fun n => ?_
          · cases hw : word s with
            | true => exact .succ (.of fun n => by rw [t]; simp)
            | false =>
              refine .succ ?_
              have h9 : Ev (fun n => L33_2 n s ((0 : Nat) : Int)) ((bl s).all pB) := evL33 hs (bl s) [] rfl
              have h8 : Ev (fun n => L33_1 (n + 1) s false) ((bl s).all pB) := h9.congr fun n => by rw [L33_1, if_neg Bool.false_ne_true]; rfl
              rw [h] at h8
              rw [decide_eq_true hl, hin, Bool.true_and, Bool.true_and, Bool.not_false, Bool.and_true]
              exact h8
          · unfold F33
            rw [if_neg hne, szF_eq, h, if_neg (by omega), z0, atF_get hb, if_neg h1, atF_get hb, if_neg h2]
    · refine .succ (.of fun n => ?_)
      unfold F33
      rw [if_neg hne, szF_eq, h, if_pos (by omega), t, decide_eq_false hl]
      rfl
theorem ev14 {s : ByteArray} (hs : s.size ≤ maxLen) : Ev (fun n => F14 n s) (nm 97 122 s) := Ev.bO1 (ev33 hs 97 122) .ret
theorem ev16 {s : ByteArray} (hs : s.size ≤ maxLen) : Ev (fun n => F16 n s) (nm 65 90 s) := Ev.bO1 (ev33 hs 65 90) .ret
end Go.Proofs.YtjmofeakajdbiaaDoor

/- Printed by lift.py: functional texts of functions, and their contracts. No condition. -/
set_option linter.unusedVariables false
noncomputable section
namespace Go.Proofs.YtjmofeakajdbiaaDoor
open Go Go.AM
def F66 (n : Nat) (z1 : Int) : Option (Bool) :=
  (if z1 = (10 : Int) then some false else some true)
set_option maxRecDepth 100000 in
set_option maxHeartbeats 40000000 in
theorem T66 (n : Nat) : ∀ ⦃z1 : Int⦄ ⦃r1 : Bool⦄, F66 n z1 = some r1 →
    Trip Tryd.prog inv 66 [.d (.int .u8 z1)] [] (.v (.d (.bool r1))) [] [] := by
  intro z1 r1 h
  unfold F66 at h
  refine Trip.of tab_ok tab_one fol Tryd.func66 rfl (by kernel_rfl) rfl rfl rfl (fun M hM hI => ?_)
  try cbv
  refine seq_go ?_
  try cbv
  refine seq_go ?_
  try cbv
  refine splitI (fun e => ?_) (fun e => ?_)
  · replace h := ite_t e h
    clear e
    try cbv
    obtain rfl := Option.some.inj h
    refine fin_go ?_
    try cbv
    exact ⟨[], rfl, rfl, trivial, trivial, trivial⟩
  · replace h := ite_f e h
    clear e
    try cbv
    obtain rfl := Option.some.inj h
    refine fin_go ?_
    try cbv
    exact ⟨[], rfl, rfl, trivial, trivial, trivial⟩
end Go.Proofs.YtjmofeakajdbiaaDoor
end

/- Printed by lift.py: functional texts of functions, and their contracts. No condition. -/
set_option linter.unusedVariables false
noncomputable section
namespace Go.Proofs.YtjmofeakajdbiaaDoor
open Go Go.AM
mutual
def L51x1_1 : Nat → ByteArray → Int → Option (Int)
  | 0, _, _ => none
  | n + 1, s1, z2 =>
    szF s1 fun z3 => (if z2 < z3 then atF s1 z2 fun z4 => bO1 (F66 n z4) fun b5 => L51x1_2 n s1 z2 b5 else L51x1_2 n s1 z2 false)
def L51x1_2 : Nat → ByteArray → Int → Bool → Option (Int)
  | 0, _, _, _ => none
  | n + 1, s1, z2, b6 =>
    (if b6 = true then letF (IntKind.wrap .i64 (z2 + 1)) fun z7 => L51x1_1 n s1 z7 else some z2)
end
def F51x1 (n : Nat) (s1 : ByteArray) : Option (Int) :=
  L51x1_1 n s1 (0 : Int)
set_option maxRecDepth 100000 in
set_option maxHeartbeats 40000000 in
theorem T51x1 (n : Nat) : ∀ ⦃s1 : ByteArray⦄ ⦃r1 : Int⦄, F51x1 n s1 = some r1 →
    Trip Tryd.prog inv 51 [.d (.str s1), .c (.fn 66 [])] [] (.v (.d (.int .i64 r1))) [] [] := by
  intro s1 r1 h
  unfold F51x1 at h
  refine Trip.of tab_ok tab_one fol Tryd.func51 rfl (by kernel_rfl) rfl rfl rfl (fun M hM hI => ?_)
  try cbv
  refine seq_go ?_
  try cbv
  refine seq_go ?_
  try cbv
  refine seq_go ?_
  try cbv
  refine loop_inv (T := Nat × Int) [0, 1, 4, 5] [] 64 (fun t => ⟨[(0, .v (.d (.str s1))), (1, .v (.c (.fn 66 []))), (4, .v (.d (.int .i64 0))), (5, .v (.d (.int .i64 t.2)))], [], 64⟩)
    (fun t => t.1 ≤ n ∧ L51x1_1 t.1 s1 t.2 = some r1) (fun t => t.1) (n, (0 : Int)) ⟨Nat.le_refl _, h⟩ (by cbv) ?_
  clear h
  rintro ⟨m1, z2⟩ ⟨hm1, h⟩
  replace hm1 : m1 ≤ n := hm1
  cases m1 with
  | zero => cases (show (none : Option _) = some _ from h)
  | succ m1 =>
    replace h : L51x1_1 (m1 + 1) s1 z2 = some r1 := h
    rw [L51x1_1] at h
    try cbv
    refine seq_go ?_
    try cbv
    refine seq_join (T := Nat × Bool) (fun t => ⟨[(0, .v (.d (.str s1))), (1, .v (.c (.fn 66 []))), (4, .v (.d (.int .i64 0))), (5, .v (.d (.int .i64 z2))), (16, .v (.d (.bool t.2)))], [], 416⟩) (fun t => t.1 ≤ m1 ∧ L51x1_2 t.1 s1 z2 t.2 = some r1) ?_ ?_
    · try cbv
      replace h := szF_inv M h
      obtain ⟨z3, hz, h⟩ := h
      refine ⟨z3, hz, ?_⟩
      clear hz
      try cbv
      refine splitL (fun e => ?_) (fun e => ?_)
      · replace h := ite_t e h
        clear e
        try cbv
        replace h := atF_inv h
        obtain ⟨z4, hz, h⟩ := h
        refine ⟨z4, hz, ?_⟩
        clear hz
        try cbv
        replace h := bO1_inv h
        obtain ⟨b5, hr, h⟩ := h
        refine call_go rfl rfl ?_
        try cbv
        refine call_pure hM hI (T66 _ hr) rfl ?_
        clear hr
        try cbv
        exact join_next (m1, b5) [0, 1, 4, 5, 16] [] 416 ⟨by omega, h⟩ (by cbv)
      · replace h := ite_f (Int.not_lt.2 e) h
        clear e
        try cbv
        exact join_next (m1, false) [0, 1, 4, 5, 16] [] 416 ⟨by omega, h⟩ (by cbv)
    · clear h
      rintro ⟨m2, b6⟩ ⟨hm2, h⟩
      replace hm2 : m2 ≤ m1 := hm2
      cases m2 with
      | zero => cases (show (none : Option _) = some _ from h)
      | succ m2 =>
        replace h : L51x1_2 (m2 + 1) s1 z2 b6 = some r1 := h
        rw [L51x1_2] at h
        try cbv
        cases b6
        · replace h := ite_f Bool.false_ne_true h
          try cbv
          refine seq_go ?_
          try cbv
          obtain rfl := Option.some.inj h
          refine fin_go ?_
          try cbv
          exact ⟨[], rfl, rfl, trivial, trivial, trivial⟩
        · replace h := ite_t rfl h
          try cbv
          replace h := letF_inv h
          obtain ⟨z7, hz, h⟩ := h
          refine ⟨z7, hz, ?_⟩
          clear hz
          try cbv
          exact loop_next (m2, z7) [0, 1, 4, 5] [] 64 ⟨by omega, h⟩ (Nat.lt_succ_of_le (by omega)) (by cbv)
end Go.Proofs.YtjmofeakajdbiaaDoor
end

/- Printed by lift.py: functional texts of functions, and their contracts. No condition. -/
set_option linter.unusedVariables false
noncomputable section
namespace Go.Proofs.YtjmofeakajdbiaaDoor
open Go Go.AM
mutual
def L48_1 : Nat → ByteArray → Int → Option (Int)
  | 0, _, _ => none
  | n + 1, s1, z2 =>
    szF s1 fun z3 => (if z2 < z3 then L48_2 n s1 z2 true else L48_2 n s1 z2 false)
def L48_2 : Nat → ByteArray → Int → Bool → Option (Int)
  | 0, _, _, _ => none
  | n + 1, s1, z2, b4 =>
    (if b4 = true then atF s1 z2 fun z5 => bO1 (F64 n k_____ z5) fun z6 => (if (0 : Int) ≤ z6 then L48_3 n s1 z2 true else L48_3 n s1 z2 false) else some z2)
def L48_3 : Nat → ByteArray → Int → Bool → Option (Int)
  | 0, _, _, _ => none
  | n + 1, s1, z2, b7 =>
    (if b7 = true then letF (IntKind.wrap .i64 (z2 + 1)) fun z8 => L48_1 n s1 z8 else subToF s1 z2 fun s9 => bO1 (F65 n s9 k____3) fun b10 => (if b10 = true then subToF s1 z2 fun s11 => bO1 (F51x1 n s11) fun z12 => letF (IntKind.wrap .i64 (z2 + z12)) fun z13 => L48_1 n s1 z13 else some z2))
end
def F48 (n : Nat) (s1 : ByteArray) : Option (Int) :=
  L48_1 n s1 (0 : Int)
set_option maxRecDepth 100000 in
set_option maxHeartbeats 40000000 in
theorem T48 (n : Nat) : ∀ ⦃s1 : ByteArray⦄ ⦃r1 : Int⦄, F48 n s1 = some r1 →
    Trip Tryd.prog inv 48 [.d (.str s1)] [] (.v (.d (.int .i64 r1))) [] [] := by
  intro s1 r1 h
  unfold F48 at h
  refine Trip.of tab_ok tab_one fol Tryd.func48 rfl (by kernel_rfl) rfl rfl rfl (fun M hM hI => ?_)
  try cbv
  refine seq_go ?_
  try cbv
  refine seq_go ?_
  try cbv
  refine seq_go ?_
  try cbv
  refine loop_inv (T := Nat × Int) [0, 2, 3] [] 64 (fun t => ⟨[(0, .v (.d (.str s1))), (2, .v (.d (.int .i64 0))), (3, .v (.d (.int .i64 t.2)))], [], 64⟩)
    (fun t => t.1 ≤ n ∧ L48_1 t.1 s1 t.2 = some r1) (fun t => t.1) (n, (0 : Int)) ⟨Nat.le_refl _, h⟩ (by cbv) ?_
  clear h
  rintro ⟨m1, z2⟩ ⟨hm1, h⟩
  replace hm1 : m1 ≤ n := hm1
  cases m1 with
  | zero => cases (show (none : Option _) = some _ from h)
  | succ m1 =>
    replace h : L48_1 (m1 + 1) s1 z2 = some r1 := h
    rw [L48_1] at h
    try cbv
    refine seq_go ?_
    try cbv
    refine seq_join (T := Nat × Bool) (fun t => ⟨[(0, .v (.d (.str s1))), (2, .v (.d (.int .i64 0))), (3, .v (.d (.int .i64 z2))), (7, .v (.d (.bool t.2)))], [], 192⟩) (fun t => t.1 ≤ m1 ∧ L48_2 t.1 s1 z2 t.2 = some r1) ?_ ?_
    · try cbv
      replace h := szF_inv M h
      obtain ⟨z3, hz, h⟩ := h
      refine ⟨z3, hz, ?_⟩
      clear hz
      try cbv
      refine splitL (fun e => ?_) (fun e => ?_)
      · replace h := ite_t e h
        clear e
        try cbv
        exact join_next (m1, true) [0, 2, 3, 7] [] 192 ⟨by omega, h⟩ (by cbv)
      · replace h := ite_f (Int.not_lt.2 e) h
        clear e
        try cbv
        exact join_next (m1, false) [0, 2, 3, 7] [] 192 ⟨by omega, h⟩ (by cbv)
    · clear h
      rintro ⟨m2, b4⟩ ⟨hm2, h⟩
      replace hm2 : m2 ≤ m1 := hm2
      cases m2 with
      | zero => cases (show (none : Option _) = some _ from h)
      | succ m2 =>
        replace h : L48_2 (m2 + 1) s1 z2 b4 = some r1 := h
        rw [L48_2] at h
        try cbv
        cases b4
        · replace h := ite_f Bool.false_ne_true h
          try cbv
          refine seq_go ?_
          try cbv
          obtain rfl := Option.some.inj h
          refine fin_go ?_
          try cbv
          exact ⟨[], rfl, rfl, trivial, trivial, trivial⟩
        · replace h := ite_t rfl h
          try cbv
          refine seq_join (T := Nat × Bool) (fun t => ⟨[(0, .v (.d (.str s1))), (2, .v (.d (.int .i64 0))), (3, .v (.d (.int .i64 z2))), (9, .v (.d (.bool t.2)))], [], 384⟩) (fun t => t.1 ≤ m2 ∧ L48_3 t.1 s1 z2 t.2 = some r1) ?_ ?_
          · try cbv
            replace h := atF_inv h
            obtain ⟨z5, hz, h⟩ := h
            refine ⟨z5, hz, ?_⟩
            clear hz
            try cbv
            replace h := bO1_inv h
            obtain ⟨z6, hr, h⟩ := h
            refine call_go rfl rfl ?_
            try cbv
            refine call_pure hM hI (T64 _ hr) rfl ?_
            clear hr
            try cbv
            refine splitLe (fun e => ?_) (fun e => ?_)
            · replace h := ite_t e h
              clear e
              try cbv
              exact join_next (m2, true) [0, 2, 3, 9] [] 384 ⟨by omega, h⟩ (by cbv)
            · replace h := ite_f (Int.not_le.2 e) h
              clear e
              try cbv
              exact join_next (m2, false) [0, 2, 3, 9] [] 384 ⟨by omega, h⟩ (by cbv)
          · clear h
            rintro ⟨m3, b7⟩ ⟨hm3, h⟩
            replace hm3 : m3 ≤ m2 := hm3
            cases m3 with
            | zero => cases (show (none : Option _) = some _ from h)
            | succ m3 =>
              replace h : L48_3 (m3 + 1) s1 z2 b7 = some r1 := h
              rw [L48_3] at h
              try cbv
              cases b7
              · replace h := ite_f Bool.false_ne_true h
                try cbv
                refine seq_go ?_
                try cbv
                replace h := subToF_inv M h
                obtain ⟨s9, hb, hz, h⟩ := h
                refine ⟨s9, hb, hz, ?_⟩
                clear hb hz
                try cbv
                replace h := bO1_inv h
                obtain ⟨b10, hr, h⟩ := h
                refine call_go rfl rfl ?_
                try cbv
                refine call_pure hM hI (T65 _ hr) rfl ?_
                clear hr
                try cbv
                cases b10
                · replace h := ite_f Bool.false_ne_true h
                  try cbv
                  refine seq_go ?_
                  try cbv
                  obtain rfl := Option.some.inj h
                  refine fin_go ?_
                  try cbv
                  exact ⟨[], rfl, rfl, trivial, trivial, trivial⟩
                · replace h := ite_t rfl h
                  try cbv
                  replace h := subToF_inv M h
                  obtain ⟨s11, hb, hz, h⟩ := h
                  refine ⟨s11, hb, hz, ?_⟩
                  clear hb hz
                  try cbv
                  replace h := bO1_inv h
                  obtain ⟨z12, hr, h⟩ := h
                  refine call_go rfl rfl ?_
                  try cbv
                  refine call_pure hM hI (T51x1 _ hr) rfl ?_
                  clear hr
                  try cbv
                  replace h := letF_inv h
                  obtain ⟨z13, hz, h⟩ := h
                  refine ⟨z13, hz, ?_⟩
                  clear hz
                  try cbv
                  exact loop_next (m3, z13) [0, 2, 3] [] 64 ⟨by omega, h⟩ (Nat.lt_succ_of_le (by omega)) (by cbv)
              · replace h := ite_t rfl h
                try cbv
                replace h := letF_inv h
                obtain ⟨z8, hz, h⟩ := h
                refine ⟨z8, hz, ?_⟩
                clear hz
                try cbv
                exact loop_next (m3, z8) [0, 2, 3] [] 64 ⟨by omega, h⟩ (Nat.lt_succ_of_le (by omega)) (by cbv)
end Go.Proofs.YtjmofeakajdbiaaDoor
end

/- Chapter 2, the plain law, part E: blanks and remarks; numerals; the token at the beginning. No condition. -/
set_option linter.unusedVariables false
noncomputable section
namespace Go.Proofs.YtjmofeakajdbiaaDoor
open Go Go.AM

/-! ### pieces of texts -/
def tx (l : List UInt8) : ByteArray := ⟨l.toArray⟩
theorem bl_tx (l : List UInt8) : bl (tx l) = l := by simp [bl, tx]
theorem tx_bl (s : ByteArray) : tx (bl s) = s := bl_inj (bl_tx _)
theorem bl_extract (s : ByteArray) (i j : Nat) : bl (s.extract i j) = ((bl s).take j).drop i := by
  simp [bl, List.drop_take]
theorem subToF_eq {γ : Type} {s : ByteArray} {i : Nat} {k : ByteArray → Option γ} (h : i ≤ (bl s).length) : subToF s (i : Int) k = k (tx ((bl s).drop i)) := by
  unfold subToF
  rw [if_pos (by rw [bl_len]; omega)]
  congr 1
  apply bl_inj
  rw [bl_extract, bl_tx, bl_len]
  simp
theorem subF_eq {γ : Type} {s : ByteArray} {i j : Nat} {k : ByteArray → Option γ} (h : i ≤ j) (hj : j ≤ (bl s).length) : subF s (i : Int) (j : Int) k = k (tx (((bl s).take j).drop i)) := by
  unfold subF
  rw [if_pos (by rw [bl_len]; omega)]
  congr 1
  apply bl_inj
  rw [bl_extract, bl_tx]
  simp
theorem wrapN {x : Nat} (h : x ≤ maxLen) {y : Int} (e : y = (x : Int)) : IntKind.i64.wrap y = (x : Int) := by
  rw [e]
  refine wrap_i64' ⟨by omega, ?_⟩
  have : maxLen ≤ 9223372036854775807 := by decide
  omega

/-! ### blanks and remarks -/
def blank (b : UInt8) : Bool := b == 32 || b == 9 || b == 10 || b == 13
/-- How many bytes of blanks and remarks stand at the beginning; are we in a remark? -/
def skipB : Bool → List UInt8 → Nat
  | _, [] => 0
  | true, b :: r => 1 + skipB (b != 10) r
  | false, b :: r => if blank b = true then 1 + skipB false r else if b = 47 ∧ r.head? = some 47 then 1 + skipB true r else 0
theorem skipB_le : ∀ (q : Bool) (l : List UInt8), skipB q l ≤ l.length
  | _, [] => by simp [skipB]
  | true, b :: r => by have := skipB_le (b != 10) r; simp [skipB]; omega
  | false, b :: r => by
    have h1 := skipB_le false r
    have h2 := skipB_le true r
    simp only [skipB, List.length_cons]
    split
    · omega
    · split <;> omega
theorem skip_remark : ∀ r : List UInt8, skipB true r = (r.takeWhile (· != 10)).length + skipB false (r.drop (r.takeWhile (· != 10)).length)
  | [] => by simp [skipB]
  | b :: r => by
    by_cases h : b = 10
    · subst h
      simp [skipB, blank]
    · have h' : (b != 10) = true := by simpa using h
      simp only [skipB, h', List.takeWhile_cons, if_true, List.length_cons, List.drop_succ_cons]
      rw [skip_remark r]
      omega

theorem f66 (n : Nat) (b : UInt8) : F66 n (b.toNat : Int) = some (b != 10) := by
  unfold F66
  by_cases h : b = 10
  · subst h; rfl
  · have : ¬ ((b.toNat : Int) = 10) := fun e => h (by
      have h2 : b.toNat = 10 := by omega
      exact UInt8.toNat_inj.1 h2)
    rw [if_neg this]
    simp [h]
theorem evL51x1 {s : ByteArray} (hs : s.size ≤ maxLen) : ∀ (rest pre : List UInt8), pre ++ rest = bl s → Ev (fun n => L51x1_1 n s (pre.length : Int)) (((pre.length + (rest.takeWhile (· != 10)).length : Nat) : Int))
  | [], pre, h => by
    refine .succ (.succ (.of fun n => ?_))
    rw [L51x1_1, szF_eq, ← h, if_neg (by simp), L51x1_2, if_neg Bool.false_ne_true]
    simp
  | b :: rest, pre, h => by
    have hlt : pre.length < (bl s).length := by rw [← h]; simp
    have hb := pre_get h
    cases hp : (b != 10) with
    | false =>
      refine .succ (.succ (.of fun n => ?_))
      rw [L51x1_1, szF_eq, if_pos (by omega), atF_get hb, f66]
      simp only [bO1, hp]
      rw [L51x1_2, if_neg Bool.false_ne_true]
      simp [List.takeWhile_cons, hp]
    | true =>
      have ih := evL51x1 hs rest (pre ++ [b]) (by simpa using h)
      have e : (pre ++ [b]).length + (rest.takeWhile (· != 10)).length = pre.length + ((b :: rest).takeWhile (· != 10)).length := by
        simp only [List.takeWhile_cons, hp, if_true, List.length_append, List.length_cons, List.length_nil]; omega
      rw [e] at ih
      refine .succ (.succ (ih.congr fun n => ?_))
      rw [L51x1_1, szF_eq, if_pos (by omega), atF_get hb, f66]
      simp only [bO1, hp]
      rw [L51x1_2, if_pos rfl]
      simp only [letF]
      rw [wrap_succ (N := (bl s).length) hlt (by rw [← bl_len]; exact hs)]
      simp
theorem ev51x1 {s : ByteArray} (hs : s.size ≤ maxLen) : Ev (fun n => F51x1 n s) (((bl s).takeWhile (· != 10)).length : Int) := by
  have := evL51x1 hs (bl s) [] rfl
  unfold F51x1
  simpa using this

theorem f64_blank (n : Nat) (b : UInt8) : ∃ z, F64 n k_____ (b.toNat : Int) = some z ∧ (decide ((0 : Int) ≤ z)) = blank b := by
  refine ⟨_, rfl, ?_⟩
  have e : (b.toNat : Int).toNat.toUInt8 = b := by
    rw [Int.toNat_natCast]
    exact UInt8.ofNat_toNat
  rw [e]
  show decide ((0 : Int) ≤ Lib.indexByte [32, 9, 10, 13] b) = blank b
  unfold blank
  by_cases h1 : (32 : UInt8) = b
  · subst h1; decide
  · by_cases h2 : (9 : UInt8) = b
    · subst h2; decide
    · by_cases h3 : (10 : UInt8) = b
      · subst h3; decide
      · by_cases h4 : (13 : UInt8) = b
        · subst h4; decide
        · simp [Lib.indexByte, h1, h2, h3, h4, Ne.symm h1, Ne.symm h2, Ne.symm h3, Ne.symm h4]
theorem hasPrefix_two (l : List UInt8) (a b : UInt8) : Lib.hasPrefix l [a, b] = (decide (l.head? = some a) && decide (l.tail.head? = some b)) := by
  match l with
  | [] => simp [Lib.hasPrefix]
  | [x] =>
    simp [Lib.hasPrefix, List.isPrefixOf]
  | x :: y :: r =>
    have e : ∀ u v : UInt8, (u == v) = decide (v = u) := fun u v => by
      by_cases h : u = v
      · subst h; simp
      · have h' : ¬ v = u := fun e => h e.symm
        simp [h, h']
    show (a == x && (b == y && List.isPrefixOf [] r)) = _
    simp [e]
theorem evL48 {s : ByteArray} (hs : s.size ≤ maxLen) : ∀ (m : Nat) (rest pre : List UInt8), rest.length ≤ m → pre ++ rest = bl s → Ev (fun n => L48_1 n s (pre.length : Int)) (((pre.length + skipB false rest : Nat) : Int)) := by
  have hN : (bl s).length ≤ maxLen := by rw [← bl_len]; exact hs
  intro m
  induction m with
  | zero =>
    intro rest pre hm h
    have : rest = [] := List.eq_nil_of_length_eq_zero (by omega)
    subst this
    refine .succ (.succ (.of fun n => ?_))
    rw [L48_1, szF_eq, ← h, if_neg (by simp), L48_2, if_neg Bool.false_ne_true]
    simp [skipB]
  | succ m ih =>
    intro rest pre hm h
    match rest, hm, h with
    | [], _, h =>
      refine .succ (.succ (.of fun n => ?_))
      rw [L48_1, szF_eq, ← h, if_neg (by simp), L48_2, if_neg Bool.false_ne_true]
      simp [skipB]
    | b :: rest, hm, h =>
      have hlt : pre.length < (bl s).length := by rw [← h]; simp
      have hb := pre_get h
      simp at hm
      have open2 : ∀ n, L48_1 (n + 2) s (pre.length : Int) = bO1 (F64 n k_____ (b.toNat : Int)) fun z6 => (if (0 : Int) ≤ z6 then L48_3 n s (pre.length : Int) true else L48_3 n s (pre.length : Int) false) := fun n => by
        rw [L48_1, szF_eq, if_pos (by omega), L48_2, if_pos rfl, atF_get hb]
      cases hbl : blank b with
      | true =>
        have ih' := ih rest (pre ++ [b]) (by omega) (by simpa using h)
        refine .succ (.succ (.succ (Ev.congr (A := fun n => L48_1 n s ((pre ++ [b]).length : Int)) (r := ((pre.length + skipB false (b :: rest) : Nat) : Int)) ?_ fun n => ?_)))
        · have e : (pre ++ [b]).length + skipB false rest = pre.length + skipB false (b :: rest) := by simp [skipB, hbl]; omega
          rw [← e]; exact ih'
        · rw [open2]
          obtain ⟨z, hz, hz'⟩ := f64_blank (n + 1) b
          rw [hz, hbl] at *
          simp only [bO1]
          rw [if_pos (by simpa using hz'), L48_3, if_pos rfl]
          simp only [letF]
          rw [wrap_succ (N := (bl s).length) hlt hN]
          simp
      | false =>
        have open3 : ∀ n, L48_1 (n + 3) s (pre.length : Int) = bO1 (F65 n (tx (b :: rest)) k____3) fun b10 => (if b10 = true then subToF s (pre.length : Int) fun s11 => bO1 (F51x1 n s11) fun z12 => letF (IntKind.wrap .i64 ((pre.length : Int) + z12)) fun z13 => L48_1 n s z13 else some (pre.length : Int)) := fun n => by
          rw [open2]
          obtain ⟨z, hz, hz'⟩ := f64_blank (n + 1) b
          rw [hz]
          rw [hbl] at hz'
          simp only [bO1]
          rw [if_neg (by simpa using hz'), L48_3, if_neg Bool.false_ne_true, subToF_eq (by omega), ← h]
          simp [bO1]
        have hpre : ∀ n, F65 n (tx (b :: rest)) k____3 = some (decide (b = 47) && decide (rest.head? = some 47)) := fun n => by
          have : F65 n (tx (b :: rest)) k____3 = some (Lib.hasPrefix (bl (tx (b :: rest))) [47, 47]) := rfl
          rw [this, bl_tx, hasPrefix_two]
          refine congrArg some (Bool.eq_iff_iff.2 ?_)
          simp
          intro _
          exact decide_eq_true_iff
        by_cases hr : b = 47 ∧ rest.head? = some 47
        · obtain ⟨k, hkd⟩ : ∃ k, k = ((b :: rest).takeWhile (· != 10)).length := ⟨_, rfl⟩
          have hk : k = 1 + (rest.takeWhile (· != 10)).length := by
            rw [hkd, List.takeWhile_cons, hr.1]
            simp; omega
          have hkl : k ≤ (b :: rest).length := by
            rw [hkd]
            exact (List.takeWhile_sublist _).length_le
          have hkl' : k ≤ rest.length + 1 := by simpa using hkl
          have ih' := ih ((b :: rest).drop k) (pre ++ (b :: rest).take k) (by rw [List.length_drop, List.length_cons]; omega) (by rw [List.append_assoc, List.take_append_drop]; exact h)
          have hl : (pre ++ (b :: rest).take k).length = pre.length + k := by rw [List.length_append, List.length_take, Nat.min_eq_left hkl]
          rw [hl] at ih'
          have e : pre.length + k + skipB false ((b :: rest).drop k) = pre.length + skipB false (b :: rest) := by
            have : skipB false (b :: rest) = 1 + skipB true rest := by
              show (if blank b = true then _ else if b = 47 ∧ rest.head? = some 47 then _ else 0) = _
              rw [if_neg (by rw [hbl]; decide), if_pos hr]
            rw [this, skip_remark, hk]
            rw [show 1 + (rest.takeWhile (· != 10)).length = (rest.takeWhile (· != 10)).length + 1 by omega, List.drop_succ_cons]
            omega
          rw [e] at ih'
          refine .succ (.succ (.succ (Ev.congr (A := fun n => bO1 (F51x1 n (tx (b :: rest))) fun z12 => letF (IntKind.wrap .i64 ((pre.length : Int) + z12)) fun z13 => L48_1 n s z13) ?_ fun n => ?_)))
          · have hsz : (tx (b :: rest)).size ≤ maxLen := by
              rw [bl_len, bl_tx]
              have := congrArg List.length h
              simp at this ⊢; omega
            have h51 := ev51x1 hsz
            rw [bl_tx, ← hkd] at h51
            refine Ev.bO1 h51 (ih'.congr fun n => ?_)
            simp only [letF]
            rw [wrapN (x := pre.length + k) (by have := congrArg List.length h; simp at this; omega) (by omega)]
          · rw [open3, hpre]
            simp only [bO1, hr.1, hr.2, decide_true, Bool.and_self, if_true]
            rw [subToF_eq (by omega), ← h]
            simp [bO1, hr.1]
        · refine .succ (.succ (.succ (.of fun n => ?_)))
          rw [open3, hpre]
          have : (decide (b = 47) && decide (rest.head? = some 47)) = false := by
            simpa using hr
          rw [this]
          simp [bO1, skipB, hbl, hr]
theorem ev48 {s : ByteArray} (hs : s.size ≤ maxLen) : Ev (fun n => F48 n s) ((skipB false (bl s) : Nat) : Int) := by
  have := evL48 hs (bl s).length (bl s) [] (Nat.le_refl _) rfl
  unfold F48
  simpa using this
end Go.Proofs.YtjmofeakajdbiaaDoor

/- Printed by lift.py: functional texts of functions, and their contracts. No condition. -/
set_option linter.unusedVariables false
noncomputable section
namespace Go.Proofs.YtjmofeakajdbiaaDoor
open Go Go.AM
mutual
def L51x2_1 : Nat → ByteArray → Int → Option (Int)
  | 0, _, _ => none
  | n + 1, s1, z2 =>
    szF s1 fun z3 => (if z2 < z3 then atF s1 z2 fun z4 => bO1 (F67 n z4) fun b5 => L51x2_2 n s1 z2 b5 else L51x2_2 n s1 z2 false)
def L51x2_2 : Nat → ByteArray → Int → Bool → Option (Int)
  | 0, _, _, _ => none
  | n + 1, s1, z2, b6 =>
    (if b6 = true then letF (IntKind.wrap .i64 (z2 + 1)) fun z7 => L51x2_1 n s1 z7 else some z2)
end
def F51x2 (n : Nat) (s1 : ByteArray) : Option (Int) :=
  L51x2_1 n s1 (0 : Int)
set_option maxRecDepth 100000 in
set_option maxHeartbeats 40000000 in
theorem T51x2 (n : Nat) : ∀ ⦃s1 : ByteArray⦄ ⦃r1 : Int⦄, F51x2 n s1 = some r1 →
    Trip Tryd.prog inv 51 [.d (.str s1), .c (.fn 67 [])] [] (.v (.d (.int .i64 r1))) [] [] := by
  intro s1 r1 h
  unfold F51x2 at h
  refine Trip.of tab_ok tab_one fol Tryd.func51 rfl (by kernel_rfl) rfl rfl rfl (fun M hM hI => ?_)
  try cbv
  refine seq_go ?_
  try cbv
  refine seq_go ?_
  try cbv
  refine seq_go ?_
  try cbv
  refine loop_inv (T := Nat × Int) [0, 1, 4, 5] [] 64 (fun t => ⟨[(0, .v (.d (.str s1))), (1, .v (.c (.fn 67 []))), (4, .v (.d (.int .i64 0))), (5, .v (.d (.int .i64 t.2)))], [], 64⟩)
    (fun t => t.1 ≤ n ∧ L51x2_1 t.1 s1 t.2 = some r1) (fun t => t.1) (n, (0 : Int)) ⟨Nat.le_refl _, h⟩ (by cbv) ?_
  clear h
  rintro ⟨m1, z2⟩ ⟨hm1, h⟩
  replace hm1 : m1 ≤ n := hm1
  cases m1 with
  | zero => cases (show (none : Option _) = some _ from h)
  | succ m1 =>
    replace h : L51x2_1 (m1 + 1) s1 z2 = some r1 := h
    rw [L51x2_1] at h
    try cbv
    refine seq_go ?_
    try cbv
    refine seq_join (T := Nat × Bool) (fun t => ⟨[(0, .v (.d (.str s1))), (1, .v (.c (.fn 67 []))), (4, .v (.d (.int .i64 0))), (5, .v (.d (.int .i64 z2))), (16, .v (.d (.bool t.2)))], [], 416⟩) (fun t => t.1 ≤ m1 ∧ L51x2_2 t.1 s1 z2 t.2 = some r1) ?_ ?_
    · try cbv
      replace h := szF_inv M h
      obtain ⟨z3, hz, h⟩ := h
      refine ⟨z3, hz, ?_⟩
      clear hz
      try cbv
      refine splitL (fun e => ?_) (fun e => ?_)
      · replace h := ite_t e h
        clear e
        try cbv
        replace h := atF_inv h
        obtain ⟨z4, hz, h⟩ := h
        refine ⟨z4, hz, ?_⟩
        clear hz
        try cbv
        replace h := bO1_inv h
        obtain ⟨b5, hr, h⟩ := h
        refine call_go rfl rfl ?_
        try cbv
        refine call_pure hM hI (T67 _ hr) rfl ?_
        clear hr
        try cbv
        exact join_next (m1, b5) [0, 1, 4, 5, 16] [] 416 ⟨by omega, h⟩ (by cbv)
      · replace h := ite_f (Int.not_lt.2 e) h
        clear e
        try cbv
        exact join_next (m1, false) [0, 1, 4, 5, 16] [] 416 ⟨by omega, h⟩ (by cbv)
    · clear h
      rintro ⟨m2, b6⟩ ⟨hm2, h⟩
      replace hm2 : m2 ≤ m1 := hm2
      cases m2 with
      | zero => cases (show (none : Option _) = some _ from h)
      | succ m2 =>
        replace h : L51x2_2 (m2 + 1) s1 z2 b6 = some r1 := h
        rw [L51x2_2] at h
        try cbv
        cases b6
        · replace h := ite_f Bool.false_ne_true h
          try cbv
          refine seq_go ?_
          try cbv
          obtain rfl := Option.some.inj h
          refine fin_go ?_
          try cbv
          exact ⟨[], rfl, rfl, trivial, trivial, trivial⟩
        · replace h := ite_t rfl h
          try cbv
          replace h := letF_inv h
          obtain ⟨z7, hz, h⟩ := h
          refine ⟨z7, hz, ?_⟩
          clear hz
          try cbv
          exact loop_next (m2, z7) [0, 1, 4, 5] [] 64 ⟨by omega, h⟩ (Nat.lt_succ_of_le (by omega)) (by cbv)
end Go.Proofs.YtjmofeakajdbiaaDoor
end

/- Printed by lift.py: functional texts of functions, and their contracts. No condition. -/
set_option linter.unusedVariables false
noncomputable section
namespace Go.Proofs.YtjmofeakajdbiaaDoor
open Go Go.AM
mutual
def L79_1 : Nat → ByteArray → Bool → Int → Int → Option (Bool)
  | 0, _, _, _, _ => none
  | n + 1, s1, b2, z3, z4 =>
    (if z4 < z3 then L79_2 n s1 b2 z3 z4 true else L79_2 n s1 b2 z3 z4 false)
def L79_2 : Nat → ByteArray → Bool → Int → Int → Bool → Option (Bool)
  | 0, _, _, _, _, _ => none
  | n + 1, s1, b2, z3, z4, b5 =>
    (if b5 = true then atF s1 z4 fun z6 => (if z6 < (48 : Int) then L79_3 n s1 b2 z3 z4 true else atF s1 z4 fun z7 => (if (57 : Int) < z7 then L79_3 n s1 b2 z3 z4 true else L79_3 n s1 b2 z3 z4 false)) else (if s1 = ByteArray.empty then some false else letB (!b2) fun b10 => (if b10 = true then some true else atF s1 (0 : Int) fun z11 => (if z11 = (48 : Int) then some false else some true))))
def L79_3 : Nat → ByteArray → Bool → Int → Int → Bool → Option (Bool)
  | 0, _, _, _, _, _ => none
  | n + 1, s1, b2, z3, z4, b8 =>
    (if b8 = true then some false else letF (IntKind.wrap .i64 (z4 + 1)) fun z9 => L79_1 n s1 b2 z3 z9)
end
def F79 (n : Nat) (s1 : ByteArray) (b2 : Bool) : Option (Bool) :=
  szF s1 fun z3 => L79_1 n s1 b2 z3 (0 : Int)
set_option maxRecDepth 100000 in
set_option maxHeartbeats 40000000 in
theorem T79 (n : Nat) : ∀ ⦃s1 : ByteArray⦄ ⦃b2 : Bool⦄ ⦃r1 : Bool⦄, F79 n s1 b2 = some r1 →
    Trip Tryd.prog inv 79 [.d (.str s1), .d (.bool b2)] [] (.v (.d (.bool r1))) [] [] := by
  intro s1 b2 r1 h
  unfold F79 at h
  refine Trip.of tab_ok tab_one fol Tryd.func79 rfl (by kernel_rfl) rfl rfl rfl (fun M hM hI => ?_)
  try cbv
  refine seq_go ?_
  try cbv
  refine seq_go ?_
  try cbv
  refine seq_go ?_
  try cbv
  replace h := szF_inv M h
  obtain ⟨z3, hz, h⟩ := h
  refine ⟨z3, hz, ?_⟩
  clear hz
  try cbv
  refine loop_inv (T := Nat × Int) [0, 1, 4, 7, 8] [] 128 (fun t => ⟨[(0, .v (.d (.str s1))), (1, .v (.d (.bool b2))), (4, .v (.d (.bool false))), (7, .v (.d (.int .i64 z3))), (8, .v (.d (.int .i64 t.2)))], [], 128⟩)
    (fun t => t.1 ≤ n ∧ L79_1 t.1 s1 b2 z3 t.2 = some r1) (fun t => t.1) (n, (0 : Int)) ⟨Nat.le_refl _, h⟩ (by cbv) ?_
  clear h
  rintro ⟨m1, z4⟩ ⟨hm1, h⟩
  replace hm1 : m1 ≤ n := hm1
  cases m1 with
  | zero => cases (show (none : Option _) = some _ from h)
  | succ m1 =>
    replace h : L79_1 (m1 + 1) s1 b2 z3 z4 = some r1 := h
    rw [L79_1] at h
    try cbv
    refine seq_join (T := Nat × Bool) (fun t => ⟨[(0, .v (.d (.str s1))), (1, .v (.d (.bool b2))), (4, .v (.d (.bool false))), (7, .v (.d (.int .i64 z3))), (8, .v (.d (.int .i64 z4))), (9, .v (.d (.bool t.2)))], [], 160⟩) (fun t => t.1 ≤ m1 ∧ L79_2 t.1 s1 b2 z3 z4 t.2 = some r1) ?_ ?_
    · try cbv
      refine splitL (fun e => ?_) (fun e => ?_)
      · replace h := ite_t e h
        clear e
        try cbv
        exact join_next (m1, true) [0, 1, 4, 7, 8, 9] [] 160 ⟨by omega, h⟩ (by cbv)
      · replace h := ite_f (Int.not_lt.2 e) h
        clear e
        try cbv
        exact join_next (m1, false) [0, 1, 4, 7, 8, 9] [] 160 ⟨by omega, h⟩ (by cbv)
    · clear h
      rintro ⟨m2, b5⟩ ⟨hm2, h⟩
      replace hm2 : m2 ≤ m1 := hm2
      cases m2 with
      | zero => cases (show (none : Option _) = some _ from h)
      | succ m2 =>
        replace h : L79_2 (m2 + 1) s1 b2 z3 z4 b5 = some r1 := h
        rw [L79_2] at h
        try cbv
        refine seq_go ?_
        try cbv
        cases b5
        · replace h := ite_f Bool.false_ne_true h
          try cbv
          refine seq_go ?_
          try cbv
          refine splitS (fun e => ?_) (fun e => ?_)
          · replace h := ite_t (bytes_eq.1 e) h
            clear e
            try cbv
            obtain rfl := Option.some.inj h
            refine fin_go ?_
            try cbv
            exact ⟨[], rfl, rfl, trivial, trivial, trivial⟩
          · replace h := ite_f (bytes_ne.1 e) h
            clear e
            try cbv
            replace h := letB_inv h
            obtain ⟨b10, hz, h⟩ := h
            refine ⟨b10, not_eq' hz, ?_⟩
            clear hz
            try cbv
            cases b10
            · replace h := ite_f Bool.false_ne_true h
              try cbv
              replace h := atF_inv h
              obtain ⟨z11, hz, h⟩ := h
              refine ⟨z11, hz, ?_⟩
              clear hz
              try cbv
              refine splitI (fun e => ?_) (fun e => ?_)
              · replace h := ite_t e h
                clear e
                try cbv
                obtain rfl := Option.some.inj h
                refine fin_go ?_
                try cbv
                exact ⟨[], rfl, rfl, trivial, trivial, trivial⟩
              · replace h := ite_f e h
                clear e
                try cbv
                obtain rfl := Option.some.inj h
                refine fin_go ?_
                try cbv
                exact ⟨[], rfl, rfl, trivial, trivial, trivial⟩
            · replace h := ite_t rfl h
              try cbv
              obtain rfl := Option.some.inj h
              refine fin_go ?_
              try cbv
              exact ⟨[], rfl, rfl, trivial, trivial, trivial⟩
        · replace h := ite_t rfl h
          try cbv
          refine seq_go ?_
          try cbv
          refine seq_go ?_
          try cbv
          refine seq_join (T := Nat × Bool) (fun t => ⟨[(0, .v (.d (.str s1))), (1, .v (.d (.bool b2))), (4, .v (.d (.bool false))), (7, .v (.d (.int .i64 z3))), (8, .v (.d (.int .i64 z4))), (20, .v (.d (.bool t.2)))], [], 544⟩) (fun t => t.1 ≤ m2 ∧ L79_3 t.1 s1 b2 z3 z4 t.2 = some r1) ?_ ?_
          · try cbv
            replace h := atF_inv h
            obtain ⟨z6, hz, h⟩ := h
            refine ⟨z6, hz, ?_⟩
            clear hz
            try cbv
            refine splitL (fun e => ?_) (fun e => ?_)
            · replace h := ite_t e h
              clear e
              try cbv
              exact join_next (m2, true) [0, 1, 4, 7, 8, 20] [] 544 ⟨by omega, h⟩ (by cbv)
            · replace h := ite_f (Int.not_lt.2 e) h
              clear e
              try cbv
              replace h := atF_inv h
              obtain ⟨z7, hz, h⟩ := h
              refine ⟨z7, hz, ?_⟩
              clear hz
              try cbv
              refine splitL (fun e => ?_) (fun e => ?_)
              · replace h := ite_t e h
                clear e
                try cbv
                exact join_next (m2, true) [0, 1, 4, 7, 8, 20] [] 544 ⟨by omega, h⟩ (by cbv)
              · replace h := ite_f (Int.not_lt.2 e) h
                clear e
                try cbv
                exact join_next (m2, false) [0, 1, 4, 7, 8, 20] [] 544 ⟨by omega, h⟩ (by cbv)
          · clear h
            rintro ⟨m3, b8⟩ ⟨hm3, h⟩
            replace hm3 : m3 ≤ m2 := hm3
            cases m3 with
            | zero => cases (show (none : Option _) = some _ from h)
            | succ m3 =>
              replace h : L79_3 (m3 + 1) s1 b2 z3 z4 b8 = some r1 := h
              rw [L79_3] at h
              try cbv
              cases b8
              · replace h := ite_f Bool.false_ne_true h
                try cbv
                replace h := letF_inv h
                obtain ⟨z9, hz, h⟩ := h
                refine ⟨z9, hz, ?_⟩
                clear hz
                try cbv
                exact loop_next (m3, z9) [0, 1, 4, 7, 8] [] 128 ⟨by omega, h⟩ (Nat.lt_succ_of_le (by omega)) (by cbv)
              · replace h := ite_t rfl h
                try cbv
                refine seq_go ?_
                try cbv
                obtain rfl := Option.some.inj h
                refine fin_go ?_
                try cbv
                exact ⟨[], rfl, rfl, trivial, trivial, trivial⟩
end Go.Proofs.YtjmofeakajdbiaaDoor
end

/- Printed by lift.py: functional texts of functions, and their contracts. No condition. -/
set_option linter.unusedVariables false
noncomputable section
namespace Go.Proofs.YtjmofeakajdbiaaDoor
open Go Go.AM
def F80 (n : Nat) (b1 : Bool) (z2 : Int) (b3 : Bool) (z4 : Int) : Option (Bool × Int × Bool) :=
  bO2 (F86 n z2 z4) fun z5 z6 => letB (!(b1 == b3)) fun b7 => (if b7 = true then (if (0 : Int) < z6 then (if z5 = (0 : Int) then some (true, z6, true) else some (true, z6, false)) else (if z5 = (0 : Int) then some (false, z6, true) else some (false, z6, false))) else (if z5 = (0 : Int) then some (false, z6, true) else some (false, z6, false)))
set_option maxRecDepth 100000 in
set_option maxHeartbeats 40000000 in
theorem T80 (n : Nat) : ∀ ⦃b1 : Bool⦄ ⦃z2 : Int⦄ ⦃b3 : Bool⦄ ⦃z4 : Int⦄ ⦃r1 : Bool⦄ ⦃r2 : Int⦄ ⦃r3 : Bool⦄, F80 n b1 z2 b3 z4 = some (r1, r2, r3) →
    Trip Tryd.prog inv 80 [.d (.agg [.bool b1, .int .u64 z2]), .d (.agg [.bool b3, .int .u64 z4])] [] (.t [.d (.agg [.bool r1, .int .u64 r2]), .d (.bool r3)]) [] [] := by
  intro b1 z2 b3 z4 r1 r2 r3 h
  unfold F80 at h
  refine Trip.of tab_ok tab_one fol Tryd.func80 rfl (by kernel_rfl) rfl rfl rfl (fun M hM hI => ?_)
  try cbv
  refine seq_go ?_
  try cbv
  refine seq_go ?_
  try cbv
  replace h := bO2_inv h
  obtain ⟨z5, z6, hr, h⟩ := h
  refine call_go rfl rfl ?_
  try cbv
  refine call_pure hM hI (T86 _ hr) rfl ?_
  clear hr
  try cbv
  refine seq_go ?_
  try cbv
  replace h := letB_inv h
  obtain ⟨b7, hz, h⟩ := h
  refine ⟨b7, eqv_ne hz, ?_⟩
  clear hz
  try cbv
  cases b7
  · replace h := ite_f Bool.false_ne_true h
    try cbv
    refine splitI (fun e => ?_) (fun e => ?_)
    · replace h := ite_t e h
      clear e
      try cbv
      obtain ⟨rfl, rfl, rfl⟩ := inj3 h
      refine fin_go ?_
      try cbv
      exact ⟨[], rfl, rfl, trivial, trivial, trivial⟩
    · replace h := ite_f e h
      clear e
      try cbv
      obtain ⟨rfl, rfl, rfl⟩ := inj3 h
      refine fin_go ?_
      try cbv
      exact ⟨[], rfl, rfl, trivial, trivial, trivial⟩
  · replace h := ite_t rfl h
    try cbv
    refine splitL (fun e => ?_) (fun e => ?_)
    · replace h := ite_t e h
      clear e
      try cbv
      refine splitI (fun e => ?_) (fun e => ?_)
      · replace h := ite_t e h
        clear e
        try cbv
        obtain ⟨rfl, rfl, rfl⟩ := inj3 h
        refine fin_go ?_
        try cbv
        exact ⟨[], rfl, rfl, trivial, trivial, trivial⟩
      · replace h := ite_f e h
        clear e
        try cbv
        obtain ⟨rfl, rfl, rfl⟩ := inj3 h
        refine fin_go ?_
        try cbv
        exact ⟨[], rfl, rfl, trivial, trivial, trivial⟩
    · replace h := ite_f (Int.not_lt.2 e) h
      clear e
      try cbv
      refine splitI (fun e => ?_) (fun e => ?_)
      · replace h := ite_t e h
        clear e
        try cbv
        obtain ⟨rfl, rfl, rfl⟩ := inj3 h
        refine fin_go ?_
        try cbv
        exact ⟨[], rfl, rfl, trivial, trivial, trivial⟩
      · replace h := ite_f e h
        clear e
        try cbv
        obtain ⟨rfl, rfl, rfl⟩ := inj3 h
        refine fin_go ?_
        try cbv
        exact ⟨[], rfl, rfl, trivial, trivial, trivial⟩
end Go.Proofs.YtjmofeakajdbiaaDoor
end

/- Printed by lift.py: functional texts of functions, and their contracts. No condition. -/
set_option linter.unusedVariables false
noncomputable section
namespace Go.Proofs.YtjmofeakajdbiaaDoor
open Go Go.AM
def L81_2 : Nat → Bool → Int → Bool → Int → Option (Bool × Int × Bool)
  | 0, _, _, _, _ => none
  | n + 1, b9, z10, b11, z12 =>
    (if b9 = true then (if z12 < z10 then letF (IntKind.wrap .u64 (z10 - z12)) fun z13 => some (true, z13, true) else letF (IntKind.wrap .u64 (z10 - z12)) fun z14 => some (false, z14, true)) else letF (IntKind.wrap .u64 (z10 - z12)) fun z15 => some (false, z15, true))
def L81_1 : Nat → Bool → Int → Bool → Int → Bool → Option (Bool × Int × Bool)
  | 0, _, _, _, _, _ => none
  | n + 1, b1, z2, b3, z4, b8 =>
    (if b8 = true then L81_2 n b3 z4 b1 z2 else L81_2 n b1 z2 b3 z4)
def F81 (n : Nat) (b1 : Bool) (z2 : Int) (b3 : Bool) (z4 : Int) : Option (Bool × Int × Bool) :=
  letB (b1 == b3) fun b5 => (if b5 = true then addF z2 z4 (0 : Int) fun z6 z7 => (if z7 = (0 : Int) then some (b1, z6, true) else some (b1, z6, false)) else (if z2 < z4 then L81_1 n b1 z2 b3 z4 true else L81_1 n b1 z2 b3 z4 false))
set_option maxRecDepth 100000 in
set_option maxHeartbeats 40000000 in
theorem T81 (n : Nat) : ∀ ⦃b1 : Bool⦄ ⦃z2 : Int⦄ ⦃b3 : Bool⦄ ⦃z4 : Int⦄ ⦃r1 : Bool⦄ ⦃r2 : Int⦄ ⦃r3 : Bool⦄, F81 n b1 z2 b3 z4 = some (r1, r2, r3) →
    Trip Tryd.prog inv 81 [.d (.agg [.bool b1, .int .u64 z2]), .d (.agg [.bool b3, .int .u64 z4])] [] (.t [.d (.agg [.bool r1, .int .u64 r2]), .d (.bool r3)]) [] [] := by
  intro b1 z2 b3 z4 r1 r2 r3 h
  unfold F81 at h
  refine Trip.of tab_ok tab_one fol Tryd.func81 rfl (by kernel_rfl) rfl rfl rfl (fun M hM hI => ?_)
  try cbv
  refine seq_go ?_
  try cbv
  refine seq_go ?_
  try cbv
  refine seq_go ?_
  try cbv
  replace h := letB_inv h
  obtain ⟨b5, hz, h⟩ := h
  refine ⟨b5, eqv_eq hz, ?_⟩
  clear hz
  try cbv
  cases b5
  · replace h := ite_f Bool.false_ne_true h
    try cbv
    refine seq_join (T := Nat × Bool × Int × Bool × Int) (fun t => ⟨[(2, .v (.c (.ptr (.loc 0) 0))), (3, .v (.c (.ptr (.loc 32) 0))), (4, .v (.c (.ptr (.loc 64) 0))), (5, .v (.d (.bool false)))], [(.loc 0, .cells [.d (.bool t.2.1), .d (.int .u64 t.2.2.1)]), (.loc 32, .cells [.d (.bool t.2.2.2.1), .d (.int .u64 t.2.2.2.2)]), (.loc 64, .cells [.d (.bool false), .d (.int .u64 0)])], 576⟩) (fun t => t.1 ≤ n ∧ L81_2 t.1 t.2.1 t.2.2.1 t.2.2.2.1 t.2.2.2.2 = some (r1, r2, r3)) ?_ ?_
    · try cbv
      refine seq_join (T := Nat × Bool) (fun t => ⟨[(2, .v (.c (.ptr (.loc 0) 0))), (3, .v (.c (.ptr (.loc 32) 0))), (4, .v (.c (.ptr (.loc 64) 0))), (5, .v (.d (.bool false))), (31, .v (.d (.bool t.2)))], [(.loc 0, .cells [.d (.bool b1), .d (.int .u64 z2)]), (.loc 32, .cells [.d (.bool b3), .d (.int .u64 z4)]), (.loc 64, .cells [.d (.bool false), .d (.int .u64 0)])], 448⟩) (fun t => t.1 ≤ n ∧ L81_1 t.1 b1 z2 b3 z4 t.2 = some (r1, r2, r3)) ?_ ?_
      · try cbv
        refine splitL (fun e => ?_) (fun e => ?_)
        · replace h := ite_t e h
          clear e
          try cbv
          exact join_next (n, true) [2, 3, 4, 5, 31] [.loc 0, .loc 32, .loc 64] 448 ⟨by omega, h⟩ (by cbv)
        · replace h := ite_f (Int.not_lt.2 e) h
          clear e
          try cbv
          exact join_next (n, false) [2, 3, 4, 5, 31] [.loc 0, .loc 32, .loc 64] 448 ⟨by omega, h⟩ (by cbv)
      · clear h
        rintro ⟨m1, b8⟩ ⟨hm1, h⟩
        replace hm1 : m1 ≤ n := hm1
        cases m1 with
        | zero => cases (show (none : Option _) = some _ from h)
        | succ m1 =>
          replace h : L81_1 (m1 + 1) b1 z2 b3 z4 b8 = some (r1, r2, r3) := h
          rw [L81_1] at h
          try cbv
          cases b8
          · replace h := ite_f Bool.false_ne_true h
            try cbv
            exact join_next (m1, (b1, z2, b3, z4)) [2, 3, 4, 5] [.loc 0, .loc 32, .loc 64] 576 ⟨by omega, h⟩ (by cbv)
          · replace h := ite_t rfl h
            try cbv
            exact join_next (m1, (b3, z4, b1, z2)) [2, 3, 4, 5] [.loc 0, .loc 32, .loc 64] 576 ⟨by omega, h⟩ (by cbv)
    · clear h
      rintro ⟨m2, b9, z10, b11, z12⟩ ⟨hm2, h⟩
      replace hm2 : m2 ≤ n := hm2
      cases m2 with
      | zero => cases (show (none : Option _) = some _ from h)
      | succ m2 =>
        replace h : L81_2 (m2 + 1) b9 z10 b11 z12 = some (r1, r2, r3) := h
        rw [L81_2] at h
        try cbv
        refine seq_go ?_
        try cbv
        cases b9
        · replace h := ite_f Bool.false_ne_true h
          try cbv
          replace h := letF_inv h
          obtain ⟨z15, hz, h⟩ := h
          refine ⟨z15, hz, ?_⟩
          clear hz
          try cbv
          obtain ⟨rfl, rfl, rfl⟩ := inj3 h
          refine fin_go ?_
          try cbv
          exact ⟨[], rfl, rfl, trivial, trivial, trivial⟩
        · replace h := ite_t rfl h
          try cbv
          refine splitL (fun e => ?_) (fun e => ?_)
          · replace h := ite_t e h
            clear e
            try cbv
            replace h := letF_inv h
            obtain ⟨z13, hz, h⟩ := h
            refine ⟨z13, hz, ?_⟩
            clear hz
            try cbv
            obtain ⟨rfl, rfl, rfl⟩ := inj3 h
            refine fin_go ?_
            try cbv
            exact ⟨[], rfl, rfl, trivial, trivial, trivial⟩
          · replace h := ite_f (Int.not_lt.2 e) h
            clear e
            try cbv
            replace h := letF_inv h
            obtain ⟨z14, hz, h⟩ := h
            refine ⟨z14, hz, ?_⟩
            clear hz
            try cbv
            obtain ⟨rfl, rfl, rfl⟩ := inj3 h
            refine fin_go ?_
            try cbv
            exact ⟨[], rfl, rfl, trivial, trivial, trivial⟩
  · replace h := ite_t rfl h
    try cbv
    refine seq_go ?_
    try cbv
    replace h := addF_inv h
    obtain ⟨z6, z7, hb, hz, hu, h⟩ := h
    refine call_add64 rfl rfl rfl rfl (by rw [hM]; exact ext87) hb hz hu ?_
    clear hb hz hu
    try cbv
    refine seq_go ?_
    try cbv
    refine splitI (fun e => ?_) (fun e => ?_)
    · replace h := ite_t e h
      clear e
      try cbv
      obtain ⟨rfl, rfl, rfl⟩ := inj3 h
      refine fin_go ?_
      try cbv
      exact ⟨[], rfl, rfl, trivial, trivial, trivial⟩
    · replace h := ite_f e h
      clear e
      try cbv
      obtain ⟨rfl, rfl, rfl⟩ := inj3 h
      refine fin_go ?_
      try cbv
      exact ⟨[], rfl, rfl, trivial, trivial, trivial⟩
end Go.Proofs.YtjmofeakajdbiaaDoor
end

/- Printed by lift.py: functional texts of functions, and their contracts. No condition. -/
set_option linter.unusedVariables false
noncomputable section
namespace Go.Proofs.YtjmofeakajdbiaaDoor
open Go Go.AM
def L82_1 : Nat → Bool → Int → Bool → Option (Int × Int)
  | 0, _, _, _ => none
  | n + 1, b1, z2, b6 =>
    (if b6 = true then some ((0 : Int), (10 : Int)) else (if b1 = true then letF (IntKind.wrap .u64 (z2 - 1)) fun z7 => letF (IntKind.wrap .i64 z7) fun z8 => letF (IntKind.wrap .i64 (0 - z8)) fun z9 => letF (IntKind.wrap .i64 (z9 - 1)) fun z10 => some (z10, (0 : Int)) else letF (IntKind.wrap .i64 z2) fun z11 => some (z11, (0 : Int))))
def F82 (n : Nat) (b1 : Bool) (z2 : Int) (b3 : Bool) : Option (Int × Int) :=
  letB (!b3) fun b4 => (if b4 = true then L82_1 n b1 z2 true else (if (9223372036854775808 : Int) < z2 then L82_1 n b1 z2 true else (if z2 = (9223372036854775808 : Int) then letB (!b1) fun b5 => L82_1 n b1 z2 b5 else L82_1 n b1 z2 false)))
set_option maxRecDepth 100000 in
set_option maxHeartbeats 40000000 in
theorem T82 (n : Nat) : ∀ ⦃b1 : Bool⦄ ⦃z2 : Int⦄ ⦃b3 : Bool⦄ ⦃r1 : Int⦄ ⦃r2 : Int⦄, F82 n b1 z2 b3 = some (r1, r2) →
    Trip Tryd.prog inv 82 [.d (.agg [.bool b1, .int .u64 z2]), .d (.bool b3)] [] (.t [.d (.int .i64 r1), .d (.int .i64 r2)]) [] [] := by
  intro b1 z2 b3 r1 r2 h
  unfold F82 at h
  refine Trip.of tab_ok tab_one fol Tryd.func82 rfl (by kernel_rfl) rfl rfl rfl (fun M hM hI => ?_)
  try cbv
  refine seq_go ?_
  try cbv
  refine seq_go ?_
  try cbv
  refine seq_join (T := Nat × Bool) (fun t => ⟨[(2, .v (.c (.ptr (.loc 0) 0))), (4, .v (.d (.int .i64 0))), (5, .v (.d (.int .i64 0))), (6, .v (.d (.bool t.2)))], [(.loc 0, .cells [.d (.bool b1), .d (.int .u64 z2)])], 672⟩) (fun t => t.1 ≤ n ∧ L82_1 t.1 b1 z2 t.2 = some (r1, r2)) ?_ ?_
  · try cbv
    replace h := letB_inv h
    obtain ⟨b4, hz, h⟩ := h
    refine ⟨b4, not_eq' hz, ?_⟩
    clear hz
    try cbv
    cases b4
    · replace h := ite_f Bool.false_ne_true h
      try cbv
      refine splitL (fun e => ?_) (fun e => ?_)
      · replace h := ite_t e h
        clear e
        try cbv
        exact join_next (n, true) [2, 4, 5, 6] [.loc 0] 672 ⟨by omega, h⟩ (by cbv)
      · replace h := ite_f (Int.not_lt.2 e) h
        clear e
        try cbv
        refine splitI (fun e => ?_) (fun e => ?_)
        · replace h := ite_t e h
          clear e
          try cbv
          replace h := letB_inv h
          obtain ⟨b5, hz, h⟩ := h
          refine ⟨b5, not_eq' hz, ?_⟩
          clear hz
          try cbv
          exact join_next (n, b5) [2, 4, 5, 6] [.loc 0] 672 ⟨by omega, h⟩ (by cbv)
        · replace h := ite_f e h
          clear e
          try cbv
          exact join_next (n, false) [2, 4, 5, 6] [.loc 0] 672 ⟨by omega, h⟩ (by cbv)
    · replace h := ite_t rfl h
      try cbv
      exact join_next (n, true) [2, 4, 5, 6] [.loc 0] 672 ⟨by omega, h⟩ (by cbv)
  · clear h
    rintro ⟨m1, b6⟩ ⟨hm1, h⟩
    replace hm1 : m1 ≤ n := hm1
    cases m1 with
    | zero => cases (show (none : Option _) = some _ from h)
    | succ m1 =>
      replace h : L82_1 (m1 + 1) b1 z2 b6 = some (r1, r2) := h
      rw [L82_1] at h
      try cbv
      cases b6
      · replace h := ite_f Bool.false_ne_true h
        try cbv
        refine seq_go ?_
        try cbv
        cases b1
        · replace h := ite_f Bool.false_ne_true h
          try cbv
          refine seq_go ?_
          try cbv
          replace h := letF_inv h
          obtain ⟨z11, hz, h⟩ := h
          refine ⟨z11, hz, ?_⟩
          clear hz
          try cbv
          obtain ⟨rfl, rfl⟩ := inj2 h
          refine fin_go ?_
          try cbv
          exact ⟨[], rfl, rfl, trivial, trivial, trivial⟩
        · replace h := ite_t rfl h
          try cbv
          refine seq_go ?_
          try cbv
          replace h := letF_inv h
          obtain ⟨z7, hz, h⟩ := h
          refine ⟨z7, hz, ?_⟩
          clear hz
          try cbv
          replace h := letF_inv h
          obtain ⟨z8, hz, h⟩ := h
          refine ⟨z8, hz, ?_⟩
          clear hz
          try cbv
          replace h := letF_inv h
          obtain ⟨z9, hz, h⟩ := h
          refine ⟨z9, hz, ?_⟩
          clear hz
          try cbv
          replace h := letF_inv h
          obtain ⟨z10, hz, h⟩ := h
          refine ⟨z10, hz, ?_⟩
          clear hz
          try cbv
          obtain ⟨rfl, rfl⟩ := inj2 h
          refine fin_go ?_
          try cbv
          exact ⟨[], rfl, rfl, trivial, trivial, trivial⟩
      · replace h := ite_t rfl h
        try cbv
        refine seq_go ?_
        try cbv
        obtain ⟨rfl, rfl⟩ := inj2 h
        refine fin_go ?_
        try cbv
        exact ⟨[], rfl, rfl, trivial, trivial, trivial⟩
end Go.Proofs.YtjmofeakajdbiaaDoor
end

/- Printed by lift.py: functional texts of functions, and their contracts. No condition. -/
set_option linter.unusedVariables false
noncomputable section
namespace Go.Proofs.YtjmofeakajdbiaaDoor
open Go Go.AM
mutual
def L68_3 : Nat → ByteArray → Bool → Bool → Int → Bool → Int → Option (Int × Int)
  | 0, _, _, _, _, _, _ => none
  | n + 1, s6, b7, b10, z11, b12, z13 =>
    szF s6 fun z14 => (if z11 < z14 then L68_4 n s6 b7 b10 z11 b12 z13 b10 else L68_4 n s6 b7 b10 z11 b12 z13 false)
def L68_4 : Nat → ByteArray → Bool → Bool → Int → Bool → Int → Bool → Option (Int × Int)
  | 0, _, _, _, _, _, _, _ => none
  | n + 1, s6, b7, b10, z11, b12, z13, b15 =>
    (if b15 = true then bO3 (F80 n b12 z13 false (10 : Int)) fun b16 z17 b18 => (if b18 = true then atF s6 z11 fun z19 => letF (IntKind.wrap .u8 (z19 - 48)) fun z20 => letF (IntKind.wrap .u64 z20) fun z21 => bO3 (F81 n b16 z17 false z21) fun b22 z23 b24 => L68_5 n s6 b7 z11 b24 b22 z23 else L68_5 n s6 b7 z11 false b16 z17) else bO2 (F82 n b7 z13 b10) fun z29 z30 => some (z29, z30))
def L68_5 : Nat → ByteArray → Bool → Int → Bool → Bool → Int → Option (Int × Int)
  | 0, _, _, _, _, _, _ => none
  | n + 1, s6, b7, z11, b25, b26, z27 =>
    letF (IntKind.wrap .i64 (z11 + 1)) fun z28 => L68_3 n s6 b7 b25 z28 b26 z27
end
def L68_2 : Nat → ByteArray → Bool → Option (Int × Int)
  | 0, _, _ => none
  | n + 1, s6, b7 =>
    bO1 (F79 n s6 b7) fun b8 => letB (!b8) fun b9 => (if b9 = true then some ((0 : Int), (2 : Int)) else L68_3 n s6 b7 true (0 : Int) false (0 : Int))
def L68_1 : Nat → ByteArray → Bool → Option (Int × Int)
  | 0, _, _ => none
  | n + 1, s1, b4 =>
    (if b4 = true then subToF s1 (1 : Int) fun s5 => L68_2 n s5 true else L68_2 n s1 false)
def F68 (n : Nat) (s1 : ByteArray) : Option (Int × Int) :=
  szF s1 fun z2 => (if (0 : Int) < z2 then atF s1 (0 : Int) fun z3 => (if z3 = (45 : Int) then L68_1 n s1 true else L68_1 n s1 false) else L68_1 n s1 false)
set_option maxRecDepth 100000 in
set_option maxHeartbeats 40000000 in
theorem T68 (n : Nat) : ∀ ⦃s1 : ByteArray⦄ ⦃r1 : Int⦄ ⦃r2 : Int⦄, F68 n s1 = some (r1, r2) →
    Trip Tryd.prog inv 68 [.d (.str s1)] [] (.t [.d (.int .i64 r1), .d (.int .i64 r2)]) [] [] := by
  intro s1 r1 r2 h
  unfold F68 at h
  refine Trip.of tab_ok tab_one fol Tryd.func68 rfl (by kernel_rfl) rfl rfl rfl (fun M hM hI => ?_)
  try cbv
  refine seq_go ?_
  try cbv
  refine seq_join (T := Nat × Bool) (fun t => ⟨[(0, .v (.d (.str s1))), (2, .v (.d (.int .i64 0))), (3, .v (.d (.int .i64 0))), (4, .v (.d (.bool t.2)))], [], 352⟩) (fun t => t.1 ≤ n ∧ L68_1 t.1 s1 t.2 = some (r1, r2)) ?_ ?_
  · try cbv
    replace h := szF_inv M h
    obtain ⟨z2, hz, h⟩ := h
    refine ⟨z2, hz, ?_⟩
    clear hz
    try cbv
    refine splitL (fun e => ?_) (fun e => ?_)
    · replace h := ite_t e h
      clear e
      try cbv
      replace h := atF_inv h
      obtain ⟨z3, hz, h⟩ := h
      refine ⟨z3, hz, ?_⟩
      clear hz
      try cbv
      refine splitI (fun e => ?_) (fun e => ?_)
      · replace h := ite_t e h
        clear e
        try cbv
        exact join_next (n, true) [0, 2, 3, 4] [] 352 ⟨by omega, h⟩ (by cbv)
      · replace h := ite_f e h
        clear e
        try cbv
        exact join_next (n, false) [0, 2, 3, 4] [] 352 ⟨by omega, h⟩ (by cbv)
    · replace h := ite_f (Int.not_lt.2 e) h
      clear e
      try cbv
      exact join_next (n, false) [0, 2, 3, 4] [] 352 ⟨by omega, h⟩ (by cbv)
  · clear h
    rintro ⟨m1, b4⟩ ⟨hm1, h⟩
    replace hm1 : m1 ≤ n := hm1
    cases m1 with
    | zero => cases (show (none : Option _) = some _ from h)
    | succ m1 =>
      replace h : L68_1 (m1 + 1) s1 b4 = some (r1, r2) := h
      rw [L68_1] at h
      try cbv
      refine seq_join (T := Nat × ByteArray × Bool) (fun t => ⟨[(0, .v (.d (.str t.2.1))), (2, .v (.d (.int .i64 0))), (3, .v (.d (.int .i64 0))), (4, .v (.d (.bool t.2.2)))], [], 480⟩) (fun t => t.1 ≤ m1 ∧ L68_2 t.1 t.2.1 t.2.2 = some (r1, r2)) ?_ ?_
      · try cbv
        refine seq_go ?_
        try cbv
        cases b4
        · replace h := ite_f Bool.false_ne_true h
          try cbv
          exact join_next (m1, (s1, false)) [0, 2, 3, 4] [] 480 ⟨by omega, h⟩ (by cbv)
        · replace h := ite_t rfl h
          try cbv
          replace h := subToF_inv M h
          obtain ⟨s5, hb, hz, h⟩ := h
          refine ⟨s5, hb, hz, ?_⟩
          clear hb hz
          try cbv
          exact join_next (m1, (s5, true)) [0, 2, 3, 4] [] 480 ⟨by omega, h⟩ (by cbv)
      · clear h
        rintro ⟨m2, s6, b7⟩ ⟨hm2, h⟩
        replace hm2 : m2 ≤ m1 := hm2
        cases m2 with
        | zero => cases (show (none : Option _) = some _ from h)
        | succ m2 =>
          replace h : L68_2 (m2 + 1) s6 b7 = some (r1, r2) := h
          rw [L68_2] at h
          try cbv
          refine seq_go ?_
          try cbv
          refine seq_go ?_
          try cbv
          replace h := bO1_inv h
          obtain ⟨b8, hr, h⟩ := h
          refine call_go rfl rfl ?_
          try cbv
          refine call_pure hM hI (T79 _ hr) rfl ?_
          clear hr
          try cbv
          replace h := letB_inv h
          obtain ⟨b9, hz, h⟩ := h
          refine ⟨b9, not_eq' hz, ?_⟩
          clear hz
          try cbv
          cases b9
          · replace h := ite_f Bool.false_ne_true h
            try cbv
            refine seq_go ?_
            try cbv
            refine seq_go ?_
            try cbv
            refine seq_go ?_
            try cbv
            refine loop_inv (T := Nat × Bool × Int × Bool × Int) [0, 2, 3, 4, 5, 6, 7] [.loc 640] 768 (fun t => ⟨[(0, .v (.d (.str s6))), (2, .v (.d (.int .i64 0))), (3, .v (.d (.int .i64 0))), (4, .v (.d (.bool b7))), (5, .v (.c (.ptr (.loc 640) 0))), (6, .v (.d (.bool t.2.1))), (7, .v (.d (.int .i64 t.2.2.1)))], [(.loc 640, .cells [.d (.bool t.2.2.2.1), .d (.int .u64 t.2.2.2.2)])], 768⟩)
              (fun t => t.1 ≤ m2 ∧ L68_3 t.1 s6 b7 t.2.1 t.2.2.1 t.2.2.2.1 t.2.2.2.2 = some (r1, r2)) (fun t => t.1) (m2, (true, (0 : Int), false, (0 : Int))) ⟨Nat.le_refl _, h⟩ (by cbv) ?_
            clear h
            rintro ⟨m3, b10, z11, b12, z13⟩ ⟨hm3, h⟩
            replace hm3 : m3 ≤ m2 := hm3
            cases m3 with
            | zero => cases (show (none : Option _) = some _ from h)
            | succ m3 =>
              replace h : L68_3 (m3 + 1) s6 b7 b10 z11 b12 z13 = some (r1, r2) := h
              rw [L68_3] at h
              try cbv
              refine seq_go ?_
              try cbv
              refine seq_join (T := Nat × Bool) (fun t => ⟨[(0, .v (.d (.str s6))), (2, .v (.d (.int .i64 0))), (3, .v (.d (.int .i64 0))), (4, .v (.d (.bool b7))), (5, .v (.c (.ptr (.loc 640) 0))), (6, .v (.d (.bool b10))), (7, .v (.d (.int .i64 z11))), (30, .v (.d (.bool t.2)))], [(.loc 640, .cells [.d (.bool b12), .d (.int .u64 z13)])], 992⟩) (fun t => t.1 ≤ m3 ∧ L68_4 t.1 s6 b7 b10 z11 b12 z13 t.2 = some (r1, r2)) ?_ ?_
              · try cbv
                replace h := szF_inv M h
                obtain ⟨z14, hz, h⟩ := h
                refine ⟨z14, hz, ?_⟩
                clear hz
                try cbv
                refine splitL (fun e => ?_) (fun e => ?_)
                · replace h := ite_t e h
                  clear e
                  try cbv
                  exact join_next (m3, b10) [0, 2, 3, 4, 5, 6, 7, 30] [.loc 640] 992 ⟨by omega, h⟩ (by cbv)
                · replace h := ite_f (Int.not_lt.2 e) h
                  clear e
                  try cbv
                  exact join_next (m3, false) [0, 2, 3, 4, 5, 6, 7, 30] [.loc 640] 992 ⟨by omega, h⟩ (by cbv)
              · clear h
                rintro ⟨m4, b15⟩ ⟨hm4, h⟩
                replace hm4 : m4 ≤ m3 := hm4
                cases m4 with
                | zero => cases (show (none : Option _) = some _ from h)
                | succ m4 =>
                  replace h : L68_4 (m4 + 1) s6 b7 b10 z11 b12 z13 b15 = some (r1, r2) := h
                  rw [L68_4] at h
                  try cbv
                  cases b15
                  · replace h := ite_f Bool.false_ne_true h
                    try cbv
                    refine seq_go ?_
                    try cbv
                    refine seq_go ?_
                    try cbv
                    replace h := bO2_inv h
                    obtain ⟨z29, z30, hr, h⟩ := h
                    refine call_go rfl rfl ?_
                    try cbv
                    refine call_pure hM hI (T82 _ hr) rfl ?_
                    clear hr
                    try cbv
                    obtain ⟨rfl, rfl⟩ := inj2 h
                    refine fin_go ?_
                    try cbv
                    exact ⟨[], rfl, rfl, trivial, trivial, trivial⟩
                  · replace h := ite_t rfl h
                    try cbv
                    refine seq_join (T := Nat × Bool × Bool × Int) (fun t => ⟨[(0, .v (.d (.str s6))), (2, .v (.d (.int .i64 0))), (3, .v (.d (.int .i64 0))), (4, .v (.d (.bool b7))), (5, .v (.c (.ptr (.loc 640) 0))), (6, .v (.d (.bool t.2.1))), (7, .v (.d (.int .i64 z11)))], [(.loc 640, .cells [.d (.bool t.2.2.1), .d (.int .u64 t.2.2.2)])], 1696⟩) (fun t => t.1 ≤ m4 ∧ L68_5 t.1 s6 b7 z11 t.2.1 t.2.2.1 t.2.2.2 = some (r1, r2)) ?_ ?_
                    · try cbv
                      refine seq_go ?_
                      try cbv
                      replace h := bO3_inv h
                      obtain ⟨b16, z17, b18, hr, h⟩ := h
                      refine call_go rfl rfl ?_
                      try cbv
                      refine call_pure hM hI (T80 _ hr) rfl ?_
                      clear hr
                      try cbv
                      refine seq_go ?_
                      try cbv
                      cases b18
                      · replace h := ite_f Bool.false_ne_true h
                        try cbv
                        exact join_next (m4, (false, b16, z17)) [0, 2, 3, 4, 5, 6, 7] [.loc 640] 1696 ⟨by omega, h⟩ (by cbv)
                      · replace h := ite_t rfl h
                        try cbv
                        replace h := atF_inv h
                        obtain ⟨z19, hz, h⟩ := h
                        refine ⟨z19, hz, ?_⟩
                        clear hz
                        try cbv
                        replace h := letF_inv h
                        obtain ⟨z20, hz, h⟩ := h
                        refine ⟨z20, hz, ?_⟩
                        clear hz
                        try cbv
                        replace h := letF_inv h
                        obtain ⟨z21, hz, h⟩ := h
                        refine ⟨z21, hz, ?_⟩
                        clear hz
                        try cbv
                        replace h := bO3_inv h
                        obtain ⟨b22, z23, b24, hr, h⟩ := h
                        first | refine .inr ⟨[], ?_⟩ | refine ⟨[], ?_⟩
                        try cbv
                        refine call_pure hM hI (T81 _ hr) rfl ?_
                        clear hr
                        try cbv
                        refine drawn ?_ ?_
                        · show _ = true
                          kernel_rfl
                        try cbv
                        exact join_next (m4, (b24, b22, z23)) [0, 2, 3, 4, 5, 6, 7] [.loc 640] 1696 ⟨by omega, h⟩ (by cbv)
                    · clear h
                      rintro ⟨m5, b25, b26, z27⟩ ⟨hm5, h⟩
                      replace hm5 : m5 ≤ m4 := hm5
                      cases m5 with
                      | zero => cases (show (none : Option _) = some _ from h)
                      | succ m5 =>
                        replace h : L68_5 (m5 + 1) s6 b7 z11 b25 b26 z27 = some (r1, r2) := h
                        rw [L68_5] at h
                        try cbv
                        replace h := letF_inv h
                        obtain ⟨z28, hz, h⟩ := h
                        refine ⟨z28, hz, ?_⟩
                        clear hz
                        try cbv
                        exact loop_next (m5, (b25, z28, b26, z27)) [0, 2, 3, 4, 5, 6, 7] [.loc 640] 768 ⟨by omega, h⟩ (Nat.lt_succ_of_le (by omega)) (by cbv)
          · replace h := ite_t rfl h
            try cbv
            refine seq_go ?_
            try cbv
            obtain ⟨rfl, rfl⟩ := inj2 h
            refine fin_go ?_
            try cbv
            exact ⟨[], rfl, rfl, trivial, trivial, trivial⟩
end Go.Proofs.YtjmofeakajdbiaaDoor
end

/- Printed by lift.py: functional texts of functions, and their contracts. No condition. -/
set_option linter.unusedVariables false
noncomputable section
namespace Go.Proofs.YtjmofeakajdbiaaDoor
open Go Go.AM
def L69_3 : Nat → Bool → Option (Int)
  | 0, _ => none
  | n + 1, b10 =>
    (if b10 = true then some (1 : Int) else some (0 : Int))
mutual
def L69_1 : Nat → ByteArray → Int → Option (Int)
  | 0, _, _ => none
  | n + 1, s1, z2 =>
    (if z2 < (3 : Int) then L69_2 n s1 z2 true else L69_2 n s1 z2 false)
def L69_2 : Nat → ByteArray → Int → Bool → Option (Int)
  | 0, _, _, _ => none
  | n + 1, s1, z2, b3 =>
    (if b3 = true then getF ([.str k___, .str k____1, .str k____2]) z2 fun x4 => ds_str x4 fun s5 => bO1 (F65 n s1 s5) fun b6 => (if b6 = true then some (2 : Int) else letF (IntKind.wrap .i64 (z2 + 1)) fun z7 => L69_1 n s1 z7) else atF s1 (0 : Int) fun z8 => bO1 (F64 n k__________________ z8) fun z9 => (if (0 : Int) ≤ z9 then L69_3 n true else L69_3 n false))
end
def F69 (n : Nat) (s1 : ByteArray) : Option (Int) :=
  L69_1 n s1 (0 : Int)
set_option maxRecDepth 100000 in
set_option maxHeartbeats 40000000 in
theorem T69 (n : Nat) : ∀ ⦃s1 : ByteArray⦄ ⦃r1 : Int⦄, F69 n s1 = some r1 →
    Trip Tryd.prog inv 69 [.d (.str s1)] [] (.v (.d (.int .i64 r1))) [] [] := by
  intro s1 r1 h
  unfold F69 at h
  refine Trip.of tab_ok tab_one fol Tryd.func69 rfl (by kernel_rfl) rfl rfl rfl (fun M hM hI => ?_)
  try cbv
  refine seq_go ?_
  try cbv
  refine seq_go ?_
  try cbv
  refine seq_go ?_
  try cbv
  refine ⟨false, ?_⟩
  try cbv
  refine ⟨true, ?_⟩
  try cbv
  refine ⟨3, (M.lenI_eq _).trans rfl, ?_⟩
  try cbv
  refine loop_inv (T := Nat × Int) [0, 2, 5, 6, 7] [] 128 (fun t => ⟨[(0, .v (.d (.str s1))), (2, .v (.d (.int .i64 0))), (5, .v (.c (.tl false 1 ([.str k___, .str k____1, .str k____2])))), (6, .v (.d (.int .i64 3))), (7, .v (.d (.int .i64 t.2)))], [], 128⟩)
    (fun t => t.1 ≤ n ∧ L69_1 t.1 s1 t.2 = some r1) (fun t => t.1) (n, (0 : Int)) ⟨Nat.le_refl _, h⟩ (by cbv) ?_
  clear h
  rintro ⟨m1, z2⟩ ⟨hm1, h⟩
  replace hm1 : m1 ≤ n := hm1
  cases m1 with
  | zero => cases (show (none : Option _) = some _ from h)
  | succ m1 =>
    replace h : L69_1 (m1 + 1) s1 z2 = some r1 := h
    rw [L69_1] at h
    try cbv
    refine seq_join (T := Nat × Bool) (fun t => ⟨[(0, .v (.d (.str s1))), (2, .v (.d (.int .i64 0))), (5, .v (.c (.tl false 1 ([.str k___, .str k____1, .str k____2])))), (6, .v (.d (.int .i64 3))), (7, .v (.d (.int .i64 z2))), (8, .v (.d (.bool t.2)))], [], 160⟩) (fun t => t.1 ≤ m1 ∧ L69_2 t.1 s1 z2 t.2 = some r1) ?_ ?_
    · try cbv
      refine splitL (fun e => ?_) (fun e => ?_)
      · replace h := ite_t e h
        clear e
        try cbv
        exact join_next (m1, true) [0, 2, 5, 6, 7, 8] [] 160 ⟨by omega, h⟩ (by cbv)
      · replace h := ite_f (Int.not_lt.2 e) h
        clear e
        try cbv
        exact join_next (m1, false) [0, 2, 5, 6, 7, 8] [] 160 ⟨by omega, h⟩ (by cbv)
    · clear h
      rintro ⟨m2, b3⟩ ⟨hm2, h⟩
      replace hm2 : m2 ≤ m1 := hm2
      cases m2 with
      | zero => cases (show (none : Option _) = some _ from h)
      | succ m2 =>
        replace h : L69_2 (m2 + 1) s1 z2 b3 = some r1 := h
        rw [L69_2] at h
        try cbv
        refine seq_go ?_
        try cbv
        cases b3
        · replace h := ite_f Bool.false_ne_true h
          try cbv
          refine seq_go ?_
          try cbv
          refine seq_join (T := Nat × Bool) (fun t => ⟨[(0, .v (.d (.str s1))), (2, .v (.d (.int .i64 0))), (5, .v (.c (.tl false 1 ([.str k___, .str k____1, .str k____2])))), (6, .v (.d (.int .i64 3))), (7, .v (.d (.int .i64 z2))), (18, .v (.d (.bool t.2)))], [], 288⟩) (fun t => t.1 ≤ m2 ∧ L69_3 t.1 t.2 = some r1) ?_ ?_
          · try cbv
            replace h := atF_inv h
            obtain ⟨z8, hz, h⟩ := h
            refine ⟨z8, hz, ?_⟩
            clear hz
            try cbv
            replace h := bO1_inv h
            obtain ⟨z9, hr, h⟩ := h
            refine call_go rfl rfl ?_
            try cbv
            refine call_pure hM hI (T64 _ hr) rfl ?_
            clear hr
            try cbv
            refine splitLe (fun e => ?_) (fun e => ?_)
            · replace h := ite_t e h
              clear e
              try cbv
              exact join_next (m2, true) [0, 2, 5, 6, 7, 18] [] 288 ⟨by omega, h⟩ (by cbv)
            · replace h := ite_f (Int.not_le.2 e) h
              clear e
              try cbv
              exact join_next (m2, false) [0, 2, 5, 6, 7, 18] [] 288 ⟨by omega, h⟩ (by cbv)
          · clear h
            rintro ⟨m3, b10⟩ ⟨hm3, h⟩
            replace hm3 : m3 ≤ m2 := hm3
            cases m3 with
            | zero => cases (show (none : Option _) = some _ from h)
            | succ m3 =>
              replace h : L69_3 (m3 + 1) b10 = some r1 := h
              rw [L69_3] at h
              try cbv
              cases b10
              · replace h := ite_f Bool.false_ne_true h
                try cbv
                refine seq_go ?_
                try cbv
                obtain rfl := Option.some.inj h
                refine fin_go ?_
                try cbv
                exact ⟨[], rfl, rfl, trivial, trivial, trivial⟩
              · replace h := ite_t rfl h
                try cbv
                refine seq_go ?_
                try cbv
                obtain rfl := Option.some.inj h
                refine fin_go ?_
                try cbv
                exact ⟨[], rfl, rfl, trivial, trivial, trivial⟩
        · replace h := ite_t rfl h
          try cbv
          refine seq_go ?_
          try cbv
          refine seq_go ?_
          try cbv
          replace h := getF_inv h
          obtain ⟨x4, ⟨hx0, hx⟩, h⟩ := h
          refine ⟨x4, hx0, hx, ?_⟩
          clear hx0 hx
          replace h := ds_str_inv h
          obtain ⟨s5, rfl, h⟩ := h
          try cbv
          refine seq_go ?_
          try cbv
          replace h := bO1_inv h
          obtain ⟨b6, hr, h⟩ := h
          refine call_go rfl rfl ?_
          try cbv
          refine call_pure hM hI (T65 _ hr) rfl ?_
          clear hr
          try cbv
          cases b6
          · replace h := ite_f Bool.false_ne_true h
            try cbv
            replace h := letF_inv h
            obtain ⟨z7, hz, h⟩ := h
            refine ⟨z7, hz, ?_⟩
            clear hz
            try cbv
            exact loop_next (m2, z7) [0, 2, 5, 6, 7] [] 128 ⟨by omega, h⟩ (Nat.lt_succ_of_le (by omega)) (by cbv)
          · replace h := ite_t rfl h
            try cbv
            refine seq_go ?_
            try cbv
            obtain rfl := Option.some.inj h
            refine fin_go ?_
            try cbv
            exact ⟨[], rfl, rfl, trivial, trivial, trivial⟩
end Go.Proofs.YtjmofeakajdbiaaDoor
end

/- Printed by lift.py: functional texts of functions, and their contracts. No condition. -/
set_option linter.unusedVariables false
noncomputable section
namespace Go.Proofs.YtjmofeakajdbiaaDoor
open Go Go.AM
def L49_2 : Nat → ByteArray → Int → Option (Int × ByteArray)
  | 0, _, _ => none
  | n + 1, s7, z11 =>
    some (z11, s7)
def L49_3 : Nat → ByteArray → Bool → Option (Int × ByteArray)
  | 0, _, _ => none
  | n + 1, s14, b17 =>
    (if b17 = true then some ((0 : Int), ByteArray.empty) else some ((4 : Int), s14))
def L49_4 : Nat → ByteArray → Int → Bool → Option (Int × ByteArray)
  | 0, _, _, _ => none
  | n + 1, s1, z18, b19 =>
    (if b19 = true then subF s1 (0 : Int) z18 fun s20 => some ((5 : Int), s20) else some ((0 : Int), ByteArray.empty))
def L49_1 : Nat → ByteArray → Int → Bool → Option (Int × ByteArray)
  | 0, _, _, _ => none
  | n + 1, s1, z2, b5 =>
    (if b5 = true then bO1 (F51 n s1) fun z6 => subF s1 (0 : Int) z6 fun s7 => bO1 (F11 n s7) fun b8 => (if b8 = true then L49_2 n s7 (1 : Int) else bO1 (F13 n s7) fun b9 => (if b9 = true then L49_2 n s7 (2 : Int) else bO1 (F15 n s7) fun b10 => (if b10 = true then L49_2 n s7 (3 : Int) else L49_2 n s7 (0 : Int)))) else bO1 (F67 n z2) fun b12 => (if b12 = true then bO1 (F51x2 n s1) fun z13 => subF s1 (0 : Int) z13 fun s14 => bO2 (F68 n s14) fun z15 z16 => (if z16 = (0 : Int) then L49_3 n s14 false else L49_3 n s14 true) else bO1 (F69 n s1) fun z18 => (if (0 : Int) < z18 then L49_4 n s1 z18 true else L49_4 n s1 z18 false)))
def F49 (n : Nat) (s1 : ByteArray) : Option (Int × ByteArray) :=
  atF s1 (0 : Int) fun z2 => bO1 (F32 n z2) fun b3 => (if b3 = true then L49_1 n s1 z2 true else bO1 (F34 n z2) fun b4 => L49_1 n s1 z2 b4)
set_option maxRecDepth 100000 in
set_option maxHeartbeats 40000000 in
theorem T49 (n : Nat) : ∀ ⦃s1 : ByteArray⦄ ⦃r1 : Int⦄ ⦃r2 : ByteArray⦄, F49 n s1 = some (r1, r2) →
    Trip Tryd.prog inv 49 [.d (.str s1)] [] (.v (.d (.agg [.int .u8 r1, .str r2, .int .i64 0]))) [] [] := by
  intro s1 r1 r2 h
  unfold F49 at h
  refine Trip.of tab_ok tab_one fol Tryd.func49 rfl (by kernel_rfl) rfl rfl rfl (fun M hM hI => ?_)
  try cbv
  refine seq_go ?_
  try cbv
  refine seq_go ?_
  try cbv
  refine seq_go ?_
  try cbv
  replace h := atF_inv h
  obtain ⟨z2, hz, h⟩ := h
  refine ⟨z2, hz, ?_⟩
  clear hz
  try cbv
  refine seq_join (T := Nat × Bool) (fun t => ⟨[(0, .v (.d (.str s1))), (2, .v (.c (.ptr (.loc 0) 0))), (3, .v (.d (.int .u8 z2))), (11, .v (.d (.bool t.2)))], [(.loc 0, .cells [.d (.int .u8 0), .d (.str ByteArray.empty), .d (.int .i64 0)])], 352⟩) (fun t => t.1 ≤ n ∧ L49_1 t.1 s1 z2 t.2 = some (r1, r2)) ?_ ?_
  · try cbv
    replace h := bO1_inv h
    obtain ⟨b3, hr, h⟩ := h
    refine call_go rfl rfl ?_
    try cbv
    refine call_pure hM hI (T32 _ hr) rfl ?_
    clear hr
    try cbv
    cases b3
    · replace h := ite_f Bool.false_ne_true h
      try cbv
      replace h := bO1_inv h
      obtain ⟨b4, hr, h⟩ := h
      refine call_go rfl rfl ?_
      try cbv
      refine call_pure hM hI (T34 _ hr) rfl ?_
      clear hr
      try cbv
      exact join_next (n, b4) [0, 2, 3, 11] [.loc 0] 352 ⟨by omega, h⟩ (by cbv)
    · replace h := ite_t rfl h
      try cbv
      exact join_next (n, true) [0, 2, 3, 11] [.loc 0] 352 ⟨by omega, h⟩ (by cbv)
  · clear h
    rintro ⟨m1, b5⟩ ⟨hm1, h⟩
    replace hm1 : m1 ≤ n := hm1
    cases m1 with
    | zero => cases (show (none : Option _) = some _ from h)
    | succ m1 =>
      replace h : L49_1 (m1 + 1) s1 z2 b5 = some (r1, r2) := h
      rw [L49_1] at h
      try cbv
      cases b5
      · replace h := ite_f Bool.false_ne_true h
        try cbv
        refine seq_go ?_
        try cbv
        replace h := bO1_inv h
        obtain ⟨b12, hr, h⟩ := h
        refine call_go rfl rfl ?_
        try cbv
        refine call_pure hM hI (T67 _ hr) rfl ?_
        clear hr
        try cbv
        cases b12
        · replace h := ite_f Bool.false_ne_true h
          try cbv
          refine seq_go ?_
          try cbv
          refine seq_go ?_
          try cbv
          replace h := bO1_inv h
          obtain ⟨z18, hr, h⟩ := h
          refine call_go rfl rfl ?_
          try cbv
          refine call_pure hM hI (T69 _ hr) rfl ?_
          clear hr
          try cbv
          refine seq_join (T := Nat × Bool) (fun t => ⟨[(0, .v (.d (.str s1))), (2, .v (.c (.ptr (.loc 0) 0))), (8, .v (.d (.int .i64 z18))), (60, .v (.d (.bool t.2)))], [(.loc 0, .cells [.d (.int .u8 0), .d (.str ByteArray.empty), .d (.int .i64 0)])], 608⟩) (fun t => t.1 ≤ m1 ∧ L49_4 t.1 s1 z18 t.2 = some (r1, r2)) ?_ ?_
          · try cbv
            refine splitL (fun e => ?_) (fun e => ?_)
            · replace h := ite_t e h
              clear e
              try cbv
              exact join_next (m1, true) [0, 2, 8, 60] [.loc 0] 608 ⟨by omega, h⟩ (by cbv)
            · replace h := ite_f (Int.not_lt.2 e) h
              clear e
              try cbv
              exact join_next (m1, false) [0, 2, 8, 60] [.loc 0] 608 ⟨by omega, h⟩ (by cbv)
          · clear h
            rintro ⟨m4, b19⟩ ⟨hm4, h⟩
            replace hm4 : m4 ≤ m1 := hm4
            cases m4 with
            | zero => cases (show (none : Option _) = some _ from h)
            | succ m4 =>
              replace h : L49_4 (m4 + 1) s1 z18 b19 = some (r1, r2) := h
              rw [L49_4] at h
              try cbv
              cases b19
              · replace h := ite_f Bool.false_ne_true h
                try cbv
                refine seq_go ?_
                try cbv
                obtain ⟨rfl, rfl⟩ := inj2 h
                refine fin_go ?_
                try cbv
                exact ⟨[], rfl, rfl, trivial, trivial, trivial⟩
              · replace h := ite_t rfl h
                try cbv
                refine seq_go ?_
                try cbv
                replace h := subF_inv M h
                obtain ⟨s20, hb, hz, h⟩ := h
                refine ⟨s20, hb, hz, ?_⟩
                clear hb hz
                try cbv
                obtain ⟨rfl, rfl⟩ := inj2 h
                refine fin_go ?_
                try cbv
                exact ⟨[], rfl, rfl, trivial, trivial, trivial⟩
        · replace h := ite_t rfl h
          try cbv
          refine seq_go ?_
          try cbv
          replace h := bO1_inv h
          obtain ⟨z13, hr, h⟩ := h
          refine call_go rfl rfl ?_
          try cbv
          refine call_pure hM hI (T51x2 _ hr) rfl ?_
          clear hr
          try cbv
          replace h := subF_inv M h
          obtain ⟨s14, hb, hz, h⟩ := h
          refine ⟨s14, hb, hz, ?_⟩
          clear hb hz
          try cbv
          refine seq_go ?_
          try cbv
          refine seq_go ?_
          try cbv
          replace h := bO2_inv h
          obtain ⟨z15, z16, hr, h⟩ := h
          refine call_go rfl rfl ?_
          try cbv
          refine call_pure hM hI (T68 _ hr) rfl ?_
          clear hr
          try cbv
          refine seq_join (T := Nat × Bool) (fun t => ⟨[(0, .v (.d (.str s1))), (2, .v (.c (.ptr (.loc 0) 0))), (5, .v (.c (.ptr (.loc 608) 0))), (54, .v (.d (.bool t.2)))], [(.loc 0, .cells [.d (.int .u8 0), .d (.str ByteArray.empty), .d (.int .i64 0)]), (.loc 608, .cells [.d (.int .u8 4), .d (.str s14), .d (.int .i64 0)])], 992⟩) (fun t => t.1 ≤ m1 ∧ L49_3 t.1 s14 t.2 = some (r1, r2)) ?_ ?_
          · try cbv
            refine splitI (fun e => ?_) (fun e => ?_)
            · replace h := ite_t e h
              clear e
              try cbv
              exact join_next (m1, false) [0, 2, 5, 54] [.loc 0, .loc 608] 992 ⟨by omega, h⟩ (by cbv)
            · replace h := ite_f e h
              clear e
              try cbv
              exact join_next (m1, true) [0, 2, 5, 54] [.loc 0, .loc 608] 992 ⟨by omega, h⟩ (by cbv)
          · clear h
            rintro ⟨m3, b17⟩ ⟨hm3, h⟩
            replace hm3 : m3 ≤ m1 := hm3
            cases m3 with
            | zero => cases (show (none : Option _) = some _ from h)
            | succ m3 =>
              replace h : L49_3 (m3 + 1) s14 b17 = some (r1, r2) := h
              rw [L49_3] at h
              try cbv
              cases b17
              · replace h := ite_f Bool.false_ne_true h
                try cbv
                refine seq_go ?_
                try cbv
                obtain ⟨rfl, rfl⟩ := inj2 h
                refine fin_go ?_
                try cbv
                exact ⟨[], rfl, rfl, trivial, trivial, trivial⟩
              · replace h := ite_t rfl h
                try cbv
                refine seq_go ?_
                try cbv
                obtain ⟨rfl, rfl⟩ := inj2 h
                refine fin_go ?_
                try cbv
                exact ⟨[], rfl, rfl, trivial, trivial, trivial⟩
      · replace h := ite_t rfl h
        try cbv
        refine seq_go ?_
        try cbv
        replace h := bO1_inv h
        obtain ⟨z6, hr, h⟩ := h
        refine call_go rfl rfl ?_
        try cbv
        refine call_pure hM hI (T51 _ hr) rfl ?_
        clear hr
        try cbv
        replace h := subF_inv M h
        obtain ⟨s7, hb, hz, h⟩ := h
        refine ⟨s7, hb, hz, ?_⟩
        clear hb hz
        try cbv
        refine seq_join (T := Nat × Int) (fun t => ⟨[(0, .v (.d (.str s1))), (2, .v (.c (.ptr (.loc 0) 0))), (3, .v (.d (.int .u8 z2))), (4, .v (.c (.ptr (.loc 512) 0)))], [(.loc 0, .cells [.d (.int .u8 0), .d (.str ByteArray.empty), .d (.int .i64 0)]), (.loc 512, .cells [.d (.int .u8 t.2), .d (.str s7), .d (.int .i64 0)])], 1024⟩) (fun t => t.1 ≤ m1 ∧ L49_2 t.1 s7 t.2 = some (r1, r2)) ?_ ?_
        · try cbv
          refine seq_go ?_
          try cbv
          replace h := bO1_inv h
          obtain ⟨b8, hr, h⟩ := h
          refine call_go rfl rfl ?_
          try cbv
          refine call_pure hM hI (T11 _ hr) rfl ?_
          clear hr
          try cbv
          cases b8
          · replace h := ite_f Bool.false_ne_true h
            try cbv
            refine seq_go ?_
            try cbv
            replace h := bO1_inv h
            obtain ⟨b9, hr, h⟩ := h
            refine call_go rfl rfl ?_
            try cbv
            refine call_pure hM hI (T13 _ hr) rfl ?_
            clear hr
            try cbv
            cases b9
            · replace h := ite_f Bool.false_ne_true h
              try cbv
              refine seq_go ?_
              try cbv
              replace h := bO1_inv h
              obtain ⟨b10, hr, h⟩ := h
              refine call_go rfl rfl ?_
              try cbv
              refine call_pure hM hI (T15 _ hr) rfl ?_
              clear hr
              try cbv
              cases b10
              · replace h := ite_f Bool.false_ne_true h
                try cbv
                exact join_next (m1, (0 : Int)) [0, 2, 3, 4] [.loc 0, .loc 512] 1024 ⟨by omega, h⟩ (by cbv)
              · replace h := ite_t rfl h
                try cbv
                exact join_next (m1, (3 : Int)) [0, 2, 3, 4] [.loc 0, .loc 512] 1024 ⟨by omega, h⟩ (by cbv)
            · replace h := ite_t rfl h
              try cbv
              exact join_next (m1, (2 : Int)) [0, 2, 3, 4] [.loc 0, .loc 512] 1024 ⟨by omega, h⟩ (by cbv)
          · replace h := ite_t rfl h
            try cbv
            exact join_next (m1, (1 : Int)) [0, 2, 3, 4] [.loc 0, .loc 512] 1024 ⟨by omega, h⟩ (by cbv)
        · clear h
          rintro ⟨m2, z11⟩ ⟨hm2, h⟩
          replace hm2 : m2 ≤ m1 := hm2
          cases m2 with
          | zero => cases (show (none : Option _) = some _ from h)
          | succ m2 =>
            replace h : L49_2 (m2 + 1) s7 z11 = some (r1, r2) := h
            rw [L49_2] at h
            try cbv
            refine seq_go ?_
            try cbv
            obtain ⟨rfl, rfl⟩ := inj2 h
            refine fin_go ?_
            try cbv
            exact ⟨[], rfl, rfl, trivial, trivial, trivial⟩
end Go.Proofs.YtjmofeakajdbiaaDoor
end
