/- Part of a proof. No condition. (Part 5: LxF, YtjmofeakajdbiaaDoorX27, LxG, YtjmofeakajdbiaaDoorX28, YtjmofeakajdbiaaDoorX8, YtjmofeakajdbiaaDoorTy, AmR, LxH, YtjmofeakajdbiaaDoorX29, YtjmofeakajdbiaaDoorX6, LxP, YtjmofeakajdbiaaDoorX9, LxQ.) -/
import Derived.Carry
import Derived.ChangeSame
import Derived.ChangeOld
import Derived.ChangeCalls
import Derived.WideShapes
import Derived.Test.YtjmofeakajdbiaaDoorLleD
set_option linter.unusedVariables false
set_option linter.unusedSimpArgs false
/- Chapter 2, the plain law, part F: the token at the beginning. No condition. -/
set_option linter.unusedVariables false
noncomputable section
namespace Go.Proofs.YtjmofeakajdbiaaDoor
open Go Go.AM

theorem atF_0 {γ : Type} {s : ByteArray} {b : UInt8} {k : Int → Option γ} (h : (bl s)[0]? = some b) : atF s (0 : Int) k = k (b.toNat : Int) := atF_get (i := 0) h
def dig (b : UInt8) : Bool := inZ 48 57 (b.toNat : Int)
def letter (b : UInt8) : Bool := inZ 97 122 (b.toNat : Int) || inZ 65 90 (b.toNat : Int)
/-- What digits say, behind a number. -/
def dvalF (a : Nat) (l : List UInt8) : Nat := l.foldl (fun a b => a * 10 + (b.toNat - 48)) a
theorem dvalF_ge : ∀ (l : List UInt8) (a : Nat), a ≤ dvalF a l
  | [], a => Nat.le_refl _
  | b :: l, a => by
    have := dvalF_ge l (a * 10 + (b.toNat - 48))
    show a ≤ dvalF (a * 10 + (b.toNat - 48)) l
    omega
theorem dvalF_mono : ∀ (l : List UInt8) (a a' : Nat), a ≤ a' → dvalF a l ≤ dvalF a' l
  | [], a, a', h => h
  | b :: l, a, a', h => dvalF_mono l (a * 10 + (b.toNat - 48)) (a' * 10 + (b.toNat - 48)) (by omega)
def numOK (l : List UInt8) : Bool := decide (dvalF 0 l < 9223372036854775808)

theorem evL51x2 {s : ByteArray} (hs : s.size ≤ maxLen) : ∀ (rest pre : List UInt8), pre ++ rest = bl s → Ev (fun n => L51x2_1 n s (pre.length : Int)) (((pre.length + (rest.takeWhile dig).length : Nat) : Int))
  | [], pre, h => by
    refine .succ (.succ (.of fun n => ?_))
    rw [L51x2_1, szF_eq, ← h, if_neg (by simp), L51x2_2, if_neg Bool.false_ne_true]
    simp
  | b :: rest, pre, h => by
    have hlt : pre.length < (bl s).length := by rw [← h]; simp
    have hb := pre_get h
    cases hp : dig b with
    | false =>
      refine .succ (.succ (.of fun n => ?_))
      rw [L51x2_1, szF_eq, if_pos (by omega), atF_get hb, f67]
      simp only [bO1]
      rw [show inZ 48 57 (b.toNat : Int) = false from hp, L51x2_2, if_neg Bool.false_ne_true]
      simp [hp]
    | true =>
      have ih := evL51x2 hs rest (pre ++ [b]) (by simpa using h)
      have e : (pre ++ [b]).length + (rest.takeWhile dig).length = pre.length + ((b :: rest).takeWhile dig).length := by
        simp [hp]; omega
      rw [e] at ih
      refine .succ (.succ (ih.congr fun n => ?_))
      rw [L51x2_1, szF_eq, if_pos (by omega), atF_get hb, f67]
      simp only [bO1]
      rw [show inZ 48 57 (b.toNat : Int) = true from hp, L51x2_2, if_pos rfl]
      simp only [letF]
      rw [wrap_succ (N := (bl s).length) hlt (by rw [← bl_len]; exact hs)]
      simp
theorem ev51x2 {s : ByteArray} (hs : s.size ≤ maxLen) : Ev (fun n => F51x2 n s) (((bl s).takeWhile dig).length : Int) := by
  have := evL51x2 hs (bl s) [] rfl
  unfold F51x2
  simpa using this

/-! ### numerals -/
theorem dig_range {b : UInt8} (h : dig b = true) : 48 ≤ b.toNat ∧ b.toNat ≤ 57 := by
  unfold dig inZ at h
  simp at h
  omega
theorem evL79 {s : ByteArray} (hs : s.size ≤ maxLen) (hne : bl s ≠ []) : ∀ (rest pre : List UInt8), pre ++ rest = bl s → rest.all dig = true → Ev (fun n => L79_1 n s false ((bl s).length : Int) (pre.length : Int)) true
  | [], pre, h, _ => by
    refine .succ (.succ (.of fun n => ?_))
    have hl : pre.length = (bl s).length := by rw [← h]; simp
    rw [L79_1, if_neg (by omega), L79_2, if_neg Bool.false_ne_true, if_neg (fun e => hne (empty_iff.1 e))]
    simp [letB]
  | b :: rest, pre, h, ha => by
    have hlt : pre.length < (bl s).length := by rw [← h]; simp
    have hb := pre_get h
    simp only [List.all_cons, Bool.and_eq_true] at ha
    obtain ⟨h1, h2⟩ := dig_range ha.1
    have ih := evL79 hs hne rest (pre ++ [b]) (by simpa using h) ha.2
    refine .succ (.succ (.succ (ih.congr fun n => ?_)))
    rw [L79_1, if_pos (by omega), L79_2, if_pos rfl, atF_get hb, if_neg (by omega), atF_get hb, if_neg (by omega), L79_3, if_neg Bool.false_ne_true]
    simp only [letF]
    rw [wrap_succ (N := (bl s).length) hlt (by rw [← bl_len]; exact hs)]
    simp
theorem ev79 {s : ByteArray} (hs : s.size ≤ maxLen) (hne : bl s ≠ []) (ha : (bl s).all dig = true) : Ev (fun n => F79 n s false) true := by
  have := evL79 hs hne (bl s) [] rfl ha
  unfold F79
  refine this.congr fun n => ?_
  rw [szF_eq]; rfl

theorem f82_no (n : Nat) (z : Int) : F82 (n + 1) false z false = some (0, 10) := by
  unfold F82
  simp only [letB, Bool.not_false, if_true]
  rw [L82_1, if_pos rfl]
theorem f82_yes (n : Nat) (z : Nat) (hz : z < 18446744073709551616) : ∃ v, F82 (n + 1) false (z : Int) true = some (v, if z < 9223372036854775808 then 0 else 10) := by
  unfold F82
  simp only [letB, Bool.not_true, Bool.false_eq_true, if_false]
  by_cases h1 : z < 9223372036854775808
  · refine ⟨IntKind.wrap .i64 (z : Int), ?_⟩
    rw [if_neg (by omega), if_neg (by omega), L82_1, if_neg Bool.false_ne_true, if_neg Bool.false_ne_true, if_pos h1]
    simp only [letF]
  · refine ⟨0, ?_⟩
    rw [if_neg h1]
    by_cases h2 : z = 9223372036854775808
    · rw [if_neg (by omega), if_pos (by omega), Bool.not_false, L82_1, if_pos rfl]
    · rw [if_pos (by omega), L82_1, if_pos rfl]
theorem wrap_u8 {x : Int} (h : 0 ≤ x ∧ x < 256) : IntKind.u8.wrap x = x := by
  have := IntKind.wrap_u8 x
  rw [this]; omega
theorem wrap_u64 {x : Int} (h : 0 ≤ x ∧ x < 18446744073709551616) : IntKind.u64.wrap x = x := by
  rw [IntKind.wrap_u64]; omega
theorem evL68 {s : ByteArray} (hs : s.size ≤ maxLen) : ∀ (rest pre : List UInt8) (z : Nat), pre ++ rest = bl s → rest.all dig = true → z < 18446744073709551616 →
    ∃ v, Ev (fun n => L68_3 n s false true (pre.length : Int) false (z : Int)) (v, if dvalF z rest < 9223372036854775808 then 0 else 10)
  | [], pre, z, h, _, hz => by
    have hl : pre.length = (bl s).length := by rw [← h]; simp
    obtain ⟨v, hv⟩ := f82_yes 0 z hz
    refine ⟨v, .succ (.succ (.succ (.of fun n => ?_)))⟩
    obtain ⟨v', hv'⟩ := f82_yes n z hz
    have e : v' = v := by
      have : ∀ n, F82 (n + 1) false (z : Int) true = F82 1 false (z : Int) true := fun n => by
        unfold F82
        simp only [letB, Bool.not_true, Bool.false_eq_true, if_false]
        simp only [L82_1]
      rw [this, hv] at hv'
      cases hv'; rfl
    subst e
    rw [L68_3, szF_eq, if_neg (by omega), L68_4, if_neg Bool.false_ne_true, hv']
    rfl
  | b :: rest, pre, z, h, ha, hz => by
    have hlt : pre.length < (bl s).length := by rw [← h]; simp
    have hb := pre_get h
    simp only [List.all_cons, Bool.and_eq_true] at ha
    obtain ⟨h1, h2⟩ := dig_range ha.1
    have hN : (bl s).length ≤ maxLen := by rw [← bl_len]; exact hs
    have f80 : ∀ n, F80 n false (z : Int) false 10 = some (false, ((z * 10 % 18446744073709551616 : Nat) : Int), decide (z * 10 < 18446744073709551616)) := fun n => by
      unfold F80 F86
      rw [if_pos (by omega)]
      simp only [bO2, letB, beq_self_eq_true, Bool.not_true, Bool.false_eq_true, if_false]
      have e1 : (z : Int) * 10 % 18446744073709551616 = ((z * 10 % 18446744073709551616 : Nat) : Int) := by omega
      rw [e1]
      by_cases h : z * 10 < 18446744073709551616
      · rw [if_pos (by omega)]; simp [h]
      · rw [if_neg (by omega)]; simp [h]
    have tail : ∀ (y : Int), Ev (fun n => L68_3 n s false false ((pre.length + 1 : Nat) : Int) false y) (0, 10) := fun y => by
      refine .succ (.succ (.succ (.of fun n => ?_)))
      rw [L68_3, szF_eq]
      have e : ∀ c : Prop, ∀ [Decidable c], (if c then L68_4 (n + 2) s false false ((pre.length + 1 : Nat) : Int) false y false else L68_4 (n + 2) s false false ((pre.length + 1 : Nat) : Int) false y false) = L68_4 (n + 2) s false false ((pre.length + 1 : Nat) : Int) false y false := fun c _ => by split <;> rfl
      rw [e, L68_4, if_neg Bool.false_ne_true, f82_no]
      rfl
    have open2 : ∀ n, L68_3 (n + 2) s false true (pre.length : Int) false (z : Int) = bO3 (F80 n false (z : Int) false 10) fun b16 z17 b18 => (if b18 = true then letF (IntKind.wrap .u8 ((b.toNat : Int) - 48)) fun z20 => letF (IntKind.wrap .u64 z20) fun z21 => bO3 (F81 n b16 z17 false z21) fun b22 z23 b24 => L68_5 n s false (pre.length : Int) b24 b22 z23 else L68_5 n s false (pre.length : Int) false b16 z17) := fun n => by
      rw [L68_3, szF_eq, if_pos (by omega), L68_4, if_pos rfl]
      congr 1
      funext b16 z17 b18
      rw [atF_get hb]
    have open5 : ∀ n b24 b22 y, L68_5 (n + 1) s false (pre.length : Int) b24 b22 y = L68_3 n s false b24 ((pre.length + 1 : Nat) : Int) b22 y := fun n b24 b22 y => by
      rw [L68_5]
      simp only [letF]
      rw [wrap_succ (N := (bl s).length) hlt hN]
    by_cases hm : z * 10 < 18446744073709551616
    · have e1 : z * 10 % 18446744073709551616 = z * 10 := Nat.mod_eq_of_lt hm
      have f81 : ∀ n, F81 n false ((z * 10 : Nat) : Int) false ((b.toNat : Int) - 48) = some (false, (((z * 10 + (b.toNat - 48)) % 18446744073709551616 : Nat) : Int), decide (z * 10 + (b.toNat - 48) < 18446744073709551616)) := fun n => by
        unfold F81 addF
        simp only [letB, beq_self_eq_true, if_true]
        rw [if_pos (by omega)]
        have e2 : (((z * 10 : Nat) : Int) + ((b.toNat : Int) - 48) + 0) % 18446744073709551616 = (((z * 10 + (b.toNat - 48)) % 18446744073709551616 : Nat) : Int) := by omega
        rw [e2]
        by_cases h : z * 10 + (b.toNat - 48) < 18446744073709551616
        · rw [if_pos (by omega)]; simp [h]
        · rw [if_neg (by omega)]; simp [h]
      have step : ∀ n, L68_3 (n + 3) s false true (pre.length : Int) false (z : Int) = L68_3 n s false (decide (z * 10 + (b.toNat - 48) < 18446744073709551616)) ((pre.length + 1 : Nat) : Int) false (((z * 10 + (b.toNat - 48)) % 18446744073709551616 : Nat) : Int) := fun n => by
        rw [open2, f80, e1]
        simp only [bO3, decide_eq_true hm, if_true, letF]
        rw [wrap_u8 (by omega), wrap_u64 (by omega), f81]
        simp only []
        rw [open5]
      by_cases hc : z * 10 + (b.toNat - 48) < 18446744073709551616
      · obtain ⟨v, hv⟩ := evL68 hs rest (pre ++ [b]) (z * 10 + (b.toNat - 48)) (by simpa using h) ha.2 hc
        refine ⟨v, .succ (.succ (.succ (Ev.congr (r := (v, if dvalF z (b :: rest) < 9223372036854775808 then 0 else 10)) hv fun n => ?_)))⟩
        rw [step, decide_eq_true hc, Nat.mod_eq_of_lt hc]
        simp
      · have big : ¬ dvalF z (b :: rest) < 9223372036854775808 := by
          have := dvalF_ge rest (z * 10 + (b.toNat - 48))
          show ¬ dvalF (z * 10 + (b.toNat - 48)) rest < _
          omega
        refine ⟨0, .succ (.succ (.succ ?_))⟩
        rw [if_neg big]
        exact (tail _).congr fun n => by rw [step, decide_eq_false hc]
    · have big : ¬ dvalF z (b :: rest) < 9223372036854775808 := by
        have := dvalF_ge rest (z * 10 + (b.toNat - 48))
        show ¬ dvalF (z * 10 + (b.toNat - 48)) rest < _
        omega
      refine ⟨0, .succ (.succ (.succ ?_))⟩
      rw [if_neg big]
      exact (tail _).congr fun n => by
        rw [open2, f80]
        simp only [bO3, decide_eq_false hm, Bool.false_eq_true, if_false]
        rw [open5]
theorem ev68 {s : ByteArray} (hs : s.size ≤ maxLen) (hne : bl s ≠ []) (ha : (bl s).all dig = true) : ∃ v, Ev (fun n => F68 n s) (v, if numOK (bl s) = true then 0 else 10) := by
  obtain ⟨v, hv⟩ := evL68 hs (bl s) [] 0 rfl ha (by omega)
  obtain ⟨b, r, h⟩ := List.exists_cons_of_ne_nil hne
  have hb : (bl s)[0]? = some b := by rw [h]; rfl
  have hd : dig b = true := by rw [h] at ha; simp only [List.all_cons, Bool.and_eq_true] at ha; exact ha.1
  obtain ⟨h1, h2⟩ := dig_range hd
  refine ⟨v, .succ (.succ (Ev.congr (A := fun n => bO1 (F79 n s false) fun b8 => letB (!b8) fun b9 => (if b9 = true then some ((0 : Int), (2 : Int)) else L68_3 n s false true (0 : Int) false (0 : Int))) ?_ fun n => ?_))⟩
  · refine Ev.bO1 (ev79 hs hne ha) ?_
    simp only [letB, Bool.not_true, Bool.false_eq_true, if_false]
    have e : (if numOK (bl s) = true then (0 : Int) else 10) = if dvalF 0 (bl s) < 9223372036854775808 then 0 else 10 := by simp [numOK]
    rw [e]
    exact hv
  · unfold F68
    rw [szF_eq, if_pos (by rw [h]; simp), atF_0 hb, if_neg (by omega), L68_1, if_neg Bool.false_ne_true, L68_2]

/-! ### signs -/
def twoS (l : List UInt8) : Bool := Lib.hasPrefix l [61, 61] || Lib.hasPrefix l [61, 62] || Lib.hasPrefix l [45, 62]
def signsL : List UInt8 := [40, 41, 123, 125, 60, 62, 44, 59, 58, 61, 38, 42, 46, 43, 45, 47, 37]
def sgn (b : UInt8) : Bool := decide (b ∈ signsL)
theorem indexByte_mem : ∀ (l : List UInt8) (b : UInt8), decide ((0 : Int) ≤ Lib.indexByte l b) = decide (b ∈ l)
  | [], b => by simp [Lib.indexByte]
  | x :: l, b => by
    have ih := indexByte_mem l b
    have hg := Lib.indexByte_ge l b
    unfold Lib.indexByte
    by_cases h : x = b
    · subst h; simp
    · have h' : (x == b) = false := by simpa using h
      rw [h']
      simp only [Bool.false_eq_true, if_false, List.mem_cons, Ne.symm h, false_or]
      rw [← ih]
      split
      · rename_i h2
        have := eq_of_beq h2
        rw [this]
      · rename_i h2
        have h3 : Lib.indexByte l b ≠ -1 := by simpa using h2
        have e1 : (0 : Int) ≤ Lib.indexByte l b + 1 := by omega
        have e2 : (0 : Int) ≤ Lib.indexByte l b := by omega
        simp [e1, e2]
theorem ev69 {s : ByteArray} {b : UInt8} {r : List UInt8} (h : bl s = b :: r) : Ev (fun n => F69 n s) (if twoS (bl s) = true then 2 else if sgn b = true then 1 else 0) := by
  have hb : (bl s)[0]? = some b := by rw [h]; rfl
  refine .succ (.succ (.succ (.succ (.succ (.succ (.succ (.succ (.succ (.of fun n => ?_)))))))))
  have p1 : ∀ n, F65 n s k___ = some (Lib.hasPrefix (bl s) [61, 61]) := fun n => rfl
  have p2 : ∀ n, F65 n s k____1 = some (Lib.hasPrefix (bl s) [61, 62]) := fun n => rfl
  have p3 : ∀ n, F65 n s k____2 = some (Lib.hasPrefix (bl s) [45, 62]) := fun n => rfl
  have g0 : ([.str k___, .str k____1, .str k____2] : List D)[0]? = some (.str k___) := rfl
  have g1 : ([.str k___, .str k____1, .str k____2] : List D)[1]? = some (.str k____1) := rfl
  have g2 : ([.str k___, .str k____1, .str k____2] : List D)[2]? = some (.str k____2) := rfl
  have w0 : IntKind.wrap .i64 ((0 : Nat) + 1 : Int) = ((1 : Nat) : Int) := by decide
  have w1 : IntKind.wrap .i64 ((1 : Nat) + 1 : Int) = ((2 : Nat) : Int) := by decide
  have w2 : IntKind.wrap .i64 ((2 : Nat) + 1 : Int) = ((3 : Nat) : Int) := by decide
  have last : ∀ n, F64 n k__________________ (b.toNat : Int) = some (Lib.indexByte signsL b) := fun n => by
    have e : (b.toNat : Int).toNat.toUInt8 = b := by rw [Int.toNat_natCast]; exact UInt8.ofNat_toNat
    show some (Lib.indexByte (bl k__________________) ((b.toNat : Int).toNat.toUInt8)) = _
    rw [e]; rfl
  have z0 : (0 : Int) = ((0 : Nat) : Int) := rfl
  unfold F69 twoS
  rw [z0, L69_1, if_pos (by decide), L69_2, if_pos rfl, getF_nat g0]
  simp only [ds_str, p1, bO1, letF]
  cases q1 : Lib.hasPrefix (bl s) [61, 61] with
  | true => simp
  | false =>
    simp only [Bool.false_eq_true, if_false, Bool.false_or]
    rw [w0, L69_1, if_pos (by decide), L69_2, if_pos rfl, getF_nat g1]
    simp only [ds_str, p2, bO1, letF]
    cases q2 : Lib.hasPrefix (bl s) [61, 62] with
    | true => simp
    | false =>
      simp only [Bool.false_eq_true, if_false, Bool.false_or]
      rw [w1, L69_1, if_pos (by decide), L69_2, if_pos rfl, getF_nat g2]
      simp only [ds_str, p3, bO1, letF]
      cases q3 : Lib.hasPrefix (bl s) [45, 62] with
      | true => simp
      | false =>
        simp only [Bool.false_eq_true, if_false]
        rw [w2, L69_1, if_neg (by decide), L69_2, if_neg Bool.false_ne_true, atF_0 hb, last]
        simp only [bO1]
        have hm := indexByte_mem signsL b
        cases q4 : sgn b with
        | true =>
          have : (0 : Int) ≤ Lib.indexByte signsL b := by
            rw [show decide (b ∈ signsL) = true from q4] at hm; simpa using hm
          rw [if_pos this, L69_3]
          simp
        | false =>
          have : ¬ (0 : Int) ≤ Lib.indexByte signsL b := by
            rw [show decide (b ∈ signsL) = false from q4] at hm; simpa using hm
          rw [if_neg this, L69_3]
          simp

/-! ### the token at the beginning -/
def kindW (t : List UInt8) : Int := if word (tx t) = true then 1 else if nm 97 122 (tx t) = true then 2 else if nm 65 90 (tx t) = true then 3 else 0
def oneL (l : List UInt8) : Int × List UInt8 :=
  match l with
  | [] => (0, [])
  | b :: r =>
    if letter b = true then (kindW (l.takeWhile pB), l.takeWhile pB)
    else if dig b = true then (if numOK (l.takeWhile dig) = true then (4, l.takeWhile dig) else (0, []))
    else if twoS l = true then (5, l.take 2) else if sgn b = true then (5, l.take 1) else (0, [])
theorem takeWhile_take {α : Type} (p : α → Bool) : ∀ l : List α, l.take (l.takeWhile p).length = l.takeWhile p
  | [] => rfl
  | x :: l => by
    cases h : p x
    · simp [h]
    · simp [h, takeWhile_take p l]
theorem takeWhile_le {α : Type} (p : α → Bool) (l : List α) : (l.takeWhile p).length ≤ l.length := (List.takeWhile_sublist p).length_le
theorem all_takeWhile {α : Type} (p : α → Bool) : ∀ l : List α, (l.takeWhile p).all p = true
  | [] => rfl
  | x :: l => by
    cases h : p x
    · simp [h]
    · simp [h, all_takeWhile p l]
theorem tx_nil : tx [] = ByteArray.empty := rfl
theorem ev49 {s : ByteArray} (hs : s.size ≤ maxLen) (hne : bl s ≠ []) : Ev (fun n => F49 n s) ((oneL (bl s)).1, tx (oneL (bl s)).2) := by
  obtain ⟨b, r, h⟩ := List.exists_cons_of_ne_nil hne
  have hb : (bl s)[0]? = some b := by rw [h]; rfl
  have hN : (bl s).length ≤ maxLen := by rw [← bl_len]; exact hs
  have z0 : (0 : Int) = ((0 : Nat) : Int) := rfl
  have szt : ∀ t : List UInt8, t.length ≤ (bl s).length → (tx t).size ≤ maxLen := fun t ht => by rw [bl_len, bl_tx]; omega
  have head : ∀ n, F49 n s = L49_1 n s (b.toNat : Int) (letter b) := fun n => by
    unfold F49
    rw [atF_0 hb, f32, f34]
    unfold letter
    cases inZ 97 122 (b.toNat : Int) <;> simp [bO1]
  have hone : oneL (bl s) = (if letter b = true then (kindW ((bl s).takeWhile pB), (bl s).takeWhile pB)
    else if dig b = true then (if numOK ((bl s).takeWhile dig) = true then (4, (bl s).takeWhile dig) else (0, []))
    else if twoS (bl s) = true then (5, (bl s).take 2) else if sgn b = true then (5, (bl s).take 1) else (0, [])) := by rw [h]; rfl
  rw [hone]
  cases hl : letter b with
  | true =>
    simp only [if_true]
    have ht := szt _ (takeWhile_le pB (bl s))
    refine .succ (Ev.congr (A := fun n => bO1 (F51 n s) fun z6 => subF s (0 : Int) z6 fun s7 => bO1 (F11 n s7) fun b8 => (if b8 = true then L49_2 n s7 (1 : Int) else bO1 (F13 n s7) fun b9 => (if b9 = true then L49_2 n s7 (2 : Int) else bO1 (F15 n s7) fun b10 => (if b10 = true then L49_2 n s7 (3 : Int) else L49_2 n s7 (0 : Int))))) ?_ fun n => by rw [head, hl, L49_1, if_pos rfl])
    refine Ev.bO1 (ev51 hs) (Ev.congr (A := fun n => bO1 (F11 n (tx ((bl s).takeWhile pB))) fun b8 => (if b8 = true then L49_2 n (tx ((bl s).takeWhile pB)) (1 : Int) else bO1 (F13 n (tx ((bl s).takeWhile pB))) fun b9 => (if b9 = true then L49_2 n (tx ((bl s).takeWhile pB)) (2 : Int) else bO1 (F15 n (tx ((bl s).takeWhile pB))) fun b10 => (if b10 = true then L49_2 n (tx ((bl s).takeWhile pB)) (3 : Int) else L49_2 n (tx ((bl s).takeWhile pB)) (0 : Int))))) ?_ fun n => ?_)
    · have l2 : ∀ k : Int, Ev (fun n => L49_2 n (tx ((bl s).takeWhile pB)) k) (k, tx ((bl s).takeWhile pB)) := fun k => .succ (.of fun n => by rw [L49_2])
      refine Ev.bO1 (ev11 _) ?_
      unfold kindW
      cases word (tx ((bl s).takeWhile pB)) with
      | true => simp only [if_true]; exact l2 1
      | false =>
        simp only [Bool.false_eq_true, if_false]
        refine Ev.bO1 (ev13 ht) ?_
        cases nm 97 122 (tx ((bl s).takeWhile pB)) with
        | true => simp only [if_true]; exact l2 2
        | false =>
          simp only [Bool.false_eq_true, if_false]
          refine Ev.bO1 (ev15 ht) ?_
          cases nm 65 90 (tx ((bl s).takeWhile pB)) with
          | true => simp only [if_true]; exact l2 3
          | false => simp only [Bool.false_eq_true, if_false]; exact l2 0
    · have := subF_eq (s := s) (i := 0) (j := ((bl s).takeWhile pB).length) (k := fun s7 => bO1 (F11 n s7) fun b8 => (if b8 = true then L49_2 n s7 (1 : Int) else bO1 (F13 n s7) fun b9 => (if b9 = true then L49_2 n s7 (2 : Int) else bO1 (F15 n s7) fun b10 => (if b10 = true then L49_2 n s7 (3 : Int) else L49_2 n s7 (0 : Int))))) (Nat.zero_le _) (takeWhile_le pB (bl s))
      rw [takeWhile_take] at this
      exact this.symm
  | false =>
    simp only [Bool.false_eq_true, if_false]
    cases hd : dig b with
    | true =>
      simp only [if_true]
      have ht := szt _ (takeWhile_le dig (bl s))
      have hne' : bl (tx ((bl s).takeWhile dig)) ≠ [] := by rw [bl_tx, h]; simp [hd]
      obtain ⟨v, hv⟩ := ev68 ht hne' (by rw [bl_tx]; exact all_takeWhile dig _)
      rw [bl_tx] at hv
      refine .succ (Ev.congr (A := fun n => bO1 (F51x2 n s) fun z13 => subF s (0 : Int) z13 fun s14 => bO2 (F68 n s14) fun z15 z16 => (if z16 = (0 : Int) then L49_3 n s14 false else L49_3 n s14 true)) ?_ fun n => ?_)
      · refine Ev.bO1 (ev51x2 hs) (Ev.congr (A := fun n => bO2 (F68 n (tx ((bl s).takeWhile dig))) fun z15 z16 => (if z16 = (0 : Int) then L49_3 n (tx ((bl s).takeWhile dig)) false else L49_3 n (tx ((bl s).takeWhile dig)) true)) ?_ fun n => ?_)
        · refine Ev.bO2 hv ?_
          cases numOK ((bl s).takeWhile dig) with
          | true => simp only [if_true]; exact .succ (.of fun n => by rw [L49_3, if_neg Bool.false_ne_true])
          | false => simp only [Bool.false_eq_true, if_false]; exact .succ (.of fun n => by rw [if_neg (by decide), L49_3, if_pos rfl, tx_nil])
        · have := subF_eq (s := s) (i := 0) (j := ((bl s).takeWhile dig).length) (k := fun s14 => bO2 (F68 n s14) fun z15 z16 => (if z16 = (0 : Int) then L49_3 n s14 false else L49_3 n s14 true)) (Nat.zero_le _) (takeWhile_le dig (bl s))
          rw [takeWhile_take] at this
          exact this.symm
      · rw [head, hl, L49_1, if_neg Bool.false_ne_true, f67, show inZ 48 57 (b.toNat : Int) = true from hd]
        simp [bO1]
    | false =>
      simp only [Bool.false_eq_true, if_false]
      refine .succ (Ev.congr (A := fun n => bO1 (F69 n s) fun z18 => (if (0 : Int) < z18 then L49_4 n s z18 true else L49_4 n s z18 false)) ?_ fun n => ?_)
      · refine Ev.bO1 (ev69 h) ?_
        cases ht : twoS (bl s) with
        | true =>
          simp only [if_true]
          have h2 : 2 ≤ (bl s).length := by
            unfold twoS at ht
            rw [h] at ht ⊢
            match r, ht with
            | [], ht => simp [hasPrefix_two] at ht
            | c :: r, _ => simp
          refine .succ (.of fun n => ?_)
          have := subF_eq (s := s) (i := 0) (j := 2) (k := fun s20 => some ((5 : Int), s20)) (by omega) h2
          rw [if_pos (by decide), L49_4, if_pos rfl]
          exact this
        | false =>
          simp only [Bool.false_eq_true, if_false]
          cases hg : sgn b with
          | true =>
            simp only [if_true]
            refine .succ (.of fun n => ?_)
            have := subF_eq (s := s) (i := 0) (j := 1) (k := fun s20 => some ((5 : Int), s20)) (by omega) (by rw [h]; simp)
            rw [if_pos (by decide), L49_4, if_pos rfl]
            exact this
          | false =>
            simp only [Bool.false_eq_true, if_false]
            refine .succ (.of fun n => ?_)
            rw [if_neg (by decide), L49_4, if_neg Bool.false_ne_true, tx_nil]
      · rw [head, hl, L49_1, if_neg Bool.false_ne_true, f67, show inZ 48 57 (b.toNat : Int) = false from hd]
        simp [bO1]
end Go.Proofs.YtjmofeakajdbiaaDoor

/- Printed by lift.py: functional texts of functions, and their contracts. No condition. -/
set_option linter.unusedVariables false
noncomputable section
namespace Go.Proofs.YtjmofeakajdbiaaDoor
open Go Go.AM
def L27_5 : Nat → (List D) → Bool → Option (List D × Int × Int)
  | 0, _, _ => none
  | n + 1, l5, b20 =>
    (if b20 = true then some (([] : List D), (0 : Int), (4 : Int)) else some (l5, (0 : Int), (0 : Int)))
mutual
def L27_2 : Nat → ByteArray → (List D) → Int → Option (List D × Int × Int)
  | 0, _, _, _ => none
  | n + 1, s1, l5, z6 =>
    szF s1 fun z7 => (if z6 < z7 then L27_3 n s1 l5 z6 true else L27_3 n s1 l5 z6 false)
def L27_3 : Nat → ByteArray → (List D) → Int → Bool → Option (List D × Int × Int)
  | 0, _, _, _, _ => none
  | n + 1, s1, l5, z6, b8 =>
    (if b8 = true then subToF s1 z6 fun s9 => bO2 (F49 n s9) fun z10 s11 => (if z10 = (0 : Int) then L27_4 n s1 l5 z6 z10 s11 true else L27_4 n s1 l5 z6 z10 s11 false) else lenF l5 fun z19 => (if (1500 : Int) < z19 then L27_5 n l5 true else L27_5 n l5 false))
def L27_4 : Nat → ByteArray → (List D) → Int → Int → ByteArray → Bool → Option (List D × Int × Int)
  | 0, _, _, _, _, _, _ => none
  | n + 1, s1, l5, z6, z10, s11, b12 =>
    (if b12 = true then some (([] : List D), z6, (20 : Int)) else appF 32 l5 ([.agg [.int .u8 z10, .str s11, .int .i64 z6]]) fun l13 => szF s11 fun z14 => letF (IntKind.wrap .i64 (z6 + z14)) fun z15 => subToF s1 z15 fun s16 => bO1 (F48 n s16) fun z17 => letF (IntKind.wrap .i64 (z15 + z17)) fun z18 => L27_2 n s1 l13 z18)
end
def L27_1 : Nat → ByteArray → Bool → Option (List D × Int × Int)
  | 0, _, _ => none
  | n + 1, s1, b3 =>
    (if b3 = true then some (([] : List D), (0 : Int), (3 : Int)) else bO1 (F48 n s1) fun z4 => L27_2 n s1 ([] : List D) z4)
def F27 (n : Nat) (s1 : ByteArray) : Option (List D × Int × Int) :=
  szF s1 fun z2 => (if (4000 : Int) < z2 then L27_1 n s1 true else L27_1 n s1 false)
set_option maxRecDepth 100000 in
set_option maxHeartbeats 40000000 in
theorem T27 (n : Nat) : ∀ ⦃s1 : ByteArray⦄ ⦃r1 : List D⦄ ⦃r2 : Int⦄ ⦃r3 : Int⦄, F27 n s1 = some (r1, r2, r3) →
    Trip Tryd.prog inv 27 [.d (.str s1)] [] (.t [.d (.list true 3 r1), .d (.int .i64 r2), .d (.int .i64 r3)]) [] [] := by
  intro s1 r1 r2 r3 h
  unfold F27 at h
  refine Trip.of tab_ok tab_one fol Tryd.func27 rfl (by kernel_rfl) rfl rfl rfl (fun M hM hI => ?_)
  try cbv
  refine seq_go ?_
  try cbv
  refine seq_go ?_
  try cbv
  refine seq_join (T := Nat × Bool) (fun t => ⟨[(0, .v (.d (.str s1))), (2, .v (.c (.nils true 3))), (3, .v (.d (.int .i64 0))), (4, .v (.d (.int .i64 0))), (10, .v (.d (.bool t.2)))], [], 192⟩) (fun t => t.1 ≤ n ∧ L27_1 t.1 s1 t.2 = some (r1, r2, r3)) ?_ ?_
  · try cbv
    replace h := szF_inv M h
    obtain ⟨z2, hz, h⟩ := h
    refine ⟨z2, hz, ?_⟩
    clear hz
    try cbv
    refine splitL (fun e => ?_) (fun e => ?_)
    · replace h := ite_t e h
      clear e
      try cbv
      exact join_next (n, true) [0, 2, 3, 4, 10] [] 192 ⟨by omega, h⟩ (by cbv)
    · replace h := ite_f (Int.not_lt.2 e) h
      clear e
      try cbv
      exact join_next (n, false) [0, 2, 3, 4, 10] [] 192 ⟨by omega, h⟩ (by cbv)
  · clear h
    rintro ⟨m1, b3⟩ ⟨hm1, h⟩
    replace hm1 : m1 ≤ n := hm1
    cases m1 with
    | zero => cases (show (none : Option _) = some _ from h)
    | succ m1 =>
      replace h : L27_1 (m1 + 1) s1 b3 = some (r1, r2, r3) := h
      rw [L27_1] at h
      try cbv
      cases b3
      · replace h := ite_f Bool.false_ne_true h
        try cbv
        refine seq_go ?_
        try cbv
        refine seq_go ?_
        try cbv
        refine seq_go ?_
        try cbv
        replace h := bO1_inv h
        obtain ⟨z4, hr, h⟩ := h
        refine call_go rfl rfl ?_
        try cbv
        refine call_pure hM hI (T48 _ hr) rfl ?_
        clear hr
        try cbv
        refine loop_invT (T := Nat × List D × Int) [.slot 5 true 3 46] [0, 2, 3, 4, 5, 6] [.loc 320] 352 (fun t => ⟨[(0, .v (.d (.str s1))), (2, .v (.c (.nils true 3))), (3, .v (.d (.int .i64 0))), (4, .v (.d (.int .i64 0))), (5, .v (.c (.lst (.loc 320) true 3 t.2.1))), (6, .v (.d (.int .i64 t.2.2)))], [(.loc 320, .tok t.2.1.length 3 46)], 352⟩)
          (fun t => t.1 ≤ m1 ∧ L27_2 t.1 s1 t.2.1 t.2.2 = some (r1, r2, r3)) (fun t => t.1) (m1, (([] : List D), z4)) ⟨Nat.le_refl _, h⟩ (by cbv) ?_
        clear h
        rintro ⟨m2, l5, z6⟩ ⟨hm2, h⟩
        replace hm2 : m2 ≤ m1 := hm2
        cases m2 with
        | zero => cases (show (none : Option _) = some _ from h)
        | succ m2 =>
          replace h : L27_2 (m2 + 1) s1 l5 z6 = some (r1, r2, r3) := h
          rw [L27_2] at h
          try cbv
          refine seq_go ?_
          try cbv
          refine seq_join (T := Nat × Bool) (fun t => ⟨[(0, .v (.d (.str s1))), (2, .v (.c (.nils true 3))), (3, .v (.d (.int .i64 0))), (4, .v (.d (.int .i64 0))), (5, .v (.c (.lst (.loc 320) true 3 l5))), (6, .v (.d (.int .i64 z6))), (16, .v (.d (.bool t.2)))], [(.loc 320, .tok l5.length 3 46)], 480⟩) (fun t => t.1 ≤ m2 ∧ L27_3 t.1 s1 l5 z6 t.2 = some (r1, r2, r3)) ?_ ?_
          · try cbv
            replace h := szF_inv M h
            obtain ⟨z7, hz, h⟩ := h
            refine ⟨z7, hz, ?_⟩
            clear hz
            try cbv
            refine splitL (fun e => ?_) (fun e => ?_)
            · replace h := ite_t e h
              clear e
              try cbv
              exact join_next (m2, true) [0, 2, 3, 4, 5, 6, 16] [.loc 320] 480 ⟨by omega, h⟩ (by cbv)
            · replace h := ite_f (Int.not_lt.2 e) h
              clear e
              try cbv
              exact join_next (m2, false) [0, 2, 3, 4, 5, 6, 16] [.loc 320] 480 ⟨by omega, h⟩ (by cbv)
          · clear h
            rintro ⟨m3, b8⟩ ⟨hm3, h⟩
            replace hm3 : m3 ≤ m2 := hm3
            cases m3 with
            | zero => cases (show (none : Option _) = some _ from h)
            | succ m3 =>
              replace h : L27_3 (m3 + 1) s1 l5 z6 b8 = some (r1, r2, r3) := h
              rw [L27_3] at h
              try cbv
              cases b8
              · replace h := ite_f Bool.false_ne_true h
                try cbv
                refine seq_go ?_
                try cbv
                refine seq_join (T := Nat × Bool) (fun t => ⟨[(0, .v (.d (.str s1))), (2, .v (.c (.nils true 3))), (3, .v (.d (.int .i64 0))), (4, .v (.d (.int .i64 0))), (5, .v (.c (.lst (.loc 320) true 3 l5))), (6, .v (.d (.int .i64 z6))), (44, .v (.d (.bool t.2)))], [(.loc 320, .tok l5.length 3 46)], 576⟩) (fun t => t.1 ≤ m3 ∧ L27_5 t.1 l5 t.2 = some (r1, r2, r3)) ?_ ?_
                · try cbv
                  replace h := lenF_inv M h
                  obtain ⟨z19, hz, h⟩ := h
                  refine ⟨z19, hz, ?_⟩
                  clear hz
                  try cbv
                  refine splitL (fun e => ?_) (fun e => ?_)
                  · replace h := ite_t e h
                    clear e
                    try cbv
                    exact join_next (m3, true) [0, 2, 3, 4, 5, 6, 44] [.loc 320] 576 ⟨by omega, h⟩ (by cbv)
                  · replace h := ite_f (Int.not_lt.2 e) h
                    clear e
                    try cbv
                    exact join_next (m3, false) [0, 2, 3, 4, 5, 6, 44] [.loc 320] 576 ⟨by omega, h⟩ (by cbv)
                · clear h
                  rintro ⟨m5, b20⟩ ⟨hm5, h⟩
                  replace hm5 : m5 ≤ m3 := hm5
                  cases m5 with
                  | zero => cases (show (none : Option _) = some _ from h)
                  | succ m5 =>
                    replace h : L27_5 (m5 + 1) l5 b20 = some (r1, r2, r3) := h
                    rw [L27_5] at h
                    try cbv
                    cases b20
                    · replace h := ite_f Bool.false_ne_true h
                      try cbv
                      refine seq_go ?_
                      try cbv
                      obtain ⟨rfl, rfl, rfl⟩ := inj3 h
                      refine fin_go ?_
                      try cbv
                      exact ⟨[], rfl, rfl, trivial, trivial, trivial⟩
                    · replace h := ite_t rfl h
                      try cbv
                      refine seq_go ?_
                      try cbv
                      obtain ⟨rfl, rfl, rfl⟩ := inj3 h
                      refine fin_go ?_
                      try cbv
                      exact ⟨[], rfl, rfl, trivial, trivial, trivial⟩
              · replace h := ite_t rfl h
                try cbv
                refine seq_go ?_
                try cbv
                replace h := subToF_inv M h
                obtain ⟨s9, hb, hz, h⟩ := h
                refine ⟨s9, hb, hz, ?_⟩
                clear hb hz
                try cbv
                replace h := bO2_inv h
                obtain ⟨z10, s11, hr, h⟩ := h
                refine call_go rfl rfl ?_
                try cbv
                refine call_pure hM hI (T49 _ hr) rfl ?_
                clear hr
                try cbv
                refine seq_go ?_
                try cbv
                refine seq_join (T := Nat × Bool) (fun t => ⟨[(0, .v (.d (.str s1))), (2, .v (.c (.nils true 3))), (3, .v (.d (.int .i64 0))), (4, .v (.d (.int .i64 0))), (5, .v (.c (.lst (.loc 320) true 3 l5))), (6, .v (.d (.int .i64 z6))), (7, .v (.c (.ptr (.loc 608) 0))), (23, .v (.d (.bool t.2)))], [(.loc 320, .tok l5.length 3 46), (.loc 608, .cells [.d (.int .u8 z10), .d (.str s11), .d (.int .i64 0)])], 768⟩) (fun t => t.1 ≤ m3 ∧ L27_4 t.1 s1 l5 z6 z10 s11 t.2 = some (r1, r2, r3)) ?_ ?_
                · try cbv
                  refine splitI (fun e => ?_) (fun e => ?_)
                  · replace h := ite_t e h
                    clear e
                    try cbv
                    exact join_next (m3, true) [0, 2, 3, 4, 5, 6, 7, 23] [.loc 320, .loc 608] 768 ⟨by omega, h⟩ (by cbv)
                  · replace h := ite_f e h
                    clear e
                    try cbv
                    exact join_next (m3, false) [0, 2, 3, 4, 5, 6, 7, 23] [.loc 320, .loc 608] 768 ⟨by omega, h⟩ (by cbv)
                · clear h
                  rintro ⟨m4, b12⟩ ⟨hm4, h⟩
                  replace hm4 : m4 ≤ m3 := hm4
                  cases m4 with
                  | zero => cases (show (none : Option _) = some _ from h)
                  | succ m4 =>
                    replace h : L27_4 (m4 + 1) s1 l5 z6 z10 s11 b12 = some (r1, r2, r3) := h
                    rw [L27_4] at h
                    try cbv
                    cases b12
                    · replace h := ite_f Bool.false_ne_true h
                      try cbv
                      refine seq_go ?_
                      try cbv
                      refine seq_go ?_
                      try cbv
                      refine ⟨false, ?_⟩
                      try cbv
                      refine ⟨true, ?_⟩
                      try cbv
                      replace h := appF_inv h
                      obtain ⟨l13, hb, hz, h⟩ := h
                      refine ⟨false, ?_⟩
                      try cbv
                      first | refine ⟨rfl, (M.lock_iff _).2 hb, l13, hz, ?_⟩ | refine ⟨(M.lock_iff _).2 hb, l13, hz, ?_⟩
                      clear hb hz
                      try cbv
                      refine seq_go ?_
                      try cbv
                      replace h := szF_inv M h
                      obtain ⟨z14, hz, h⟩ := h
                      refine ⟨z14, hz, ?_⟩
                      clear hz
                      try cbv
                      replace h := letF_inv h
                      obtain ⟨z15, hz, h⟩ := h
                      refine ⟨z15, hz, ?_⟩
                      clear hz
                      try cbv
                      replace h := subToF_inv M h
                      obtain ⟨s16, hb, hz, h⟩ := h
                      refine ⟨s16, hb, hz, ?_⟩
                      clear hb hz
                      try cbv
                      replace h := bO1_inv h
                      obtain ⟨z17, hr, h⟩ := h
                      refine call_go rfl rfl ?_
                      try cbv
                      refine call_pure hM hI (T48 _ hr) rfl ?_
                      clear hr
                      try cbv
                      replace h := letF_inv h
                      obtain ⟨z18, hz, h⟩ := h
                      refine ⟨z18, hz, ?_⟩
                      clear hz
                      try cbv
                      exact loop_next (m4, (l13, z18)) [0, 2, 3, 4, 5, 6] [.loc 320] 352 ⟨by omega, h⟩ (Nat.lt_succ_of_le (by omega)) (by cbv)
                    · replace h := ite_t rfl h
                      try cbv
                      refine seq_go ?_
                      try cbv
                      obtain ⟨rfl, rfl, rfl⟩ := inj3 h
                      refine fin_go ?_
                      try cbv
                      exact ⟨[], rfl, rfl, trivial, trivial, trivial⟩
      · replace h := ite_t rfl h
        try cbv
        refine seq_go ?_
        try cbv
        obtain ⟨rfl, rfl, rfl⟩ := inj3 h
        refine fin_go ?_
        try cbv
        exact ⟨[], rfl, rfl, trivial, trivial, trivial⟩
end Go.Proofs.YtjmofeakajdbiaaDoor
end

/- Chapter 2, the plain law, part G: all tokens. No condition. -/
set_option linter.unusedVariables false
noncomputable section
namespace Go.Proofs.YtjmofeakajdbiaaDoor
open Go Go.AM

structure Tok where
  k : Int
  t : List UInt8
  at_ : Nat
def tokD (x : Tok) : D := .agg [.int .u8 x.k, .str (tx x.t), .int .i64 (x.at_ : Int)]
/-- The tokens from a place on, and where there is none. -/
def toks : Nat → Nat → List UInt8 → List Tok × Option Nat
  | 0, _, _ => ([], none)
  | n + 1, p, l => match l with
    | [] => ([], none)
    | b :: r => if (oneL (b :: r)).1 = 0 then ([], some p) else
        let k := (oneL (b :: r)).2.length
        let q := skipB false ((b :: r).drop k)
        let z := toks n (p + k + q) (((b :: r).drop k).drop q)
        (⟨(oneL (b :: r)).1, (oneL (b :: r)).2, p⟩ :: z.1, z.2)
def lexR (l : List UInt8) : List Tok × Int × Int :=
  if 4000 < l.length then ([], 0, 3) else
    match toks l.length (skipB false l) (l.drop (skipB false l)) with
    | (_, some e) => ([], (e : Int), 20)
    | (ts, none) => if 1500 < ts.length then ([], 0, 4) else (ts, 0, 0)

theorem oneL_take (l : List UInt8) (h : (oneL l).1 ≠ 0) : 1 ≤ (oneL l).2.length ∧ (oneL l).2.length ≤ l.length ∧ (oneL l).2 = l.take (oneL l).2.length := by
  match l, h with
  | [], h => exact absurd rfl h
  | b :: r, h =>
    have hone : oneL (b :: r) = (if letter b = true then (kindW ((b :: r).takeWhile pB), (b :: r).takeWhile pB)
      else if dig b = true then (if numOK ((b :: r).takeWhile dig) = true then (4, (b :: r).takeWhile dig) else (0, []))
      else if twoS (b :: r) = true then (5, (b :: r).take 2) else if sgn b = true then (5, (b :: r).take 1) else (0, [])) := rfl
    rw [hone] at h ⊢
    cases hl : letter b with
    | true =>
      simp only [if_true]
      have hp : pB b = true := by unfold letter at hl; unfold pB partZ; simp at hl; rcases hl with h | h <;> simp [h]
      exact ⟨by simp [hp], takeWhile_le _ _, (takeWhile_take _ _).symm⟩
    | false =>
      rw [hl] at h
      simp only [Bool.false_eq_true, if_false] at h ⊢
      cases hd : dig b with
      | true =>
        rw [hd] at h
        simp only [if_true] at h ⊢
        cases hn : numOK ((b :: r).takeWhile dig) with
        | true => simp only [if_true]; exact ⟨by simp [hd], takeWhile_le _ _, (takeWhile_take _ _).symm⟩
        | false => rw [hn] at h; simp at h
      | false =>
        rw [hd] at h
        simp only [Bool.false_eq_true, if_false] at h ⊢
        cases ht : twoS (b :: r) with
        | true =>
          simp only [if_true]
          have h2 : 2 ≤ (b :: r).length := by
            unfold twoS at ht
            match r, ht with
            | [], ht => simp [hasPrefix_two] at ht
            | c :: r, _ => simp
          exact ⟨by simp, by simp; omega, by simp⟩
        | false =>
          rw [ht] at h
          simp only [Bool.false_eq_true, if_false] at h ⊢
          cases hg : sgn b with
          | true => simp only [if_true]; exact ⟨by simp, by simp, by simp⟩
          | false => rw [hg] at h; simp at h

/-- What All tells behind some tokens. -/
def endR (acc : List D) (z : List Tok × Option Nat) : List D × Int × Int :=
  match z.2 with
  | some e => ([], (e : Int), 20)
  | none => if 1500 < acc.length + z.1.length then ([], 0, 4) else (acc ++ z.1.map tokD, 0, 0)
theorem evL27 {s : ByteArray} (hs : (bl s).length ≤ 4000) : ∀ (m : Nat) (rest pre : List UInt8) (acc : List D), rest.length ≤ m → acc.length ≤ pre.length → pre ++ rest = bl s →
    Ev (fun n => L27_2 n s acc (pre.length : Int)) (endR acc (toks m pre.length rest)) := by
  have hN : maxLen = 17592186044416 ∨ 4000 < maxLen := .inr (by decide)
  have hM : 4000 < maxLen := by decide
  have nilCase : ∀ (m : Nat) (pre : List UInt8) (acc : List D), acc.length ≤ pre.length → pre ++ [] = bl s → toks m pre.length [] = ([], none) → Ev (fun n => L27_2 n s acc (pre.length : Int)) (endR acc (toks m pre.length [])) := by
    intro m pre acc ha h ht
    rw [ht]
    refine .succ (.succ (.succ (.of fun n => ?_)))
    rw [L27_2, szF_eq, ← h, if_neg (by simp), L27_3, if_neg Bool.false_ne_true]
    simp only [lenF, endR, List.length_nil, Nat.add_zero, List.map_nil, List.append_nil]
    by_cases hl : 1500 < acc.length
    · rw [if_pos (by omega), L27_5, if_pos rfl, if_pos hl]
    · rw [if_neg (by omega), L27_5, if_neg Bool.false_ne_true, if_neg hl]
  intro m
  induction m with
  | zero =>
    intro rest pre acc hm ha h
    have : rest = [] := List.eq_nil_of_length_eq_zero (by omega)
    subst this
    exact nilCase 0 pre acc ha h rfl
  | succ m ih =>
    intro rest pre acc hm ha h
    match rest, hm, h with
    | [], _, h => exact nilCase (m + 1) pre acc ha h rfl
    | b :: r, hm, h =>
      have hlt : pre.length < (bl s).length := by rw [← h]; simp
      have hsum : pre.length + (b :: r).length = (bl s).length := by rw [← h]; simp
      have hsz : (tx (b :: r)).size ≤ maxLen := by rw [bl_len, bl_tx]; omega
      have h49 := ev49 hsz (by rw [bl_tx]; simp)
      rw [bl_tx] at h49
      have hd : (bl s).drop pre.length = b :: r := by rw [← h]; simp
      have open2 : ∀ n, L27_2 (n + 2) s acc (pre.length : Int) = bO2 (F49 n (tx (b :: r))) fun z10 s11 => (if z10 = (0 : Int) then L27_4 n s acc (pre.length : Int) z10 s11 true else L27_4 n s acc (pre.length : Int) z10 s11 false) := fun n => by
        rw [L27_2, szF_eq, if_pos (by omega), L27_3, if_pos rfl, subToF_eq (by omega), hd]
      by_cases h0 : (oneL (b :: r)).1 = 0
      · have ht : toks (m + 1) pre.length (b :: r) = ([], some pre.length) := by simp only [toks, h0, if_true]
        rw [ht]
        refine .succ (.succ (Ev.congr (A := fun n => bO2 (F49 n (tx (b :: r))) fun z10 s11 => (if z10 = (0 : Int) then L27_4 n s acc (pre.length : Int) z10 s11 true else L27_4 n s acc (pre.length : Int) z10 s11 false)) (Ev.bO2 h49 ?_) fun n => (open2 n).symm))
        exact .succ (.of fun n => by rw [if_pos h0, L27_4, if_pos rfl]; rfl)
      · obtain ⟨k1, k2, k3⟩ := oneL_take (b :: r) h0
        let k := (oneL (b :: r)).2.length
        let q := skipB false ((b :: r).drop k)
        have hq : q ≤ ((b :: r).drop k).length := skipB_le _ _
        have hkd : ((b :: r).drop k).length = (b :: r).length - k := by simp
        have ht : toks (m + 1) pre.length (b :: r) = (⟨(oneL (b :: r)).1, (oneL (b :: r)).2, pre.length⟩ :: (toks m (pre.length + k + q) (((b :: r).drop k).drop q)).1, (toks m (pre.length + k + q) (((b :: r).drop k).drop q)).2) := by
          simp only [toks, h0, if_false]; rfl
        let pre' := pre ++ ((b :: r).take k ++ ((b :: r).drop k).take q)
        have hpre' : pre' ++ ((b :: r).drop k).drop q = bl s := by
          show pre ++ ((b :: r).take k ++ ((b :: r).drop k).take q) ++ ((b :: r).drop k).drop q = bl s
          rw [List.append_assoc, List.append_assoc, List.take_append_drop, List.take_append_drop, h]
        have hl' : pre'.length = pre.length + k + q := by
          show (pre ++ ((b :: r).take k ++ ((b :: r).drop k).take q)).length = _
          rw [List.length_append, List.length_append, List.length_take, List.length_take]
          omega
        have hrest : (((b :: r).drop k).drop q).length ≤ m := by
          rw [List.length_drop, hkd]
          have : (b :: r).length ≤ m + 1 := hm
          omega
        have ih' := ih (((b :: r).drop k).drop q) pre' (acc ++ [tokD ⟨(oneL (b :: r)).1, (oneL (b :: r)).2, pre.length⟩]) hrest (by rw [List.length_append, hl']; simp; omega) hpre'
        rw [hl'] at ih'
        have he : endR (acc ++ [tokD ⟨(oneL (b :: r)).1, (oneL (b :: r)).2, pre.length⟩]) (toks m (pre.length + k + q) (((b :: r).drop k).drop q)) = endR acc (toks (m + 1) pre.length (b :: r)) := by
          rw [ht]
          unfold endR
          simp only []
          split
          · rfl
          · simp only [List.length_append, List.length_cons, List.length_nil, List.map_cons, List.append_assoc, List.cons_append, List.nil_append]
            have : acc.length + (0 + 1) + (toks m (pre.length + k + q) (((b :: r).drop k).drop q)).1.length = acc.length + ((toks m (pre.length + k + q) (((b :: r).drop k).drop q)).1.length + 1) := by omega
            rw [this]
        rw [he] at ih'
        have hd2 : (bl s).drop (pre.length + k) = (b :: r).drop k := by rw [← h, List.drop_append]; simp
        have hsz2 : (tx ((b :: r).drop k)).size ≤ maxLen := by rw [bl_len, bl_tx, hkd]; omega
        have h48 := ev48 hsz2
        rw [bl_tx] at h48
        refine .succ (.succ (Ev.congr (A := fun n => bO2 (F49 n (tx (b :: r))) fun z10 s11 => (if z10 = (0 : Int) then L27_4 n s acc (pre.length : Int) z10 s11 true else L27_4 n s acc (pre.length : Int) z10 s11 false)) (Ev.bO2 h49 ?_) fun n => (open2 n).symm))
        refine .succ (Ev.congr (A := fun n => bO1 (F48 n (tx ((b :: r).drop k))) fun z17 => letF (IntKind.wrap .i64 (((pre.length + k : Nat) : Int) + z17)) fun z18 => L27_2 n s (acc ++ [tokD ⟨(oneL (b :: r)).1, (oneL (b :: r)).2, pre.length⟩]) z18) (Ev.bO1 h48 (ih'.congr fun n => ?_)) fun n => ?_)
        · simp only [letF]
          rw [wrapN (x := pre.length + k + q) (by omega) (by show ((pre.length + k : Nat) : Int) + ((q : Nat) : Int) = _; omega)]
        · rw [if_neg h0, L27_4, if_neg Bool.false_ne_true]
          unfold appF
          rw [if_pos (by simp; omega)]
          dsimp only
          rw [szF_eq, bl_tx]
          simp only [letF]
          rw [wrapN (x := pre.length + k) (by omega) (by show (pre.length : Int) + ((k : Nat) : Int) = _; omega), subToF_eq (by omega), hd2]
          rfl
theorem ev27 {s : ByteArray} (hs : s.size ≤ maxLen) : Ev (fun n => F27 n s) ((lexR (bl s)).1.map tokD, (lexR (bl s)).2.1, (lexR (bl s)).2.2) := by
  by_cases hl : 4000 < (bl s).length
  · refine .succ (.of fun n => ?_)
    unfold F27 lexR
    rw [szF_eq, if_pos (by omega), L27_1, if_pos rfl, if_pos hl]
    rfl
  · have hq := skipB_le false (bl s)
    have h := evL27 (s := s) (by omega) (bl s).length ((bl s).drop (skipB false (bl s))) ((bl s).take (skipB false (bl s))) [] (by simp) (by simp) (List.take_append_drop _ _)
    have hlen : ((bl s).take (skipB false (bl s))).length = skipB false (bl s) := by simp; omega
    rw [hlen] at h
    have e : endR [] (toks (bl s).length (skipB false (bl s)) ((bl s).drop (skipB false (bl s)))) = ((lexR (bl s)).1.map tokD, (lexR (bl s)).2.1, (lexR (bl s)).2.2) := by
      unfold lexR endR
      rw [if_neg hl]
      generalize toks (bl s).length (skipB false (bl s)) ((bl s).drop (skipB false (bl s))) = z
      obtain ⟨ts, e⟩ := z
      cases e with
      | some e => rfl
      | none =>
        simp only [List.length_nil, Nat.zero_add, List.nil_append]
        split <;> rfl
    rw [e] at h
    refine .succ (Ev.congr (A := fun n => bO1 (F48 n s) fun z4 => L27_2 n s ([] : List D) z4) (Ev.bO1 (ev48 hs) h) fun n => ?_)
    unfold F27
    rw [szF_eq, if_neg (by omega), L27_1, if_neg Bool.false_ne_true]
end Go.Proofs.YtjmofeakajdbiaaDoor

/- Printed by lift.py: functional texts of functions, and their contracts. No condition. -/
set_option linter.unusedVariables false
noncomputable section
namespace Go.Proofs.YtjmofeakajdbiaaDoor
open Go Go.AM
def F28 (n : Nat) : Option (Bool) :=
  bO3 (F27 n k_let_a1___box_Node2______) fun l1 z2 z3 => bO3 (F27 n k_x_____1) fun l4 z5 z6 => bO3 (F27 n k_a_) fun l7 z8 z9 => bO3 (F27 n k_let_9223372036854775808) fun l10 z11 z12 => (if z3 = (0 : Int) then lenF l1 fun z13 => (if z13 = (8 : Int) then getF l1 0 fun x14 => ds_t46 x14 fun z15 s16 z17 => (if z15 = (1 : Int) then (if s16 = k_let then (if z17 = (0 : Int) then getF l1 1 fun x18 => ds_t46 x18 fun z19 s20 z21 => (if z19 = (2 : Int) then (if s20 = k_a1 then (if z21 = (4 : Int) then getF l1 5 fun x22 => ds_t46 x22 fun z23 s24 z25 => (if z23 = (3 : Int) then (if s24 = k_Node2 then (if z25 = (13 : Int) then (if z6 = (0 : Int) then lenF l4 fun z26 => (if z26 = (6 : Int) then getF l4 3 fun x27 => ds_t46 x27 fun z28 s29 z30 => (if z28 = (5 : Int) then (if s29 = k___ then (if z30 = (3 : Int) then getF l4 5 fun x31 => ds_t46 x31 fun z32 s33 z34 => (if z32 = (4 : Int) then (if s33 = k_1 then (if z34 = (6 : Int) then (if z9 = (20 : Int) then (if z8 = (1 : Int) then (if z12 = (20 : Int) then (if z11 = (4 : Int) then some true else some false) else some false) else some false) else some false) else some false) else some false) else some false) else some false) else some false) else some false) else some false) else some false) else some false) else some false) else some false) else some false) else some false) else some false) else some false) else some false) else some false) else some false) else some false)
set_option maxRecDepth 100000 in
set_option maxHeartbeats 40000000 in
theorem T28 (n : Nat) : ∀ ⦃r1 : Bool⦄, F28 n = some r1 →
    Trip Tryd.prog inv 28 [] [] (.v (.d (.bool r1))) [] [] := by
  intro r1 h
  unfold F28 at h
  refine Trip.of tab_ok tab_one fol Tryd.func28 rfl (by kernel_rfl) rfl rfl rfl (fun M hM hI => ?_)
  try cbv
  refine seq_go ?_
  try cbv
  refine seq_go ?_
  try cbv
  replace h := bO3_inv h
  obtain ⟨l1, z2, z3, hr, h⟩ := h
  refine call_go rfl rfl ?_
  try cbv
  refine call_pure hM hI (T27 _ hr) rfl ?_
  clear hr
  try cbv
  refine seq_go ?_
  try cbv
  replace h := bO3_inv h
  obtain ⟨l4, z5, z6, hr, h⟩ := h
  refine call_go rfl rfl ?_
  try cbv
  refine call_pure hM hI (T27 _ hr) rfl ?_
  clear hr
  try cbv
  refine seq_go ?_
  try cbv
  replace h := bO3_inv h
  obtain ⟨l7, z8, z9, hr, h⟩ := h
  refine call_go rfl rfl ?_
  try cbv
  refine call_pure hM hI (T27 _ hr) rfl ?_
  clear hr
  try cbv
  refine seq_go ?_
  try cbv
  replace h := bO3_inv h
  obtain ⟨l10, z11, z12, hr, h⟩ := h
  refine call_go rfl rfl ?_
  try cbv
  refine call_pure hM hI (T27 _ hr) rfl ?_
  clear hr
  try cbv
  refine seq_go ?_
  try cbv
  refine splitI (fun e => ?_) (fun e => ?_)
  · replace h := ite_t e h
    clear e
    try cbv
    replace h := lenF_inv M h
    obtain ⟨z13, hz, h⟩ := h
    refine ⟨z13, hz, ?_⟩
    clear hz
    try cbv
    refine splitI (fun e => ?_) (fun e => ?_)
    · replace h := ite_t e h
      clear e
      try cbv
      replace h := getF_inv h
      obtain ⟨x14, ⟨hx0, hx⟩, h⟩ := h
      refine ⟨x14, hx0, hx, ?_⟩
      clear hx0 hx
      replace h := ds_t46_inv h
      obtain ⟨z15, s16, z17, rfl, h⟩ := h
      try cbv
      refine ⟨(M.lock_iff _).2 (by rw [hM]; exact ⟨by kernel_rfl, by kernel_rfl, by rfl⟩), ?_⟩
      try cbv
      refine splitI (fun e => ?_) (fun e => ?_)
      · replace h := ite_t e h
        clear e
        try cbv
        refine splitS (fun e => ?_) (fun e => ?_)
        · replace h := ite_t (bytes_eq.1 e) h
          clear e
          try cbv
          refine splitI (fun e => ?_) (fun e => ?_)
          · replace h := ite_t e h
            clear e
            try cbv
            replace h := getF_inv h
            obtain ⟨x18, ⟨hx0, hx⟩, h⟩ := h
            refine ⟨x18, hx0, hx, ?_⟩
            clear hx0 hx
            replace h := ds_t46_inv h
            obtain ⟨z19, s20, z21, rfl, h⟩ := h
            try cbv
            refine ⟨(M.lock_iff _).2 (by rw [hM]; exact ⟨by kernel_rfl, by kernel_rfl, by rfl⟩), ?_⟩
            try cbv
            refine splitI (fun e => ?_) (fun e => ?_)
            · replace h := ite_t e h
              clear e
              try cbv
              refine splitS (fun e => ?_) (fun e => ?_)
              · replace h := ite_t (bytes_eq.1 e) h
                clear e
                try cbv
                refine splitI (fun e => ?_) (fun e => ?_)
                · replace h := ite_t e h
                  clear e
                  try cbv
                  replace h := getF_inv h
                  obtain ⟨x22, ⟨hx0, hx⟩, h⟩ := h
                  refine ⟨x22, hx0, hx, ?_⟩
                  clear hx0 hx
                  replace h := ds_t46_inv h
                  obtain ⟨z23, s24, z25, rfl, h⟩ := h
                  try cbv
                  refine ⟨(M.lock_iff _).2 (by rw [hM]; exact ⟨by kernel_rfl, by kernel_rfl, by rfl⟩), ?_⟩
                  try cbv
                  refine splitI (fun e => ?_) (fun e => ?_)
                  · replace h := ite_t e h
                    clear e
                    try cbv
                    refine splitS (fun e => ?_) (fun e => ?_)
                    · replace h := ite_t (bytes_eq.1 e) h
                      clear e
                      try cbv
                      refine splitI (fun e => ?_) (fun e => ?_)
                      · replace h := ite_t e h
                        clear e
                        try cbv
                        refine splitI (fun e => ?_) (fun e => ?_)
                        · replace h := ite_t e h
                          clear e
                          try cbv
                          replace h := lenF_inv M h
                          obtain ⟨z26, hz, h⟩ := h
                          refine ⟨z26, hz, ?_⟩
                          clear hz
                          try cbv
                          refine splitI (fun e => ?_) (fun e => ?_)
                          · replace h := ite_t e h
                            clear e
                            try cbv
                            replace h := getF_inv h
                            obtain ⟨x27, ⟨hx0, hx⟩, h⟩ := h
                            refine ⟨x27, hx0, hx, ?_⟩
                            clear hx0 hx
                            replace h := ds_t46_inv h
                            obtain ⟨z28, s29, z30, rfl, h⟩ := h
                            try cbv
                            refine ⟨(M.lock_iff _).2 (by rw [hM]; exact ⟨by kernel_rfl, by kernel_rfl, by rfl⟩), ?_⟩
                            try cbv
                            refine splitI (fun e => ?_) (fun e => ?_)
                            · replace h := ite_t e h
                              clear e
                              try cbv
                              refine splitS (fun e => ?_) (fun e => ?_)
                              · replace h := ite_t (bytes_eq.1 e) h
                                clear e
                                try cbv
                                refine splitI (fun e => ?_) (fun e => ?_)
                                · replace h := ite_t e h
                                  clear e
                                  try cbv
                                  replace h := getF_inv h
                                  obtain ⟨x31, ⟨hx0, hx⟩, h⟩ := h
                                  refine ⟨x31, hx0, hx, ?_⟩
                                  clear hx0 hx
                                  replace h := ds_t46_inv h
                                  obtain ⟨z32, s33, z34, rfl, h⟩ := h
                                  try cbv
                                  refine ⟨(M.lock_iff _).2 (by rw [hM]; exact ⟨by kernel_rfl, by kernel_rfl, by rfl⟩), ?_⟩
                                  try cbv
                                  refine splitI (fun e => ?_) (fun e => ?_)
                                  · replace h := ite_t e h
                                    clear e
                                    try cbv
                                    refine splitS (fun e => ?_) (fun e => ?_)
                                    · replace h := ite_t (bytes_eq.1 e) h
                                      clear e
                                      try cbv
                                      refine splitI (fun e => ?_) (fun e => ?_)
                                      · replace h := ite_t e h
                                        clear e
                                        try cbv
                                        refine splitI (fun e => ?_) (fun e => ?_)
                                        · replace h := ite_t e h
                                          clear e
                                          try cbv
                                          refine splitI (fun e => ?_) (fun e => ?_)
                                          · replace h := ite_t e h
                                            clear e
                                            try cbv
                                            refine splitI (fun e => ?_) (fun e => ?_)
                                            · replace h := ite_t e h
                                              clear e
                                              try cbv
                                              refine splitI (fun e => ?_) (fun e => ?_)
                                              · replace h := ite_t e h
                                                clear e
                                                try cbv
                                                obtain rfl := Option.some.inj h
                                                refine fin_go ?_
                                                try cbv
                                                exact ⟨[], rfl, rfl, trivial, trivial, trivial⟩
                                              · replace h := ite_f e h
                                                clear e
                                                try cbv
                                                obtain rfl := Option.some.inj h
                                                refine fin_go ?_
                                                try cbv
                                                exact ⟨[], rfl, rfl, trivial, trivial, trivial⟩
                                            · replace h := ite_f e h
                                              clear e
                                              try cbv
                                              obtain rfl := Option.some.inj h
                                              refine fin_go ?_
                                              try cbv
                                              exact ⟨[], rfl, rfl, trivial, trivial, trivial⟩
                                          · replace h := ite_f e h
                                            clear e
                                            try cbv
                                            obtain rfl := Option.some.inj h
                                            refine fin_go ?_
                                            try cbv
                                            exact ⟨[], rfl, rfl, trivial, trivial, trivial⟩
                                        · replace h := ite_f e h
                                          clear e
                                          try cbv
                                          obtain rfl := Option.some.inj h
                                          refine fin_go ?_
                                          try cbv
                                          exact ⟨[], rfl, rfl, trivial, trivial, trivial⟩
                                      · replace h := ite_f e h
                                        clear e
                                        try cbv
                                        obtain rfl := Option.some.inj h
                                        refine fin_go ?_
                                        try cbv
                                        exact ⟨[], rfl, rfl, trivial, trivial, trivial⟩
                                    · replace h := ite_f (bytes_ne.1 e) h
                                      clear e
                                      try cbv
                                      obtain rfl := Option.some.inj h
                                      refine fin_go ?_
                                      try cbv
                                      exact ⟨[], rfl, rfl, trivial, trivial, trivial⟩
                                  · replace h := ite_f e h
                                    clear e
                                    try cbv
                                    obtain rfl := Option.some.inj h
                                    refine fin_go ?_
                                    try cbv
                                    exact ⟨[], rfl, rfl, trivial, trivial, trivial⟩
                                · replace h := ite_f e h
                                  clear e
                                  try cbv
                                  obtain rfl := Option.some.inj h
                                  refine fin_go ?_
                                  try cbv
                                  exact ⟨[], rfl, rfl, trivial, trivial, trivial⟩
                              · replace h := ite_f (bytes_ne.1 e) h
                                clear e
                                try cbv
                                obtain rfl := Option.some.inj h
                                refine fin_go ?_
                                try cbv
                                exact ⟨[], rfl, rfl, trivial, trivial, trivial⟩
                            · replace h := ite_f e h
                              clear e
                              try cbv
                              obtain rfl := Option.some.inj h
                              refine fin_go ?_
                              try cbv
                              exact ⟨[], rfl, rfl, trivial, trivial, trivial⟩
                          · replace h := ite_f e h
                            clear e
                            try cbv
                            obtain rfl := Option.some.inj h
                            refine fin_go ?_
                            try cbv
                            exact ⟨[], rfl, rfl, trivial, trivial, trivial⟩
                        · replace h := ite_f e h
                          clear e
                          try cbv
                          obtain rfl := Option.some.inj h
                          refine fin_go ?_
                          try cbv
                          exact ⟨[], rfl, rfl, trivial, trivial, trivial⟩
                      · replace h := ite_f e h
                        clear e
                        try cbv
                        obtain rfl := Option.some.inj h
                        refine fin_go ?_
                        try cbv
                        exact ⟨[], rfl, rfl, trivial, trivial, trivial⟩
                    · replace h := ite_f (bytes_ne.1 e) h
                      clear e
                      try cbv
                      obtain rfl := Option.some.inj h
                      refine fin_go ?_
                      try cbv
                      exact ⟨[], rfl, rfl, trivial, trivial, trivial⟩
                  · replace h := ite_f e h
                    clear e
                    try cbv
                    obtain rfl := Option.some.inj h
                    refine fin_go ?_
                    try cbv
                    exact ⟨[], rfl, rfl, trivial, trivial, trivial⟩
                · replace h := ite_f e h
                  clear e
                  try cbv
                  obtain rfl := Option.some.inj h
                  refine fin_go ?_
                  try cbv
                  exact ⟨[], rfl, rfl, trivial, trivial, trivial⟩
              · replace h := ite_f (bytes_ne.1 e) h
                clear e
                try cbv
                obtain rfl := Option.some.inj h
                refine fin_go ?_
                try cbv
                exact ⟨[], rfl, rfl, trivial, trivial, trivial⟩
            · replace h := ite_f e h
              clear e
              try cbv
              obtain rfl := Option.some.inj h
              refine fin_go ?_
              try cbv
              exact ⟨[], rfl, rfl, trivial, trivial, trivial⟩
          · replace h := ite_f e h
            clear e
            try cbv
            obtain rfl := Option.some.inj h
            refine fin_go ?_
            try cbv
            exact ⟨[], rfl, rfl, trivial, trivial, trivial⟩
        · replace h := ite_f (bytes_ne.1 e) h
          clear e
          try cbv
          obtain rfl := Option.some.inj h
          refine fin_go ?_
          try cbv
          exact ⟨[], rfl, rfl, trivial, trivial, trivial⟩
      · replace h := ite_f e h
        clear e
        try cbv
        obtain rfl := Option.some.inj h
        refine fin_go ?_
        try cbv
        exact ⟨[], rfl, rfl, trivial, trivial, trivial⟩
    · replace h := ite_f e h
      clear e
      try cbv
      obtain rfl := Option.some.inj h
      refine fin_go ?_
      try cbv
      exact ⟨[], rfl, rfl, trivial, trivial, trivial⟩
  · replace h := ite_f e h
    clear e
    try cbv
    obtain rfl := Option.some.inj h
    refine fin_go ?_
    try cbv
    exact ⟨[], rfl, rfl, trivial, trivial, trivial⟩
end Go.Proofs.YtjmofeakajdbiaaDoor
end

/- Printed by lift.py: functional texts of functions, and their contracts. No condition. -/
set_option linter.unusedVariables false
noncomputable section
namespace Go.Proofs.YtjmofeakajdbiaaDoor
open Go Go.AM
def L8_3 : Nat → (List D) → Bool → Bool → Bool → Bool → Option (Bool)
  | 0, _, _, _, _, _ => none
  | n + 1, l6, b12, b13, b14, b25 =>
    (if b25 = true then getF l6 0 fun x26 => ds_t46 x26 fun z27 s28 z29 => (if z27 = (1 : Int) then letB (b12 == true) fun b30 => (if b30 = true then getF l6 0 fun x31 => ds_t46 x31 fun z32 s33 z34 => (if z32 = (2 : Int) then letB (b13 == true) fun b35 => (if b35 = true then getF l6 0 fun x36 => ds_t46 x36 fun z37 s38 z39 => (if z37 = (3 : Int) then letB (b14 == true) fun b40 => some b40 else letB (b14 == false) fun b41 => some b41) else some false) else letB (b13 == false) fun b42 => (if b42 = true then getF l6 0 fun x43 => ds_t46 x43 fun z44 s45 z46 => (if z44 = (3 : Int) then letB (b14 == true) fun b47 => some b47 else letB (b14 == false) fun b48 => some b48) else some false)) else some false) else letB (b12 == false) fun b49 => (if b49 = true then getF l6 0 fun x50 => ds_t46 x50 fun z51 s52 z53 => (if z51 = (2 : Int) then letB (b13 == true) fun b54 => (if b54 = true then getF l6 0 fun x55 => ds_t46 x55 fun z56 s57 z58 => (if z56 = (3 : Int) then letB (b14 == true) fun b59 => some b59 else letB (b14 == false) fun b60 => some b60) else some false) else letB (b13 == false) fun b61 => (if b61 = true then getF l6 0 fun x62 => ds_t46 x62 fun z63 s64 z65 => (if z63 = (3 : Int) then letB (b14 == true) fun b66 => some b66 else letB (b14 == false) fun b67 => some b67) else some false)) else some false)) else letB (b12 == false) fun b68 => (if b68 = true then letB (b13 == false) fun b69 => (if b69 = true then letB (b14 == false) fun b70 => some b70 else some false) else some false))
def L8_2 : Nat → ByteArray → (List D) → Int → Bool → Bool → Bool → Bool → Option (Bool)
  | 0, _, _, _, _, _, _, _ => none
  | n + 1, s1, l6, z8, b12, b13, b14, b15 =>
    (if b15 = true then some false else (if z8 = (0 : Int) then lenF l6 fun z16 => (if z16 = (1 : Int) then getF l6 0 fun x17 => ds_t46 x17 fun z18 s19 z20 => (if z20 = (0 : Int) then getF l6 0 fun x21 => ds_t46 x21 fun z22 s23 z24 => (if s23 = s1 then L8_3 n l6 b12 b13 b14 true else L8_3 n l6 b12 b13 b14 false) else L8_3 n l6 b12 b13 b14 false) else L8_3 n l6 b12 b13 b14 false) else L8_3 n l6 b12 b13 b14 false))
def L8_1 : Nat → ByteArray → Bool → Option (Bool)
  | 0, _, _ => none
  | n + 1, s1, b5 =>
    (if b5 = true then some true else bO3 (F27 n s1) fun l6 z7 z8 => bO1 (F11 n s1) fun b9 => bO1 (F13 n s1) fun b10 => bO1 (F15 n s1) fun b11 => (if b9 = true then (if b10 = true then L8_2 n s1 l6 z8 true true b11 true else (if b11 = true then L8_2 n s1 l6 z8 true false true true else L8_2 n s1 l6 z8 true false false false)) else (if b10 = true then L8_2 n s1 l6 z8 false true b11 b11 else L8_2 n s1 l6 z8 false false b11 false)))
def F8 (n : Nat) (s1 : ByteArray) : Option (Bool) :=
  bO1 (F28 n) fun b2 => letB (!b2) fun b3 => (if b3 = true then some false else szF s1 fun z4 => (if (4000 : Int) < z4 then L8_1 n s1 true else L8_1 n s1 false))
set_option maxRecDepth 100000 in
set_option maxHeartbeats 40000000 in
theorem T8 (n : Nat) : ∀ ⦃s1 : ByteArray⦄ ⦃r1 : Bool⦄, F8 n s1 = some r1 →
    Trip Tryd.prog inv 8 [.d (.str s1)] [] (.v (.d (.bool r1))) [] [] := by
  intro s1 r1 h
  unfold F8 at h
  refine Trip.of tab_ok tab_one fol Tryd.func8 rfl (by kernel_rfl) rfl rfl rfl (fun M hM hI => ?_)
  try cbv
  refine seq_go ?_
  try cbv
  refine seq_go ?_
  try cbv
  refine seq_go ?_
  try cbv
  replace h := bO1_inv h
  obtain ⟨b2, hr, h⟩ := h
  refine call_go rfl rfl ?_
  try cbv
  refine call_pure hM hI (T28 _ hr) rfl ?_
  clear hr
  try cbv
  replace h := letB_inv h
  obtain ⟨b3, hz, h⟩ := h
  refine ⟨b3, not_eq' hz, ?_⟩
  clear hz
  try cbv
  cases b3
  · replace h := ite_f Bool.false_ne_true h
    try cbv
    refine seq_go ?_
    try cbv
    refine seq_join (T := Nat × Bool) (fun t => ⟨[(0, .v (.d (.str s1))), (2, .v (.d (.bool false))), (14, .v (.d (.bool t.2)))], [], 192⟩) (fun t => t.1 ≤ n ∧ L8_1 t.1 s1 t.2 = some r1) ?_ ?_
    · try cbv
      replace h := szF_inv M h
      obtain ⟨z4, hz, h⟩ := h
      refine ⟨z4, hz, ?_⟩
      clear hz
      try cbv
      refine splitL (fun e => ?_) (fun e => ?_)
      · replace h := ite_t e h
        clear e
        try cbv
        exact join_next (n, true) [0, 2, 14] [] 192 ⟨by omega, h⟩ (by cbv)
      · replace h := ite_f (Int.not_lt.2 e) h
        clear e
        try cbv
        exact join_next (n, false) [0, 2, 14] [] 192 ⟨by omega, h⟩ (by cbv)
    · clear h
      rintro ⟨m1, b5⟩ ⟨hm1, h⟩
      replace hm1 : m1 ≤ n := hm1
      cases m1 with
      | zero => cases (show (none : Option _) = some _ from h)
      | succ m1 =>
        replace h : L8_1 (m1 + 1) s1 b5 = some r1 := h
        rw [L8_1] at h
        try cbv
        cases b5
        · replace h := ite_f Bool.false_ne_true h
          try cbv
          refine seq_go ?_
          try cbv
          replace h := bO3_inv h
          obtain ⟨l6, z7, z8, hr, h⟩ := h
          refine call_go rfl rfl ?_
          try cbv
          refine call_pure hM hI (T27 _ hr) rfl ?_
          clear hr
          try cbv
          refine seq_go ?_
          try cbv
          replace h := bO1_inv h
          obtain ⟨b9, hr, h⟩ := h
          refine call_go rfl rfl ?_
          try cbv
          refine call_pure hM hI (T11 _ hr) rfl ?_
          clear hr
          try cbv
          replace h := bO1_inv h
          obtain ⟨b10, hr, h⟩ := h
          refine call_go rfl rfl ?_
          try cbv
          refine call_pure hM hI (T13 _ hr) rfl ?_
          clear hr
          try cbv
          replace h := bO1_inv h
          obtain ⟨b11, hr, h⟩ := h
          refine call_go rfl rfl ?_
          try cbv
          refine call_pure hM hI (T15 _ hr) rfl ?_
          clear hr
          try cbv
          refine seq_go ?_
          try cbv
          refine seq_join (T := Nat × Bool × Bool × Bool × Bool) (fun t => ⟨[(0, .v (.d (.str s1))), (2, .v (.d (.bool false))), (3, .v (.d (.list true 3 l6))), (5, .v (.d (.int .i64 z8))), (6, .v (.d (.bool t.2.1))), (7, .v (.d (.bool t.2.2.1))), (8, .v (.d (.bool t.2.2.2.1))), (42, .v (.d (.bool t.2.2.2.2)))], [], 1280⟩) (fun t => t.1 ≤ m1 ∧ L8_2 t.1 s1 l6 z8 t.2.1 t.2.2.1 t.2.2.2.1 t.2.2.2.2 = some r1) ?_ ?_
          · try cbv
            cases b9
            · replace h := ite_f Bool.false_ne_true h
              try cbv
              cases b10
              · replace h := ite_f Bool.false_ne_true h
                try cbv
                exact join_next (m1, (false, false, b11, false)) [0, 2, 3, 5, 6, 7, 8, 42] [] 1280 ⟨by omega, h⟩ (by cbv)
              · replace h := ite_t rfl h
                try cbv
                exact join_next (m1, (false, true, b11, b11)) [0, 2, 3, 5, 6, 7, 8, 42] [] 1280 ⟨by omega, h⟩ (by cbv)
            · replace h := ite_t rfl h
              try cbv
              cases b10
              · replace h := ite_f Bool.false_ne_true h
                try cbv
                cases b11
                · replace h := ite_f Bool.false_ne_true h
                  try cbv
                  exact join_next (m1, (true, false, false, false)) [0, 2, 3, 5, 6, 7, 8, 42] [] 1280 ⟨by omega, h⟩ (by cbv)
                · replace h := ite_t rfl h
                  try cbv
                  exact join_next (m1, (true, false, true, true)) [0, 2, 3, 5, 6, 7, 8, 42] [] 1280 ⟨by omega, h⟩ (by cbv)
              · replace h := ite_t rfl h
                try cbv
                exact join_next (m1, (true, true, b11, true)) [0, 2, 3, 5, 6, 7, 8, 42] [] 1280 ⟨by omega, h⟩ (by cbv)
          · clear h
            rintro ⟨m2, b12, b13, b14, b15⟩ ⟨hm2, h⟩
            replace hm2 : m2 ≤ m1 := hm2
            cases m2 with
            | zero => cases (show (none : Option _) = some _ from h)
            | succ m2 =>
              replace h : L8_2 (m2 + 1) s1 l6 z8 b12 b13 b14 b15 = some r1 := h
              rw [L8_2] at h
              try cbv
              cases b15
              · replace h := ite_f Bool.false_ne_true h
                try cbv
                refine seq_join (T := Nat × Bool) (fun t => ⟨[(2, .v (.d (.bool false))), (3, .v (.d (.list true 3 l6))), (6, .v (.d (.bool b12))), (7, .v (.d (.bool b13))), (8, .v (.d (.bool b14))), (9, .v (.d (.bool t.2)))], [], 2016⟩) (fun t => t.1 ≤ m2 ∧ L8_3 t.1 l6 b12 b13 b14 t.2 = some r1) ?_ ?_
                · try cbv
                  refine splitI (fun e => ?_) (fun e => ?_)
                  · replace h := ite_t e h
                    clear e
                    try cbv
                    replace h := lenF_inv M h
                    obtain ⟨z16, hz, h⟩ := h
                    refine ⟨z16, hz, ?_⟩
                    clear hz
                    try cbv
                    refine splitI (fun e => ?_) (fun e => ?_)
                    · replace h := ite_t e h
                      clear e
                      try cbv
                      replace h := getF_inv h
                      obtain ⟨x17, ⟨hx0, hx⟩, h⟩ := h
                      refine ⟨x17, hx0, hx, ?_⟩
                      clear hx0 hx
                      replace h := ds_t46_inv h
                      obtain ⟨z18, s19, z20, rfl, h⟩ := h
                      try cbv
                      refine splitI (fun e => ?_) (fun e => ?_)
                      · replace h := ite_t e h
                        clear e
                        try cbv
                        replace h := getF_inv h
                        obtain ⟨x21, ⟨hx0, hx⟩, h⟩ := h
                        refine ⟨x21, hx0, hx, ?_⟩
                        clear hx0 hx
                        replace h := ds_t46_inv h
                        obtain ⟨z22, s23, z24, rfl, h⟩ := h
                        try cbv
                        refine splitS (fun e => ?_) (fun e => ?_)
                        · replace h := ite_t (bytes_eq.1 e) h
                          clear e
                          try cbv
                          exact join_next (m2, true) [2, 3, 6, 7, 8, 9] [] 2016 ⟨by omega, h⟩ (by cbv)
                        · replace h := ite_f (bytes_ne.1 e) h
                          clear e
                          try cbv
                          exact join_next (m2, false) [2, 3, 6, 7, 8, 9] [] 2016 ⟨by omega, h⟩ (by cbv)
                      · replace h := ite_f e h
                        clear e
                        try cbv
                        exact join_next (m2, false) [2, 3, 6, 7, 8, 9] [] 2016 ⟨by omega, h⟩ (by cbv)
                    · replace h := ite_f e h
                      clear e
                      try cbv
                      exact join_next (m2, false) [2, 3, 6, 7, 8, 9] [] 2016 ⟨by omega, h⟩ (by cbv)
                  · replace h := ite_f e h
                    clear e
                    try cbv
                    exact join_next (m2, false) [2, 3, 6, 7, 8, 9] [] 2016 ⟨by omega, h⟩ (by cbv)
                · clear h
                  rintro ⟨m3, b25⟩ ⟨hm3, h⟩
                  replace hm3 : m3 ≤ m2 := hm3
                  cases m3 with
                  | zero => cases (show (none : Option _) = some _ from h)
                  | succ m3 =>
                    replace h : L8_3 (m3 + 1) l6 b12 b13 b14 b25 = some r1 := h
                    rw [L8_3] at h
                    try cbv
                    refine seq_go ?_
                    try cbv
                    cases b25
                    · replace h := ite_f Bool.false_ne_true h
                      try cbv
                      replace h := letB_inv h
                      obtain ⟨b68, hz, h⟩ := h
                      refine ⟨b68, eqv_eq hz, ?_⟩
                      clear hz
                      try cbv
                      cases b68
                      · replace h := ite_f Bool.false_ne_true h
                        try cbv
                        obtain rfl := Option.some.inj h
                        refine fin_go ?_
                        try cbv
                        exact ⟨[], rfl, rfl, trivial, trivial, trivial⟩
                      · replace h := ite_t rfl h
                        try cbv
                        replace h := letB_inv h
                        obtain ⟨b69, hz, h⟩ := h
                        refine ⟨b69, eqv_eq hz, ?_⟩
                        clear hz
                        try cbv
                        cases b69
                        · replace h := ite_f Bool.false_ne_true h
                          try cbv
                          obtain rfl := Option.some.inj h
                          refine fin_go ?_
                          try cbv
                          exact ⟨[], rfl, rfl, trivial, trivial, trivial⟩
                        · replace h := ite_t rfl h
                          try cbv
                          replace h := letB_inv h
                          obtain ⟨b70, hz, h⟩ := h
                          refine ⟨b70, eqv_eq hz, ?_⟩
                          clear hz
                          try cbv
                          obtain rfl := Option.some.inj h
                          refine fin_go ?_
                          try cbv
                          exact ⟨[], rfl, rfl, trivial, trivial, trivial⟩
                    · replace h := ite_t rfl h
                      try cbv
                      replace h := getF_inv h
                      obtain ⟨x26, ⟨hx0, hx⟩, h⟩ := h
                      refine ⟨x26, hx0, hx, ?_⟩
                      clear hx0 hx
                      replace h := ds_t46_inv h
                      obtain ⟨z27, s28, z29, rfl, h⟩ := h
                      try cbv
                      refine splitI (fun e => ?_) (fun e => ?_)
                      · replace h := ite_t e h
                        clear e
                        try cbv
                        replace h := letB_inv h
                        obtain ⟨b30, hz, h⟩ := h
                        refine ⟨b30, eqv_eq hz, ?_⟩
                        clear hz
                        try cbv
                        cases b30
                        · replace h := ite_f Bool.false_ne_true h
                          try cbv
                          obtain rfl := Option.some.inj h
                          refine fin_go ?_
                          try cbv
                          exact ⟨[], rfl, rfl, trivial, trivial, trivial⟩
                        · replace h := ite_t rfl h
                          try cbv
                          replace h := getF_inv h
                          obtain ⟨x31, ⟨hx0, hx⟩, h⟩ := h
                          refine ⟨x31, hx0, hx, ?_⟩
                          clear hx0 hx
                          replace h := ds_t46_inv h
                          obtain ⟨z32, s33, z34, rfl, h⟩ := h
                          try cbv
                          refine splitI (fun e => ?_) (fun e => ?_)
                          · replace h := ite_t e h
                            clear e
                            try cbv
                            replace h := letB_inv h
                            obtain ⟨b35, hz, h⟩ := h
                            refine ⟨b35, eqv_eq hz, ?_⟩
                            clear hz
                            try cbv
                            cases b35
                            · replace h := ite_f Bool.false_ne_true h
                              try cbv
                              obtain rfl := Option.some.inj h
                              refine fin_go ?_
                              try cbv
                              exact ⟨[], rfl, rfl, trivial, trivial, trivial⟩
                            · replace h := ite_t rfl h
                              try cbv
                              replace h := getF_inv h
                              obtain ⟨x36, ⟨hx0, hx⟩, h⟩ := h
                              refine ⟨x36, hx0, hx, ?_⟩
                              clear hx0 hx
                              replace h := ds_t46_inv h
                              obtain ⟨z37, s38, z39, rfl, h⟩ := h
                              try cbv
                              refine splitI (fun e => ?_) (fun e => ?_)
                              · replace h := ite_t e h
                                clear e
                                try cbv
                                replace h := letB_inv h
                                obtain ⟨b40, hz, h⟩ := h
                                refine ⟨b40, eqv_eq hz, ?_⟩
                                clear hz
                                try cbv
                                obtain rfl := Option.some.inj h
                                refine fin_go ?_
                                try cbv
                                exact ⟨[], rfl, rfl, trivial, trivial, trivial⟩
                              · replace h := ite_f e h
                                clear e
                                try cbv
                                replace h := letB_inv h
                                obtain ⟨b41, hz, h⟩ := h
                                refine ⟨b41, eqv_eq hz, ?_⟩
                                clear hz
                                try cbv
                                obtain rfl := Option.some.inj h
                                refine fin_go ?_
                                try cbv
                                exact ⟨[], rfl, rfl, trivial, trivial, trivial⟩
                          · replace h := ite_f e h
                            clear e
                            try cbv
                            replace h := letB_inv h
                            obtain ⟨b42, hz, h⟩ := h
                            refine ⟨b42, eqv_eq hz, ?_⟩
                            clear hz
                            try cbv
                            cases b42
                            · replace h := ite_f Bool.false_ne_true h
                              try cbv
                              obtain rfl := Option.some.inj h
                              refine fin_go ?_
                              try cbv
                              exact ⟨[], rfl, rfl, trivial, trivial, trivial⟩
                            · replace h := ite_t rfl h
                              try cbv
                              replace h := getF_inv h
                              obtain ⟨x43, ⟨hx0, hx⟩, h⟩ := h
                              refine ⟨x43, hx0, hx, ?_⟩
                              clear hx0 hx
                              replace h := ds_t46_inv h
                              obtain ⟨z44, s45, z46, rfl, h⟩ := h
                              try cbv
                              refine splitI (fun e => ?_) (fun e => ?_)
                              · replace h := ite_t e h
                                clear e
                                try cbv
                                replace h := letB_inv h
                                obtain ⟨b47, hz, h⟩ := h
                                refine ⟨b47, eqv_eq hz, ?_⟩
                                clear hz
                                try cbv
                                obtain rfl := Option.some.inj h
                                refine fin_go ?_
                                try cbv
                                exact ⟨[], rfl, rfl, trivial, trivial, trivial⟩
                              · replace h := ite_f e h
                                clear e
                                try cbv
                                replace h := letB_inv h
                                obtain ⟨b48, hz, h⟩ := h
                                refine ⟨b48, eqv_eq hz, ?_⟩
                                clear hz
                                try cbv
                                obtain rfl := Option.some.inj h
                                refine fin_go ?_
                                try cbv
                                exact ⟨[], rfl, rfl, trivial, trivial, trivial⟩
                      · replace h := ite_f e h
                        clear e
                        try cbv
                        replace h := letB_inv h
                        obtain ⟨b49, hz, h⟩ := h
                        refine ⟨b49, eqv_eq hz, ?_⟩
                        clear hz
                        try cbv
                        cases b49
                        · replace h := ite_f Bool.false_ne_true h
                          try cbv
                          obtain rfl := Option.some.inj h
                          refine fin_go ?_
                          try cbv
                          exact ⟨[], rfl, rfl, trivial, trivial, trivial⟩
                        · replace h := ite_t rfl h
                          try cbv
                          replace h := getF_inv h
                          obtain ⟨x50, ⟨hx0, hx⟩, h⟩ := h
                          refine ⟨x50, hx0, hx, ?_⟩
                          clear hx0 hx
                          replace h := ds_t46_inv h
                          obtain ⟨z51, s52, z53, rfl, h⟩ := h
                          try cbv
                          refine splitI (fun e => ?_) (fun e => ?_)
                          · replace h := ite_t e h
                            clear e
                            try cbv
                            replace h := letB_inv h
                            obtain ⟨b54, hz, h⟩ := h
                            refine ⟨b54, eqv_eq hz, ?_⟩
                            clear hz
                            try cbv
                            cases b54
                            · replace h := ite_f Bool.false_ne_true h
                              try cbv
                              obtain rfl := Option.some.inj h
                              refine fin_go ?_
                              try cbv
                              exact ⟨[], rfl, rfl, trivial, trivial, trivial⟩
                            · replace h := ite_t rfl h
                              try cbv
                              replace h := getF_inv h
                              obtain ⟨x55, ⟨hx0, hx⟩, h⟩ := h
                              refine ⟨x55, hx0, hx, ?_⟩
                              clear hx0 hx
                              replace h := ds_t46_inv h
                              obtain ⟨z56, s57, z58, rfl, h⟩ := h
                              try cbv
                              refine splitI (fun e => ?_) (fun e => ?_)
                              · replace h := ite_t e h
                                clear e
                                try cbv
                                replace h := letB_inv h
                                obtain ⟨b59, hz, h⟩ := h
                                refine ⟨b59, eqv_eq hz, ?_⟩
                                clear hz
                                try cbv
                                obtain rfl := Option.some.inj h
                                refine fin_go ?_
                                try cbv
                                exact ⟨[], rfl, rfl, trivial, trivial, trivial⟩
                              · replace h := ite_f e h
                                clear e
                                try cbv
                                replace h := letB_inv h
                                obtain ⟨b60, hz, h⟩ := h
                                refine ⟨b60, eqv_eq hz, ?_⟩
                                clear hz
                                try cbv
                                obtain rfl := Option.some.inj h
                                refine fin_go ?_
                                try cbv
                                exact ⟨[], rfl, rfl, trivial, trivial, trivial⟩
                          · replace h := ite_f e h
                            clear e
                            try cbv
                            replace h := letB_inv h
                            obtain ⟨b61, hz, h⟩ := h
                            refine ⟨b61, eqv_eq hz, ?_⟩
                            clear hz
                            try cbv
                            cases b61
                            · replace h := ite_f Bool.false_ne_true h
                              try cbv
                              obtain rfl := Option.some.inj h
                              refine fin_go ?_
                              try cbv
                              exact ⟨[], rfl, rfl, trivial, trivial, trivial⟩
                            · replace h := ite_t rfl h
                              try cbv
                              replace h := getF_inv h
                              obtain ⟨x62, ⟨hx0, hx⟩, h⟩ := h
                              refine ⟨x62, hx0, hx, ?_⟩
                              clear hx0 hx
                              replace h := ds_t46_inv h
                              obtain ⟨z63, s64, z65, rfl, h⟩ := h
                              try cbv
                              refine splitI (fun e => ?_) (fun e => ?_)
                              · replace h := ite_t e h
                                clear e
                                try cbv
                                replace h := letB_inv h
                                obtain ⟨b66, hz, h⟩ := h
                                refine ⟨b66, eqv_eq hz, ?_⟩
                                clear hz
                                try cbv
                                obtain rfl := Option.some.inj h
                                refine fin_go ?_
                                try cbv
                                exact ⟨[], rfl, rfl, trivial, trivial, trivial⟩
                              · replace h := ite_f e h
                                clear e
                                try cbv
                                replace h := letB_inv h
                                obtain ⟨b67, hz, h⟩ := h
                                refine ⟨b67, eqv_eq hz, ?_⟩
                                clear hz
                                try cbv
                                obtain rfl := Option.some.inj h
                                refine fin_go ?_
                                try cbv
                                exact ⟨[], rfl, rfl, trivial, trivial, trivial⟩
              · replace h := ite_t rfl h
                try cbv
                refine seq_go ?_
                try cbv
                obtain rfl := Option.some.inj h
                refine fin_go ?_
                try cbv
                exact ⟨[], rfl, rfl, trivial, trivial, trivial⟩
        · replace h := ite_t rfl h
          try cbv
          refine seq_go ?_
          try cbv
          obtain rfl := Option.some.inj h
          refine fin_go ?_
          try cbv
          exact ⟨[], rfl, rfl, trivial, trivial, trivial⟩
  · replace h := ite_t rfl h
    try cbv
    refine seq_go ?_
    try cbv
    obtain rfl := Option.some.inj h
    refine fin_go ?_
    try cbv
    exact ⟨[], rfl, rfl, trivial, trivial, trivial⟩
end Go.Proofs.YtjmofeakajdbiaaDoor
end

/- Printed by lift.py: the destructors of typed rows. No condition. -/
set_option linter.unusedVariables false
noncomputable section
namespace Go.Proofs.YtjmofeakajdbiaaDoor
open Go Go.AM

theorem llen1 {l : List D} (h : l.length = 1) : ∃ x0, l = [x0] := by
  match l, h with
  | [x0], _ => exact ⟨x0, rfl⟩
theorem llen2 {l : List D} (h : l.length = 2) : ∃ x0 x1, l = [x0, x1] := by
  match l, h with
  | [x0, x1], _ => exact ⟨x0, x1, rfl⟩
theorem llen3 {l : List D} (h : l.length = 3) : ∃ x0 x1 x2, l = [x0, x1, x2] := by
  match l, h with
  | [x0, x1, x2], _ => exact ⟨x0, x1, x2, rfl⟩
theorem llen8 {l : List D} (h : l.length = 8) : ∃ x0 x1 x2 x3 x4 x5 x6 x7, l = [x0, x1, x2, x3, x4, x5, x6, x7] := by
  match l, h with
  | [x0, x1, x2, x3, x4, x5, x6, x7], _ => exact ⟨x0, x1, x2, x3, x4, x5, x6, x7, rfl⟩
theorem rs2 {x : D} (h : RowS tab 2 x) : ∃ a0, x = .int .i64 a0 ∧ (Lit.int .i64 a0).wf = true := by
  have hs := h.flat1 (y := tyD tab 2) (by kernel_rfl) rfl
  have hl := hs.flat 9 2 [2] [x] (by kernel_rfl)
  obtain ⟨a0, rfl, w0⟩ := (hl.2 0 x 2 rfl rfl).intS (x := tyD tab 2) (by kernel_rfl) rfl
  exact ⟨_, rfl, w0⟩
theorem rs3 {x : D} (h : RowS tab 3 x) : ∃ a0, x = .int .i64 a0 ∧ (Lit.int .i64 a0).wf = true := by
  have hs := h.flat1 (y := tyD tab 3) (by kernel_rfl) rfl
  have hl := hs.flat 9 3 [3] [x] (by kernel_rfl)
  obtain ⟨a0, rfl, w0⟩ := (hl.2 0 x 3 rfl rfl).intS (x := tyD tab 3) (by kernel_rfl) rfl
  exact ⟨_, rfl, w0⟩
theorem rs4 {x : D} (h : RowS tab 4 x) : ∃ a0, x = .bool a0 := by
  have hs := h.flat1 (y := tyD tab 4) (by kernel_rfl) rfl
  have hl := hs.flat 9 4 [4] [x] (by kernel_rfl)
  obtain ⟨a0, rfl⟩ := (hl.2 0 x 4 rfl rfl).boolS (x := tyD tab 4) (by kernel_rfl) rfl
  exact ⟨_, rfl⟩
theorem rs5 {x : D} (h : RowS tab 5 x) : ∃ a0, x = .int .u8 a0 ∧ (Lit.int .u8 a0).wf = true := by
  have hs := h.flat1 (y := tyD tab 5) (by kernel_rfl) rfl
  have hl := hs.flat 9 5 [5] [x] (by kernel_rfl)
  obtain ⟨a0, rfl, w0⟩ := (hl.2 0 x 5 rfl rfl).intS (x := tyD tab 5) (by kernel_rfl) rfl
  exact ⟨_, rfl, w0⟩
theorem rs9 {x : D} (h : RowS tab 9 x) : ∃ a0, x = .str a0 ∧ a0.size ≤ maxLen := by
  have hs := h.flat1 (y := tyD tab 9) (by kernel_rfl) rfl
  have hl := hs.flat 9 9 [9] [x] (by kernel_rfl)
  obtain ⟨a0, rfl, w0⟩ := (hl.2 0 x 9 rfl rfl).strS (x := tyD tab 9) (by kernel_rfl) rfl
  exact ⟨_, rfl, w0⟩
theorem rs23 {x : D} (h : RowS tab 23 x) : ∃ a0, x = .list true 3 a0 ∧ ListS tab 25 a0 := by
  have hs := h.flat1 (y := tyD tab 23) (by kernel_rfl) rfl
  have hl := hs.flat 9 23 [23] [x] (by kernel_rfl)
  obtain ⟨a0, e0, w0⟩ := (hl.2 0 x 23 rfl rfl).listS (x := tyD tab 23) (y := tyD tab 25) (by kernel_rfl) rfl (by kernel_rfl)
  obtain rfl : x = .list true 3 a0 := e0
  exact ⟨_, rfl, w0⟩
theorem rs25 {x : D} (h : RowS tab 25 x) : ∃ a0 a1 a2, x = .agg [.int .u8 a0, .str a1, .list true 3 a2] ∧ (Lit.int .u8 a0).wf = true ∧ a1.size ≤ maxLen ∧ ListS tab 25 a2 := by
  obtain ⟨cs, rfl, hs⟩ := h.agg (y := tyD tab 25) (by kernel_rfl) rfl
  have hl := hs.flat 9 25 [5, 9, 23] cs (by kernel_rfl)
  obtain ⟨b0, b1, b2, rfl⟩ := llen3 hl.1
  obtain ⟨a0, rfl, w0⟩ := (hl.2 0 b0 5 rfl rfl).intS (x := tyD tab 5) (by kernel_rfl) rfl
  obtain ⟨a1, rfl, w1⟩ := (hl.2 1 b1 9 rfl rfl).strS (x := tyD tab 9) (by kernel_rfl) rfl
  obtain ⟨a2, e2, w2⟩ := (hl.2 2 b2 23 rfl rfl).listS (x := tyD tab 23) (y := tyD tab 25) (by kernel_rfl) rfl (by kernel_rfl)
  obtain rfl : b2 = .list true 3 a2 := e2
  exact ⟨_, _, _, rfl, w0, w1, w2⟩
theorem rs26 {x : D} (h : RowS tab 26 x) : ∃ a0, x = .list false 1 a0 ∧ ListS tab 9 a0 := by
  have hs := h.flat1 (y := tyD tab 26) (by kernel_rfl) rfl
  have hl := hs.flat 9 26 [26] [x] (by kernel_rfl)
  obtain ⟨a0, e0, w0⟩ := (hl.2 0 x 26 rfl rfl).listS (x := tyD tab 26) (y := tyD tab 9) (by kernel_rfl) rfl (by kernel_rfl)
  obtain rfl : x = .list false 1 a0 := e0
  exact ⟨_, rfl, w0⟩
theorem rs28 {x : D} (h : RowS tab 28 x) : ∃ a0 a1, x = .agg [.str a0, .list false 1 a1] ∧ a0.size ≤ maxLen ∧ ListS tab 9 a1 := by
  obtain ⟨cs, rfl, hs⟩ := h.agg (y := tyD tab 28) (by kernel_rfl) rfl
  have hl := hs.flat 9 28 [9, 26] cs (by kernel_rfl)
  obtain ⟨b0, b1, rfl⟩ := llen2 hl.1
  obtain ⟨a0, rfl, w0⟩ := (hl.2 0 b0 9 rfl rfl).strS (x := tyD tab 9) (by kernel_rfl) rfl
  obtain ⟨a1, e1, w1⟩ := (hl.2 1 b1 26 rfl rfl).listS (x := tyD tab 26) (y := tyD tab 9) (by kernel_rfl) rfl (by kernel_rfl)
  obtain rfl : b1 = .list false 1 a1 := e1
  exact ⟨_, _, rfl, w0, w1⟩
theorem rs29 {x : D} (h : RowS tab 29 x) : ∃ a0, x = .list true 8 a0 ∧ ListS tab 31 a0 := by
  have hs := h.flat1 (y := tyD tab 29) (by kernel_rfl) rfl
  have hl := hs.flat 9 29 [29] [x] (by kernel_rfl)
  obtain ⟨a0, e0, w0⟩ := (hl.2 0 x 29 rfl rfl).listS (x := tyD tab 29) (y := tyD tab 31) (by kernel_rfl) rfl (by kernel_rfl)
  obtain rfl : x = .list true 8 a0 := e0
  exact ⟨_, rfl, w0⟩
theorem rs31 {x : D} (h : RowS tab 31 x) : ∃ a0 a1 a2 a3 a4 a5 a6 a7, x = .agg [.int .u8 a0, .int .i64 a1, .str a2, .str a3, .str a4, .list false 1 a5, .list true 8 a6, .int .i64 a7] ∧ (Lit.int .u8 a0).wf = true ∧ (Lit.int .i64 a1).wf = true ∧ a2.size ≤ maxLen ∧ a3.size ≤ maxLen ∧ a4.size ≤ maxLen ∧ ListS tab 9 a5 ∧ ListS tab 31 a6 ∧ (Lit.int .i64 a7).wf = true := by
  obtain ⟨cs, rfl, hs⟩ := h.agg (y := tyD tab 31) (by kernel_rfl) rfl
  have hl := hs.flat 9 31 [5, 2, 9, 9, 9, 26, 29, 3] cs (by kernel_rfl)
  obtain ⟨b0, b1, b2, b3, b4, b5, b6, b7, rfl⟩ := llen8 hl.1
  obtain ⟨a0, rfl, w0⟩ := (hl.2 0 b0 5 rfl rfl).intS (x := tyD tab 5) (by kernel_rfl) rfl
  obtain ⟨a1, rfl, w1⟩ := (hl.2 1 b1 2 rfl rfl).intS (x := tyD tab 2) (by kernel_rfl) rfl
  obtain ⟨a2, rfl, w2⟩ := (hl.2 2 b2 9 rfl rfl).strS (x := tyD tab 9) (by kernel_rfl) rfl
  obtain ⟨a3, rfl, w3⟩ := (hl.2 3 b3 9 rfl rfl).strS (x := tyD tab 9) (by kernel_rfl) rfl
  obtain ⟨a4, rfl, w4⟩ := (hl.2 4 b4 9 rfl rfl).strS (x := tyD tab 9) (by kernel_rfl) rfl
  obtain ⟨a5, e5, w5⟩ := (hl.2 5 b5 26 rfl rfl).listS (x := tyD tab 26) (y := tyD tab 9) (by kernel_rfl) rfl (by kernel_rfl)
  obtain rfl : b5 = .list false 1 a5 := e5
  obtain ⟨a6, e6, w6⟩ := (hl.2 6 b6 29 rfl rfl).listS (x := tyD tab 29) (y := tyD tab 31) (by kernel_rfl) rfl (by kernel_rfl)
  obtain rfl : b6 = .list true 8 a6 := e6
  obtain ⟨a7, rfl, w7⟩ := (hl.2 7 b7 3 rfl rfl).intS (x := tyD tab 3) (by kernel_rfl) rfl
  exact ⟨_, _, _, _, _, _, _, _, rfl, w0, w1, w2, w3, w4, w5, w6, w7⟩
theorem rs49 {x : D} (h : RowS tab 49 x) : ∃ a0, x = .list false 1 a0 ∧ ListS tab 5 a0 := by
  have hs := h.flat1 (y := tyD tab 49) (by kernel_rfl) rfl
  have hl := hs.flat 9 49 [49] [x] (by kernel_rfl)
  obtain ⟨a0, e0, w0⟩ := (hl.2 0 x 49 rfl rfl).listS (x := tyD tab 49) (y := tyD tab 5) (by kernel_rfl) rfl (by kernel_rfl)
  obtain rfl : x = .list false 1 a0 := e0
  exact ⟨_, rfl, w0⟩
theorem rs51 {x : D} (h : RowS tab 51 x) : ∃ a0, x = .int .u64 a0 := by
  have hs := h.flat1 (y := tyD tab 51) (by kernel_rfl) rfl
  have hl := hs.flat 9 51 [51] [x] (by kernel_rfl)
  obtain ⟨a0, rfl, w0⟩ := (hl.2 0 x 51 rfl rfl).intS (x := tyD tab 51) (by kernel_rfl) rfl
  exact ⟨_, rfl⟩
end Go.Proofs.YtjmofeakajdbiaaDoor
end

/- The abstract machine, part R: a law that returns true, out of its contract over typed data. No condition. -/
namespace Go.AM
open Go Go.RowKit Go.ChangeShapes Go.WideShapes

/-- Arguments of given types. -/
def Shapes (ti : Types) : List TypeId → List D → Prop
  | [], [] => True
  | t :: ts, x :: xs => Shape ti t x.cells ∧ (∀ y, ti t = some y → x.isAgg = rowD y.desc) ∧ Shapes ti ts xs
  | _, _ => False

theorem Shapes.length {ti : Types} : ∀ {ts : List TypeId} {xs : List D}, Shapes ti ts xs → xs.length = ts.length
  | [], [], _ => rfl
  | _ :: _, _ :: _, h => by simp [Shapes.length h.2.2]
  | [], _ :: _, h => h.elim
  | _ :: _, [], h => h.elim

theorem rowD_cases {d : TypeDesc} : (∃ fs, d = .struct fs) ∨ (∃ n e, d = .array n e) ∨ rowD d = false := by
  cases d <;> simp [rowD]

section
variable {H : Type} {enc : TypeId × Value → H} {P : Program} {ti : Types} {T : List TypeId} {w : World}

/-- One argument. -/
theorem conv_arg (hti : TIok P ti) (hT : plainB ti T = true) {Z : Zone} (hZ : ∀ b o, ¬ Z b o) {base base' : Nat} {spare : Nat → Bool} {held : Bool} {r : Reach} {t : TypeId} {v : Value} {d : DataW H} {ps : List MemPlace} (ht : t ∈ T)
    (hok : Value.okWide P w r base' t v) (h : DataW.Trod enc P w base spare held t v d ps) : ∃ x : D, Shape ti t x.cells ∧ (∀ y, ti t = some y → x.isAgg = rowD y.desc) ∧ RelD w Z x v := by
  obtain ⟨fuel, h⟩ := h
  obtain ⟨ds, hs, h1, h2, h3⟩ := conv hti hT (Z := Z) hZ fuel t _ _ _ ht h
  have hp := List.all_eq_true.1 hT t ht
  split at hp
  · rename_i y hy
    have hu := (hti t y hy).1
    have single : rowD y.desc = false → v.cells.toList = [v] → ∃ x : D, Shape ti t x.cells ∧ (∀ y, ti t = some y → x.isAgg = rowD y.desc) ∧ RelD w Z x v := by
      intro hr hv
      rw [hv] at h1 h3
      obtain ⟨c, rfl⟩ := List.length_eq_one_iff.1 h1
      have hc := h2 c (by simp)
      have e : c.cells = [c] := by cases c <;> first | rfl | simp [D.isAgg] at hc
      refine ⟨c, by rw [e]; exact hs, fun y' hy' => ?_, h3 0 c v rfl rfl⟩
      rw [hy] at hy'
      obtain rfl : y = y' := by simpa using hy'
      rw [hc, hr]
    split at hp
    · rename_i hd
      rw [hd] at hu
      obtain ⟨b, rfl⟩ := okWide_bool hu hok
      exact single (by rw [hd]; rfl) rfl
    · rename_i k hd
      rw [hd] at hu
      obtain ⟨b, rfl⟩ := okWide_int hu hok
      exact single (by rw [hd]; rfl) rfl
    · rename_i hd
      rw [hd] at hu
      obtain ⟨b, rfl⟩ := okWide_string hu hok
      exact single (by rw [hd]; rfl) rfl
    · rename_i e hd
      rw [hd] at hu
      obtain ⟨a, l, c, rfl⟩ := okWide_slice hu hok
      exact single (by rw [hd]; rfl) rfl
    · rename_i fs hd
      rw [hd] at hu
      obtain ⟨cs, rfl, _⟩ := okWide_struct hu hok
      refine ⟨.agg ds, hs, fun y' hy' => ?_, .agg ds cs (by simpa [Value.cells] using h1.symm) h2 (fun j c u hc hu' => h3 j c u hc (by simpa [Value.cells] using hu'))⟩
      rw [hy] at hy'
      obtain rfl : y = y' := by simpa using hy'
      rw [hd]; rfl
    · simp at hp
  · simp at hp

theorem conv_args (hti : TIok P ti) (hT : plainB ti T = true) {Z : Zone} (hZ : ∀ b o, ¬ Z b o) {base base' : Nat} {spare : Nat → Bool} {held : Bool} {r : Reach} :
    ∀ (ts : List TypeId) (vs : List Value) (ds : List (DataW H)) (ps : List MemPlace), (∀ t ∈ ts, t ∈ T) → DataW.TrodAll enc P w base spare held ts vs ds ps →
      (∀ (j : Nat) t v, ts[j]? = some t → vs[j]? = some v → Value.okWide P w r base' t v) →
      ∃ xs, Shapes ti ts xs ∧ ∀ (j : Nat) x v, xs[j]? = some x → vs[j]? = some v → RelD w Z x v
  | [], vs, ds, ps, _, h, _ => ⟨[], trivial, by simp⟩
  | t :: ts, vs, ds, ps, ht, h, hok => by
    obtain ⟨v, vs1, d, ds1, a, b, rfl, rfl, rfl, h1, h2⟩ := trodAll_cons h
    obtain ⟨x, k1, k2, k3⟩ := conv_arg hti hT hZ (ht t (by simp)) (hok 0 t v rfl rfl) h1
    obtain ⟨xs, k4, k5⟩ := conv_args hti hT hZ ts vs1 ds1 b (fun t ht' => ht t (by simp [ht'])) h2 (fun j t v h1 h2 => hok (j + 1) t v (by simpa using h1) (by simpa using h2))
    refine ⟨x :: xs, ⟨k1, k2, k4⟩, fun j x' v' hx hv => ?_⟩
    match j with
    | 0 => simp at hx hv; subst hx; subst hv; exact k3
    | j + 1 => simp at hx hv; exact k5 j x' v' hx hv

theorem again_all (hl : laidOutB P = true) {W W' : World} (hb : Below W.heap.size W W') : ∀ (ts : List TypeId) (vs : List Value) (ds : List (DataW H)) (ps : List MemPlace),
    (∀ t ∈ ts, P.readableRec t = true ∧ t < P.types.size) → DataW.TrodAll enc P W 0 (fun _ => true) true ts vs ds ps → (∀ x ∈ ps, x.block < W.heap.size) →
    DataW.TrodAll enc P W' 0 (fun b => decide (b < W.heap.size)) true ts vs ds ps
  | [], vs, ds, ps, _, h, _ => by
    obtain ⟨rfl, rfl, rfl⟩ := trodAll_nil h
    exact rfl
  | t :: ts, vs, ds, ps, ht, h, hlt => by
    obtain ⟨v, vs1, d, ds1, a, b, rfl, rfl, rfl, h1, h2⟩ := trodAll_cons h
    have ht1 := ht t (by simp)
    exact ⟨a, b, Below.trod hl ht1.1 ht1.2 h1 hb (fun x hx => hlt x (by simp [hx])), again_all hl hb ts vs1 ds1 b (fun t ht' => ht t (by simp [ht'])) h2 (fun x hx => hlt x (by simp [hx])), rfl⟩

/-- A law: its contract over every typed input makes its row. -/
theorem law_calls {I : Inv} (hti : TIok P ti) (hT : plainB ti T = true) {s : ChangeSpec} {fn : Func} {f : FuncId} {ts : List TypeId} {bt : TypeId}
    (hp : fn.params.toList = ts) (hv : s.vars = []) (hr : fn.resultTypes = #[bt]) (hb : P.underlying bt = some .bool) (htT : ∀ t ∈ ts, t ∈ T)
    (hs : ∀ ds : List (DataW H), ds.length = ts.length → (s.fn H ds).results = [.lit (.bool true)] ∧ (s.fn H ds).args = ds ∧ (s.fn H ds).vars = [])
    (hl : laidOutB P = true) (hrec : ∀ t ∈ ts, P.readableRec t = true ∧ t < P.types.size)
    (hc : ∀ xs : List D, Shapes ti ts xs → Trip P I f (xs.map V1.d) [] (.v (.d (.bool true))) [] [])
    {W : World} {base : Nat} {args : Array Value} {ds gs : List (DataW H)} {before : List MemPlace}
    (hI : I.at W fun _ _ => False) (hval : ∀ (j : Nat) t v, fn.params[j]? = some t → args[j]? = some v → Value.okWide P W .any base t v)
    (hW : DataW.Whole enc P fn.params.toList s.vars false W args.toList ds gs before) :
    Calls P f args W fun e W' => ∃ v, e = .returned v ∧ s.post enc P fn false true false false W args v W' := by
  have hW' := hW
  obtain ⟨p, q, hA, hV, rfl, _, _⟩ := hW
  rw [hv] at hV
  obtain ⟨rfl, rfl⟩ : gs = [] ∧ q = [] := by
    cases gs with
    | nil => exact ⟨rfl, hV⟩
    | cons _ _ => exact hV.elim
  rw [hp] at hA
  obtain ⟨hlen, hdl⟩ := trodAll_length hA
  obtain ⟨xs, hsh, hrel⟩ := conv_args hti hT (Z := fun _ _ => False) (fun _ _ h => h) (r := .any) (base' := base) ts args.toList ds p htT hA (fun j t v h1 h2 => hval j t v (by
    rw [← Array.getElem?_toList, hp]; exact h1) (by simpa using h2))
  have hxl := hsh.length
  have hcall := hc xs hsh
  have hheap : ∀ i o, heapOf [] i = some o → False := by
    intro i o h
    cases i <;> simp [heapOf] at h
  have hzone : ∀ (g : Ghost) b o, ¬ zone g (heapOf []) b o := by
    rintro g b o ⟨i, ob, h, _⟩
    exact hheap i ob h
  refine (hcall.calls (w := W) (X := fun _ _ => False) (g := fun _ => undef) (vals := args) (fun _ _ h => h.elim) (hI.mono fun b o hz => hz.elim (hzone _ b o) id) ⟨fun i o h => (hheap i o h).elim, fun i _ _ _ _ h => (hheap i _ h).elim, fun i _ _ _ h => (hheap i _ h).elim⟩ (fun _ => rfl)
    (by simp at hlen; simp; omega) (fun j x v hx hvv => ?_)).mono ?_
  · simp only [List.getElem?_map, Option.map_eq_some_iff] at hx
    obtain ⟨d, hd, rfl⟩ := hx
    exact (hrel j d v hd (by simpa using hvv)).mono (fun b o u hu _ => ⟨hu, fun hz => hz.elim (hzone _ b o) id⟩)
  · rintro e W' ⟨v, g', rfl, hpost⟩
    obtain rfl : v = .bool true := by cases (show RelD _ _ (.bool true) v from hpost.res); rfl
    have hbel : Below W.heap.size W W' := ⟨hpost.frame.os, hpost.frame.tape, hpost.frame.output, hpost.frame.size, fun k hk => hpost.frame.block k hk (fun o => hzone _ k o)⟩
    obtain ⟨s1, s2, s3⟩ := hs (ds ++ []) (by simp [hdl])
    refine ⟨_, rfl, ds, [], p ++ [], [], p, [], hW', ?_, ?_, ?_, hbel.frame _, fun h => by cases h⟩
    · rw [s1, hr]
      exact trodAll_mk1 (shut_bool hb true)
    · rw [s2, hp, List.append_nil]
      exact again_all hl hbel ts args.toList ds p hrec hA (fun x hx => hW'.lt x (by simp [hx]))
    · rw [s3, hv]; rfl
end
end Go.AM

/- Chapter 2, LexAlone: the plain law and the contract. No condition. -/
set_option linter.unusedVariables false
noncomputable section
namespace Go.Proofs.YtjmofeakajdbiaaDoor
open Go Go.AM

theorem getF_zero {γ : Type} {x : D} {l : List D} {k : D → Option γ} : getF (x :: l) (0 : Int) k = k x := getF_nat (i := 0) rfl
theorem Ev.bO3 {α β γ δ : Type} {A : Nat → Option (α × β × γ)} {a : α} {b : β} {c : γ} {k : Nat → α → β → γ → Option δ} {r : δ} (ha : Ev A (a, b, c)) (hk : Ev (fun n => k n a b c) r) : Ev (fun n => Go.AM.bO3 (A n) (k n)) r := by
  obtain ⟨N, hN⟩ := ha
  obtain ⟨M, hM⟩ := hk
  refine ⟨N + M, fun n hn => ?_⟩
  show Go.AM.bO3 (A n) (k n) = some r
  rw [hN n (by omega)]
  exact hM n (by omega)

/-- What the chapter's examples come to. -/
theorem ev28 : Ev (fun n => F28 n) true := by
  have sz : ∀ s : ByteArray, Nat.ble s.size 100 = true → s.size ≤ maxLen := fun s h => Nat.le_trans (Nat.le_of_ble_eq_true h) (by decide)
  unfold F28
  refine Ev.bO3 (ev27 (sz _ (by kernel_rfl))) (Ev.bO3 (ev27 (sz _ (by kernel_rfl))) (Ev.bO3 (ev27 (sz _ (by kernel_rfl))) (Ev.bO3 (ev27 (sz _ (by kernel_rfl))) (.of fun n => ?_))))
  kernel_rfl

theorem words_part : (wordsL.all fun w => (bl w).all pB && (match bl w with | [] => false | b :: _ => letter b) && (skipB false (bl w) == 0)) = true := by kernel_rfl
theorem letter_part {b : UInt8} (h : letter b = true) : pB b = true := by
  unfold letter at h; unfold pB partZ; simp at h; rcases h with h | h <;> simp [h]
theorem inZ_range {lo hi z : Int} (h : inZ lo hi z = true) : lo ≤ z ∧ z ≤ hi := of_decide_eq_true h
theorem letter_skip {b : UInt8} {r : List UInt8} (h : letter b = true) : skipB false (b :: r) = 0 := by
  have hb : blank b = false ∧ b ≠ 47 := by
    have hr : 65 ≤ b.toNat := by
      unfold letter at h
      simp only [Bool.or_eq_true] at h
      rcases h with h | h <;> have := inZ_range h <;> omega
    constructor
    · unfold blank
      have n1 : b ≠ 32 := by rintro rfl; revert hr; decide
      have n2 : b ≠ 9 := by rintro rfl; revert hr; decide
      have n3 : b ≠ 10 := by rintro rfl; revert hr; decide
      have n4 : b ≠ 13 := by rintro rfl; revert hr; decide
      simp [n1, n2, n3, n4]
    · rintro rfl; revert hr; decide
  simp [skipB, hb.1, hb.2]
theorem nm_iff {lo hi : Int} {s : ByteArray} : nm lo hi s = true ↔ ∃ b r, bl s = b :: r ∧ (b :: r).length ≤ 16 ∧ inZ lo hi (b.toNat : Int) = true ∧ (b :: r).all pB = true ∧ word s = false := by
  unfold nm
  split
  · rename_i h
    simp [h]
  · rename_i b r h
    simp only [Bool.and_eq_true, decide_eq_true_eq, Bool.not_eq_true', h]
    constructor
    · rintro ⟨⟨⟨h1, h2⟩, h3⟩, h4⟩; exact ⟨b, r, rfl, h1, h2, h3, h4⟩
    · rintro ⟨_, _, e, h1, h2, h3, h4⟩; cases e; exact ⟨⟨⟨h1, h2⟩, h3⟩, h4⟩
/-- A word, a name, a type begins with a letter, and goes on with letters, digits and _. -/
theorem kind_letters {s : ByteArray} (h : kindW (bl s) ≠ 0) : ∃ b r, bl s = b :: r ∧ letter b = true ∧ (b :: r).all pB = true := by
  unfold kindW at h
  rw [tx_bl] at h
  cases hw : word s with
  | true =>
    have hm := word_iff.1 hw
    have := List.all_eq_true.1 words_part s hm
    simp only [Bool.and_eq_true] at this
    obtain ⟨⟨h1, h2⟩, _⟩ := this
    cases hs : bl s with
    | nil => rw [hs] at h2; cases h2
    | cons b r => rw [hs] at h1 h2; exact ⟨b, r, rfl, h2, h1⟩
  | false =>
    rw [hw] at h
    simp only [Bool.false_eq_true, if_false] at h
    cases hn : nm 97 122 s with
    | true =>
      obtain ⟨b, r, e, _, h2, h3, _⟩ := nm_iff.1 hn
      exact ⟨b, r, e, by unfold letter; rw [h2]; rfl, h3⟩
    | false =>
      rw [hn] at h
      simp only [Bool.false_eq_true, if_false] at h
      cases ht : nm 65 90 s with
      | true =>
        obtain ⟨b, r, e, _, h2, h3, _⟩ := nm_iff.1 ht
        exact ⟨b, r, e, by unfold letter; rw [h2]; simp, h3⟩
      | false => rw [ht] at h; exact absurd rfl h
theorem takeWhile_eq_self {α : Type} {p : α → Bool} {l : List α} (h : l.all p = true) : l.takeWhile p = l := by
  have := takeWhile_take p l
  rw [takeWhile_all.2 h, List.take_length] at this
  exact this.symm
theorem toks_nil : ∀ (m p : Nat), toks m p [] = ([], none)
  | 0, _ => rfl
  | _ + 1, _ => rfl
/-- A text that is a word, a name, a type is one token. -/
theorem lexR_one {s : ByteArray} (h : kindW (bl s) ≠ 0) (hl : (bl s).length ≤ 4000) : lexR (bl s) = ([⟨kindW (bl s), bl s, 0⟩], 0, 0) := by
  obtain ⟨b, r, e, h1, h2⟩ := kind_letters h
  unfold lexR
  rw [if_neg (by omega), e, letter_skip h1, List.drop_zero]
  have hone : oneL (b :: r) = (kindW (b :: r), b :: r) := by
    show (if letter b = true then (kindW ((b :: r).takeWhile pB), (b :: r).takeWhile pB) else _) = _
    rw [if_pos h1, takeWhile_eq_self h2]
  have hk : kindW (b :: r) ≠ 0 := e ▸ h
  have ht : toks (b :: r).length 0 (b :: r) = ([⟨kindW (b :: r), b :: r, 0⟩], none) := by
    show toks (r.length + 1) 0 (b :: r) = _
    simp only [toks, hone, hk, if_false, List.drop_length, List.drop_nil, toks_nil]
  rw [ht]
  rfl
/-- Of one token that is the whole text the kind is the text's. -/
theorem lexR_inv {l : List UInt8} {x : Tok} {z : Int} (h : lexR l = ([x], z, 0)) (h0 : x.at_ = 0) (ht : x.t = l) : x.k = (oneL l).1 ∧ (oneL l).2 = l ∧ (oneL l).1 ≠ 0 := by
  unfold lexR at h
  split at h
  · cases h
  · split at h
    · cases h
    · rename_i ts hts
      split at h
      · cases h
      · simp only [Prod.mk.injEq] at h
        obtain ⟨rfl, _, _⟩ := h
        generalize hq : skipB false l = q at hts
        cases hl : l.length with
        | zero => rw [hl] at hts; cases hts
        | succ m =>
          rw [hl] at hts
          cases hd : l.drop q with
          | nil => rw [hd, toks_nil] at hts; cases hts
          | cons b r =>
            rw [hd] at hts
            by_cases hz : (oneL (b :: r)).1 = 0
            · simp only [toks, hz, if_true] at hts; cases hts
            · simp only [toks, hz, if_false, Prod.mk.injEq, List.cons.injEq] at hts
              obtain ⟨⟨hx, _⟩, _⟩ := hts
              subst hx
              have h0 : q = 0 := h0
              subst h0
              rw [List.drop_zero] at hd
              rw [hd] at ht ⊢
              exact ⟨rfl, ht, hz⟩
theorem kind_cases (t : List UInt8) : kindW t = 1 ∨ kindW t = 2 ∨ kindW t = 3 ∨ kindW t = 0 := by
  unfold kindW
  split
  · exact .inl rfl
  · split
    · exact .inr (.inl rfl)
    · split
      · exact .inr (.inr (.inl rfl))
      · exact .inr (.inr (.inr rfl))
theorem oneL_kinds (l : List UInt8) : (oneL l).1 = 4 ∨ (oneL l).1 = 5 ∨ (oneL l).1 = 0 ∨ (oneL l).1 = kindW (oneL l).2 := by
  match l with
  | [] => exact .inr (.inr (.inl rfl))
  | b :: r =>
    have hone : oneL (b :: r) = (if letter b = true then (kindW ((b :: r).takeWhile pB), (b :: r).takeWhile pB)
      else if dig b = true then (if numOK ((b :: r).takeWhile dig) = true then (4, (b :: r).takeWhile dig) else (0, []))
      else if twoS (b :: r) = true then (5, (b :: r).take 2) else if sgn b = true then (5, (b :: r).take 1) else (0, [])) := rfl
    rw [hone]
    repeat' split
    all_goals simp
theorem excl {s : ByteArray} : (word s = true → nm 97 122 s = false ∧ nm 65 90 s = false) ∧ (nm 97 122 s = true → nm 65 90 s = false) := by
  constructor
  · intro hw
    constructor
    · cases h : nm 97 122 s
      · rfl
      · obtain ⟨_, _, _, _, _, _, h⟩ := nm_iff.1 h; rw [hw] at h; cases h
    · cases h : nm 65 90 s
      · rfl
      · obtain ⟨_, _, _, _, _, _, h⟩ := nm_iff.1 h; rw [hw] at h; cases h
  · intro hn
    obtain ⟨b, r, e, _, h2, _, _⟩ := nm_iff.1 hn
    cases h : nm 65 90 s
    · rfl
    · obtain ⟨b', r', e', _, h2', _, _⟩ := nm_iff.1 h
      rw [e] at e'
      cases e'
      have := inZ_range h2
      have := inZ_range h2'
      omega

theorem lex_alone_law {s : ByteArray} (hs : s.size ≤ maxLen) : Ev (fun n => F8 n s) true := by
  unfold F8
  refine Ev.bO1 ev28 ?_
  simp only [letB, Bool.not_true, Bool.false_eq_true, if_false]
  by_cases hl : 4000 < (bl s).length
  · refine .succ (.of fun n => ?_)
    rw [szF_eq, if_pos (by omega), L8_1, if_pos rfl]
  · refine .succ (Ev.congr (A := fun n => Go.AM.bO3 (F27 n s) fun l6 z7 z8 => bO1 (F11 n s) fun b9 => bO1 (F13 n s) fun b10 => bO1 (F15 n s) fun b11 => (if b9 = true then (if b10 = true then L8_2 n s l6 z8 true true b11 true else (if b11 = true then L8_2 n s l6 z8 true false true true else L8_2 n s l6 z8 true false false false)) else (if b10 = true then L8_2 n s l6 z8 false true b11 b11 else L8_2 n s l6 z8 false false b11 false))) ?_ fun n => by rw [szF_eq, if_neg (by omega), L8_1, if_neg Bool.false_ne_true])
    refine Ev.bO3 (ev27 hs) (Ev.bO1 (ev11 s) (Ev.bO1 (ev13 hs) (Ev.bO1 (ev15 hs) ?_)))
    obtain ⟨e1, e2⟩ := excl (s := s)
    have kw : kindW (bl s) = if word s = true then 1 else if nm 97 122 s = true then 2 else if nm 65 90 s = true then 3 else 0 := by unfold kindW; rw [tx_bl]
    -- where it is of a kind
    by_cases hk : kindW (bl s) = 0
    · have hw : word s = false := by cases h : word s <;> rw [h] at kw <;> simp_all
      have hn : nm 97 122 s = false := by cases h : nm 97 122 s <;> rw [hw, h] at kw <;> simp_all
      have ht : nm 65 90 s = false := by cases h : nm 65 90 s <;> rw [hw, hn, h] at kw <;> simp_all
      rw [hw, hn, ht]
      simp only [Bool.false_eq_true, if_false]
      have no : Ev (fun n => L8_3 n ((lexR (bl s)).1.map tokD) false false false false) true := .succ (.of fun n => by rw [L8_3, if_neg Bool.false_ne_true]; rfl)
      refine .succ ?_
      by_cases h0 : (lexR (bl s)).2.2 = 0
      · match hR : lexR (bl s) with
        | ([x], z, c) =>
          rw [hR] at h0 no
          have h0 : c = 0 := h0
          subst h0
          have g0 : ([x].map tokD)[0]? = some (tokD x) := rfl
          by_cases ha : x.at_ = 0
          · by_cases hx : x.t = bl s
            · obtain ⟨k1, k2, k3⟩ := lexR_inv hR ha hx
              have hkk : x.k = 4 ∨ x.k = 5 := by
                rcases oneL_kinds (bl s) with h | h | h | h
                · exact .inl (k1.trans h)
                · exact .inr (k1.trans h)
                · exact absurd h k3
                · rw [k2, hk] at h; exact absurd h k3
              refine .succ (.of fun n => ?_)
              rw [L8_2, if_neg Bool.false_ne_true, if_pos rfl]
              simp only [lenF, List.map_cons, List.map_nil, List.length_cons, List.length_nil]
              rw [if_pos (by decide), getF_zero]
              simp only [tokD, ds_t46]
              rw [if_pos (by omega), getF_zero]
              simp only [tokD, ds_t46]
              rw [if_pos (by rw [hx, tx_bl]), L8_3, if_pos rfl, getF_zero]
              simp only [tokD, ds_t46, letB]
              rcases hkk with h | h <;> rw [h] <;> rfl
            · refine Ev.congr no fun n => ?_
              rw [L8_2, if_neg Bool.false_ne_true, if_pos rfl]
              simp only [lenF, List.map_cons, List.map_nil, List.length_cons, List.length_nil]
              rw [if_pos (by decide), getF_zero]
              simp only [tokD, ds_t46]
              rw [if_pos (by omega), getF_zero]
              simp only [tokD, ds_t46]
              rw [if_neg (fun e => hx (by rw [← e, bl_tx]))]
          · refine Ev.congr no fun n => ?_
            rw [L8_2, if_neg Bool.false_ne_true, if_pos rfl]
            simp only [lenF, List.map_cons, List.map_nil, List.length_cons, List.length_nil]
            rw [if_pos (by decide), getF_zero]
            simp only [tokD, ds_t46]
            rw [if_neg (by omega)]
        | ([], z, c) =>
          rw [hR] at h0 no
          have h0 : c = 0 := h0
          subst h0
          refine Ev.congr no fun n => ?_
          rw [L8_2, if_neg Bool.false_ne_true, if_pos rfl]
          simp only [lenF]
          rw [if_neg (by simp)]
        | (x :: y :: ts, z, c) =>
          rw [hR] at h0 no
          have h0 : c = 0 := h0
          subst h0
          refine Ev.congr no fun n => ?_
          rw [L8_2, if_neg Bool.false_ne_true, if_pos rfl]
          simp only [lenF]
          rw [if_neg (by simp; omega)]
      · refine Ev.congr no fun n => ?_
        rw [L8_2, if_neg Bool.false_ne_true, if_neg h0]
    · have hR := lexR_one hk (by omega)
      rw [hR]
      have g0 : ([Tok.mk (kindW (bl s)) (bl s) 0].map tokD)[0]? = some (tokD ⟨kindW (bl s), bl s, 0⟩) := rfl
      have main : ∀ w nn tt : Bool, (kindW (bl s) = 1 ∧ w = true ∧ nn = false ∧ tt = false) ∨ (kindW (bl s) = 2 ∧ w = false ∧ nn = true ∧ tt = false) ∨ (kindW (bl s) = 3 ∧ w = false ∧ nn = false ∧ tt = true) →
          Ev (fun n => L8_2 n s ([Tok.mk (kindW (bl s)) (bl s) 0].map tokD) 0 w nn tt false) true := by
        intro w nn tt hc
        refine .succ (.succ (.of fun n => ?_))
        rw [L8_2, if_neg Bool.false_ne_true, if_pos rfl]
        simp only [lenF, List.map_cons, List.map_nil, List.length_cons, List.length_nil]
        rw [if_pos (by decide), getF_zero]
        simp only [tokD, ds_t46]
        rw [if_pos (by omega), getF_zero]
        simp only [tokD, ds_t46]
        rw [if_pos (tx_bl s), L8_3, if_pos rfl, getF_zero]
        simp only [tokD, ds_t46, letB]
        rcases hc with ⟨h, rfl, rfl, rfl⟩ | ⟨h, rfl, rfl, rfl⟩ | ⟨h, rfl, rfl, rfl⟩ <;> rw [h] <;> rfl
      cases hw : word s with
      | true =>
        obtain ⟨q1, q2⟩ := e1 hw
        rw [q1, q2]
        exact main true false false (.inl ⟨by rw [kw, hw]; rfl, rfl, rfl, rfl⟩)
      | false =>
        cases hn : nm 97 122 s with
        | true =>
          rw [e2 hn]
          exact main false true false (.inr (.inl ⟨by rw [kw, hw, hn]; rfl, rfl, rfl, rfl⟩))
        | false =>
          cases ht : nm 65 90 s with
          | true => exact main false false true (.inr (.inr ⟨by rw [kw, hw, hn, ht]; rfl, rfl, rfl, rfl⟩))
          | false => exact absurd (by rw [kw, hw, hn, ht]; rfl) hk
theorem lex_alone_trip : ∀ xs : List D, Shapes tab [9] xs → Trip Tryd.prog inv 8 (xs.map V1.d) [] (.v (.d (.bool true))) [] [] := by
  intro xs h
  match xs, h with
  | [u], ⟨u1, u2, _⟩ =>
    obtain ⟨s, rfl, hs⟩ := rs9 ⟨u1, u2⟩
    obtain ⟨n, hn⟩ := (lex_alone_law hs).run
    exact T8 n hn
end Go.Proofs.YtjmofeakajdbiaaDoor

/- Printed by lift.py: functional texts of functions, and their contracts. No condition. -/
set_option linter.unusedVariables false
noncomputable section
namespace Go.Proofs.YtjmofeakajdbiaaDoor
open Go Go.AM
mutual
def L29_1 : Nat → ByteArray → Bool → Int → Option (Bool)
  | 0, _, _, _ => none
  | n + 1, s1, b2, z3 =>
    szF s1 fun z4 => (if z3 < z4 then L29_2 n s1 b2 z3 true else L29_2 n s1 b2 z3 false)
def L29_2 : Nat → ByteArray → Bool → Int → Bool → Option (Bool)
  | 0, _, _, _, _ => none
  | n + 1, s1, b2, z3, b5 =>
    (if b5 = true then atF s1 z3 fun z6 => (if b2 = true then (if z6 = (10 : Int) then L29_5 n s1 z3 false else L29_5 n s1 z3 true) else (if z6 = (47 : Int) then letF (IntKind.wrap .i64 (z3 + 1)) fun z7 => szF s1 fun z8 => (if z7 < z8 then letF (IntKind.wrap .i64 (z3 + 1)) fun z9 => atF s1 z9 fun z10 => (if z10 = (47 : Int) then L29_3 n s1 z3 z6 true else L29_3 n s1 z3 z6 false) else L29_3 n s1 z3 z6 false) else L29_3 n s1 z3 z6 false)) else some true)
def L29_3 : Nat → ByteArray → Int → Int → Bool → Option (Bool)
  | 0, _, _, _, _ => none
  | n + 1, s1, z3, z6, b11 =>
    (if b11 = true then L29_5 n s1 z3 true else (if z6 = (32 : Int) then L29_4 n s1 z3 false else (if z6 = (9 : Int) then L29_4 n s1 z3 false else (if z6 = (10 : Int) then L29_4 n s1 z3 false else (if z6 = (13 : Int) then L29_4 n s1 z3 false else L29_4 n s1 z3 true)))))
def L29_4 : Nat → ByteArray → Int → Bool → Option (Bool)
  | 0, _, _, _ => none
  | n + 1, s1, z3, b12 =>
    (if b12 = true then some false else L29_5 n s1 z3 false)
def L29_5 : Nat → ByteArray → Int → Bool → Option (Bool)
  | 0, _, _, _ => none
  | n + 1, s1, z3, b13 =>
    letF (IntKind.wrap .i64 (z3 + 1)) fun z14 => L29_1 n s1 b13 z14
end
def F29 (n : Nat) (s1 : ByteArray) : Option (Bool) :=
  L29_1 n s1 false (0 : Int)
set_option maxRecDepth 100000 in
set_option maxHeartbeats 40000000 in
theorem T29 (n : Nat) : ∀ ⦃s1 : ByteArray⦄ ⦃r1 : Bool⦄, F29 n s1 = some r1 →
    Trip Tryd.prog inv 29 [.d (.str s1)] [] (.v (.d (.bool r1))) [] [] := by
  intro s1 r1 h
  unfold F29 at h
  refine Trip.of tab_ok tab_one fol Tryd.func29 rfl (by kernel_rfl) rfl rfl rfl (fun M hM hI => ?_)
  try cbv
  refine seq_go ?_
  try cbv
  refine seq_go ?_
  try cbv
  refine seq_go ?_
  try cbv
  refine seq_go ?_
  try cbv
  refine loop_inv (T := Nat × Bool × Int) [0, 2, 3, 4] [] 96 (fun t => ⟨[(0, .v (.d (.str s1))), (2, .v (.d (.bool false))), (3, .v (.d (.bool t.2.1))), (4, .v (.d (.int .i64 t.2.2)))], [], 96⟩)
    (fun t => t.1 ≤ n ∧ L29_1 t.1 s1 t.2.1 t.2.2 = some r1) (fun t => t.1) (n, (false, (0 : Int))) ⟨Nat.le_refl _, h⟩ (by cbv) ?_
  clear h
  rintro ⟨m1, b2, z3⟩ ⟨hm1, h⟩
  replace hm1 : m1 ≤ n := hm1
  cases m1 with
  | zero => cases (show (none : Option _) = some _ from h)
  | succ m1 =>
    replace h : L29_1 (m1 + 1) s1 b2 z3 = some r1 := h
    rw [L29_1] at h
    try cbv
    refine seq_go ?_
    try cbv
    refine seq_join (T := Nat × Bool) (fun t => ⟨[(0, .v (.d (.str s1))), (2, .v (.d (.bool false))), (3, .v (.d (.bool b2))), (4, .v (.d (.int .i64 z3))), (9, .v (.d (.bool t.2)))], [], 224⟩) (fun t => t.1 ≤ m1 ∧ L29_2 t.1 s1 b2 z3 t.2 = some r1) ?_ ?_
    · try cbv
      replace h := szF_inv M h
      obtain ⟨z4, hz, h⟩ := h
      refine ⟨z4, hz, ?_⟩
      clear hz
      try cbv
      refine splitL (fun e => ?_) (fun e => ?_)
      · replace h := ite_t e h
        clear e
        try cbv
        exact join_next (m1, true) [0, 2, 3, 4, 9] [] 224 ⟨by omega, h⟩ (by cbv)
      · replace h := ite_f (Int.not_lt.2 e) h
        clear e
        try cbv
        exact join_next (m1, false) [0, 2, 3, 4, 9] [] 224 ⟨by omega, h⟩ (by cbv)
    · clear h
      rintro ⟨m2, b5⟩ ⟨hm2, h⟩
      replace hm2 : m2 ≤ m1 := hm2
      cases m2 with
      | zero => cases (show (none : Option _) = some _ from h)
      | succ m2 =>
        replace h : L29_2 (m2 + 1) s1 b2 z3 b5 = some r1 := h
        rw [L29_2] at h
        try cbv
        cases b5
        · replace h := ite_f Bool.false_ne_true h
          try cbv
          refine seq_go ?_
          try cbv
          obtain rfl := Option.some.inj h
          refine fin_go ?_
          try cbv
          exact ⟨[], rfl, rfl, trivial, trivial, trivial⟩
        · replace h := ite_t rfl h
          try cbv
          refine seq_join (T := Nat × Bool) (fun t => ⟨[(0, .v (.d (.str s1))), (2, .v (.d (.bool false))), (3, .v (.d (.bool t.2))), (4, .v (.d (.int .i64 z3)))], [], 1440⟩) (fun t => t.1 ≤ m2 ∧ L29_5 t.1 s1 z3 t.2 = some r1) ?_ ?_
          · try cbv
            refine seq_go ?_
            try cbv
            replace h := atF_inv h
            obtain ⟨z6, hz, h⟩ := h
            refine ⟨z6, hz, ?_⟩
            clear hz
            try cbv
            refine seq_go ?_
            try cbv
            cases b2
            · replace h := ite_f Bool.false_ne_true h
              try cbv
              refine seq_join (T := Nat × Bool) (fun t => ⟨[(0, .v (.d (.str s1))), (2, .v (.d (.bool false))), (3, .v (.d (.bool false))), (4, .v (.d (.int .i64 z3))), (5, .v (.d (.int .u8 z6))), (19, .v (.d (.bool t.2)))], [], 960⟩) (fun t => t.1 ≤ m2 ∧ L29_3 t.1 s1 z3 z6 t.2 = some r1) ?_ ?_
              · try cbv
                refine splitI (fun e => ?_) (fun e => ?_)
                · replace h := ite_t e h
                  clear e
                  try cbv
                  replace h := letF_inv h
                  obtain ⟨z7, hz, h⟩ := h
                  refine ⟨z7, hz, ?_⟩
                  clear hz
                  try cbv
                  replace h := szF_inv M h
                  obtain ⟨z8, hz, h⟩ := h
                  refine ⟨z8, hz, ?_⟩
                  clear hz
                  try cbv
                  refine splitL (fun e => ?_) (fun e => ?_)
                  · replace h := ite_t e h
                    clear e
                    try cbv
                    replace h := letF_inv h
                    obtain ⟨z9, hz, h⟩ := h
                    refine ⟨z9, hz, ?_⟩
                    clear hz
                    try cbv
                    replace h := atF_inv h
                    obtain ⟨z10, hz, h⟩ := h
                    refine ⟨z10, hz, ?_⟩
                    clear hz
                    try cbv
                    refine splitI (fun e => ?_) (fun e => ?_)
                    · replace h := ite_t e h
                      clear e
                      try cbv
                      exact join_next (m2, true) [0, 2, 3, 4, 5, 19] [] 960 ⟨by omega, h⟩ (by cbv)
                    · replace h := ite_f e h
                      clear e
                      try cbv
                      exact join_next (m2, false) [0, 2, 3, 4, 5, 19] [] 960 ⟨by omega, h⟩ (by cbv)
                  · replace h := ite_f (Int.not_lt.2 e) h
                    clear e
                    try cbv
                    exact join_next (m2, false) [0, 2, 3, 4, 5, 19] [] 960 ⟨by omega, h⟩ (by cbv)
                · replace h := ite_f e h
                  clear e
                  try cbv
                  exact join_next (m2, false) [0, 2, 3, 4, 5, 19] [] 960 ⟨by omega, h⟩ (by cbv)
              · clear h
                rintro ⟨m3, b11⟩ ⟨hm3, h⟩
                replace hm3 : m3 ≤ m2 := hm3
                cases m3 with
                | zero => cases (show (none : Option _) = some _ from h)
                | succ m3 =>
                  replace h : L29_3 (m3 + 1) s1 z3 z6 b11 = some r1 := h
                  rw [L29_3] at h
                  try cbv
                  cases b11
                  · replace h := ite_f Bool.false_ne_true h
                    try cbv
                    refine seq_join (T := Nat × Bool) (fun t => ⟨[(0, .v (.d (.str s1))), (2, .v (.d (.bool false))), (3, .v (.d (.bool false))), (4, .v (.d (.int .i64 z3))), (36, .v (.d (.bool t.2)))], [], 1440⟩) (fun t => t.1 ≤ m3 ∧ L29_4 t.1 s1 z3 t.2 = some r1) ?_ ?_
                    · try cbv
                      refine splitI (fun e => ?_) (fun e => ?_)
                      · replace h := ite_t e h
                        clear e
                        try cbv
                        exact join_next (m3, false) [0, 2, 3, 4, 36] [] 1440 ⟨by omega, h⟩ (by cbv)
                      · replace h := ite_f e h
                        clear e
                        try cbv
                        refine splitI (fun e => ?_) (fun e => ?_)
                        · replace h := ite_t e h
                          clear e
                          try cbv
                          exact join_next (m3, false) [0, 2, 3, 4, 36] [] 1440 ⟨by omega, h⟩ (by cbv)
                        · replace h := ite_f e h
                          clear e
                          try cbv
                          refine splitI (fun e => ?_) (fun e => ?_)
                          · replace h := ite_t e h
                            clear e
                            try cbv
                            exact join_next (m3, false) [0, 2, 3, 4, 36] [] 1440 ⟨by omega, h⟩ (by cbv)
                          · replace h := ite_f e h
                            clear e
                            try cbv
                            refine splitI (fun e => ?_) (fun e => ?_)
                            · replace h := ite_t e h
                              clear e
                              try cbv
                              exact join_next (m3, false) [0, 2, 3, 4, 36] [] 1440 ⟨by omega, h⟩ (by cbv)
                            · replace h := ite_f e h
                              clear e
                              try cbv
                              exact join_next (m3, true) [0, 2, 3, 4, 36] [] 1440 ⟨by omega, h⟩ (by cbv)
                    · clear h
                      rintro ⟨m4, b12⟩ ⟨hm4, h⟩
                      replace hm4 : m4 ≤ m3 := hm4
                      cases m4 with
                      | zero => cases (show (none : Option _) = some _ from h)
                      | succ m4 =>
                        replace h : L29_4 (m4 + 1) s1 z3 b12 = some r1 := h
                        rw [L29_4] at h
                        try cbv
                        cases b12
                        · replace h := ite_f Bool.false_ne_true h
                          try cbv
                          exact join_next (m4, false) [0, 2, 3, 4] [] 1440 ⟨by omega, h⟩ (by cbv)
                        · replace h := ite_t rfl h
                          try cbv
                          refine seq_go ?_
                          try cbv
                          obtain rfl := Option.some.inj h
                          refine fin_go ?_
                          try cbv
                          exact ⟨[], rfl, rfl, trivial, trivial, trivial⟩
                  · replace h := ite_t rfl h
                    try cbv
                    exact join_next (m3, true) [0, 2, 3, 4] [] 1440 ⟨by omega, h⟩ (by cbv)
            · replace h := ite_t rfl h
              try cbv
              refine splitI (fun e => ?_) (fun e => ?_)
              · replace h := ite_t e h
                clear e
                try cbv
                exact join_next (m2, false) [0, 2, 3, 4] [] 1440 ⟨by omega, h⟩ (by cbv)
              · replace h := ite_f e h
                clear e
                try cbv
                exact join_next (m2, true) [0, 2, 3, 4] [] 1440 ⟨by omega, h⟩ (by cbv)
          · clear h
            rintro ⟨m5, b13⟩ ⟨hm5, h⟩
            replace hm5 : m5 ≤ m2 := hm5
            cases m5 with
            | zero => cases (show (none : Option _) = some _ from h)
            | succ m5 =>
              replace h : L29_5 (m5 + 1) s1 z3 b13 = some r1 := h
              rw [L29_5] at h
              try cbv
              replace h := letF_inv h
              obtain ⟨z14, hz, h⟩ := h
              refine ⟨z14, hz, ?_⟩
              clear hz
              try cbv
              exact loop_next (m5, (b13, z14)) [0, 2, 3, 4] [] 96 ⟨by omega, h⟩ (Nat.lt_succ_of_le (by omega)) (by cbv)
end Go.Proofs.YtjmofeakajdbiaaDoor
end

/- Printed by lift.py: functional texts of functions, and their contracts. No condition. -/
set_option linter.unusedVariables false
noncomputable section
namespace Go.Proofs.YtjmofeakajdbiaaDoor
open Go Go.AM
set_option maxHeartbeats 40000000 in
mutual
def L6_3 : Nat → ByteArray → (List D) → Int → Int → Int → Option (Bool)
  | 0, _, _, _, _, _ => none
  | n + 1, s1, l6, z7, z14, z15 =>
    lenF l6 fun z16 => (if z15 ≤ z16 then L6_4 n s1 l6 z7 z14 z15 true else L6_4 n s1 l6 z7 z14 z15 false)
def L6_4 : Nat → ByteArray → (List D) → Int → Int → Int → Bool → Option (Bool)
  | 0, _, _, _, _, _, _ => none
  | n + 1, s1, l6, z7, z14, z15, b17 =>
    (if b17 = true then szF s1 fun z18 => lenF l6 fun z19 => (if z15 < z19 then L6_5 n s1 l6 z7 z14 z15 z18 true else L6_5 n s1 l6 z7 z14 z15 z18 false) else (if z7 = (0 : Int) then lenF l6 fun z56 => (if z56 ≤ (1500 : Int) then some true else some false) else some false))
def L6_5 : Nat → ByteArray → (List D) → Int → Int → Int → Int → Bool → Option (Bool)
  | 0, _, _, _, _, _, _, _ => none
  | n + 1, s1, l6, z7, z14, z15, z18, b20 =>
    (if b20 = true then getF l6 z15 fun x21 => ds_t46 x21 fun z22 s23 z24 => L6_6 n s1 l6 z7 z14 z15 z24 else L6_6 n s1 l6 z7 z14 z15 z18)
def L6_6 : Nat → ByteArray → (List D) → Int → Int → Int → Int → Option (Bool)
  | 0, _, _, _, _, _, _ => none
  | n + 1, s1, l6, z7, z14, z15, z25 =>
    (if z25 < z14 then L6_7 n s1 l6 z7 z14 z15 z25 true else subF s1 z14 z25 fun s26 => bO1 (F29 n s26) fun b27 => letB (!b27) fun b28 => L6_7 n s1 l6 z7 z14 z15 z25 b28)
def L6_7 : Nat → ByteArray → (List D) → Int → Int → Int → Int → Bool → Option (Bool)
  | 0, _, _, _, _, _, _, _ => none
  | n + 1, s1, l6, z7, z14, z15, z25, b29 =>
    (if b29 = true then some false else lenF l6 fun z30 => (if z15 < z30 then L6_8 n s1 l6 z7 z14 z15 z25 true else L6_8 n s1 l6 z7 z14 z15 z25 false))
def L6_8 : Nat → ByteArray → (List D) → Int → Int → Int → Int → Bool → Option (Bool)
  | 0, _, _, _, _, _, _, _ => none
  | n + 1, s1, l6, z7, z14, z15, z25, b31 =>
    (if b31 = true then getF l6 z15 fun x32 => ds_t46 x32 fun z33 s34 z35 => getF l6 z15 fun x36 => ds_t46 x36 fun z37 s38 z39 => (if z37 < (1 : Int) then L6_9 n s1 l6 z7 z15 z25 s34 true else getF l6 z15 fun x40 => ds_t46 x40 fun z41 s42 z43 => (if (5 : Int) < z41 then L6_9 n s1 l6 z7 z15 z25 s34 true else (if s34 = ByteArray.empty then L6_9 n s1 l6 z7 z15 z25 s34 true else szF s1 fun z44 => letF (IntKind.wrap .i64 (z44 - z25)) fun z45 => szF s34 fun z46 => (if z45 < z46 then L6_9 n s1 l6 z7 z15 z25 s34 true else szF s34 fun z47 => letF (IntKind.wrap .i64 (z25 + z47)) fun z48 => subF s1 z25 z48 fun s49 => (if s49 = s34 then L6_9 n s1 l6 z7 z15 z25 s34 false else L6_9 n s1 l6 z7 z15 z25 s34 true))))) else L6_10 n s1 l6 z7 z15 z14 z25)
def L6_9 : Nat → ByteArray → (List D) → Int → Int → Int → ByteArray → Bool → Option (Bool)
  | 0, _, _, _, _, _, _, _ => none
  | n + 1, s1, l6, z7, z15, z25, s34, b50 =>
    (if b50 = true then some false else szF s34 fun z51 => letF (IntKind.wrap .i64 (z25 + z51)) fun z52 => L6_10 n s1 l6 z7 z15 z52 z25)
def L6_10 : Nat → ByteArray → (List D) → Int → Int → Int → Int → Option (Bool)
  | 0, _, _, _, _, _, _ => none
  | n + 1, s1, l6, z7, z15, z53, z54 =>
    letF (IntKind.wrap .i64 (z15 + 1)) fun z55 => L6_3 n s1 l6 z7 z53 z55
end
def L6_2 : Nat → ByteArray → (List D) → Int → Int → Bool → Option (Bool)
  | 0, _, _, _, _, _ => none
  | n + 1, s1, l6, z7, z8, b9 =>
    (if b9 = true then lenF l6 fun z10 => (if z10 = (0 : Int) then szF s1 fun z11 => (if (4000 : Int) < z11 then (if z8 = (3 : Int) then (if (0 : Int) ≤ z7 then szF s1 fun z12 => (if z7 ≤ z12 then (if z8 = (20 : Int) then some true else (if z7 = (0 : Int) then some true else some false)) else some false) else some false) else some false) else (if z8 = (3 : Int) then some false else (if (0 : Int) ≤ z7 then szF s1 fun z13 => (if z7 ≤ z13 then (if z8 = (20 : Int) then some true else (if z7 = (0 : Int) then some true else some false)) else some false) else some false))) else some false) else L6_3 n s1 l6 z7 (0 : Int) (0 : Int))
def L6_1 : Nat → ByteArray → Bool → Option (Bool)
  | 0, _, _ => none
  | n + 1, s1, b5 =>
    (if b5 = true then some true else bO3 (F27 n s1) fun l6 z7 z8 => (if z8 = (0 : Int) then L6_2 n s1 l6 z7 z8 false else L6_2 n s1 l6 z7 z8 true))
def F6 (n : Nat) (s1 : ByteArray) : Option (Bool) :=
  bO1 (F28 n) fun b2 => letB (!b2) fun b3 => (if b3 = true then some false else szF s1 fun z4 => (if (6000 : Int) < z4 then L6_1 n s1 true else L6_1 n s1 false))
set_option maxRecDepth 100000 in
set_option maxHeartbeats 40000000 in
theorem T6 (n : Nat) : ∀ ⦃s1 : ByteArray⦄ ⦃r1 : Bool⦄, F6 n s1 = some r1 →
    Trip Tryd.prog inv 6 [.d (.str s1)] [] (.v (.d (.bool r1))) [] [] := by
  intro s1 r1 h
  unfold F6 at h
  refine Trip.of tab_ok tab_one fol Tryd.func6 rfl (by kernel_rfl) rfl rfl rfl (fun M hM hI => ?_)
  try cbv
  refine seq_go ?_
  try cbv
  refine seq_go ?_
  try cbv
  refine seq_go ?_
  try cbv
  replace h := bO1_inv h
  obtain ⟨b2, hr, h⟩ := h
  refine call_go rfl rfl ?_
  try cbv
  refine call_pure hM hI (T28 _ hr) rfl ?_
  clear hr
  try cbv
  replace h := letB_inv h
  obtain ⟨b3, hz, h⟩ := h
  refine ⟨b3, not_eq' hz, ?_⟩
  clear hz
  try cbv
  cases b3
  · replace h := ite_f Bool.false_ne_true h
    try cbv
    refine seq_go ?_
    try cbv
    refine seq_join (T := Nat × Bool) (fun t => ⟨[(0, .v (.d (.str s1))), (2, .v (.d (.bool false))), (14, .v (.d (.bool t.2)))], [], 192⟩) (fun t => t.1 ≤ n ∧ L6_1 t.1 s1 t.2 = some r1) ?_ ?_
    · try cbv
      replace h := szF_inv M h
      obtain ⟨z4, hz, h⟩ := h
      refine ⟨z4, hz, ?_⟩
      clear hz
      try cbv
      refine splitL (fun e => ?_) (fun e => ?_)
      · replace h := ite_t e h
        clear e
        try cbv
        exact join_next (n, true) [0, 2, 14] [] 192 ⟨by omega, h⟩ (by cbv)
      · replace h := ite_f (Int.not_lt.2 e) h
        clear e
        try cbv
        exact join_next (n, false) [0, 2, 14] [] 192 ⟨by omega, h⟩ (by cbv)
    · clear h
      rintro ⟨m1, b5⟩ ⟨hm1, h⟩
      replace hm1 : m1 ≤ n := hm1
      cases m1 with
      | zero => cases (show (none : Option _) = some _ from h)
      | succ m1 =>
        replace h : L6_1 (m1 + 1) s1 b5 = some r1 := h
        rw [L6_1] at h
        try cbv
        cases b5
        · replace h := ite_f Bool.false_ne_true h
          try cbv
          refine seq_go ?_
          try cbv
          replace h := bO3_inv h
          obtain ⟨l6, z7, z8, hr, h⟩ := h
          refine call_go rfl rfl ?_
          try cbv
          refine call_pure hM hI (T27 _ hr) rfl ?_
          clear hr
          try cbv
          refine seq_go ?_
          try cbv
          refine seq_join (T := Nat × Bool) (fun t => ⟨[(0, .v (.d (.str s1))), (2, .v (.d (.bool false))), (3, .v (.d (.list true 3 l6))), (4, .v (.d (.int .i64 z7))), (5, .v (.d (.int .i64 z8))), (22, .v (.d (.bool t.2)))], [], 544⟩) (fun t => t.1 ≤ m1 ∧ L6_2 t.1 s1 l6 z7 z8 t.2 = some r1) ?_ ?_
          · try cbv
            refine splitI (fun e => ?_) (fun e => ?_)
            · replace h := ite_t e h
              clear e
              try cbv
              exact join_next (m1, false) [0, 2, 3, 4, 5, 22] [] 544 ⟨by omega, h⟩ (by cbv)
            · replace h := ite_f e h
              clear e
              try cbv
              exact join_next (m1, true) [0, 2, 3, 4, 5, 22] [] 544 ⟨by omega, h⟩ (by cbv)
          · clear h
            rintro ⟨m2, b9⟩ ⟨hm2, h⟩
            replace hm2 : m2 ≤ m1 := hm2
            cases m2 with
            | zero => cases (show (none : Option _) = some _ from h)
            | succ m2 =>
              replace h : L6_2 (m2 + 1) s1 l6 z7 z8 b9 = some r1 := h
              rw [L6_2] at h
              try cbv
              cases b9
              · replace h := ite_f Bool.false_ne_true h
                try cbv
                refine seq_go ?_
                try cbv
                refine seq_go ?_
                try cbv
                refine seq_go ?_
                try cbv
                refine loop_inv (T := Nat × Int × Int) [0, 2, 3, 4, 6, 7] [] 608 (fun t => ⟨[(0, .v (.d (.str s1))), (2, .v (.d (.bool false))), (3, .v (.d (.list true 3 l6))), (4, .v (.d (.int .i64 z7))), (6, .v (.d (.int .i64 t.2.1))), (7, .v (.d (.int .i64 t.2.2)))], [], 608⟩)
                  (fun t => t.1 ≤ m2 ∧ L6_3 t.1 s1 l6 z7 t.2.1 t.2.2 = some r1) (fun t => t.1) (m2, ((0 : Int), (0 : Int))) ⟨Nat.le_refl _, h⟩ (by cbv) ?_
                clear h
                rintro ⟨m3, z14, z15⟩ ⟨hm3, h⟩
                replace hm3 : m3 ≤ m2 := hm3
                cases m3 with
                | zero => cases (show (none : Option _) = some _ from h)
                | succ m3 =>
                  replace h : L6_3 (m3 + 1) s1 l6 z7 z14 z15 = some r1 := h
                  rw [L6_3] at h
                  try cbv
                  refine seq_go ?_
                  try cbv
                  refine seq_join (T := Nat × Bool) (fun t => ⟨[(0, .v (.d (.str s1))), (2, .v (.d (.bool false))), (3, .v (.d (.list true 3 l6))), (4, .v (.d (.int .i64 z7))), (6, .v (.d (.int .i64 z14))), (7, .v (.d (.int .i64 z15))), (55, .v (.d (.bool t.2)))], [], 736⟩) (fun t => t.1 ≤ m3 ∧ L6_4 t.1 s1 l6 z7 z14 z15 t.2 = some r1) ?_ ?_
                  · try cbv
                    replace h := lenF_inv M h
                    obtain ⟨z16, hz, h⟩ := h
                    refine ⟨z16, hz, ?_⟩
                    clear hz
                    try cbv
                    refine splitLe (fun e => ?_) (fun e => ?_)
                    · replace h := ite_t e h
                      clear e
                      try cbv
                      exact join_next (m3, true) [0, 2, 3, 4, 6, 7, 55] [] 736 ⟨by omega, h⟩ (by cbv)
                    · replace h := ite_f (Int.not_le.2 e) h
                      clear e
                      try cbv
                      exact join_next (m3, false) [0, 2, 3, 4, 6, 7, 55] [] 736 ⟨by omega, h⟩ (by cbv)
                  · clear h
                    rintro ⟨m4, b17⟩ ⟨hm4, h⟩
                    replace hm4 : m4 ≤ m3 := hm4
                    cases m4 with
                    | zero => cases (show (none : Option _) = some _ from h)
                    | succ m4 =>
                      replace h : L6_4 (m4 + 1) s1 l6 z7 z14 z15 b17 = some r1 := h
                      rw [L6_4] at h
                      try cbv
                      cases b17
                      · replace h := ite_f Bool.false_ne_true h
                        try cbv
                        refine seq_go ?_
                        try cbv
                        refine splitI (fun e => ?_) (fun e => ?_)
                        · replace h := ite_t e h
                          clear e
                          try cbv
                          replace h := lenF_inv M h
                          obtain ⟨z56, hz, h⟩ := h
                          refine ⟨z56, hz, ?_⟩
                          clear hz
                          try cbv
                          refine splitLe (fun e => ?_) (fun e => ?_)
                          · replace h := ite_t e h
                            clear e
                            try cbv
                            obtain rfl := Option.some.inj h
                            refine fin_go ?_
                            try cbv
                            exact ⟨[], rfl, rfl, trivial, trivial, trivial⟩
                          · replace h := ite_f (Int.not_le.2 e) h
                            clear e
                            try cbv
                            obtain rfl := Option.some.inj h
                            refine fin_go ?_
                            try cbv
                            exact ⟨[], rfl, rfl, trivial, trivial, trivial⟩
                        · replace h := ite_f e h
                          clear e
                          try cbv
                          obtain rfl := Option.some.inj h
                          refine fin_go ?_
                          try cbv
                          exact ⟨[], rfl, rfl, trivial, trivial, trivial⟩
                      · replace h := ite_t rfl h
                        try cbv
                        refine seq_join (T := Nat × Int × Int) (fun t => ⟨[(0, .v (.d (.str s1))), (2, .v (.d (.bool false))), (3, .v (.d (.list true 3 l6))), (4, .v (.d (.int .i64 z7))), (6, .v (.d (.int .i64 t.2.1))), (7, .v (.d (.int .i64 z15))), (8, .v (.d (.int .i64 t.2.2)))], [], 3200⟩) (fun t => t.1 ≤ m4 ∧ L6_10 t.1 s1 l6 z7 z15 t.2.1 t.2.2 = some r1) ?_ ?_
                        · try cbv
                          refine seq_go ?_
                          try cbv
                          replace h := szF_inv M h
                          obtain ⟨z18, hz, h⟩ := h
                          refine ⟨z18, hz, ?_⟩
                          clear hz
                          try cbv
                          refine seq_join (T := Nat × Int) (fun t => ⟨[(0, .v (.d (.str s1))), (2, .v (.d (.bool false))), (3, .v (.d (.list true 3 l6))), (4, .v (.d (.int .i64 z7))), (6, .v (.d (.int .i64 z14))), (7, .v (.d (.int .i64 z15))), (8, .v (.d (.int .i64 t.2)))], [], 1152⟩) (fun t => t.1 ≤ m4 ∧ L6_6 t.1 s1 l6 z7 z14 z15 t.2 = some r1) ?_ ?_
                          · try cbv
                            refine seq_join (T := Nat × Bool) (fun t => ⟨[(0, .v (.d (.str s1))), (2, .v (.d (.bool false))), (3, .v (.d (.list true 3 l6))), (4, .v (.d (.int .i64 z7))), (6, .v (.d (.int .i64 z14))), (7, .v (.d (.int .i64 z15))), (8, .v (.d (.int .i64 z18))), (63, .v (.d (.bool t.2)))], [], 960⟩) (fun t => t.1 ≤ m4 ∧ L6_5 t.1 s1 l6 z7 z14 z15 z18 t.2 = some r1) ?_ ?_
                            · try cbv
                              replace h := lenF_inv M h
                              obtain ⟨z19, hz, h⟩ := h
                              refine ⟨z19, hz, ?_⟩
                              clear hz
                              try cbv
                              refine splitL (fun e => ?_) (fun e => ?_)
                              · replace h := ite_t e h
                                clear e
                                try cbv
                                exact join_next (m4, true) [0, 2, 3, 4, 6, 7, 8, 63] [] 960 ⟨by omega, h⟩ (by cbv)
                              · replace h := ite_f (Int.not_lt.2 e) h
                                clear e
                                try cbv
                                exact join_next (m4, false) [0, 2, 3, 4, 6, 7, 8, 63] [] 960 ⟨by omega, h⟩ (by cbv)
                            · clear h
                              rintro ⟨m5, b20⟩ ⟨hm5, h⟩
                              replace hm5 : m5 ≤ m4 := hm5
                              cases m5 with
                              | zero => cases (show (none : Option _) = some _ from h)
                              | succ m5 =>
                                replace h : L6_5 (m5 + 1) s1 l6 z7 z14 z15 z18 b20 = some r1 := h
                                rw [L6_5] at h
                                try cbv
                                cases b20
                                · replace h := ite_f Bool.false_ne_true h
                                  try cbv
                                  exact join_next (m5, z18) [0, 2, 3, 4, 6, 7, 8] [] 1152 ⟨by omega, h⟩ (by cbv)
                                · replace h := ite_t rfl h
                                  try cbv
                                  replace h := getF_inv h
                                  obtain ⟨x21, ⟨hx0, hx⟩, h⟩ := h
                                  refine ⟨x21, hx0, hx, ?_⟩
                                  clear hx0 hx
                                  replace h := ds_t46_inv h
                                  obtain ⟨z22, s23, z24, rfl, h⟩ := h
                                  try cbv
                                  exact join_next (m5, z24) [0, 2, 3, 4, 6, 7, 8] [] 1152 ⟨by omega, h⟩ (by cbv)
                          · clear h
                            rintro ⟨m6, z25⟩ ⟨hm6, h⟩
                            replace hm6 : m6 ≤ m4 := hm6
                            cases m6 with
                            | zero => cases (show (none : Option _) = some _ from h)
                            | succ m6 =>
                              replace h : L6_6 (m6 + 1) s1 l6 z7 z14 z15 z25 = some r1 := h
                              rw [L6_6] at h
                              try cbv
                              refine seq_go ?_
                              try cbv
                              refine seq_join (T := Nat × Bool) (fun t => ⟨[(0, .v (.d (.str s1))), (2, .v (.d (.bool false))), (3, .v (.d (.list true 3 l6))), (4, .v (.d (.int .i64 z7))), (6, .v (.d (.int .i64 z14))), (7, .v (.d (.int .i64 z15))), (8, .v (.d (.int .i64 z25))), (79, .v (.d (.bool t.2)))], [], 1504⟩) (fun t => t.1 ≤ m6 ∧ L6_7 t.1 s1 l6 z7 z14 z15 z25 t.2 = some r1) ?_ ?_
                              · try cbv
                                refine splitL (fun e => ?_) (fun e => ?_)
                                · replace h := ite_t e h
                                  clear e
                                  try cbv
                                  exact join_next (m6, true) [0, 2, 3, 4, 6, 7, 8, 79] [] 1504 ⟨by omega, h⟩ (by cbv)
                                · replace h := ite_f (Int.not_lt.2 e) h
                                  clear e
                                  try cbv
                                  replace h := subF_inv M h
                                  obtain ⟨s26, hb, hz, h⟩ := h
                                  refine ⟨s26, hb, hz, ?_⟩
                                  clear hb hz
                                  try cbv
                                  replace h := bO1_inv h
                                  obtain ⟨b27, hr, h⟩ := h
                                  refine call_go rfl rfl ?_
                                  try cbv
                                  refine call_pure hM hI (T29 _ hr) rfl ?_
                                  clear hr
                                  try cbv
                                  replace h := letB_inv h
                                  obtain ⟨b28, hz, h⟩ := h
                                  refine ⟨b28, not_eq' hz, ?_⟩
                                  clear hz
                                  try cbv
                                  exact join_next (m6, b28) [0, 2, 3, 4, 6, 7, 8, 79] [] 1504 ⟨by omega, h⟩ (by cbv)
                              · clear h
                                rintro ⟨m7, b29⟩ ⟨hm7, h⟩
                                replace hm7 : m7 ≤ m6 := hm7
                                cases m7 with
                                | zero => cases (show (none : Option _) = some _ from h)
                                | succ m7 =>
                                  replace h : L6_7 (m7 + 1) s1 l6 z7 z14 z15 z25 b29 = some r1 := h
                                  rw [L6_7] at h
                                  try cbv
                                  cases b29
                                  · replace h := ite_f Bool.false_ne_true h
                                    try cbv
                                    refine seq_join (T := Nat × Bool) (fun t => ⟨[(0, .v (.d (.str s1))), (2, .v (.d (.bool false))), (3, .v (.d (.list true 3 l6))), (4, .v (.d (.int .i64 z7))), (6, .v (.d (.int .i64 z14))), (7, .v (.d (.int .i64 z15))), (8, .v (.d (.int .i64 z25))), (83, .v (.d (.bool t.2)))], [], 1632⟩) (fun t => t.1 ≤ m7 ∧ L6_8 t.1 s1 l6 z7 z14 z15 z25 t.2 = some r1) ?_ ?_
                                    · try cbv
                                      replace h := lenF_inv M h
                                      obtain ⟨z30, hz, h⟩ := h
                                      refine ⟨z30, hz, ?_⟩
                                      clear hz
                                      try cbv
                                      refine splitL (fun e => ?_) (fun e => ?_)
                                      · replace h := ite_t e h
                                        clear e
                                        try cbv
                                        exact join_next (m7, true) [0, 2, 3, 4, 6, 7, 8, 83] [] 1632 ⟨by omega, h⟩ (by cbv)
                                      · replace h := ite_f (Int.not_lt.2 e) h
                                        clear e
                                        try cbv
                                        exact join_next (m7, false) [0, 2, 3, 4, 6, 7, 8, 83] [] 1632 ⟨by omega, h⟩ (by cbv)
                                    · clear h
                                      rintro ⟨m8, b31⟩ ⟨hm8, h⟩
                                      replace hm8 : m8 ≤ m7 := hm8
                                      cases m8 with
                                      | zero => cases (show (none : Option _) = some _ from h)
                                      | succ m8 =>
                                        replace h : L6_8 (m8 + 1) s1 l6 z7 z14 z15 z25 b31 = some r1 := h
                                        rw [L6_8] at h
                                        try cbv
                                        cases b31
                                        · replace h := ite_f Bool.false_ne_true h
                                          try cbv
                                          exact join_next (m8, (z14, z25)) [0, 2, 3, 4, 6, 7, 8] [] 3200 ⟨by omega, h⟩ (by cbv)
                                        · replace h := ite_t rfl h
                                          try cbv
                                          refine seq_go ?_
                                          try cbv
                                          replace h := getF_inv h
                                          obtain ⟨x32, ⟨hx0, hx⟩, h⟩ := h
                                          refine ⟨x32, hx0, hx, ?_⟩
                                          clear hx0 hx
                                          replace h := ds_t46_inv h
                                          obtain ⟨z33, s34, z35, rfl, h⟩ := h
                                          try cbv
                                          refine seq_go ?_
                                          try cbv
                                          refine seq_join (T := Nat × Bool) (fun t => ⟨[(0, .v (.d (.str s1))), (2, .v (.d (.bool false))), (3, .v (.d (.list true 3 l6))), (4, .v (.d (.int .i64 z7))), (6, .v (.d (.int .i64 z14))), (7, .v (.d (.int .i64 z15))), (8, .v (.d (.int .i64 z25))), (9, .v (.d (.str s34))), (126, .v (.d (.bool t.2)))], [], 3040⟩) (fun t => t.1 ≤ m8 ∧ L6_9 t.1 s1 l6 z7 z15 z25 s34 t.2 = some r1) ?_ ?_
                                          · try cbv
                                            replace h := getF_inv h
                                            obtain ⟨x36, ⟨hx0, hx⟩, h⟩ := h
                                            refine ⟨x36, hx0, hx, ?_⟩
                                            clear hx0 hx
                                            replace h := ds_t46_inv h
                                            obtain ⟨z37, s38, z39, rfl, h⟩ := h
                                            try cbv
                                            refine splitL (fun e => ?_) (fun e => ?_)
                                            · replace h := ite_t e h
                                              clear e
                                              try cbv
                                              exact join_next (m8, true) [0, 2, 3, 4, 6, 7, 8, 9, 126] [] 3040 ⟨by omega, h⟩ (by cbv)
                                            · replace h := ite_f (Int.not_lt.2 e) h
                                              clear e
                                              try cbv
                                              replace h := getF_inv h
                                              obtain ⟨x40, ⟨hx0, hx⟩, h⟩ := h
                                              refine ⟨x40, hx0, hx, ?_⟩
                                              clear hx0 hx
                                              replace h := ds_t46_inv h
                                              obtain ⟨z41, s42, z43, rfl, h⟩ := h
                                              try cbv
                                              refine splitL (fun e => ?_) (fun e => ?_)
                                              · replace h := ite_t e h
                                                clear e
                                                try cbv
                                                exact join_next (m8, true) [0, 2, 3, 4, 6, 7, 8, 9, 126] [] 3040 ⟨by omega, h⟩ (by cbv)
                                              · replace h := ite_f (Int.not_lt.2 e) h
                                                clear e
                                                try cbv
                                                refine splitS (fun e => ?_) (fun e => ?_)
                                                · replace h := ite_t (bytes_eq.1 e) h
                                                  clear e
                                                  try cbv
                                                  exact join_next (m8, true) [0, 2, 3, 4, 6, 7, 8, 9, 126] [] 3040 ⟨by omega, h⟩ (by cbv)
                                                · replace h := ite_f (bytes_ne.1 e) h
                                                  clear e
                                                  try cbv
                                                  replace h := szF_inv M h
                                                  obtain ⟨z44, hz, h⟩ := h
                                                  refine ⟨z44, hz, ?_⟩
                                                  clear hz
                                                  try cbv
                                                  replace h := letF_inv h
                                                  obtain ⟨z45, hz, h⟩ := h
                                                  refine ⟨z45, hz, ?_⟩
                                                  clear hz
                                                  try cbv
                                                  replace h := szF_inv M h
                                                  obtain ⟨z46, hz, h⟩ := h
                                                  refine ⟨z46, hz, ?_⟩
                                                  clear hz
                                                  try cbv
                                                  refine splitL (fun e => ?_) (fun e => ?_)
                                                  · replace h := ite_t e h
                                                    clear e
                                                    try cbv
                                                    exact join_next (m8, true) [0, 2, 3, 4, 6, 7, 8, 9, 126] [] 3040 ⟨by omega, h⟩ (by cbv)
                                                  · replace h := ite_f (Int.not_lt.2 e) h
                                                    clear e
                                                    try cbv
                                                    replace h := szF_inv M h
                                                    obtain ⟨z47, hz, h⟩ := h
                                                    refine ⟨z47, hz, ?_⟩
                                                    clear hz
                                                    try cbv
                                                    replace h := letF_inv h
                                                    obtain ⟨z48, hz, h⟩ := h
                                                    refine ⟨z48, hz, ?_⟩
                                                    clear hz
                                                    try cbv
                                                    replace h := subF_inv M h
                                                    obtain ⟨s49, hb, hz, h⟩ := h
                                                    refine ⟨s49, hb, hz, ?_⟩
                                                    clear hb hz
                                                    try cbv
                                                    refine splitS (fun e => ?_) (fun e => ?_)
                                                    · replace h := ite_t (bytes_eq.1 e) h
                                                      clear e
                                                      try cbv
                                                      exact join_next (m8, false) [0, 2, 3, 4, 6, 7, 8, 9, 126] [] 3040 ⟨by omega, h⟩ (by cbv)
                                                    · replace h := ite_f (bytes_ne.1 e) h
                                                      clear e
                                                      try cbv
                                                      exact join_next (m8, true) [0, 2, 3, 4, 6, 7, 8, 9, 126] [] 3040 ⟨by omega, h⟩ (by cbv)
                                          · clear h
                                            rintro ⟨m9, b50⟩ ⟨hm9, h⟩
                                            replace hm9 : m9 ≤ m8 := hm9
                                            cases m9 with
                                            | zero => cases (show (none : Option _) = some _ from h)
                                            | succ m9 =>
                                              replace h : L6_9 (m9 + 1) s1 l6 z7 z15 z25 s34 b50 = some r1 := h
                                              rw [L6_9] at h
                                              try cbv
                                              cases b50
                                              · replace h := ite_f Bool.false_ne_true h
                                                try cbv
                                                replace h := szF_inv M h
                                                obtain ⟨z51, hz, h⟩ := h
                                                refine ⟨z51, hz, ?_⟩
                                                clear hz
                                                try cbv
                                                replace h := letF_inv h
                                                obtain ⟨z52, hz, h⟩ := h
                                                refine ⟨z52, hz, ?_⟩
                                                clear hz
                                                try cbv
                                                exact join_next (m9, (z52, z25)) [0, 2, 3, 4, 6, 7, 8] [] 3200 ⟨by omega, h⟩ (by cbv)
                                              · replace h := ite_t rfl h
                                                try cbv
                                                refine seq_go ?_
                                                try cbv
                                                obtain rfl := Option.some.inj h
                                                refine fin_go ?_
                                                try cbv
                                                exact ⟨[], rfl, rfl, trivial, trivial, trivial⟩
                                  · replace h := ite_t rfl h
                                    try cbv
                                    refine seq_go ?_
                                    try cbv
                                    obtain rfl := Option.some.inj h
                                    refine fin_go ?_
                                    try cbv
                                    exact ⟨[], rfl, rfl, trivial, trivial, trivial⟩
                        · clear h
                          rintro ⟨m10, z53, z54⟩ ⟨hm10, h⟩
                          replace hm10 : m10 ≤ m4 := hm10
                          cases m10 with
                          | zero => cases (show (none : Option _) = some _ from h)
                          | succ m10 =>
                            replace h : L6_10 (m10 + 1) s1 l6 z7 z15 z53 z54 = some r1 := h
                            rw [L6_10] at h
                            try cbv
                            replace h := letF_inv h
                            obtain ⟨z55, hz, h⟩ := h
                            refine ⟨z55, hz, ?_⟩
                            clear hz
                            try cbv
                            exact loop_next (m10, (z53, z55)) [0, 2, 3, 4, 6, 7] [] 608 ⟨by omega, h⟩ (Nat.lt_succ_of_le (by omega)) (by cbv)
              · replace h := ite_t rfl h
                try cbv
                refine seq_go ?_
                try cbv
                replace h := lenF_inv M h
                obtain ⟨z10, hz, h⟩ := h
                refine ⟨z10, hz, ?_⟩
                clear hz
                try cbv
                refine splitI (fun e => ?_) (fun e => ?_)
                · replace h := ite_t e h
                  clear e
                  try cbv
                  replace h := szF_inv M h
                  obtain ⟨z11, hz, h⟩ := h
                  refine ⟨z11, hz, ?_⟩
                  clear hz
                  try cbv
                  refine splitL (fun e => ?_) (fun e => ?_)
                  · replace h := ite_t e h
                    clear e
                    try cbv
                    refine splitI (fun e => ?_) (fun e => ?_)
                    · replace h := ite_t e h
                      clear e
                      try cbv
                      refine ⟨true, rfl, ?_⟩
                      try cbv
                      refine splitLe (fun e => ?_) (fun e => ?_)
                      · replace h := ite_t e h
                        clear e
                        try cbv
                        replace h := szF_inv M h
                        obtain ⟨z12, hz, h⟩ := h
                        refine ⟨z12, hz, ?_⟩
                        clear hz
                        try cbv
                        refine splitLe (fun e => ?_) (fun e => ?_)
                        · replace h := ite_t e h
                          clear e
                          try cbv
                          refine splitI (fun e => ?_) (fun e => ?_)
                          · replace h := ite_t e h
                            clear e
                            try cbv
                            obtain rfl := Option.some.inj h
                            refine fin_go ?_
                            try cbv
                            exact ⟨[], rfl, rfl, trivial, trivial, trivial⟩
                          · replace h := ite_f e h
                            clear e
                            try cbv
                            refine splitI (fun e => ?_) (fun e => ?_)
                            · replace h := ite_t e h
                              clear e
                              try cbv
                              obtain rfl := Option.some.inj h
                              refine fin_go ?_
                              try cbv
                              exact ⟨[], rfl, rfl, trivial, trivial, trivial⟩
                            · replace h := ite_f e h
                              clear e
                              try cbv
                              obtain rfl := Option.some.inj h
                              refine fin_go ?_
                              try cbv
                              exact ⟨[], rfl, rfl, trivial, trivial, trivial⟩
                        · replace h := ite_f (Int.not_le.2 e) h
                          clear e
                          try cbv
                          obtain rfl := Option.some.inj h
                          refine fin_go ?_
                          try cbv
                          exact ⟨[], rfl, rfl, trivial, trivial, trivial⟩
                      · replace h := ite_f (Int.not_le.2 e) h
                        clear e
                        try cbv
                        obtain rfl := Option.some.inj h
                        refine fin_go ?_
                        try cbv
                        exact ⟨[], rfl, rfl, trivial, trivial, trivial⟩
                    · replace h := ite_f e h
                      clear e
                      try cbv
                      refine ⟨false, rfl, ?_⟩
                      try cbv
                      obtain rfl := Option.some.inj h
                      refine fin_go ?_
                      try cbv
                      exact ⟨[], rfl, rfl, trivial, trivial, trivial⟩
                  · replace h := ite_f (Int.not_lt.2 e) h
                    clear e
                    try cbv
                    refine splitI (fun e => ?_) (fun e => ?_)
                    · replace h := ite_t e h
                      clear e
                      try cbv
                      refine ⟨false, rfl, ?_⟩
                      try cbv
                      obtain rfl := Option.some.inj h
                      refine fin_go ?_
                      try cbv
                      exact ⟨[], rfl, rfl, trivial, trivial, trivial⟩
                    · replace h := ite_f e h
                      clear e
                      try cbv
                      refine ⟨true, rfl, ?_⟩
                      try cbv
                      refine splitLe (fun e => ?_) (fun e => ?_)
                      · replace h := ite_t e h
                        clear e
                        try cbv
                        replace h := szF_inv M h
                        obtain ⟨z13, hz, h⟩ := h
                        refine ⟨z13, hz, ?_⟩
                        clear hz
                        try cbv
                        refine splitLe (fun e => ?_) (fun e => ?_)
                        · replace h := ite_t e h
                          clear e
                          try cbv
                          refine splitI (fun e => ?_) (fun e => ?_)
                          · replace h := ite_t e h
                            clear e
                            try cbv
                            obtain rfl := Option.some.inj h
                            refine fin_go ?_
                            try cbv
                            exact ⟨[], rfl, rfl, trivial, trivial, trivial⟩
                          · replace h := ite_f e h
                            clear e
                            try cbv
                            refine splitI (fun e => ?_) (fun e => ?_)
                            · replace h := ite_t e h
                              clear e
                              try cbv
                              obtain rfl := Option.some.inj h
                              refine fin_go ?_
                              try cbv
                              exact ⟨[], rfl, rfl, trivial, trivial, trivial⟩
                            · replace h := ite_f e h
                              clear e
                              try cbv
                              obtain rfl := Option.some.inj h
                              refine fin_go ?_
                              try cbv
                              exact ⟨[], rfl, rfl, trivial, trivial, trivial⟩
                        · replace h := ite_f (Int.not_le.2 e) h
                          clear e
                          try cbv
                          obtain rfl := Option.some.inj h
                          refine fin_go ?_
                          try cbv
                          exact ⟨[], rfl, rfl, trivial, trivial, trivial⟩
                      · replace h := ite_f (Int.not_le.2 e) h
                        clear e
                        try cbv
                        obtain rfl := Option.some.inj h
                        refine fin_go ?_
                        try cbv
                        exact ⟨[], rfl, rfl, trivial, trivial, trivial⟩
                · replace h := ite_f e h
                  clear e
                  try cbv
                  obtain rfl := Option.some.inj h
                  refine fin_go ?_
                  try cbv
                  exact ⟨[], rfl, rfl, trivial, trivial, trivial⟩
        · replace h := ite_t rfl h
          try cbv
          refine seq_go ?_
          try cbv
          obtain rfl := Option.some.inj h
          refine fin_go ?_
          try cbv
          exact ⟨[], rfl, rfl, trivial, trivial, trivial⟩
  · replace h := ite_t rfl h
    try cbv
    refine seq_go ?_
    try cbv
    obtain rfl := Option.some.inj h
    refine fin_go ?_
    try cbv
    exact ⟨[], rfl, rfl, trivial, trivial, trivial⟩
end Go.Proofs.YtjmofeakajdbiaaDoor
end

/- Chapter 2, the plain law, part P: where the tokens stand; LexPlaces' contract. No condition. -/
set_option linter.unusedVariables false
noncomputable section
namespace Go.Proofs.YtjmofeakajdbiaaDoor
open Go Go.AM

theorem ilt {i N : Nat} (h : i < N) : (i : Int) < (N : Int) := Int.ofNat_lt.2 h
/-- Is this blanks and remarks alone? -/
def accB : Bool → List UInt8 → Bool
  | _, [] => true
  | true, b :: r => accB (b != 10) r
  | false, b :: r => if b = 47 ∧ r.head? = some 47 then accB true r else if blank b = true then accB false r else false
theorem accB_skip : ∀ (q : Bool) (l : List UInt8), accB q (l.take (skipB q l)) = true
  | _, [] => by simp [accB]
  | true, b :: r => by
    rw [skipB, Nat.add_comm, List.take_succ_cons, accB]
    exact accB_skip _ r
  | false, b :: r => by
    rw [skipB]
    by_cases h : blank b = true
    · rw [if_pos h, Nat.add_comm, List.take_succ_cons, accB]
      have : ¬ b = 47 := by rintro rfl; exact absurd h (by decide)
      rw [if_neg (fun x => this x.1), if_pos h]
      exact accB_skip false r
    · rw [if_neg h]
      by_cases h2 : b = 47 ∧ r.head? = some 47
      · rw [if_pos h2, Nat.add_comm, List.take_succ_cons, accB, if_pos]
        · exact accB_skip true r
        · refine ⟨h2.1, ?_⟩
          cases r with
          | nil => exact absurd h2.2 (by simp)
          | cons c r' => rw [skipB, Nat.add_comm, List.take_succ_cons]; exact h2.2
      · rw [if_neg h2]; simp [accB]
theorem bI (b c : UInt8) : ((b.toNat : Int) = (c.toNat : Int)) = (b = c) := propext ⟨fun h => UInt8.toNat_inj.1 (by omega), fun h => by rw [h]⟩
theorem bI10 (b : UInt8) : ((b.toNat : Int) = 10) = (b = 10) := bI b 10
theorem bI47 (b : UInt8) : ((b.toNat : Int) = 47) = (b = 47) := bI b 47
theorem bI32 (b : UInt8) : ((b.toNat : Int) = 32) = (b = 32) := bI b 32
theorem bI9 (b : UInt8) : ((b.toNat : Int) = 9) = (b = 9) := bI b 9
theorem bI13 (b : UInt8) : ((b.toNat : Int) = 13) = (b = 13) := bI b 13

theorem evL29 {s : ByteArray} (hs : s.size ≤ maxLen) : ∀ (rest pre : List UInt8) (q : Bool), pre ++ rest = bl s → Ev (fun n => L29_1 n s q (pre.length : Int)) (accB q rest)
  | [], pre, q, h => by
    refine .succ (.succ (.of fun n => ?_))
    rw [L29_1, szF_eq, ← h, if_neg (by simp), L29_2, if_neg Bool.false_ne_true]
    rfl
  | b :: rest, pre, q, h => by
    have hlt : pre.length < (bl s).length := by rw [← h]; simp
    have hb := pre_get h
    have hN : (bl s).length ≤ maxLen := by rw [← bl_len]; exact hs
    have hw := wrap_succ (N := (bl s).length) hlt hN
    have next : ∀ q', Ev (fun n => L29_5 n s (pre.length : Int) q') (accB q' rest) := by
      intro q'
      have ih := evL29 hs rest (pre ++ [b]) q' (by simpa using h)
      refine .succ (ih.congr fun n => ?_)
      rw [L29_5]
      simp only [letF]
      rw [hw]
      simp
    refine .succ ?_
    simp only [L29_1, szF_eq, if_pos (ilt hlt)]
    refine .succ ?_
    simp only [L29_2, if_true, atF_get hb]
    cases q
    · simp only [Bool.false_eq_true, if_false, bI47]
      have plain : (¬ (b = 47 ∧ rest.head? = some 47)) → Ev (fun n => L29_3 n s (pre.length : Int) (b.toNat : Int) false) (accB false (b :: rest)) := by
        intro hn
        rw [accB, if_neg hn]
        refine .succ ?_
        simp only [L29_3, Bool.false_eq_true, if_false, bI32, bI9, bI10, bI13]
        have no : Ev (fun n => L29_4 n s (pre.length : Int) false) (accB false rest) := .succ (by simp only [L29_4, Bool.false_eq_true, if_false]; exact next false)
        by_cases c1 : b = 32
        · simp only [if_pos c1, show blank b = true by subst c1; decide, if_true]; exact no
        by_cases c2 : b = 9
        · simp only [if_neg c1, if_pos c2, show blank b = true by subst c2; decide, if_true]; exact no
        by_cases c3 : b = 10
        · simp only [if_neg c1, if_neg c2, if_pos c3, show blank b = true by subst c3; decide, if_true]; exact no
        by_cases c4 : b = 13
        · simp only [if_neg c1, if_neg c2, if_neg c3, if_pos c4, show blank b = true by subst c4; decide, if_true]; exact no
        · have : ¬ blank b = true := by simp [blank, c1, c2, c3, c4]
          simp only [if_neg c1, if_neg c2, if_neg c3, if_neg c4, if_neg this]
          exact .succ (by simp only [L29_4, if_true]; exact .ret)
      by_cases h47 : b = 47
      · simp only [if_pos h47, letF, hw, szF_eq]
        cases rest with
        | nil =>
          have hlen1 : (bl s).length = pre.length + 1 := by rw [← h]; simp
          have : ¬ ((pre.length + 1 : Nat) : Int) < ((bl s).length : Int) := by rw [hlen1]; omega
          simp only [if_neg this]
          exact plain (by simp)
        | cons c r =>
          have hlt2 : pre.length + 1 < (bl s).length := by rw [← h]; simp
          have hc : (bl s)[pre.length + 1]? = some c := by rw [← h]; simp
          simp only [if_pos (ilt hlt2), atF_get hc, bI47]
          by_cases hc47 : c = 47
          · simp only [if_pos hc47]
            refine .succ ?_
            simp only [L29_3, if_true]
            rw [accB, if_pos ⟨h47, by rw [hc47]; rfl⟩]
            exact next true
          · simp only [if_neg hc47]
            exact plain (by simp [hc47])
      · simp only [if_neg h47]
        exact plain (fun x => h47 x.1)
    · simp only [if_true, bI10, accB]
      by_cases c : b = 10
      · simp only [if_pos c, show (b != 10) = false by rw [c]; rfl]; exact next false
      · simp only [if_neg c, show (b != 10) = true by simp [c]]; exact next true
theorem ev29 {s : ByteArray} (hs : s.size ≤ maxLen) : Ev (fun n => F29 n s) (accB false (bl s)) := evL29 hs (bl s) [] false rfl

theorem toks_end : ∀ (m p : Nat) (l : List UInt8) (e : Nat), (toks m p l).2 = some e → e ≤ p + l.length
  | 0, p, l, e, h => by simp [toks] at h
  | m + 1, p, [], e, h => by simp [toks] at h
  | m + 1, p, b :: r, e, h => by
    unfold toks at h
    dsimp only at h
    split at h
    · have : p = e := by simpa using h
      omega
    · rename_i hk
      have := toks_end m _ _ e h
      have h1 := oneL_take (b :: r) hk
      have h2 := skipB_le false ((b :: r).drop (oneL (b :: r)).2.length)
      simp only [List.length_drop] at this h2
      omega
theorem kind_range (l : List UInt8) (h : (oneL l).1 ≠ 0) : 1 ≤ (oneL l).1 ∧ (oneL l).1 ≤ 5 := by
  unfold oneL at h ⊢
  cases l with
  | nil => simp at h
  | cons b r =>
    dsimp only at h ⊢
    split
    · rename_i c
      rw [if_pos c] at h
      dsimp only at h ⊢
      unfold kindW at h ⊢
      split
      · decide
      · split
        · decide
        · split
          · decide
          · rename_i a1 a2 a3
            rw [if_neg a1, if_neg a2, if_neg a3] at h
            exact absurd rfl h
    · rename_i c
      rw [if_neg c] at h
      split
      · rename_i c2
        rw [if_pos c2] at h
        split
        · exact ⟨by show (1 : Int) ≤ 4; omega, by show (4 : Int) ≤ 5; omega⟩
        · rename_i c3
          rw [if_neg c3] at h
          exact absurd rfl h
      · rename_i c2
        rw [if_neg c2] at h
        split
        · exact ⟨by show (1 : Int) ≤ 5; omega, by show (5 : Int) ≤ 5; omega⟩
        · rename_i c3
          rw [if_neg c3] at h
          split
          · exact ⟨by show (1 : Int) ≤ 5; omega, by show (5 : Int) ≤ 5; omega⟩
          · rename_i c4
            rw [if_neg c4] at h
            exact absurd rfl h

theorem evL6 {s : ByteArray} (hs : (bl s).length ≤ 4000) {T : List D} (hT : T.length ≤ 1500) : ∀ (m : Nat) (rest pre : List UInt8) (e i : Nat), rest.length ≤ m → pre ++ rest = bl s → e ≤ pre.length →
    accB false (pre.drop e) = true → i ≤ T.length → T.drop i = (toks m pre.length rest).1.map tokD → (toks m pre.length rest).2 = none → Ev (fun n => L6_3 n s T (0 : Int) (e : Int) (i : Int)) true := by
  have hM : 4000 < maxLen := by decide
  have hmax : T.length ≤ maxLen := by omega
  have stop : ∀ (pre : List UInt8) (e i : Nat), pre = bl s → e ≤ pre.length → accB false (pre.drop e) = true → i = T.length → Ev (fun n => L6_3 n s T (0 : Int) (e : Int) (i : Int)) true := by
    rintro pre e i rfl he ha rfl
    refine .succ ?_
    simp only [L6_3, lenF, Int.le_refl, if_true]
    refine .succ ?_
    simp only [L6_4, if_true, szF_eq, lenF, Int.lt_irrefl, if_false]
    refine .succ ?_
    simp only [L6_5, Bool.false_eq_true, if_false]
    refine .succ ?_
    simp only [L6_6, if_neg (show ¬ ((bl s).length : Int) < (e : Int) by omega), subF_eq he (Nat.le_refl _), List.take_length]
    refine Ev.bO1 (a := true) ?_ ?_
    · have := ev29 (s := tx ((bl s).drop e)) (by rw [bl_len, bl_tx, List.length_drop]; omega)
      rw [bl_tx, ha] at this
      exact this
    simp only [letB, Bool.not_true]
    refine .succ ?_
    simp only [L6_7, Bool.false_eq_true, if_false, lenF, Int.lt_irrefl]
    refine .succ ?_
    simp only [L6_8, Bool.false_eq_true, if_false]
    refine .succ ?_
    have hw : IntKind.i64.wrap ((T.length : Int) + 1) = ((T.length + 1 : Nat) : Int) := wrapN (by omega) (by omega)
    simp only [L6_10, letF, hw]
    refine .succ ?_
    simp only [L6_3, lenF, if_neg (show ¬ ((T.length + 1 : Nat) : Int) ≤ (T.length : Int) by omega)]
    refine .succ ?_
    simp only [L6_4, Bool.false_eq_true, if_false, if_true, lenF, if_pos (show (T.length : Int) ≤ 1500 by omega)]
    exact .ret
  intro m
  induction m with
  | zero =>
    intro rest pre e i hm h he ha hi hd hn
    obtain rfl : rest = [] := List.eq_nil_of_length_eq_zero (by omega)
    refine stop pre e i (by simpa using h) he ha ?_
    have : (T.drop i).length = 0 := by rw [hd]; rfl
    rw [List.length_drop] at this
    omega
  | succ m ih =>
    intro rest pre e i hm h he ha hi hd hn
    cases rest with
    | nil =>
      refine stop pre e i (by simpa using h) he ha ?_
      have : (T.drop i).length = 0 := by rw [hd]; rfl
      rw [List.length_drop] at this
      omega
    | cons b r =>
      by_cases hk : (oneL (b :: r)).1 = 0
      · rw [toks] at hn
        dsimp only at hn
        rw [if_pos hk] at hn
        cases hn
      · obtain ⟨k1, k2, k3⟩ := oneL_take (b :: r) hk
        obtain ⟨r1, r2⟩ := kind_range (b :: r) hk
        rw [toks] at hd hn
        dsimp only at hd hn
        rw [if_neg hk] at hd hn
        dsimp only at hd hn
        rw [List.map_cons] at hd
        have hil : i < T.length := by
          have : (T.drop i).length ≠ 0 := by rw [hd]; simp
          rw [List.length_drop] at this
          omega
        have hx : T[i]? = some (tokD ⟨(oneL (b :: r)).1, (oneL (b :: r)).2, pre.length⟩) := by
          rw [← List.head?_drop, hd]; rfl
        have hd2 : T.drop (i + 1) = (toks m (pre.length + (oneL (b :: r)).2.length + skipB false ((b :: r).drop (oneL (b :: r)).2.length)) (((b :: r).drop (oneL (b :: r)).2.length).drop (skipB false ((b :: r).drop (oneL (b :: r)).2.length)))).1.map tokD := by
          rw [← List.tail_drop, hd]; rfl
        generalize hZ : (oneL (b :: r)).2 = t at *
        generalize hK' : t.length = K at *
        generalize hk0 : (oneL (b :: r)).1 = kk at *
        have hq := skipB_le false ((b :: r).drop K)
        have hacc := accB_skip false ((b :: r).drop K)
        generalize hQ : skipB false ((b :: r).drop K) = Q at *
        have hlen : (bl s).length = pre.length + (b :: r).length := by rw [← h, List.length_append]
        have hdl : ((b :: r).drop K).length = (b :: r).length - K := List.length_drop
        have hend : pre.length + K ≤ (bl s).length := by omega
        have ih2 := ih (((b :: r).drop K).drop Q) (pre ++ (b :: r).take (K + Q)) (pre.length + K) (i + 1) (by rw [List.length_drop]; omega)
          (by rw [List.append_assoc, List.drop_drop, List.take_append_drop]; exact h) (by rw [List.length_append, List.length_take]; omega)
          (by rw [List.drop_length_add_append, List.drop_take, Nat.add_sub_cancel_left]; exact hacc)
          (by omega) (by rw [List.length_append, List.length_take, Nat.min_eq_left (by omega), ← Nat.add_assoc]; exact hd2) (by rw [List.length_append, List.length_take, Nat.min_eq_left (by omega), ← Nat.add_assoc]; exact hn)
        have hpre : (bl s).take pre.length = pre := by rw [← h, List.take_left]
        have htt : ((bl s).take (pre.length + K)).drop pre.length = t := by
          rw [← h, List.drop_take, List.drop_left, Nat.add_sub_cancel_left, ← k3]
        have htx : (bl (tx t)).length = K := by rw [bl_tx, hK']
        have hne : ¬ tx t = ByteArray.empty := by
          intro he
          rw [he] at htx
          have : (bl ByteArray.empty).length = 0 := rfl
          omega
        refine .succ ?_
        simp only [L6_3, lenF, if_pos (show (i : Int) ≤ (T.length : Int) by omega)]
        refine .succ ?_
        simp only [L6_4, if_true, szF_eq, lenF, if_pos (ilt hil)]
        refine .succ ?_
        simp only [L6_5, if_true, getF_nat hx, tokD, ds_t46]
        refine .succ ?_
        simp only [L6_6, if_neg (show ¬ (pre.length : Int) < (e : Int) by omega), subF_eq he (show pre.length ≤ (bl s).length by omega), hpre]
        refine Ev.bO1 (a := true) ?_ ?_
        · have := ev29 (s := tx (pre.drop e)) (by rw [bl_len, bl_tx, List.length_drop]; omega)
          rw [bl_tx, ha] at this
          exact this
        simp only [letB, Bool.not_true]
        refine .succ ?_
        simp only [L6_7, Bool.false_eq_true, if_false, lenF, if_pos (ilt hil)]
        refine .succ ?_
        have w1 : IntKind.i64.wrap (((bl s).length : Int) - (pre.length : Int)) = (((bl s).length - pre.length : Nat) : Int) := wrapN (by omega) (by omega)
        have w2 : IntKind.i64.wrap ((pre.length : Int) + (K : Int)) = ((pre.length + K : Nat) : Int) := wrapN (by omega) (by omega)
        simp only [L6_8, if_true, getF_nat hx, tokD, ds_t46, if_neg (show ¬ kk < 1 by omega), if_neg (show ¬ (5 : Int) < kk by omega), if_neg hne, szF_eq, letF, htx, w1, if_neg (show ¬ (((bl s).length - pre.length : Nat) : Int) < (K : Int) by omega), w2, subF_eq (show pre.length ≤ pre.length + K by omega) hend, htt]
        refine .succ ?_
        simp only [L6_9, Bool.false_eq_true, if_false, szF_eq, htx, letF, w2]
        refine .succ ?_
        simp only [L6_10, letF, wrap_succ hil hmax]
        exact ih2

theorem lex_places_law {s : ByteArray} (hs : s.size ≤ maxLen) : Ev (fun n => F6 n s) true := by
  have hM : 4000 < maxLen := by decide
  unfold F6
  refine Ev.bO1 ev28 ?_
  simp only [letB, Bool.not_true, Bool.false_eq_true, if_false, szF_eq]
  by_cases h6 : (6000 : Int) < ((bl s).length : Int)
  · simp only [if_pos h6]
    exact .succ (by simp only [L6_1, if_true]; exact .ret)
  · simp only [if_neg h6]
    refine .succ ?_
    simp only [L6_1, Bool.false_eq_true, if_false]
    refine Ev.bO3 (ev27 hs) ?_
    by_cases h4 : 4000 < (bl s).length
    · simp only [lexR, if_pos h4, if_neg (show ¬ (3 : Int) = 0 by decide), List.map_nil]
      refine .succ ?_
      simp only [L6_2, if_true, lenF, List.length_nil, szF_eq, if_pos (show (((0 : Nat) : Int)) = 0 from rfl), if_pos (show (4000 : Int) < ((bl s).length : Int) by omega), if_pos (show (0 : Int) ≤ 0 by omega), if_pos (show (0 : Int) ≤ ((bl s).length : Int) by omega), if_neg (show ¬ (3 : Int) = 20 by decide)]
      exact .ret
    · have hq := skipB_le false (bl s)
      have hend := toks_end (bl s).length (skipB false (bl s)) ((bl s).drop (skipB false (bl s)))
      rw [List.length_drop] at hend
      simp only [lexR, if_neg h4]
      cases hz : toks (bl s).length (skipB false (bl s)) ((bl s).drop (skipB false (bl s))) with
      | mk ts o =>
        rw [hz] at hend
        cases o with
        | some e =>
          have he := hend e rfl
          simp only [if_neg (show ¬ (20 : Int) = 0 by decide), List.map_nil]
          refine .succ ?_
          simp only [L6_2, if_true, lenF, List.length_nil, szF_eq, if_pos (show (((0 : Nat) : Int)) = 0 from rfl), if_neg (show ¬ (4000 : Int) < ((bl s).length : Int) by omega), if_pos (show (0 : Int) ≤ (e : Int) by omega), if_pos (show (e : Int) ≤ ((bl s).length : Int) by omega), if_neg (show ¬ (20 : Int) = 3 by decide)]
          exact .ret
        | none =>
          by_cases h15 : 1500 < ts.length
          · simp only [if_pos h15, if_neg (show ¬ (4 : Int) = 0 by decide), List.map_nil]
            refine .succ ?_
            simp only [L6_2, if_true, lenF, List.length_nil, szF_eq, if_pos (show (((0 : Nat) : Int)) = 0 from rfl), if_neg (show ¬ (4000 : Int) < ((bl s).length : Int) by omega), if_pos (show (0 : Int) ≤ 0 by omega), if_pos (show (0 : Int) ≤ ((bl s).length : Int) by omega), if_neg (show ¬ (4 : Int) = 3 by decide), if_neg (show ¬ (4 : Int) = 20 by decide)]
            exact .ret
          · simp only [if_neg h15, if_true]
            refine .succ ?_
            simp only [L6_2, Bool.false_eq_true, if_false]
            have hl : ((bl s).take (skipB false (bl s))).length = skipB false (bl s) := by rw [List.length_take]; omega
            have := evL6 (s := s) (by omega) (T := ts.map tokD) (by rw [List.length_map]; omega) (bl s).length ((bl s).drop (skipB false (bl s))) ((bl s).take (skipB false (bl s))) 0 0 (by rw [List.length_drop]; omega) (List.take_append_drop _ _) (Nat.zero_le _) (by rw [List.drop_zero]; exact accB_skip false (bl s)) (Nat.zero_le _) (by rw [hl, hz]; rfl) (by rw [hl, hz])
            exact this
theorem lex_places_trip : ∀ xs : List D, Shapes tab [9] xs → Trip Tryd.prog inv 6 (xs.map V1.d) [] (.v (.d (.bool true))) [] [] := by
  intro xs h
  match xs, h with
  | [u], ⟨u1, u2, _⟩ =>
    obtain ⟨s, rfl, hs⟩ := rs9 ⟨u1, u2⟩
    obtain ⟨n, hn⟩ := (lex_places_law hs).run
    exact T6 n hn
end Go.Proofs.YtjmofeakajdbiaaDoor
end

/- Printed by lift.py: functional texts of functions, and their contracts. No condition. -/
set_option linter.unusedVariables false
noncomputable section
namespace Go.Proofs.YtjmofeakajdbiaaDoor
open Go Go.AM
mutual
def L9_5 : Nat → ByteArray → (List D) → (List D) → (List D) → Int → Option (Bool)
  | 0, _, _, _, _, _ => none
  | n + 1, s1, l8, l11, l17, z30 =>
    lenF l17 fun z31 => (if z30 < z31 then L9_6 n s1 l8 l11 l17 z30 true else L9_6 n s1 l8 l11 l17 z30 false)
def L9_6 : Nat → ByteArray → (List D) → (List D) → (List D) → Int → Bool → Option (Bool)
  | 0, _, _, _, _, _, _ => none
  | n + 1, s1, l8, l11, l17, z30, b32 =>
    (if b32 = true then lenF l8 fun z33 => (if z30 < z33 then L9_7 n s1 l8 l11 l17 z30 true else L9_7 n s1 l8 l11 l17 z30 false) else some true)
def L9_7 : Nat → ByteArray → (List D) → (List D) → (List D) → Int → Bool → Option (Bool)
  | 0, _, _, _, _, _, _ => none
  | n + 1, s1, l8, l11, l17, z30, b34 =>
    (if b34 = true then getF l8 z30 fun x35 => ds_t46 x35 fun z36 s37 z38 => L9_8 n s1 l8 l11 l17 z30 z36 s37 z38 else lenF l8 fun z39 => letF (IntKind.wrap .i64 (z30 - z39)) fun z40 => getF l11 z40 fun x41 => ds_t46 x41 fun z42 s43 z44 => szF s1 fun z45 => letF (IntKind.wrap .i64 (z44 + z45)) fun z46 => letF (IntKind.wrap .i64 (z46 + 1)) fun z47 => L9_8 n s1 l8 l11 l17 z30 z42 s43 z47)
def L9_8 : Nat → ByteArray → (List D) → (List D) → (List D) → Int → Int → ByteArray → Int → Option (Bool)
  | 0, _, _, _, _, _, _, _, _ => none
  | n + 1, s1, l8, l11, l17, z30, z48, s49, z50 =>
    getF l17 z30 fun x51 => ds_t46 x51 fun z52 s53 z54 => (if z52 = z48 then (if s53 = s49 then (if z54 = z50 then L9_9 n s1 l8 l11 l17 z30 false else L9_9 n s1 l8 l11 l17 z30 true) else L9_9 n s1 l8 l11 l17 z30 true) else L9_9 n s1 l8 l11 l17 z30 true)
def L9_9 : Nat → ByteArray → (List D) → (List D) → (List D) → Int → Bool → Option (Bool)
  | 0, _, _, _, _, _, _ => none
  | n + 1, s1, l8, l11, l17, z30, b55 =>
    (if b55 = true then some false else letF (IntKind.wrap .i64 (z30 + 1)) fun z56 => L9_5 n s1 l8 l11 l17 z56)
end
def L9_4 : Nat → ByteArray → (List D) → (List D) → (List D) → Bool → Option (Bool)
  | 0, _, _, _, _, _ => none
  | n + 1, s1, l8, l11, l17, b29 =>
    (if b29 = true then some false else L9_5 n s1 l8 l11 l17 (0 : Int))
def L9_3 : Nat → ByteArray → (List D) → (List D) → (List D) → Int → Bool → Option (Bool)
  | 0, _, _, _, _, _, _ => none
  | n + 1, s1, l8, l11, l17, z19, b23 =>
    (if b23 = true then (if z19 = (4 : Int) then lenF l17 fun z24 => (if z24 = (0 : Int) then some true else some false) else some false) else (if z19 = (0 : Int) then lenF l17 fun z25 => lenF l8 fun z26 => lenF l11 fun z27 => letF (IntKind.wrap .i64 (z26 + z27)) fun z28 => (if z25 = z28 then L9_4 n s1 l8 l11 l17 false else L9_4 n s1 l8 l11 l17 true) else L9_4 n s1 l8 l11 l17 true))
def L9_2 : Nat → ByteArray → ByteArray → (List D) → (List D) → Bool → Option (Bool)
  | 0, _, _, _, _, _ => none
  | n + 1, s1, s2, l8, l11, b14 =>
    (if b14 = true then some true else catF s1 k___17 fun s15 => catF s15 s2 fun s16 => bO3 (F27 n s16) fun l17 z18 z19 => lenF l8 fun z20 => lenF l11 fun z21 => letF (IntKind.wrap .i64 (z20 + z21)) fun z22 => (if (1500 : Int) < z22 then L9_3 n s1 l8 l11 l17 z19 true else L9_3 n s1 l8 l11 l17 z19 false))
def L9_1 : Nat → ByteArray → ByteArray → Bool → Option (Bool)
  | 0, _, _, _ => none
  | n + 1, s1, s2, b7 =>
    (if b7 = true then some true else bO3 (F27 n s1) fun l8 z9 z10 => bO3 (F27 n s2) fun l11 z12 z13 => (if z10 = (0 : Int) then (if z13 = (0 : Int) then L9_2 n s1 s2 l8 l11 false else L9_2 n s1 s2 l8 l11 true) else L9_2 n s1 s2 l8 l11 true))
def F9 (n : Nat) (s1 : ByteArray) (s2 : ByteArray) : Option (Bool) :=
  bO1 (F28 n) fun b3 => letB (!b3) fun b4 => (if b4 = true then some false else szF s1 fun z5 => (if (1900 : Int) < z5 then L9_1 n s1 s2 true else szF s2 fun z6 => (if (1900 : Int) < z6 then L9_1 n s1 s2 true else L9_1 n s1 s2 false)))
set_option maxRecDepth 100000 in
set_option maxHeartbeats 40000000 in
theorem T9 (n : Nat) : ∀ ⦃s1 : ByteArray⦄ ⦃s2 : ByteArray⦄ ⦃r1 : Bool⦄, F9 n s1 s2 = some r1 →
    Trip Tryd.prog inv 9 [.d (.str s1), .d (.str s2)] [] (.v (.d (.bool r1))) [] [] := by
  intro s1 s2 r1 h
  unfold F9 at h
  refine Trip.of tab_ok tab_one fol Tryd.func9 rfl (by kernel_rfl) rfl rfl rfl (fun M hM hI => ?_)
  try cbv
  refine seq_go ?_
  try cbv
  refine seq_go ?_
  try cbv
  refine seq_go ?_
  try cbv
  replace h := bO1_inv h
  obtain ⟨b3, hr, h⟩ := h
  refine call_go rfl rfl ?_
  try cbv
  refine call_pure hM hI (T28 _ hr) rfl ?_
  clear hr
  try cbv
  replace h := letB_inv h
  obtain ⟨b4, hz, h⟩ := h
  refine ⟨b4, not_eq' hz, ?_⟩
  clear hz
  try cbv
  cases b4
  · replace h := ite_f Bool.false_ne_true h
    try cbv
    refine seq_go ?_
    try cbv
    refine seq_join (T := Nat × Bool) (fun t => ⟨[(0, .v (.d (.str s1))), (1, .v (.d (.str s2))), (4, .v (.d (.bool false))), (25, .v (.d (.bool t.2)))], [], 352⟩) (fun t => t.1 ≤ n ∧ L9_1 t.1 s1 s2 t.2 = some r1) ?_ ?_
    · try cbv
      replace h := szF_inv M h
      obtain ⟨z5, hz, h⟩ := h
      refine ⟨z5, hz, ?_⟩
      clear hz
      try cbv
      refine splitL (fun e => ?_) (fun e => ?_)
      · replace h := ite_t e h
        clear e
        try cbv
        exact join_next (n, true) [0, 1, 4, 25] [] 352 ⟨by omega, h⟩ (by cbv)
      · replace h := ite_f (Int.not_lt.2 e) h
        clear e
        try cbv
        replace h := szF_inv M h
        obtain ⟨z6, hz, h⟩ := h
        refine ⟨z6, hz, ?_⟩
        clear hz
        try cbv
        refine splitL (fun e => ?_) (fun e => ?_)
        · replace h := ite_t e h
          clear e
          try cbv
          exact join_next (n, true) [0, 1, 4, 25] [] 352 ⟨by omega, h⟩ (by cbv)
        · replace h := ite_f (Int.not_lt.2 e) h
          clear e
          try cbv
          exact join_next (n, false) [0, 1, 4, 25] [] 352 ⟨by omega, h⟩ (by cbv)
    · clear h
      rintro ⟨m1, b7⟩ ⟨hm1, h⟩
      replace hm1 : m1 ≤ n := hm1
      cases m1 with
      | zero => cases (show (none : Option _) = some _ from h)
      | succ m1 =>
        replace h : L9_1 (m1 + 1) s1 s2 b7 = some r1 := h
        rw [L9_1] at h
        try cbv
        cases b7
        · replace h := ite_f Bool.false_ne_true h
          try cbv
          refine seq_go ?_
          try cbv
          replace h := bO3_inv h
          obtain ⟨l8, z9, z10, hr, h⟩ := h
          refine call_go rfl rfl ?_
          try cbv
          refine call_pure hM hI (T27 _ hr) rfl ?_
          clear hr
          try cbv
          refine seq_go ?_
          try cbv
          replace h := bO3_inv h
          obtain ⟨l11, z12, z13, hr, h⟩ := h
          refine call_go rfl rfl ?_
          try cbv
          refine call_pure hM hI (T27 _ hr) rfl ?_
          clear hr
          try cbv
          refine seq_go ?_
          try cbv
          refine seq_join (T := Nat × Bool) (fun t => ⟨[(0, .v (.d (.str s1))), (1, .v (.d (.str s2))), (4, .v (.d (.bool false))), (5, .v (.d (.list true 3 l8))), (8, .v (.d (.list true 3 l11))), (43, .v (.d (.bool t.2)))], [], 1120⟩) (fun t => t.1 ≤ m1 ∧ L9_2 t.1 s1 s2 l8 l11 t.2 = some r1) ?_ ?_
          · try cbv
            refine splitI (fun e => ?_) (fun e => ?_)
            · replace h := ite_t e h
              clear e
              try cbv
              refine splitI (fun e => ?_) (fun e => ?_)
              · replace h := ite_t e h
                clear e
                try cbv
                exact join_next (m1, false) [0, 1, 4, 5, 8, 43] [] 1120 ⟨by omega, h⟩ (by cbv)
              · replace h := ite_f e h
                clear e
                try cbv
                exact join_next (m1, true) [0, 1, 4, 5, 8, 43] [] 1120 ⟨by omega, h⟩ (by cbv)
            · replace h := ite_f e h
              clear e
              try cbv
              exact join_next (m1, true) [0, 1, 4, 5, 8, 43] [] 1120 ⟨by omega, h⟩ (by cbv)
          · clear h
            rintro ⟨m2, b14⟩ ⟨hm2, h⟩
            replace hm2 : m2 ≤ m1 := hm2
            cases m2 with
            | zero => cases (show (none : Option _) = some _ from h)
            | succ m2 =>
              replace h : L9_2 (m2 + 1) s1 s2 l8 l11 b14 = some r1 := h
              rw [L9_2] at h
              try cbv
              cases b14
              · replace h := ite_f Bool.false_ne_true h
                try cbv
                refine seq_go ?_
                try cbv
                replace h := catF_inv h
                obtain ⟨s15, hz, hb, h⟩ := h
                refine ⟨s15, hz, hb, ?_⟩
                clear hb hz
                try cbv
                replace h := catF_inv h
                obtain ⟨s16, hz, hb, h⟩ := h
                refine ⟨s16, hz, hb, ?_⟩
                clear hb hz
                try cbv
                replace h := bO3_inv h
                obtain ⟨l17, z18, z19, hr, h⟩ := h
                refine call_go rfl rfl ?_
                try cbv
                refine call_pure hM hI (T27 _ hr) rfl ?_
                clear hr
                try cbv
                refine seq_go ?_
                try cbv
                refine seq_join (T := Nat × Bool) (fun t => ⟨[(0, .v (.d (.str s1))), (4, .v (.d (.bool false))), (5, .v (.d (.list true 3 l8))), (8, .v (.d (.list true 3 l11))), (11, .v (.d (.list true 3 l17))), (13, .v (.d (.int .i64 z19))), (58, .v (.d (.bool t.2)))], [], 1696⟩) (fun t => t.1 ≤ m2 ∧ L9_3 t.1 s1 l8 l11 l17 z19 t.2 = some r1) ?_ ?_
                · try cbv
                  replace h := lenF_inv M h
                  obtain ⟨z20, hz, h⟩ := h
                  refine ⟨z20, hz, ?_⟩
                  clear hz
                  try cbv
                  replace h := lenF_inv M h
                  obtain ⟨z21, hz, h⟩ := h
                  refine ⟨z21, hz, ?_⟩
                  clear hz
                  try cbv
                  replace h := letF_inv h
                  obtain ⟨z22, hz, h⟩ := h
                  refine ⟨z22, hz, ?_⟩
                  clear hz
                  try cbv
                  refine splitL (fun e => ?_) (fun e => ?_)
                  · replace h := ite_t e h
                    clear e
                    try cbv
                    exact join_next (m2, true) [0, 4, 5, 8, 11, 13, 58] [] 1696 ⟨by omega, h⟩ (by cbv)
                  · replace h := ite_f (Int.not_lt.2 e) h
                    clear e
                    try cbv
                    exact join_next (m2, false) [0, 4, 5, 8, 11, 13, 58] [] 1696 ⟨by omega, h⟩ (by cbv)
                · clear h
                  rintro ⟨m3, b23⟩ ⟨hm3, h⟩
                  replace hm3 : m3 ≤ m2 := hm3
                  cases m3 with
                  | zero => cases (show (none : Option _) = some _ from h)
                  | succ m3 =>
                    replace h : L9_3 (m3 + 1) s1 l8 l11 l17 z19 b23 = some r1 := h
                    rw [L9_3] at h
                    try cbv
                    cases b23
                    · replace h := ite_f Bool.false_ne_true h
                      try cbv
                      refine seq_go ?_
                      try cbv
                      refine seq_join (T := Nat × Bool) (fun t => ⟨[(0, .v (.d (.str s1))), (4, .v (.d (.bool false))), (5, .v (.d (.list true 3 l8))), (8, .v (.d (.list true 3 l11))), (11, .v (.d (.list true 3 l17))), (77, .v (.d (.bool t.2)))], [], 2080⟩) (fun t => t.1 ≤ m3 ∧ L9_4 t.1 s1 l8 l11 l17 t.2 = some r1) ?_ ?_
                      · try cbv
                        refine splitI (fun e => ?_) (fun e => ?_)
                        · replace h := ite_t e h
                          clear e
                          try cbv
                          replace h := lenF_inv M h
                          obtain ⟨z25, hz, h⟩ := h
                          refine ⟨z25, hz, ?_⟩
                          clear hz
                          try cbv
                          replace h := lenF_inv M h
                          obtain ⟨z26, hz, h⟩ := h
                          refine ⟨z26, hz, ?_⟩
                          clear hz
                          try cbv
                          replace h := lenF_inv M h
                          obtain ⟨z27, hz, h⟩ := h
                          refine ⟨z27, hz, ?_⟩
                          clear hz
                          try cbv
                          replace h := letF_inv h
                          obtain ⟨z28, hz, h⟩ := h
                          refine ⟨z28, hz, ?_⟩
                          clear hz
                          try cbv
                          refine splitI (fun e => ?_) (fun e => ?_)
                          · replace h := ite_t e h
                            clear e
                            try cbv
                            exact join_next (m3, false) [0, 4, 5, 8, 11, 77] [] 2080 ⟨by omega, h⟩ (by cbv)
                          · replace h := ite_f e h
                            clear e
                            try cbv
                            exact join_next (m3, true) [0, 4, 5, 8, 11, 77] [] 2080 ⟨by omega, h⟩ (by cbv)
                        · replace h := ite_f e h
                          clear e
                          try cbv
                          exact join_next (m3, true) [0, 4, 5, 8, 11, 77] [] 2080 ⟨by omega, h⟩ (by cbv)
                      · clear h
                        rintro ⟨m4, b29⟩ ⟨hm4, h⟩
                        replace hm4 : m4 ≤ m3 := hm4
                        cases m4 with
                        | zero => cases (show (none : Option _) = some _ from h)
                        | succ m4 =>
                          replace h : L9_4 (m4 + 1) s1 l8 l11 l17 b29 = some r1 := h
                          rw [L9_4] at h
                          try cbv
                          cases b29
                          · replace h := ite_f Bool.false_ne_true h
                            try cbv
                            refine seq_go ?_
                            try cbv
                            refine seq_go ?_
                            try cbv
                            refine loop_inv (T := Nat × Int) [0, 4, 5, 8, 11, 14] [] 2112 (fun t => ⟨[(0, .v (.d (.str s1))), (4, .v (.d (.bool false))), (5, .v (.d (.list true 3 l8))), (8, .v (.d (.list true 3 l11))), (11, .v (.d (.list true 3 l17))), (14, .v (.d (.int .i64 t.2)))], [], 2112⟩)
                              (fun t => t.1 ≤ m4 ∧ L9_5 t.1 s1 l8 l11 l17 t.2 = some r1) (fun t => t.1) (m4, (0 : Int)) ⟨Nat.le_refl _, h⟩ (by cbv) ?_
                            clear h
                            rintro ⟨m5, z30⟩ ⟨hm5, h⟩
                            replace hm5 : m5 ≤ m4 := hm5
                            cases m5 with
                            | zero => cases (show (none : Option _) = some _ from h)
                            | succ m5 =>
                              replace h : L9_5 (m5 + 1) s1 l8 l11 l17 z30 = some r1 := h
                              rw [L9_5] at h
                              try cbv
                              refine seq_go ?_
                              try cbv
                              refine seq_join (T := Nat × Bool) (fun t => ⟨[(0, .v (.d (.str s1))), (4, .v (.d (.bool false))), (5, .v (.d (.list true 3 l8))), (8, .v (.d (.list true 3 l11))), (11, .v (.d (.list true 3 l17))), (14, .v (.d (.int .i64 z30))), (81, .v (.d (.bool t.2)))], [], 2240⟩) (fun t => t.1 ≤ m5 ∧ L9_6 t.1 s1 l8 l11 l17 z30 t.2 = some r1) ?_ ?_
                              · try cbv
                                replace h := lenF_inv M h
                                obtain ⟨z31, hz, h⟩ := h
                                refine ⟨z31, hz, ?_⟩
                                clear hz
                                try cbv
                                refine splitL (fun e => ?_) (fun e => ?_)
                                · replace h := ite_t e h
                                  clear e
                                  try cbv
                                  exact join_next (m5, true) [0, 4, 5, 8, 11, 14, 81] [] 2240 ⟨by omega, h⟩ (by cbv)
                                · replace h := ite_f (Int.not_lt.2 e) h
                                  clear e
                                  try cbv
                                  exact join_next (m5, false) [0, 4, 5, 8, 11, 14, 81] [] 2240 ⟨by omega, h⟩ (by cbv)
                              · clear h
                                rintro ⟨m6, b32⟩ ⟨hm6, h⟩
                                replace hm6 : m6 ≤ m5 := hm6
                                cases m6 with
                                | zero => cases (show (none : Option _) = some _ from h)
                                | succ m6 =>
                                  replace h : L9_6 (m6 + 1) s1 l8 l11 l17 z30 b32 = some r1 := h
                                  rw [L9_6] at h
                                  try cbv
                                  cases b32
                                  · replace h := ite_f Bool.false_ne_true h
                                    try cbv
                                    refine seq_go ?_
                                    try cbv
                                    obtain rfl := Option.some.inj h
                                    refine fin_go ?_
                                    try cbv
                                    exact ⟨[], rfl, rfl, trivial, trivial, trivial⟩
                                  · replace h := ite_t rfl h
                                    try cbv
                                    refine seq_go ?_
                                    try cbv
                                    refine seq_go ?_
                                    try cbv
                                    refine seq_join (T := Nat × Int × ByteArray × Int) (fun t => ⟨[(0, .v (.d (.str s1))), (4, .v (.d (.bool false))), (5, .v (.d (.list true 3 l8))), (8, .v (.d (.list true 3 l11))), (11, .v (.d (.list true 3 l17))), (14, .v (.d (.int .i64 z30))), (15, .v (.c (.ptr (.loc 2272) 0)))], [(.loc 2272, .cells [.d (.int .u8 t.2.1), .d (.str t.2.2.1), .d (.int .i64 t.2.2.2)])], 2976⟩) (fun t => t.1 ≤ m6 ∧ L9_8 t.1 s1 l8 l11 l17 z30 t.2.1 t.2.2.1 t.2.2.2 = some r1) ?_ ?_
                                    · try cbv
                                      refine seq_join (T := Nat × Bool) (fun t => ⟨[(0, .v (.d (.str s1))), (4, .v (.d (.bool false))), (5, .v (.d (.list true 3 l8))), (8, .v (.d (.list true 3 l11))), (11, .v (.d (.list true 3 l17))), (14, .v (.d (.int .i64 z30))), (15, .v (.c (.ptr (.loc 2272) 0))), (88, .v (.d (.bool t.2)))], [(.loc 2272, .cells [.d (.int .u8 0), .d (.str ByteArray.empty), .d (.int .i64 0)])], 2464⟩) (fun t => t.1 ≤ m6 ∧ L9_7 t.1 s1 l8 l11 l17 z30 t.2 = some r1) ?_ ?_
                                      · try cbv
                                        replace h := lenF_inv M h
                                        obtain ⟨z33, hz, h⟩ := h
                                        refine ⟨z33, hz, ?_⟩
                                        clear hz
                                        try cbv
                                        refine splitL (fun e => ?_) (fun e => ?_)
                                        · replace h := ite_t e h
                                          clear e
                                          try cbv
                                          exact join_next (m6, true) [0, 4, 5, 8, 11, 14, 15, 88] [.loc 2272] 2464 ⟨by omega, h⟩ (by cbv)
                                        · replace h := ite_f (Int.not_lt.2 e) h
                                          clear e
                                          try cbv
                                          exact join_next (m6, false) [0, 4, 5, 8, 11, 14, 15, 88] [.loc 2272] 2464 ⟨by omega, h⟩ (by cbv)
                                      · clear h
                                        rintro ⟨m7, b34⟩ ⟨hm7, h⟩
                                        replace hm7 : m7 ≤ m6 := hm7
                                        cases m7 with
                                        | zero => cases (show (none : Option _) = some _ from h)
                                        | succ m7 =>
                                          replace h : L9_7 (m7 + 1) s1 l8 l11 l17 z30 b34 = some r1 := h
                                          rw [L9_7] at h
                                          try cbv
                                          cases b34
                                          · replace h := ite_f Bool.false_ne_true h
                                            try cbv
                                            refine seq_go ?_
                                            try cbv
                                            replace h := lenF_inv M h
                                            obtain ⟨z39, hz, h⟩ := h
                                            refine ⟨z39, hz, ?_⟩
                                            clear hz
                                            try cbv
                                            replace h := letF_inv h
                                            obtain ⟨z40, hz, h⟩ := h
                                            refine ⟨z40, hz, ?_⟩
                                            clear hz
                                            try cbv
                                            replace h := getF_inv h
                                            obtain ⟨x41, ⟨hx0, hx⟩, h⟩ := h
                                            refine ⟨x41, hx0, hx, ?_⟩
                                            clear hx0 hx
                                            replace h := ds_t46_inv h
                                            obtain ⟨z42, s43, z44, rfl, h⟩ := h
                                            try cbv
                                            replace h := szF_inv M h
                                            obtain ⟨z45, hz, h⟩ := h
                                            refine ⟨z45, hz, ?_⟩
                                            clear hz
                                            try cbv
                                            replace h := letF_inv h
                                            obtain ⟨z46, hz, h⟩ := h
                                            refine ⟨z46, hz, ?_⟩
                                            clear hz
                                            try cbv
                                            replace h := letF_inv h
                                            obtain ⟨z47, hz, h⟩ := h
                                            refine ⟨z47, hz, ?_⟩
                                            clear hz
                                            try cbv
                                            exact join_next (m7, (z42, s43, z47)) [0, 4, 5, 8, 11, 14, 15] [.loc 2272] 2976 ⟨by omega, h⟩ (by cbv)
                                          · replace h := ite_t rfl h
                                            try cbv
                                            replace h := getF_inv h
                                            obtain ⟨x35, ⟨hx0, hx⟩, h⟩ := h
                                            refine ⟨x35, hx0, hx, ?_⟩
                                            clear hx0 hx
                                            replace h := ds_t46_inv h
                                            obtain ⟨z36, s37, z38, rfl, h⟩ := h
                                            try cbv
                                            exact join_next (m7, (z36, s37, z38)) [0, 4, 5, 8, 11, 14, 15] [.loc 2272] 2976 ⟨by omega, h⟩ (by cbv)
                                    · clear h
                                      rintro ⟨m8, z48, s49, z50⟩ ⟨hm8, h⟩
                                      replace hm8 : m8 ≤ m6 := hm8
                                      cases m8 with
                                      | zero => cases (show (none : Option _) = some _ from h)
                                      | succ m8 =>
                                        replace h : L9_8 (m8 + 1) s1 l8 l11 l17 z30 z48 s49 z50 = some r1 := h
                                        rw [L9_8] at h
                                        try cbv
                                        refine seq_join (T := Nat × Bool) (fun t => ⟨[(0, .v (.d (.str s1))), (4, .v (.d (.bool false))), (5, .v (.d (.list true 3 l8))), (8, .v (.d (.list true 3 l11))), (11, .v (.d (.list true 3 l17))), (14, .v (.d (.int .i64 z30))), (112, .v (.d (.bool t.2)))], [], 3168⟩) (fun t => t.1 ≤ m8 ∧ L9_9 t.1 s1 l8 l11 l17 z30 t.2 = some r1) ?_ ?_
                                        · try cbv
                                          replace h := getF_inv h
                                          obtain ⟨x51, ⟨hx0, hx⟩, h⟩ := h
                                          refine ⟨x51, hx0, hx, ?_⟩
                                          clear hx0 hx
                                          replace h := ds_t46_inv h
                                          obtain ⟨z52, s53, z54, rfl, h⟩ := h
                                          try cbv
                                          refine ⟨(M.lock_iff _).2 (by rw [hM]; exact ⟨by kernel_rfl, by kernel_rfl, by rfl⟩), ?_⟩
                                          try cbv
                                          refine splitI (fun e => ?_) (fun e => ?_)
                                          · replace h := ite_t e h
                                            clear e
                                            try cbv
                                            refine splitS (fun e => ?_) (fun e => ?_)
                                            · replace h := ite_t (bytes_eq.1 e) h
                                              clear e
                                              try cbv
                                              refine splitI (fun e => ?_) (fun e => ?_)
                                              · replace h := ite_t e h
                                                clear e
                                                try cbv
                                                refine drawn ?_ ?_
                                                · show _ = true
                                                  kernel_rfl
                                                try cbv
                                                exact join_next (m8, false) [0, 4, 5, 8, 11, 14, 112] [] 3168 ⟨by omega, h⟩ (by cbv)
                                              · replace h := ite_f e h
                                                clear e
                                                try cbv
                                                refine drawn ?_ ?_
                                                · show _ = true
                                                  kernel_rfl
                                                try cbv
                                                exact join_next (m8, true) [0, 4, 5, 8, 11, 14, 112] [] 3168 ⟨by omega, h⟩ (by cbv)
                                            · replace h := ite_f (bytes_ne.1 e) h
                                              clear e
                                              try cbv
                                              refine drawn ?_ ?_
                                              · show _ = true
                                                kernel_rfl
                                              try cbv
                                              exact join_next (m8, true) [0, 4, 5, 8, 11, 14, 112] [] 3168 ⟨by omega, h⟩ (by cbv)
                                          · replace h := ite_f e h
                                            clear e
                                            try cbv
                                            refine drawn ?_ ?_
                                            · show _ = true
                                              kernel_rfl
                                            try cbv
                                            exact join_next (m8, true) [0, 4, 5, 8, 11, 14, 112] [] 3168 ⟨by omega, h⟩ (by cbv)
                                        · clear h
                                          rintro ⟨m9, b55⟩ ⟨hm9, h⟩
                                          replace hm9 : m9 ≤ m8 := hm9
                                          cases m9 with
                                          | zero => cases (show (none : Option _) = some _ from h)
                                          | succ m9 =>
                                            replace h : L9_9 (m9 + 1) s1 l8 l11 l17 z30 b55 = some r1 := h
                                            rw [L9_9] at h
                                            try cbv
                                            cases b55
                                            · replace h := ite_f Bool.false_ne_true h
                                              try cbv
                                              replace h := letF_inv h
                                              obtain ⟨z56, hz, h⟩ := h
                                              refine ⟨z56, hz, ?_⟩
                                              clear hz
                                              try cbv
                                              exact loop_next (m9, z56) [0, 4, 5, 8, 11, 14] [] 2112 ⟨by omega, h⟩ (Nat.lt_succ_of_le (by omega)) (by cbv)
                                            · replace h := ite_t rfl h
                                              try cbv
                                              refine seq_go ?_
                                              try cbv
                                              obtain rfl := Option.some.inj h
                                              refine fin_go ?_
                                              try cbv
                                              exact ⟨[], rfl, rfl, trivial, trivial, trivial⟩
                          · replace h := ite_t rfl h
                            try cbv
                            refine seq_go ?_
                            try cbv
                            obtain rfl := Option.some.inj h
                            refine fin_go ?_
                            try cbv
                            exact ⟨[], rfl, rfl, trivial, trivial, trivial⟩
                    · replace h := ite_t rfl h
                      try cbv
                      refine seq_go ?_
                      try cbv
                      refine splitI (fun e => ?_) (fun e => ?_)
                      · replace h := ite_t e h
                        clear e
                        try cbv
                        replace h := lenF_inv M h
                        obtain ⟨z24, hz, h⟩ := h
                        refine ⟨z24, hz, ?_⟩
                        clear hz
                        try cbv
                        refine splitI (fun e => ?_) (fun e => ?_)
                        · replace h := ite_t e h
                          clear e
                          try cbv
                          obtain rfl := Option.some.inj h
                          refine fin_go ?_
                          try cbv
                          exact ⟨[], rfl, rfl, trivial, trivial, trivial⟩
                        · replace h := ite_f e h
                          clear e
                          try cbv
                          obtain rfl := Option.some.inj h
                          refine fin_go ?_
                          try cbv
                          exact ⟨[], rfl, rfl, trivial, trivial, trivial⟩
                      · replace h := ite_f e h
                        clear e
                        try cbv
                        obtain rfl := Option.some.inj h
                        refine fin_go ?_
                        try cbv
                        exact ⟨[], rfl, rfl, trivial, trivial, trivial⟩
              · replace h := ite_t rfl h
                try cbv
                refine seq_go ?_
                try cbv
                obtain rfl := Option.some.inj h
                refine fin_go ?_
                try cbv
                exact ⟨[], rfl, rfl, trivial, trivial, trivial⟩
        · replace h := ite_t rfl h
          try cbv
          refine seq_go ?_
          try cbv
          obtain rfl := Option.some.inj h
          refine fin_go ?_
          try cbv
          exact ⟨[], rfl, rfl, trivial, trivial, trivial⟩
  · replace h := ite_t rfl h
    try cbv
    refine seq_go ?_
    try cbv
    obtain rfl := Option.some.inj h
    refine fin_go ?_
    try cbv
    exact ⟨[], rfl, rfl, trivial, trivial, trivial⟩
end Go.Proofs.YtjmofeakajdbiaaDoor
end

/- Chapter 2, the plain law, part Q: the tokens of two texts, a newline between them. No condition. -/
set_option linter.unusedVariables false
noncomputable section
namespace Go.Proofs.YtjmofeakajdbiaaDoor
open Go Go.AM

theorem ifs (x n y : Nat) : 1 + (if x = n then n + 1 + y else x) = if 1 + x = n + 1 then n + 1 + 1 + y else 1 + x := by
  by_cases h : x = n
  · rw [if_pos h, if_pos (by omega)]; omega
  · rw [if_neg h, if_neg (by omega)]
theorem skip_app : ∀ (q : Bool) (A B : List UInt8), skipB q (A ++ 10 :: B) = if skipB q A = A.length then A.length + 1 + skipB false B else skipB q A
  | true, [], B => by simp [skipB]
  | false, [], B => by
    have : blank 10 = true := by decide
    simp [skipB, this]
  | true, b :: r, B => by
    have ih := skip_app (b != 10) r B
    simp only [List.cons_append, skipB, List.length_cons, ih]
    exact ifs _ _ _
  | false, b :: r, B => by
    have h1 := skip_app false r B
    have h2 := skip_app true r B
    have hh : (r ++ 10 :: B).head? = some 47 ↔ r.head? = some 47 := by cases r <;> simp
    simp only [List.cons_append, skipB, List.length_cons, hh]
    by_cases c : blank b = true
    · simp only [if_pos c, h1]; exact ifs _ _ _
    · by_cases c2 : b = 47 ∧ r.head? = some 47
      · simp only [if_neg c, if_pos c2, h2]; exact ifs _ _ _
      · simp only [if_neg c, if_neg c2]; rw [if_neg (by omega)]
theorem takeWhile_app {p : UInt8 → Bool} (hp : p 10 = false) : ∀ A B : List UInt8, (A ++ 10 :: B).takeWhile p = A.takeWhile p
  | [], B => by simp [hp]
  | a :: A, B => by
    have ih := takeWhile_app hp A B
    cases h : p a <;> simp [h, ih]
theorem twoS_app (b : UInt8) (r B : List UInt8) : twoS ((b :: r) ++ 10 :: B) = twoS (b :: r) := by
  unfold twoS
  simp only [hasPrefix_two]
  cases r <;> simp
theorem oneL_app (b : UInt8) (r B : List UInt8) : oneL ((b :: r) ++ 10 :: B) = oneL (b :: r) := by
  have t1 := takeWhile_app (p := pB) (by decide) (b :: r) B
  have t2 := takeWhile_app (p := dig) (by decide) (b :: r) B
  have t3 := twoS_app b r B
  have t4 : twoS (b :: r) = true → ((b :: r) ++ 10 :: B).take 2 = (b :: r).take 2 := by
    intro h
    cases r with
    | nil => simp [twoS, hasPrefix_two] at h
    | cons c r => simp
  rw [List.cons_append] at t1 t2 t3 t4 ⊢
  unfold oneL
  dsimp only
  rw [t1, t2, t3]
  cases h : twoS (b :: r)
  · simp only [Bool.false_eq_true, if_false, List.take_succ_cons, List.take_zero]
  · rw [t4 h]; simp only [List.take_succ_cons, List.take_zero]

theorem toks_fuel : ∀ (m m' p : Nat) (l : List UInt8), l.length ≤ m → l.length ≤ m' → toks m p l = toks m' p l
  | 0, m', p, l, h, h' => by
    obtain rfl : l = [] := List.eq_nil_of_length_eq_zero (by omega)
    cases m' <;> rfl
  | m + 1, 0, p, l, h, h' => by
    obtain rfl : l = [] := List.eq_nil_of_length_eq_zero (by omega)
    rfl
  | m + 1, m' + 1, p, [], h, h' => rfl
  | m + 1, m' + 1, p, b :: r, h, h' => by
    rw [toks, toks]
    dsimp only
    by_cases c : (oneL (b :: r)).1 = 0
    · rw [if_pos c, if_pos c]
    · rw [if_neg c, if_neg c]
      have k := oneL_take (b :: r) c
      have l1 : ((b :: r).drop (oneL (b :: r)).2.length).length ≤ r.length := by rw [List.length_drop, List.length_cons]; omega
      rw [List.length_cons] at h h'
      rw [toks_fuel m m' _ _ (by rw [List.length_drop]; omega) (by rw [List.length_drop]; omega)]
def shT (d : Nat) (x : Tok) : Tok := ⟨x.k, x.t, x.at_ + d⟩
theorem toks_shift (d : Nat) : ∀ (m p : Nat) (l : List UInt8), toks m (p + d) l = ((toks m p l).1.map (shT d), (toks m p l).2.map (· + d))
  | 0, p, l => rfl
  | m + 1, p, [] => rfl
  | m + 1, p, b :: r => by
    rw [toks, toks]
    dsimp only
    by_cases c : (oneL (b :: r)).1 = 0
    · rw [if_pos c, if_pos c]; rfl
    · rw [if_neg c, if_neg c]
      dsimp only
      have ih := toks_shift d m (p + (oneL (b :: r)).2.length + skipB false ((b :: r).drop (oneL (b :: r)).2.length)) (((b :: r).drop (oneL (b :: r)).2.length).drop (skipB false ((b :: r).drop (oneL (b :: r)).2.length)))
      rw [show p + d + (oneL (b :: r)).2.length + skipB false ((b :: r).drop (oneL (b :: r)).2.length) = p + (oneL (b :: r)).2.length + skipB false ((b :: r).drop (oneL (b :: r)).2.length) + d by omega, ih]
      rfl

theorem toks_app (B : List UInt8) : ∀ (m p : Nat) (A : List UInt8) (M : Nat), A ≠ [] → A.length ≤ m → (A ++ 10 :: B).length ≤ M → (toks m p A).2 = none →
    toks M p (A ++ 10 :: B) = ((toks m p A).1 ++ (toks B.length (p + A.length + 1 + skipB false B) (B.drop (skipB false B))).1, (toks B.length (p + A.length + 1 + skipB false B) (B.drop (skipB false B))).2)
  | 0, p, A, M, hA, hm, hM, hn => absurd (List.eq_nil_of_length_eq_zero (by omega)) hA
  | m + 1, p, [], M, hA, hm, hM, hn => absurd rfl hA
  | m + 1, p, b :: r, 0, hA, hm, hM, hn => by simp at hM
  | m + 1, p, b :: r, M + 1, hA, hm, hM, hn => by
    have ho := oneL_app b r B
    rw [toks] at hn ⊢
    rw [List.cons_append] at ho ⊢
    rw [toks]
    dsimp only at hn ⊢
    rw [ho]
    by_cases c : (oneL (b :: r)).1 = 0
    · rw [if_pos c] at hn; cases hn
    · rw [if_neg c] at hn
      rw [if_neg c, if_neg c]
      dsimp only at hn ⊢
      obtain ⟨k1, k2, _⟩ := oneL_take (b :: r) c
      generalize (oneL (b :: r)).2.length = K at *
      have hdr : (b :: (r ++ 10 :: B)).drop K = (b :: r).drop K ++ 10 :: B := by rw [← List.cons_append, List.drop_append_of_le_length k2]
      have hlen : ((b :: r).drop K).length = r.length + 1 - K := by rw [List.length_drop, List.length_cons]
      rw [hdr, skip_app]
      have hq := skipB_le false ((b :: r).drop K)
      simp only [List.length_cons, List.length_append] at hm hM k2
      by_cases e : skipB false ((b :: r).drop K) = ((b :: r).drop K).length
      · rw [if_pos e, e, List.drop_length]
        have h1 : ((b :: r).drop K ++ 10 :: B).drop (((b :: r).drop K).length + 1 + skipB false B) = B.drop (skipB false B) := by
          rw [Nat.add_assoc, List.drop_length_add_append, Nat.add_comm 1, List.drop_succ_cons]
        have h2 : (toks m (p + K + ((b :: r).drop K).length) []) = ([], none) := by cases m <;> rfl
        rw [h1, h2, show p + K + (((b :: r).drop K).length + 1 + skipB false B) = p + (b :: r).length + 1 + skipB false B by rw [hlen, List.length_cons]; omega]
        rw [toks_fuel M B.length _ _ (by rw [List.length_drop]; omega) (by rw [List.length_drop]; omega)]
        rfl
      · rw [if_neg e]
        have h1 : ((b :: r).drop K ++ 10 :: B).drop (skipB false ((b :: r).drop K)) = ((b :: r).drop K).drop (skipB false ((b :: r).drop K)) ++ 10 :: B := by rw [List.drop_append_of_le_length hq]
        rw [h1]
        have ih := toks_app B m (p + K + skipB false ((b :: r).drop K)) (((b :: r).drop K).drop (skipB false ((b :: r).drop K))) M
          (fun h0 => by have := congrArg List.length h0; rw [List.length_drop] at this; simp only [List.length_nil] at this; omega)
          (by rw [List.length_drop]; omega) (by simp only [List.length_append, List.length_drop, List.length_cons]; omega) hn
        rw [ih, show p + K + skipB false ((b :: r).drop K) + (((b :: r).drop K).drop (skipB false ((b :: r).drop K))).length + 1 + skipB false B = p + (b :: r).length + 1 + skipB false B by rw [List.length_drop, hlen, List.length_cons]; omega]
        rfl

theorem lexR_ok {l : List UInt8} (h : (lexR l).2.2 = 0) (hl : l.length ≤ 4000) : ∃ ts, toks l.length (skipB false l) (l.drop (skipB false l)) = (ts, none) ∧ lexR l = (ts, 0, 0) ∧ ts.length ≤ 1500 := by
  unfold lexR at h ⊢
  rw [if_neg (by omega)] at h ⊢
  cases hz : toks l.length (skipB false l) (l.drop (skipB false l)) with
  | mk ts o =>
    rw [hz] at h
    cases o with
    | some e => exact absurd h (by show ¬ (20 : Int) = 0; decide)
    | none =>
      dsimp only at h ⊢
      by_cases c : 1500 < ts.length
      · rw [if_pos c] at h; exact absurd h (by show ¬ (4 : Int) = 0; decide)
      · rw [if_neg c]; exact ⟨ts, rfl, rfl, by omega⟩
theorem lexR_two {A B : List UInt8} (hA : A.length ≤ 1900) (hB : B.length ≤ 1900) {ta tb : List Tok}
    (h1 : toks A.length (skipB false A) (A.drop (skipB false A)) = (ta, none)) (h2 : toks B.length (skipB false B) (B.drop (skipB false B)) = (tb, none)) :
    lexR (A ++ 10 :: B) = if 1500 < ta.length + tb.length then ([], 0, 4) else (ta ++ tb.map (shT (A.length + 1)), 0, 0) := by
  have hlen : (A ++ 10 :: B).length = A.length + 1 + B.length := by simp; omega
  have hsA := skipB_le false A
  have sh := toks_shift (A.length + 1) B.length (skipB false B) (B.drop (skipB false B))
  rw [h2] at sh
  have key : toks (A ++ 10 :: B).length (skipB false (A ++ 10 :: B)) ((A ++ 10 :: B).drop (skipB false (A ++ 10 :: B))) = (ta ++ tb.map (shT (A.length + 1)), none) := by
    rw [skip_app]
    by_cases e : skipB false A = A.length
    · rw [if_pos e]
      rw [e, List.drop_length] at h1
      have : ta = [] := by
        have h0 : toks A.length A.length [] = ([], none) := by cases A.length <;> rfl
        rw [h0] at h1
        exact (Prod.mk.inj h1).1.symm
      subst this
      rw [Nat.add_assoc, List.drop_length_add_append, Nat.add_comm 1, List.drop_succ_cons, toks_fuel _ B.length _ _ (by rw [List.length_drop, hlen]; omega) (by rw [List.length_drop]; omega),
        show A.length + (skipB false B + 1) = skipB false B + (A.length + 1) by omega, sh]
      rfl
    · rw [if_neg e, List.drop_append_of_le_length hsA]
      rw [toks_app B A.length (skipB false A) (A.drop (skipB false A)) _ (fun h0 => by have := congrArg List.length h0; rw [List.length_drop] at this; simp only [List.length_nil] at this; omega)
        (by rw [List.length_drop]; omega) (by rw [List.length_append, List.length_drop, hlen]; simp only [List.length_cons]; omega) (by rw [h1]), h1,
        show skipB false A + (A.drop (skipB false A)).length + 1 + skipB false B = skipB false B + (A.length + 1) by rw [List.length_drop]; omega, sh]
      rfl
  unfold lexR
  rw [if_neg (by omega), key]
  simp only [List.length_append, List.length_map]

theorem toks_at : ∀ (m p : Nat) (l : List UInt8) (x : Tok), x ∈ (toks m p l).1 → x.at_ ≤ p + l.length
  | 0, p, l, x, h => by simp [toks] at h
  | m + 1, p, [], x, h => by simp [toks] at h
  | m + 1, p, b :: r, x, h => by
    rw [toks] at h
    dsimp only at h
    by_cases c : (oneL (b :: r)).1 = 0
    · rw [if_pos c] at h; cases h
    · rw [if_neg c] at h
      obtain ⟨k1, k2, _⟩ := oneL_take (b :: r) c
      have hq := skipB_le false ((b :: r).drop (oneL (b :: r)).2.length)
      rcases List.mem_cons.1 h with rfl | h
      · show p ≤ _; omega
      · have := toks_at m _ _ x h
        simp only [List.length_drop] at this hq
        omega
theorem bl_app (s t : ByteArray) : bl (s ++ t) = bl s ++ bl t := by
  unfold bl
  rw [ByteArray.data_append, Array.toList_append]
theorem catF_le {γ : Type} {s t : ByteArray} {k : ByteArray → Option γ} (h : (bl s).length + (bl t).length ≤ 10000) : catF s t k = k (s ++ t) := by
  unfold catF
  rw [if_pos]
  have : IntKind.i64.max = 9223372036854775807 := rfl
  rw [bl_len, bl_len]
  omega

theorem lex_two_law {s t : ByteArray} (hs : s.size ≤ maxLen) (ht : t.size ≤ maxLen) : Ev (fun n => F9 n s t) true := by
  have hM : 4000 < maxLen := by decide
  have skip : Ev (fun n => L9_1 n s t true) true := .succ (by simp only [L9_1, if_true]; exact .ret)
  unfold F9
  refine Ev.bO1 ev28 ?_
  simp only [letB, Bool.not_true, Bool.false_eq_true, if_false, szF_eq]
  by_cases c1 : (1900 : Int) < ((bl s).length : Int)
  · simp only [if_pos c1]; exact skip
  by_cases c2 : (1900 : Int) < ((bl t).length : Int)
  · simp only [if_neg c1, if_pos c2]; exact skip
  simp only [if_neg c1, if_neg c2]
  refine .succ ?_
  simp only [L9_1, Bool.false_eq_true, if_false]
  refine Ev.bO3 (ev27 hs) (Ev.bO3 (ev27 ht) ?_)
  have stop : ∀ l l' : List D, Ev (fun n => L9_2 n s t l l' true) true := fun l l' => .succ (by simp only [L9_2, if_true]; exact .ret)
  by_cases r1 : (lexR (bl s)).2.2 = 0
  · by_cases r2 : (lexR (bl t)).2.2 = 0
    · simp only [if_pos r1, if_pos r2]
      obtain ⟨ta, ha, ea, na⟩ := lexR_ok r1 (by omega)
      obtain ⟨tb, hb, eb, nb⟩ := lexR_ok r2 (by omega)
      have two := lexR_two (by omega) (by omega) ha hb
      simp only [ea, eb]
      have hk : bl k___17 = [10] := rfl
      have hbl : bl (s ++ k___17 ++ t) = bl s ++ 10 :: bl t := by rw [bl_app, bl_app, hk, List.append_assoc]; rfl
      have q1 : ∀ k : ByteArray → Option Bool, catF s k___17 k = k (s ++ k___17) := fun k => catF_le (by rw [hk]; simp only [List.length_cons, List.length_nil]; omega)
      have q2 : ∀ k : ByteArray → Option Bool, catF (s ++ k___17) t k = k (s ++ k___17 ++ t) := fun k => catF_le (by rw [bl_app, hk, List.length_append]; simp only [List.length_cons, List.length_nil]; omega)
      refine .succ ?_
      simp only [L9_2, Bool.false_eq_true, if_false, q1, q2]
      have hsz : (s ++ k___17 ++ t).size ≤ maxLen := by rw [bl_len, hbl, List.length_append, List.length_cons]; omega
      refine Ev.bO3 (ev27 hsz) ?_
      rw [hbl, two]
      have w : IntKind.i64.wrap ((ta.length : Int) + (tb.length : Int)) = ((ta.length + tb.length : Nat) : Int) := wrapN (by omega) (by omega)
      simp only [lenF, List.length_map, letF, w]
      by_cases c : 1500 < ta.length + tb.length
      · simp only [if_pos c, if_pos (show (1500 : Int) < ((ta.length + tb.length : Nat) : Int) by omega), List.map_nil]
        refine .succ ?_
        simp only [L9_3, if_true, lenF, List.length_nil]
        exact .ret
      · simp only [if_neg c, if_neg (show ¬ (1500 : Int) < ((ta.length + tb.length : Nat) : Int) by omega)]
        have hT : (List.map tokD (ta ++ tb.map (shT ((bl s).length + 1)))).length = ta.length + tb.length := by simp
        refine .succ ?_
        simp only [L9_3, Bool.false_eq_true, if_false, if_true, lenF, hT, List.length_map, letF, w]
        refine .succ ?_
        simp only [L9_4, Bool.false_eq_true, if_false]
        have loop : ∀ i, i ≤ ta.length + tb.length → Ev (fun n => L9_5 n s (ta.map tokD) (tb.map tokD) (List.map tokD (ta ++ tb.map (shT ((bl s).length + 1)))) (i : Int)) true := by
          refine down _ ?_ (fun i hi ih => ?_)
          · refine .succ ?_
            simp only [L9_5, lenF, hT, Int.lt_irrefl, if_false]
            exact .succ (by simp only [L9_6, Bool.false_eq_true, if_false]; exact .ret)
          · have hw := wrap_succ (N := ta.length + tb.length) hi (by omega)
            refine .succ ?_
            simp only [L9_5, lenF, hT, if_pos (ilt hi)]
            refine .succ ?_
            simp only [L9_6, if_true, lenF, List.length_map]
            have next : Ev (fun n => L9_9 n s (ta.map tokD) (tb.map tokD) (List.map tokD (ta ++ tb.map (shT ((bl s).length + 1)))) (i : Int) false) true := .succ (by
              simp only [L9_9, Bool.false_eq_true, if_false, letF, hw]; exact ih)
            by_cases ca : i < ta.length
            · have h1 : (ta.map tokD)[i]? = some (tokD ta[i]) := by simp [ca]
              have h2 : (List.map tokD (ta ++ tb.map (shT ((bl s).length + 1))))[i]? = some (tokD ta[i]) := by rw [List.map_append, List.getElem?_append_left (by simpa using ca)]; exact h1
              simp only [if_pos (ilt ca)]
              refine .succ ?_
              simp only [L9_7, if_true, getF_nat h1, tokD, ds_t46]
              refine .succ ?_
              simp only [L9_8, getF_nat h2, tokD, ds_t46, if_true]
              exact next
            · have cb : i - ta.length < tb.length := by omega
              have h1 : (tb.map tokD)[i - ta.length]? = some (tokD tb[i - ta.length]) := by simp [cb]
              have h2 : (List.map tokD (ta ++ tb.map (shT ((bl s).length + 1))))[i]? = some (tokD (shT ((bl s).length + 1) tb[i - ta.length])) := by
                rw [List.map_append, List.getElem?_append_right (by simpa using ca), List.length_map, List.map_map]; simp [cb]
              have hat : tb[i - ta.length].at_ ≤ 1900 := by
                have := toks_at (bl t).length (skipB false (bl t)) ((bl t).drop (skipB false (bl t))) tb[i - ta.length] (by rw [hb]; exact List.getElem_mem cb)
                have hq := skipB_le false (bl t)
                rw [List.length_drop] at this
                omega
              have w1 : IntKind.i64.wrap ((i : Int) - (ta.length : Int)) = ((i - ta.length : Nat) : Int) := wrapN (by omega) (by omega)
              have w2 : IntKind.i64.wrap ((tb[i - ta.length].at_ : Int) + ((bl s).length : Int)) = ((tb[i - ta.length].at_ + (bl s).length : Nat) : Int) := wrapN (by omega) (by omega)
              have w3 : IntKind.i64.wrap (((tb[i - ta.length].at_ + (bl s).length : Nat) : Int) + 1) = ((tb[i - ta.length].at_ + ((bl s).length + 1) : Nat) : Int) := wrapN (by omega) (by omega)
              simp only [if_neg (show ¬ (i : Int) < (ta.length : Int) by omega)]
              refine .succ ?_
              simp only [L9_7, Bool.false_eq_true, if_false, lenF, List.length_map, letF, w1, getF_nat h1, tokD, ds_t46, szF_eq, w2, w3]
              refine .succ ?_
              simp only [L9_8, getF_nat h2, tokD, shT, ds_t46, if_true]
              exact next
        exact loop 0 (Nat.zero_le _)
    · simp only [if_pos r1, if_neg r2]; exact stop _ _
  · simp only [if_neg r1]; exact stop _ _
theorem lex_two_trip : ∀ xs : List D, Shapes tab [9, 9] xs → Trip Tryd.prog inv 9 (xs.map V1.d) [] (.v (.d (.bool true))) [] [] := by
  intro xs h
  match xs, h with
  | [u, v], ⟨u1, u2, v1, v2, _⟩ =>
    obtain ⟨s, rfl, hs⟩ := rs9 ⟨u1, u2⟩
    obtain ⟨t, rfl, ht⟩ := rs9 ⟨v1, v2⟩
    obtain ⟨n, hn⟩ := (lex_two_law hs ht).run
    exact T9 n hn
end Go.Proofs.YtjmofeakajdbiaaDoor
end
