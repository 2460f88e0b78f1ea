/- ValueTwins of chapter 19: contracts of the functions, the plain law, the card. No condition. (Part 5: VmB, VmBh.) -/
import Derived.Test.YtagiiaejijihoaaDoorRows
import Derived.Test.YtagiiaejijihoaaDoorTie
import Derived.Test.YtagiiaejijihoaaDoorCards
import Derived.ChangeSame
import Derived.JoinedOf
import Derived.JoinedAt
import Derived.RowKit
import Derived.RowKit2
import Derived.ReadAgain
import Derived.ChangeAlike
import Derived.Lay
import Derived.Handed
import Derived.LaidSub
import Derived.LaidLaws
import Derived.LaidHandle
import Derived.MakeChecks
import Derived.SevenTiedAt
import Derived.Lib.LaidTab
import Derived.Lib.LaidU8
import Derived.Test.YtagiiaejijihoaaDoorVtwD
set_option linter.unusedVariables false
set_option linter.unusedSimpArgs false
set_option linter.unusedVariables false
noncomputable section
namespace Go.Proofs.YtagiiaejijihoaaDoor
open Go Go.AM

theorem ev9L (l : List D) : ListS tab 25 l → Sm l → ∀ (z1 z2 : Int) (s3 : ByteArray) (z5 : Int) (l6 : List D), l6.length ≤ 5000 → Ev (fun n => F9 n z1 z2 s3 l z5 l6) (z1, z2, s3, l, z5, l6) := by
  refine list_ind (P := fun l => ListS tab 25 l → Sm l → ∀ (z1 z2 : Int) (s3 : ByteArray) (z5 : Int) (l6 : List D), l6.length ≤ 5000 → Ev (fun n => F9 n z1 z2 s3 l z5 l6) (z1, z2, s3, l, z5, l6)) (fun l ih h hs z1 z2 s3 z5 l6 h6 => ?_) l
  have hM : 5000 < maxLen := by decide
  have hl := hs.len
  have loop : ∀ i : Nat, i ≤ l.length → Ev (fun n => L25_1 n l (l.take i) (i : Int)) l := by
    refine down l.length ?_ ?_
    · refine .succ ?_
      simp only [L25_1, lenF, Int.lt_irrefl, if_false]
      exact .succ (by simp only [L25_2, Bool.false_eq_true, if_false, List.take_length]; exact .ret)
    · intro i hi ihd
      obtain ⟨v, hx, hm, hv⟩ := rowV h hi
      have ht : l.take (i + 1) = l.take i ++ [v.row] := by rw [List.take_add_one, hx]; rfl
      have hb : (l.take i).length + [v.row].length ≤ maxLen ∧ ((l.take i).length + [v.row].length) * 88 ≤ 140737488355328 := by simp only [List.length_take, List.length_cons, List.length_nil]; omega
      have ha : ∀ k : List D → Option (List D), appF 88 (l.take i) [.agg [.int .u8 v.k, .int .i64 v.i, .str v.nm, .list true 6 v.fs, .int .i64 v.id, .list false 1 v.pt]] k = k (l.take i ++ [v.row]) := fun k => appF_ok hb
      refine .succ ?_
      simp only [L25_1, lenF, if_pos (ilt hi)]
      refine .succ ?_
      simp only [L25_2, if_true, getF_nat hx, ds25]
      refine Ev.bO6 (ih v.fs (size_fs hm) hv.fs (hs.fs hm) v.k v.i v.nm v.id v.pt (hs.pt hm)) ?_
      simp only [ha, letF, wrap_succ hi h.1]
      rw [ht] at ihd
      exact ihd
  refine .succ ?_
  simp only [F9]
  refine Ev.bO1 (a := l) (.succ (by simp only [F25]; exact loop 0 (Nat.zero_le _))) ?_
  have a1 : ∀ k : List D → Option (Int × Int × ByteArray × List D × Int × List D), appF 88 ([] : List D) l k = k l := fun k => appF_ok (L := []) (by simp only [List.length_nil]; omega)
  have a2 : ∀ k : List D → Option (Int × Int × ByteArray × List D × Int × List D), appF 8 ([] : List D) l6 k = k l6 := fun k => appF_ok (L := []) (by simp only [List.length_nil]; omega)
  simp only [a1, a2]
  exact .ret
theorem ev9 {v : VV} (h : VS v) : Ev (fun n => F9 n v.k v.i v.nm v.fs v.id v.pt) (v.k, v.i, v.nm, v.fs, v.id, v.pt) := ev9L v.fs h.t.fs h.f _ _ _ _ _ h.p

theorem set_same {l : List D} {i : Nat} {x : D} (h : l[i]? = some x) : l.set i x = l := by
  apply List.ext_getElem?
  intro j
  by_cases e : i = j
  · subst e
    rw [List.getElem?_set_self (List.getElem?_eq_some_iff.1 h).1, h]
  · rw [List.getElem?_set_ne e]
theorem own27 {l : List D} (h : ListS tab 3 l) : Ev (fun n => F27 n l l) (true, l) := by
  unfold F27
  simp only [lenF, if_true]
  refine .succ ?_
  simp only [L27_1, Bool.false_eq_true, if_false]
  have loop : ∀ i : Nat, i ≤ l.length → Ev (fun n => L27_2 n l l (i : Int)) (true, l) := by
    refine down _ ?_ (fun i hi ih => ?_)
    · refine .succ ?_
      simp only [L27_2, lenF, Int.lt_irrefl, if_false]
      exact .succ (by simp only [L27_3, Bool.false_eq_true, if_false]; exact .ret)
    · obtain ⟨x, hx, _, hr⟩ := h.get hi
      obtain ⟨z, rfl, hz⟩ := rs3 hr
      have hN : l[(i : Int).toNat]? = some (.int .i64 z) := by simpa using hx
      refine .succ ?_
      simp only [L27_2, lenF, if_pos (ilt hi)]
      refine .succ ?_
      simp only [L27_3, if_true, need_pos (show 0 ≤ (i : Int) ∧ (i : Int).toNat < l.length by omega), getN_some hN, getF_nat hx, ds_i64]
      refine .succ ?_
      simp only [L27_4, Bool.false_eq_true, if_false, letF, wrap_succ hi h.1]
      exact ih
  exact loop 0 (Nat.zero_le _)
theorem own11 (v : VV) (hv : VT v) (hfs : Ev (fun n => F28 n v.fs v.fs) (true, v.fs)) : Ev (fun n => F11 n v.k v.i v.nm v.id v.k v.i v.nm v.fs v.id v.pt v.fs v.pt) (true, v.fs, v.pt) := by
  refine .succ ?_
  simp only [F11, if_true]
  refine Ev.bO2 (own27 hv.pt) ?_
  simp only [if_true]
  exact Ev.bO2 hfs .ret
theorem own28 (l : List D) : ListS tab 25 l → Ev (fun n => F28 n l l) (true, l) := by
  refine list_ind (P := fun l => ListS tab 25 l → Ev (fun n => F28 n l l) (true, l)) (fun l ih h => ?_) l
  refine .succ ?_
  simp only [F28, lenF, if_true]
  refine .succ ?_
  simp only [L28_1, Bool.false_eq_true, if_false]
  have loop : ∀ i : Nat, i ≤ l.length → Ev (fun n => L28_2 n l (i : Int) l) (true, l) := by
    refine down _ ?_ (fun i hi ihd => ?_)
    · refine .succ ?_
      simp only [L28_2, lenF, Int.lt_irrefl, if_false]
      exact .succ (by simp only [L28_3, Bool.false_eq_true, if_false]; exact .ret)
    · obtain ⟨v, hx, hvm, hv⟩ := rowV h hi
      have hN : l[(i : Int).toNat]? = some v.row := by simpa using hx
      have hset : l.set (i : Int).toNat (.agg [.int .u8 v.k, .int .i64 v.i, .str v.nm, .list true 6 v.fs, .int .i64 v.id, .list false 1 v.pt]) = l := set_same hN
      refine .succ ?_
      simp only [L28_2, lenF, if_pos (ilt hi)]
      refine .succ ?_
      simp only [L28_3, if_true, need_pos (show 0 ≤ (i : Int) ∧ (i : Int).toNat < l.length by omega), getN_some hN, getF_nat hx, ds25]
      refine Ev.bO3 (own11 v hv (ih v.fs (size_fs hvm) hv.fs)) ?_
      simp only [letB, Bool.not_true, Bool.false_eq_true, if_false, letF, setF, wrap_succ hi h.1, hset]
      exact ihd
  exact loop 0 (Nat.zero_le _)

theorem spoilP : ∀ (l6 l : List D) (N : Nat), l.length = N → N ≤ maxLen → (∀ (j : Nat) (x : D), l[j]? = some x → ∃ z, x = D.int .i64 z) → ∀ i : Nat, i ≤ N → ∀ l : List D, l.length = N → (∀ (j : Nat) (x : D), l[j]? = some x → ∃ z, x = D.int .i64 z) →
    ∃ r, Ev (fun n => L17_4 n l6 (i : Int) l (decide ((i : Int) < (N : Int)))) r := by
  intro l6 l0 N _ hN _
  refine down N ?_ ?_
  · intro l hl hx
    exact ⟨(l6, l), .succ (by simp only [L17_4, Int.lt_irrefl, decide_false, Bool.false_eq_true, if_false]; exact .ret)⟩
  · intro i hi ih l hl hx
    have hil : i < l.length := by omega
    obtain ⟨z, hz⟩ := hx i l[i] (List.getElem?_eq_getElem hil)
    have hN' : l[(i : Int).toNat]? = some (.int .i64 z) := by rw [Int.toNat_natCast, List.getElem?_eq_getElem hil, hz]
    obtain ⟨r, hr⟩ := ih (l.set i (.int .i64 (-7))) (by simpa using hl) (fun j x hj => by
      rcases List.mem_or_eq_of_mem_set (List.mem_of_getElem? hj) with h | h
      · obtain ⟨k, hk⟩ := List.getElem?_of_mem h
        exact hx k x hk
      · exact ⟨-7, h⟩)
    refine ⟨r, .succ ?_⟩
    have hN2 : l[i]? = some (.int .i64 z) := by rw [List.getElem?_eq_getElem hil, hz]
    simp only [decide_eq_true (ilt hi), L17_4, if_true, Int.toNat_natCast, need_pos (show 0 ≤ (i : Int) ∧ i < l.length by omega), getN_some hN2, ds_i64, letF, wrap_succ hi hN, setF]
    refine .succ ?_
    have hl' : (l.set i (.int .i64 (-7))).length = N := by simpa using hl
    simp only [L17_3, lenF, hl']
    by_cases c : ((i + 1 : Nat) : Int) < (N : Int)
    · rw [decide_eq_true c] at hr
      simp only [if_pos c]; exact hr
    · rw [decide_eq_false c] at hr
      simp only [if_neg c]; exact hr
theorem spoil3 (l6 : List D) {l : List D} (h : ListS tab 3 l) : ∃ r, Ev (fun n => L17_3 n l6 (0 : Int) l) r := by
  obtain ⟨r, hr⟩ := spoilP l6 l l.length rfl h.1 (fun j x hj => let ⟨z, hz, _⟩ := rs3 (h.mem hj); ⟨z, hz⟩) 0 (Nat.zero_le _) l rfl (fun j x hj => let ⟨z, hz, _⟩ := rs3 (h.mem hj); ⟨z, hz⟩)
  refine ⟨r, .succ ?_⟩
  simp only [L17_3, lenF]
  by_cases c : (0 : Int) < (l.length : Int)
  · simp only [if_pos c]
    have : decide (((0 : Nat) : Int) < (l.length : Int)) = true := decide_eq_true c
    rw [this] at hr; exact hr
  · simp only [if_neg c]
    have : decide (((0 : Nat) : Int) < (l.length : Int)) = false := decide_eq_false c
    rw [this] at hr; exact hr
theorem spoilL (l : List D) : ListS tab 25 l → ∀ (z1 z2 : Int) (s3 : ByteArray) (z4 : Int) (l6 : List D), ListS tab 3 l6 → ∃ r, Ev (fun n => F17 n z1 z2 s3 z4 l l6) r := by
  refine list_ind (P := fun l => ListS tab 25 l → ∀ (z1 z2 : Int) (s3 : ByteArray) (z4 : Int) (l6 : List D), ListS tab 3 l6 → ∃ r, Ev (fun n => F17 n z1 z2 s3 z4 l l6) r) (fun l ih h z1 z2 s3 z4 l6 h6 => ?_) l
  -- what stands from a place on is as it was
  have loop : ∀ i : Nat, i ≤ l.length → ∀ m : List D, m.length = l.length → m.drop i = l.drop i → ∃ r, Ev (fun n => L17_1 n l6 (i : Int) m) r := by
    refine down l.length ?_ ?_
    · intro m hm _
      obtain ⟨r, hr⟩ := spoil3 m h6
      refine ⟨r, .succ ?_⟩
      simp only [L17_1, lenF, hm, Int.lt_irrefl, if_false]
      exact .succ (by simp only [L17_2, Bool.false_eq_true, if_false]; exact hr)
    · intro i hi ihd m hm hd
      obtain ⟨v, hx, hvm, hv⟩ := rowV h hi
      have hmx : m[i]? = some v.row := by
        have := congrArg (fun l => l[0]?) hd
        simp only [List.getElem?_drop, Nat.add_zero] at this
        rw [this, hx]
      have hN : m[(i : Int).toNat]? = some v.row := by simpa using hmx
      obtain ⟨⟨a, b⟩, e1⟩ := ih v.fs (size_fs hvm) hv.fs v.k v.i v.nm v.id v.pt hv.pt
      obtain ⟨r, hr⟩ := ihd (m.set i (.agg [.int .u8 99, .int .i64 v.i, .str v.nm, .list true 6 a, .int .i64 v.id, .list false 1 b])) (by simpa using hm) (by
        rw [List.drop_set_of_lt (by omega)]
        have := congrArg (List.drop 1) hd
        simpa [List.drop_drop, Nat.add_comm] using this)
      refine ⟨r, .succ ?_⟩
      simp only [L17_1, lenF, hm, if_pos (ilt hi)]
      refine .succ ?_
      simp only [L17_2, if_true, hm, need_pos (show 0 ≤ (i : Int) ∧ (i : Int).toNat < l.length by omega), getN_some hN, ds25]
      refine Ev.bO2 e1 ?_
      simp only [letF, setF, wrap_succ hi h.1, Int.toNat_natCast]
      exact hr
  obtain ⟨r, hr⟩ := loop 0 (Nat.zero_le _) l rfl rfl
  exact ⟨r, .succ (by simp only [F17]; exact hr)⟩

theorem itoaB_size {z : Int} (h : -9223372036854775808 ≤ z ∧ z ≤ 9223372036854775807) : (itoaB z).size ≤ 21 := by
  have := Lib.itoa_length_le z h.1 h.2
  show (Lib.itoa z).toArray.size ≤ 21
  simpa using this
theorem itoaB_nn (u : Nat) : itoaB (u : Int) = ⟨(Lib.decDigits u).toArray⟩ := by unfold itoaB; rw [Lib.itoa_nonneg]
theorem itoaB_ng {u : Nat} (h : 1 ≤ u) : itoaB (-(u : Int)) = ⟨(45 :: Lib.decDigits u).toArray⟩ := by unfold itoaB; rw [Lib.itoa_neg u h]
theorem cat_one (l : List UInt8) (b : UInt8) : (⟨l.toArray⟩ : ByteArray) ++ ⟨#[b]⟩ = ⟨(l ++ [b]).toArray⟩ := by
  apply ByteArray.ext
  rw [ByteArray.data_append]
  simp
theorem wu8 {z : Int} (h : 0 ≤ z ∧ z < 256) : IntKind.u8.wrap z = z := by rw [IntKind.wrap_u8]; omega
theorem letE {γ : Type} (z : Int) (k : Int → Option γ) : letF z k = k z := id rfl
theorem catF_ok {γ : Type} {s t : ByteArray} {k : ByteArray → Option γ} (h : ((s.size + t.size : Nat) : Int) ≤ 9223372036854775807) : catF s t k = k (s ++ t) := by
  unfold catF
  rw [if_pos]
  exact h
theorem strF1 {γ : Type} (z : Int) (k : ByteArray → Option γ) : strF [.int .u8 z] k = k ⟨#[UInt8.ofNat z.toNat]⟩ := id rfl
theorem ev35n : ∀ (u : Nat), (u : Int) ≤ 9223372036854775807 → Ev (fun n => F35 n (u : Int)) (itoaB u) := by
  intro u
  induction u using Nat.strongRecOn with
  | _ u ih =>
    intro hu
    refine Ev.succ ?_
    simp only [F35, if_neg (show ¬ (u : Int) < 0 by omega)]
    by_cases c : u < 10
    · refine Ev.succ ?_
      simp only [L35_1, Bool.false_eq_true, if_false, if_pos (show (u : Int) < 10 by omega)]
      refine Ev.succ ?_
      simp only [L35_3, if_true, letE, strF1]
      rw [IntWalk.i64_in _ (by omega), wu8 (by omega), itoaB_nn, dec_small c, show ((48 : Int) + u).toNat = 48 + u by omega]
      exact Ev.ret
    · refine Ev.succ ?_
      simp only [L35_1, Bool.false_eq_true, if_false, if_neg (show ¬ (u : Int) < 10 by omega)]
      refine Ev.succ ?_
      have e1 : Int.tdiv (u : Int) 10 = ((u / 10 : Nat) : Int) := by rw [Int.tdiv_eq_ediv_of_nonneg (by omega)]; omega
      have e2 : Int.tmod (u : Int) 10 = ((u % 10 : Nat) : Int) := by rw [Int.tmod_eq_emod_of_nonneg (by omega)]; omega
      simp only [L35_3, Bool.false_eq_true, if_false, needF, if_pos (show (10 : Int) ≠ 0 by decide), letE, e1, e2, strF1]
      rw [IntWalk.i64_in _ (show -9223372036854775808 ≤ ((u / 10 : Nat) : Int) ∧ ((u / 10 : Nat) : Int) ≤ 9223372036854775807 by omega)]
      refine Ev.bO1 (ih (u / 10) (by omega) (by omega)) ?_
      rw [IntWalk.i64_in _ (show -9223372036854775808 ≤ (48 : Int) + ((u % 10 : Nat) : Int) ∧ (48 : Int) + ((u % 10 : Nat) : Int) ≤ 9223372036854775807 by omega), wu8 (by omega), show ((48 : Int) + ((u % 10 : Nat) : Int)).toNat = 48 + u % 10 by omega]
      have hs := itoaB_size (z := ((u / 10 : Nat) : Int)) (by omega)
      have e : itoaB ((u / 10 : Nat) : Int) ++ ⟨#[UInt8.ofNat (48 + u % 10)]⟩ = itoaB (u : Int) := by
        rw [itoaB_nn, itoaB_nn, cat_one, ← dec_big c]
      have q : ∀ k : ByteArray → Option ByteArray, catF (itoaB ((u / 10 : Nat) : Int)) ⟨#[UInt8.ofNat (48 + u % 10)]⟩ k = k (itoaB ((u / 10 : Nat) : Int) ++ ⟨#[UInt8.ofNat (48 + u % 10)]⟩) := fun k => catF_ok (by
        have : (⟨#[UInt8.ofNat (48 + u % 10)]⟩ : ByteArray).size = 1 := rfl
        omega)
      simp only [q, e]
      exact Ev.ret

theorem ev35g : ∀ (u : Nat), 1 ≤ u → (u : Int) ≤ 9223372036854775808 → Ev (fun n => F35 n (-(u : Int))) (itoaB (-(u : Int))) := by
  intro u
  induction u using Nat.strongRecOn with
  | _ u ih =>
    intro h1 hu
    refine Ev.succ ?_
    by_cases c : u < 10
    · simp only [F35, if_pos (show -(u : Int) < 0 by omega)]
      refine Ev.succ ?_
      simp only [L35_1, if_true, if_pos (show (-10 : Int) < -(u : Int) by omega)]
      refine Ev.succ ?_
      simp only [L35_2, if_true, letE, strF1]
      rw [IntWalk.i64_in _ (by omega), wu8 (by omega), itoaB_ng h1, dec_small c, show ((48 : Int) - -(u : Int)).toNat = 48 + u by omega]
      have q : ∀ k : ByteArray → Option ByteArray, catF k___1 ⟨#[UInt8.ofNat (48 + u)]⟩ k = k (k___1 ++ ⟨#[UInt8.ofNat (48 + u)]⟩) := fun k => catF_ok (by
        have : (⟨#[UInt8.ofNat (48 + u)]⟩ : ByteArray).size = 1 := rfl
        have : k___1.size = 1 := rfl
        omega)
      have e : k___1 ++ ⟨#[UInt8.ofNat (48 + u)]⟩ = ⟨(45 :: [UInt8.ofNat (48 + u)]).toArray⟩ := cat_one [45] _
      simp only [q, e]
      exact Ev.ret
    · simp only [F35, if_pos (show -(u : Int) < 0 by omega)]
      refine Ev.succ ?_
      simp only [L35_1, if_true, if_neg (show ¬ (-10 : Int) < -(u : Int) by omega)]
      refine Ev.succ ?_
      have e1 : Int.tdiv (-(u : Int)) 10 = -((u / 10 : Nat) : Int) := by rw [Int.neg_tdiv, Int.tdiv_eq_ediv_of_nonneg (by omega)]; omega
      have e2 : Int.tmod (-(u : Int)) 10 = -((u % 10 : Nat) : Int) := by rw [Int.neg_tmod, Int.tmod_eq_emod_of_nonneg (by omega)]; omega
      simp only [L35_2, Bool.false_eq_true, if_false, needF, if_pos (show (10 : Int) ≠ 0 by decide), letE, e1, e2, strF1]
      rw [IntWalk.i64_in _ (show -9223372036854775808 ≤ -((u / 10 : Nat) : Int) ∧ -((u / 10 : Nat) : Int) ≤ 9223372036854775807 by omega)]
      refine Ev.bO1 (ih (u / 10) (by omega) (by omega) (by omega)) ?_
      rw [IntWalk.i64_in _ (show -9223372036854775808 ≤ (48 : Int) - -((u % 10 : Nat) : Int) ∧ (48 : Int) - -((u % 10 : Nat) : Int) ≤ 9223372036854775807 by omega), wu8 (by omega), show ((48 : Int) - -((u % 10 : Nat) : Int)).toNat = 48 + u % 10 by omega]
      have hs := itoaB_size (z := -((u / 10 : Nat) : Int)) (by omega)
      have e : itoaB (-((u / 10 : Nat) : Int)) ++ ⟨#[UInt8.ofNat (48 + u % 10)]⟩ = itoaB (-(u : Int)) := by
        rw [itoaB_ng (by omega), itoaB_ng h1, cat_one, dec_big c]; rfl
      have q : ∀ k : ByteArray → Option ByteArray, catF (itoaB (-((u / 10 : Nat) : Int))) ⟨#[UInt8.ofNat (48 + u % 10)]⟩ k = k (itoaB (-((u / 10 : Nat) : Int)) ++ ⟨#[UInt8.ofNat (48 + u % 10)]⟩) := fun k => catF_ok (by
        have : (⟨#[UInt8.ofNat (48 + u % 10)]⟩ : ByteArray).size = 1 := rfl
        omega)
      simp only [q, e]
      exact Ev.ret
theorem ev35 {z : Int} (h : -9223372036854775808 ≤ z ∧ z ≤ 9223372036854775807) : Ev (fun n => F35 n z) (itoaB z) := by
  by_cases c : z < 0
  · obtain ⟨u, rfl⟩ : ∃ u : Nat, z = -(u : Int) := ⟨z.natAbs, by omega⟩
    exact ev35g u (by omega) (by omega)
  · obtain ⟨u, rfl⟩ : ∃ u : Nat, z = u := ⟨z.toNat, by omega⟩
    exact ev35n u (by omega)
theorem ev35w {z : Int} (h : (Lit.int .i64 z).wf = true) : Ev (fun n => F35 n z) (tx (Lib.itoa z)) := ev35 (i64_range h)
def hd (v : VV) : List UInt8 := lt v.k :: (Lib.itoa v.i ++ 58 :: (Lib.itoa (v.nm.size : Int) ++ 58 :: (bl v.nm ++ 58 :: (Lib.itoa v.id ++ [40]))))
theorem sub16 {k : Int} (h : (Lit.int .u8 k).wf = true) (h16 : k < 16) {γ : Type} (f : ByteArray → Option γ) :
    letF (IntKind.wrap .u8 (k + 1)) (fun z10 => subF k__ibuseBCRAMTSVrm k z10 f) = f (tx [lt k]) := by
  have h0 := (u8_range h).1
  obtain ⟨i, rfl⟩ : ∃ i : Nat, k = (i : Int) := ⟨k.toNat, by omega⟩
  have : ∀ i : Nat, i < 16 → i = 0 ∨ i = 1 ∨ i = 2 ∨ i = 3 ∨ i = 4 ∨ i = 5 ∨ i = 6 ∨ i = 7 ∨ i = 8 ∨ i = 9 ∨ i = 10 ∨ i = 11 ∨ i = 12 ∨ i = 13 ∨ i = 14 ∨ i = 15 := by omega
  rcases this i (by omega) with rfl | rfl | rfl | rfl | rfl | rfl | rfl | rfl | rfl | rfl | rfl | rfl | rfl | rfl | rfl | rfl <;> rfl
theorem ev16L (l : List D) : ∀ v : VV, v.fs = l → VT v → (txt v).length ≤ 200000 → Ev (fun n => F16 n v.k v.i v.nm v.fs v.id v.pt) (tx (txt v)) := by
  refine list_ind (P := fun l => ∀ v : VV, v.fs = l → VT v → (txt v).length ≤ 200000 → Ev (fun n => F16 n v.k v.i v.nm v.fs v.id v.pt) (tx (txt v))) (fun l ih v hvl hv hlen => ?_) l
  subst hvl
  have hk := u8_range hv.k
  have hw := iw (z := v.k) (by omega) (by omega)
  have hnm : (Lit.int .i64 (v.nm.size : Int)).wf = true := i64_wf (by omega) (by have := hv.nm; simp only [maxLen] at this; omega)
  rw [txt_eq hv] at hlen ⊢
  have hlen' := hlen
  simp only [txt1, List.length_append, List.length_cons, List.length_nil] at hlen'
  have l3 := itoa_len hv.i
  have l4 := itoa_len hv.id
  have l5 := itoa_len hnm
  have hhd : (hd v).length ≤ 300 + (bl v.nm).length := by
    simp only [hd, List.length_append, List.length_cons, List.length_nil]; omega
  have path : ∀ i : Nat, i ≤ v.pt.length → Ev (fun n => L16_5 n v.pt (tx (hd v ++ (v.fs.flatMap (fun x => txt (un x)) ++ ([41, 91] ++ pathT (v.pt.take i))))) (i : Int)) (tx (txt1 (v.fs.flatMap fun x => txt (un x)) v)) := by
    refine down _ ?_ (fun i hi ihd => ?_)
    · refine .succ ?_
      simp only [L16_5, lenF, Int.lt_irrefl, if_false, List.take_length]
      refine .succ ?_
      have q : ∀ k : ByteArray → Option ByteArray, catF (tx (hd v ++ (v.fs.flatMap (fun x => txt (un x)) ++ ([41, 91] ++ pathT v.pt)))) k___5 k = k (tx (hd v ++ (v.fs.flatMap (fun x => txt (un x)) ++ ([41, 91] ++ pathT v.pt)) ++ [93])) := fun k => cat_tx (b := [93]) (by
        simp only [List.length_append, List.length_cons, List.length_nil]; omega)
      simp only [L16_6, Bool.false_eq_true, if_false, q]
      have e : hd v ++ (v.fs.flatMap (fun x => txt (un x)) ++ ([41, 91] ++ pathT v.pt)) ++ [93] = txt1 (v.fs.flatMap fun x => txt (un x)) v := by
        simp only [hd, txt1, List.cons_append, List.append_assoc, List.nil_append]
      rw [e]
      exact .ret
    · obtain ⟨x, hx, _, hr⟩ := hv.pt.get hi
      obtain ⟨z, rfl, hz⟩ := rs3 hr
      have ht : v.pt.take (i + 1) = v.pt.take i ++ [.int .i64 z] := by rw [List.take_add_one, hx]; rfl
      have hp : pathT (v.pt.take (i + 1)) = pathT (v.pt.take i) ++ (Lib.itoa z ++ [44]) := by rw [ht]; simp [pathT, intOf]
      have hb := flat_take (α := Nat) (fun d => Lib.itoa (intOf d) ++ [44]) v.pt i
      have hz' := itoa_len hz
      have hb2 : (pathT (v.pt.take i)).length ≤ (pathT v.pt).length := hb
      have q1 : ∀ k : ByteArray → Option ByteArray, catF (tx (hd v ++ (v.fs.flatMap (fun x => txt (un x)) ++ ([41, 91] ++ pathT (v.pt.take i))))) (tx (Lib.itoa z)) k = k (tx (hd v ++ (v.fs.flatMap (fun x => txt (un x)) ++ ([41, 91] ++ pathT (v.pt.take i))) ++ Lib.itoa z)) := fun k => cat_tx (by
        simp only [List.length_append, List.length_cons, List.length_nil]; omega)
      have q2 : ∀ k : ByteArray → Option ByteArray, catF (tx (hd v ++ (v.fs.flatMap (fun x => txt (un x)) ++ ([41, 91] ++ pathT (v.pt.take i))) ++ Lib.itoa z)) k___2 k = k (tx (hd v ++ (v.fs.flatMap (fun x => txt (un x)) ++ ([41, 91] ++ pathT (v.pt.take i))) ++ Lib.itoa z ++ [44])) := fun k => cat_tx (b := [44]) (by
        simp only [List.length_append, List.length_cons, List.length_nil]; omega)
      refine .succ ?_
      simp only [L16_5, lenF, if_pos (ilt hi)]
      refine .succ ?_
      simp only [L16_6, if_true, getF_nat hx, ds_i64]
      refine Ev.bO1 (ev35w hz) ?_
      simp only [q1, q2, letF, wrap_succ hi hv.pt.1]
      rw [hp] at ihd
      simp only [List.append_assoc] at ihd ⊢
      exact ihd
  have fields : ∀ i : Nat, i ≤ v.fs.length → Ev (fun n => L16_3 n v.fs v.pt (tx (hd v ++ (v.fs.take i).flatMap fun x => txt (un x))) (i : Int)) (tx (txt1 (v.fs.flatMap fun x => txt (un x)) v)) := by
    refine down _ ?_ (fun i hi ihd => ?_)
    · refine .succ ?_
      simp only [L16_3, lenF, Int.lt_irrefl, if_false, List.take_length]
      refine .succ ?_
      have q : ∀ k : ByteArray → Option ByteArray, catF (tx (hd v ++ v.fs.flatMap fun x => txt (un x))) k___ k = k (tx (hd v ++ v.fs.flatMap (fun x => txt (un x)) ++ [41, 91])) := fun k => cat_tx (b := [41, 91]) (by
        simp only [List.length_append, List.length_cons, List.length_nil]; omega)
      simp only [L16_4, Bool.false_eq_true, if_false, q]
      have := path 0 (Nat.zero_le _)
      rw [show pathT (v.pt.take 0) = [] from rfl, List.append_nil, ← List.append_assoc] at this
      exact this
    · obtain ⟨w, hx, hm, hw'⟩ := rowV hv.fs hi
      have ht : (v.fs.take (i + 1)).flatMap (fun x => txt (un x)) = (v.fs.take i).flatMap (fun x => txt (un x)) ++ txt w := by
        rw [List.take_add_one, hx, List.flatMap_append]
        simp [un_row]
      have hb := flat_take (α := Nat) (fun x => txt (un x)) v.fs (i + 1)
      have hb' := congrArg List.length ht
      rw [List.length_append] at hb'
      refine .succ ?_
      simp only [L16_3, lenF, if_pos (ilt hi)]
      refine .succ ?_
      simp only [L16_4, if_true, getF_nat hx, ds25]
      refine Ev.bO1 (ih w.fs (size_fs hm) w rfl hw' (by omega)) ?_
      have q : ∀ k : ByteArray → Option ByteArray, catF (tx (hd v ++ (v.fs.take i).flatMap fun x => txt (un x))) (tx (txt w)) k = k (tx (hd v ++ (v.fs.take i).flatMap (fun x => txt (un x)) ++ txt w)) := fun k => cat_tx (by
        rw [List.length_append]; omega)
      simp only [q, letF, wrap_succ hi hv.fs.1]
      rw [ht, ← List.append_assoc] at ihd
      exact ihd
  have l2 : ∀ s, s = tx [lt v.k] → Ev (fun n => L16_2 n v.i v.nm v.fs v.id v.pt s) (tx (txt1 (v.fs.flatMap fun x => txt (un x)) v)) := by
    rintro s rfl
    have c3 : k___3 = tx [58] := rfl
    have c4 : k___4 = tx [40] := rfl
    have q : ∀ a b : List UInt8, a.length + b.length ≤ 10000000 → ∀ k : ByteArray → Option ByteArray, catF (tx a) (tx b) k = k (tx (a ++ b)) := fun a b h k => cat_tx h
    have w : v.nm = tx (bl v.nm) := (tx_bl _).symm
    refine .succ ?_
    simp only [L16_2, szF]
    refine Ev.bO1 (ev35w hv.i) ?_
    simp only [c3, c4]
    rw [show (fun n => catF (tx [lt v.k]) (tx (Lib.itoa v.i)) fun s14 => catF s14 (tx [58]) fun s15 => bO1 (F35 n (v.nm.size : Int)) fun s17 => catF s15 s17 fun s18 => catF s18 (tx [58]) fun s19 => catF s19 v.nm fun s20 => catF s20 (tx [58]) fun s21 => bO1 (F35 n v.id) fun s22 => catF s21 s22 fun s23 => catF s23 (tx [40]) fun s24 => L16_3 n v.fs v.pt s24 (0 : Int)) = (fun n => bO1 (F35 n (v.nm.size : Int)) fun s17 => catF (tx ([lt v.k] ++ Lib.itoa v.i ++ [58])) s17 fun s18 => catF s18 (tx [58]) fun s19 => catF s19 v.nm fun s20 => catF s20 (tx [58]) fun s21 => bO1 (F35 n v.id) fun s22 => catF s21 s22 fun s23 => catF s23 (tx [40]) fun s24 => L16_3 n v.fs v.pt s24 (0 : Int)) from funext fun n => by
      rw [q _ _ (by simp only [List.length_cons, List.length_nil]; omega), q _ _ (by simp only [List.length_append, List.length_cons, List.length_nil]; omega)]]
    refine Ev.bO1 (ev35w hnm) ?_
    have e : (fun n => catF (tx ([lt v.k] ++ Lib.itoa v.i ++ [58])) (tx (Lib.itoa (v.nm.size : Int))) fun s18 => catF s18 (tx [58]) fun s19 => catF s19 v.nm fun s20 => catF s20 (tx [58]) fun s21 => bO1 (F35 n v.id) fun s22 => catF s21 s22 fun s23 => catF s23 (tx [40]) fun s24 => L16_3 n v.fs v.pt s24 (0 : Int)) = (fun n => bO1 (F35 n v.id) fun s22 => catF (tx ([lt v.k] ++ Lib.itoa v.i ++ [58] ++ Lib.itoa (v.nm.size : Int) ++ [58] ++ bl v.nm ++ [58])) s22 fun s23 => catF s23 (tx [40]) fun s24 => L16_3 n v.fs v.pt s24 (0 : Int)) := funext fun n => by
      have r3 : ∀ k : ByteArray → Option ByteArray, catF (tx ([lt v.k] ++ Lib.itoa v.i ++ [58] ++ Lib.itoa (v.nm.size : Int) ++ [58])) v.nm k = k (tx ([lt v.k] ++ Lib.itoa v.i ++ [58] ++ Lib.itoa (v.nm.size : Int) ++ [58] ++ bl v.nm)) := fun k => by
        have := q ([lt v.k] ++ Lib.itoa v.i ++ [58] ++ Lib.itoa (v.nm.size : Int) ++ [58]) (bl v.nm) (by simp only [List.length_append, List.length_cons, List.length_nil]; omega) k
        rw [tx_bl] at this
        exact this
      rw [q _ _ (by simp only [List.length_append, List.length_cons, List.length_nil]; omega), q _ _ (by simp only [List.length_append, List.length_cons, List.length_nil]; omega), r3, q _ _ (by simp only [List.length_append, List.length_cons, List.length_nil]; omega)]
    rw [e]
    refine Ev.bO1 (ev35w hv.id) ?_
    have e2 : (fun n => catF (tx ([lt v.k] ++ Lib.itoa v.i ++ [58] ++ Lib.itoa (v.nm.size : Int) ++ [58] ++ bl v.nm ++ [58])) (tx (Lib.itoa v.id)) fun s23 => catF s23 (tx [40]) fun s24 => L16_3 n v.fs v.pt s24 (0 : Int)) = (fun n => L16_3 n v.fs v.pt (tx (hd v)) (0 : Int)) := funext fun n => by
      rw [q _ _ (by simp only [List.length_append, List.length_cons, List.length_nil]; omega), q _ _ (by simp only [List.length_append, List.length_cons, List.length_nil]; omega)]
      congr 2
      simp only [hd, List.cons_append, List.append_assoc, List.nil_append]
    rw [e2]
    have := fields 0 (Nat.zero_le _)
    rw [show (v.fs.take 0).flatMap (fun x => txt (un x)) = [] from rfl, List.append_nil] at this
    exact this
  refine .succ ?_
  simp only [F16, letF, hw, szF, show (k__ibuseBCRAMTSVrm.size : Int) = 16 from rfl]
  by_cases c : v.k < 16
  · simp only [if_pos c]
    refine .succ ?_
    have := fun n => sub16 hv.k c (fun s11 => L16_2 n v.i v.nm v.fs v.id v.pt s11)
    simp only [L16_1, if_true, this]
    exact l2 _ rfl
  · simp only [if_neg c]
    refine .succ ?_
    simp only [L16_1, Bool.false_eq_true, if_false]
    exact l2 _ (by unfold lt; rw [if_neg c]; rfl)
theorem ev16 {v : VV} (hv : VT v) (h : (txt v).length ≤ 200000) : Ev (fun n => F16 n v.k v.i v.nm v.fs v.id v.pt) (tx (txt v)) := ev16L v.fs v rfl hv h
theorem copied_ev (v : VV) : ∃ b, Ev (fun n => F12 n v.k v.i v.nm v.fs v.id v.pt) b ∧ Ev (fun n => F13 n v.k v.i v.nm v.fs v.id v.pt) b := by
  have t : Ev (fun n => L12_4 n true) true := .succ (by simp only [L12_4, if_true]; exact .ret)
  have f : Ev (fun n => L12_4 n false) false := .succ (by simp only [L12_4, Bool.false_eq_true, if_false]; exact .ret)
  unfold F12 F13
  by_cases c1 : v.k = 1
  · refine ⟨true, ?_, ?_⟩ <;> simp only [if_pos c1]
    · exact .succ (by simp only [L12_1, if_true]; exact t)
    · exact .ret
  by_cases c2 : v.k = 2
  · refine ⟨true, ?_, ?_⟩ <;> simp only [if_neg c1, if_pos c2]
    · refine .succ ?_
      simp only [L12_1, Bool.false_eq_true, if_false, if_pos c2]
      exact .succ (by simp only [L12_2, if_true]; exact t)
    · exact .ret
  by_cases c3 : v.k = 3
  · refine ⟨true, ?_, ?_⟩ <;> simp only [if_neg c1, if_neg c2, if_pos c3]
    · refine .succ ?_
      simp only [L12_1, Bool.false_eq_true, if_false, if_neg c2]
      refine .succ ?_
      simp only [L12_2, Bool.false_eq_true, if_false, if_pos c3]
      exact .succ (by simp only [L12_3, if_true]; exact t)
    · exact .ret
  have deep : ∀ b, (if v.k = 14 then b = true else b = false) → Ev (fun n => L12_1 n v.k false) b := by
    intro b hb
    refine .succ ?_
    simp only [L12_1, Bool.false_eq_true, if_false, if_neg c2]
    refine .succ ?_
    simp only [L12_2, Bool.false_eq_true, if_false, if_neg c3]
    refine .succ ?_
    simp only [L12_3, Bool.false_eq_true, if_false]
    by_cases c4 : v.k = 14
    · rw [if_pos c4] at hb; subst hb; simp only [if_pos c4]; exact t
    · rw [if_neg c4] at hb; subst hb; simp only [if_neg c4]; exact f
  by_cases c4 : v.k = 14
  · refine ⟨true, ?_, ?_⟩ <;> simp only [if_neg c1, if_neg c2, if_neg c3, if_pos c4]
    · exact deep true (by rw [if_pos c4])
    · exact .ret
  · refine ⟨false, ?_, ?_⟩ <;> simp only [if_neg c1, if_neg c2, if_neg c3, if_neg c4]
    · exact deep false (by rw [if_neg c4])
    · exact .ret
open Classical in
theorem twins_law {v x : VV} (hv : VT v) (hx : VT x) : Ev (fun n => F3 n v.k v.i v.nm v.fs v.id v.pt x.k x.i x.nm x.fs x.id x.pt) true := by
  unfold F3
  obtain ⟨b, h8, hb⟩ := ev8t hv hx []
  refine Ev.bO1 h8 ?_
  cases b
  rotate_left
  · simp only [if_true]; exact .ret
  obtain ⟨sv, sx, t1, t2⟩ := hb rfl
  simp only [Bool.false_eq_true, if_false]
  refine Ev.bO6 (ev9 sv) (Ev.bO6 (ev10 sv) (Ev.bO3 (own11 v hv (own28 v.fs hv.fs)) ?_))
  simp only [letB, Bool.not_true, Bool.false_eq_true, if_false]
  obtain ⟨c, hc1, hc2⟩ := copied_ev v
  refine Ev.bO1 hc1 (Ev.bO1 hc2 ?_)
  have e1 : (!(c == c)) = false := by cases c <;> rfl
  simp only [e1, Bool.false_eq_true, if_false]
  refine Ev.bO1 (ev14 hv hx) (Ev.bO1 (ev11 hv hx) ?_)
  have e2 : (!(decide (v = x) == decide (v = x))) = false := by cases decide (v = x) <;> rfl
  simp only [e2, Bool.false_eq_true, if_false]
  refine Ev.bO1 (ev15 hv t1) (Ev.bO1 (ev16 hv t1) ?_)
  simp only [if_true]
  obtain ⟨⟨a, b⟩, hs⟩ := spoilL v.fs hv.fs v.k v.i v.nm v.id v.pt hv.pt
  refine .succ ?_
  simp only [L3_1, Bool.false_eq_true, if_false]
  refine Ev.bO2 hs ?_
  have := ev11 hv hv
  rw [decide_eq_true rfl] at this
  exact Ev.bO1 this .ret
theorem value_twins_trip : ∀ xs : List D, Shapes tab [25, 25] xs → Trip Tryd.prog inv 3 (xs.map V1.d) [] (.v (.d (.bool true))) [] [] := by
  intro xs h
  match xs, h with
  | [u, v], ⟨u1, u2, v1, v2, _⟩ =>
    obtain ⟨a0, a1, a2, a3, a4, a5, rfl, w0, w1, w2, w3, w4, w5⟩ := rs25 ⟨u1, u2⟩
    obtain ⟨c0, c1, c2, c3, c4, c5, rfl, d0, d1, d2, d3, d4, d5⟩ := rs25 ⟨v1, v2⟩
    obtain ⟨n, hn⟩ := (twins_law (v := ⟨a0, a1, a2, a3, a4, a5⟩) (x := ⟨c0, c1, c2, c3, c4, c5⟩) ⟨w0, w1, w2, w3, w4, w5⟩ ⟨d0, d1, d2, d3, d4, d5⟩).run
    exact T3 n hn
end Go.Proofs.YtagiiaejijihoaaDoor

namespace Go.Proofs.YtagiiaejijihoaaDoor
open Go Go.ChangeShapes Go.WideShapes Go.ChangeAt Go.RowKit Go.AM

theorem value_twins_reads : ∀ t ∈ [25, 25], Tryd.prog.readableRec t = true ∧ t < Tryd.prog.types.size := by
  have h : ([25, 25].all fun t => Tryd.prog.readableRec t && decide (t < Tryd.prog.types.size)) = true := by kernel_rfl
  intro t ht
  have := List.all_eq_true.1 h t ht
  simpa using this

theorem value_twins_inv {W : World} (h : laidMet Tryd.prog Rows.valueTwinsRow.laid W) : inv.at W fun _ _ => False := by
  have e : (Rows.valueTwinsRow.laid.filter fun x => x.1 == "internal/strconv.uint64pow10") = [("internal/strconv.uint64pow10", Lib.tabData .u64 Lib.pow10Tab)] := by kernel_rfl
  have h2 := laidMet.filter (fun x => x.1 == "internal/strconv.uint64pow10") h
  rw [e] at h2
  have ht : Lib.TabIs Tryd.prog W "internal/strconv.uint64pow10" .u64 Lib.pow10Tab := by
    exact Lib.tabIs_of_head (g := 0) (t := 76) (e := 68) (n := 20) (by kernel_rfl) (by kernel_rfl) (by kernel_rfl) (by kernel_rfl) (by kernel_rfl) (by kernel_rfl) h2
  refine ⟨ht, fun b hb => ⟨?_, fun _ h => h⟩⟩
  have hb : Tryd.prog.globalNamed "internal/strconv.uint64pow10" = some b := hb
  unfold Lib.TabIs World.var? at ht
  rw [hb] at ht
  simp only [Option.bind_some] at ht
  cases hx : W.heap[b]? with
  | none => rw [hx] at ht; simp at ht
  | some o => exact (Array.getElem?_eq_some_iff.1 hx).1

set_option maxRecDepth 100000 in
theorem value_twins_lifted (os : Os) (started : os.Started) (H : Type) (enc : TypeId × Value → H) :
    ReturnsInHanded {} Tryd.checked os 3 .any (fun w args => (Rows.valueTwinsSpec.pre enc Tryd.prog Tryd.f3 Rows.valueTwinsRow.domain false w args ∧ laidMetH Tryd.prog Rows.valueTwinsRow.laid w) ∧ sizedMet enc Tryd.prog Tryd.f3 (OpenSpec.ofChange Rows.valueTwinsSpec) false w args)
      (Rows.valueTwinsSpec.post enc Tryd.prog Tryd.f3 false true false false) := by
  refine returnsInHanded_of_change_and (C := Tryd.checked) (X := fun w _ => laidMetH Tryd.prog Rows.valueTwinsRow.laid w) (fun _ _ _ hh h => h.of_heap hh) (by kernel_rfl) started (by kernel_rfl) Tryd.func3
    (ChangeSpec.witness_shaped (enc := enc) (C := Tryd.checked) (os := os) (X := fun w _ => laidMetH Tryd.prog Rows.valueTwinsRow.laid w) false (World.laidAll Tryd.prog os Rows.valueTwinsRow.laid) #[.agg #[.int .u8 0, .int .i64 0, .string ⟨#[]⟩, .slice none 0 0, .int .i64 0, .slice none 0 0], .agg #[.int .u8 0, .int .i64 0, .string ⟨#[]⟩, .slice none 0 0, .int .i64 0, .slice none 0 0]] 8 (World.laidAll_os _ _ _)
      (World.shaped_of_ZipB (by kernel_rfl) (by kernel_rfl)) (by kernel_rfl) (by kernel_rfl) (by kernel_rfl)
      (by rw [MakeChecks.laidMetH_plain _ _ _ (by kernel_rfl)]; exact laidMet_laidAll _ (by kernel_rfl) (by kernel_rfl))) ?_
  intro W base args ds gs before hval0 hW _ _ hL _
  rw [MakeChecks.laidMetH_plain _ _ _ (by kernel_rfl)] at hL
  refine law_calls (ti := tab) (T := [2, 3, 5, 9, 22, 23, 25]) tab_ok (by kernel_rfl) (ts := [25, 25]) (bt := 4) rfl rfl rfl (by kernel_rfl) (by decide) ?_ (by kernel_rfl) value_twins_reads value_twins_trip (value_twins_inv hL) hval0 hW
  intro ds h
  match ds, h with
  | [_, _], _ => exact ⟨rfl, rfl, rfl⟩
theorem value_twins_row : Rows.ValueTwinsSaid :=
  OpenClaim.holds_of_wide 3 Tryd.f3 rfl rfl rfl rfl rfl rfl rfl ⟨rfl, rfl, rfl, rfl, rfl⟩ rfl rfl rfl rfl rfl (by kernel_rfl) Tryd.func3 (by kernel_rfl)
    (of_decide_eq_true (by kernel_rfl)) (by unfold Func.isWrapper; first | (rw [if_pos (by decide +kernel)]; kernel_rfl) | (rw [if_neg (by decide +kernel)]; exact ⟨rfl, rfl⟩))
    (fun os started H enc _ => value_twins_lifted os started H enc)
theorem value_twins : Rows.ValueTwinsCardSaid :=
  Claim7.holds_tied_plain_at .later [] [.data, .data, .data] true Rows.valueTwinsCard.stood.harness false value_twins_row (fun _ h => by cases h) (by kernel_rfl) (fun _ h => by cases h) valueTwins_row_tie rfl ⟨rfl, rfl⟩ (by kernel_rfl) rfl
    (fun f fn hf hfn => by
      obtain rfl : f = 3 := Option.some.inj ((show Tryd.prog.funcNamed "weftway/weftwaylaw19.ValueTwins" = some 3 by kernel_rfl).symm.trans hf) |>.symm
      obtain rfl : fn = Tryd.f3 := (Option.some.inj (Tryd.func3.symm.trans hfn)).symm
      exact ⟨by kernel_rfl, fun j t ht => by
        have hm : t ∈ [25, 25] := by
          have hp : Tryd.f3.params.toList = [25, 25] := rfl
          rw [← hp]; simpa using Array.mem_of_getElem? ht
        have hall : ([25, 25].all fun u => !Tryd.prog.wantsStandIn u) = true := by kernel_rfl
        exact (show Tryd.prog.wantsStandIn t = false by simpa using List.all_eq_true.1 hall t hm)⟩)
    (by kernel_rfl)
end Go.Proofs.YtagiiaejijihoaaDoor
