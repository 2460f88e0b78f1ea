/- ValueParts of chapter 19 holds: any part of a value is read, and set, as the chapter says. No condition. (Part 5: VpB, VpR.) -/
import Derived.Test.YtagiiaejijihoaaRows
import Derived.ChangeSame
import Derived.JoinedOf
import Derived.JoinedAt
import Derived.RowKit
import Derived.RowKit2
import Derived.ReadAgain
import Derived.ChangeAlike
import Derived.Test.YtagiiaejijihoaaVpaD
set_option linter.unusedVariables false
set_option linter.unusedSimpArgs false
set_option linter.unusedVariables false
noncomputable section
namespace Go.Proofs.Ytagiiaejijihoaa
open Go Go.AM

theorem ev5L (l : List D) : ListS tab 25 l → Sm l → ∀ (z1 z2 : Int) (s3 : ByteArray) (z5 : Int) (l6 : List D), ListS tab 3 l6 → l6.length ≤ 5000 → Ev (fun n => F5 n z1 z2 s3 l z5 l6) (z1, z2, s3, z5, l, l6) := by
  refine list_ind (P := fun l => ListS tab 25 l → Sm l → ∀ (z1 z2 : Int) (s3 : ByteArray) (z5 : Int) (l6 : List D), ListS tab 3 l6 → l6.length ≤ 5000 → Ev (fun n => F5 n z1 z2 s3 l z5 l6) (z1, z2, s3, z5, l, l6)) (fun l ih h hs z1 z2 s3 z5 l6 h6t h6 => ?_) l
  have hM : 5000 < maxLen := by decide
  have hl := hs.len
  have loop : ∀ i : Nat, i ≤ l.length → Ev (fun n => L13_1 n l (i : Int) (l.take i)) l := by
    refine down l.length ?_ ?_
    · refine .succ ?_
      simp only [L13_1, lenF, Int.lt_irrefl, if_false]
      exact .succ (by simp only [L13_2, Bool.false_eq_true, if_false, List.take_length]; exact .ret)
    · intro i hi ihd
      obtain ⟨v, hx, hm, hv⟩ := rowV h hi
      have ht : l.take (i + 1) = l.take i ++ [v.row] := by rw [List.take_add_one, hx]; rfl
      have hb : (l.take i).length + [v.row].length ≤ maxLen ∧ ((l.take i).length + [v.row].length) * 88 ≤ 140737488355328 := by simp only [List.length_take, List.length_cons, List.length_nil]; omega
      have ha : ∀ k : List D → Option (List D), appF 88 (l.take i) [.agg [.int .u8 v.k, .int .i64 v.i, .str v.nm, .list true 6 v.fs, .int .i64 v.id, .list false 1 v.pt]] k = k (l.take i ++ [v.row]) := fun k => appF_ok hb
      refine .succ ?_
      simp only [L13_1, lenF, if_pos (ilt hi)]
      refine .succ ?_
      simp only [L13_2, if_true, getF_nat hx, ds25]
      refine Ev.bO6 (ih v.fs (size_fs hm) hv.fs (hs.fs hm) v.k v.i v.nm v.id v.pt hv.pt (hs.pt hm)) ?_
      simp only [ha, letF, wrap_succ hi h.1]
      rw [ht] at ihd
      exact ihd
  refine .succ ?_
  simp only [F5]
  refine Ev.bO1 (a := l) (.succ (by simp only [F13]; exact loop 0 (Nat.zero_le _))) ?_
  have a1 : ∀ k : List D → Option (Int × Int × ByteArray × Int × List D × List D), appF 88 ([] : List D) l k = k l := fun k => appF_ok (L := []) (by simp only [List.length_nil]; omega)
  have a2 : ∀ k : List D → Option (Int × Int × ByteArray × Int × List D × List D), appF 8 ([] : List D) l6 k = k l6 := fun k => appF_ok (L := []) (by simp only [List.length_nil]; omega)
  simp only [a1, a2, need_pos (scal_ints h6t)]
  exact .ret
theorem ev5 {v : VV} (h : VS v) : Ev (fun n => F5 n v.k v.i v.nm v.fs v.id v.pt) (v.k, v.i, v.nm, v.id, v.fs, v.pt) := ev5L v.fs h.t.fs h.f _ _ _ _ _ h.t.pt h.p

theorem set_same {l : List D} {i : Nat} {x : D} (h : l[i]? = some x) : l.set i x = l := by
  apply List.ext_getElem?
  intro j
  by_cases e : i = j
  · subst e
    rw [List.getElem?_set_self (List.getElem?_eq_some_iff.1 h).1, h]
  · rw [List.getElem?_set_ne e]
theorem own27 {l : List D} (h : ListS tab 3 l) : Ev (fun n => F18 n l l) (true, l) := by
  unfold F18
  simp only [lenF, if_true]
  refine .succ ?_
  simp only [L18_1, Bool.false_eq_true, if_false]
  have loop : ∀ i : Nat, i ≤ l.length → Ev (fun n => L18_2 n l l (i : Int)) (true, l) := by
    refine down _ ?_ (fun i hi ih => ?_)
    · refine .succ ?_
      simp only [L18_2, lenF, Int.lt_irrefl, if_false]
      exact .succ (by simp only [L18_3, Bool.false_eq_true, if_false]; exact .ret)
    · obtain ⟨x, hx, _, hr⟩ := h.get hi
      obtain ⟨z, rfl, hz⟩ := rs3 hr
      have hN : l[(i : Int).toNat]? = some (.int .i64 z) := by simpa using hx
      refine .succ ?_
      simp only [L18_2, lenF, if_pos (ilt hi)]
      refine .succ ?_
      simp only [L18_3, if_true, need_pos (show 0 ≤ (i : Int) ∧ (i : Int).toNat < l.length by omega), getN_some hN, getF_nat hx, ds_i64]
      refine .succ ?_
      simp only [L18_4, Bool.false_eq_true, if_false, letF, wrap_succ hi h.1]
      exact ih
  exact loop 0 (Nat.zero_le _)
theorem own11 (v : VV) (hv : VT v) (hfs : Ev (fun n => F19 n v.fs v.fs) (true, v.fs)) : Ev (fun n => F10 n v.k v.i v.nm v.id v.k v.i v.nm v.fs v.id v.pt v.fs v.pt) (true, v.fs, v.pt) := by
  refine .succ ?_
  simp only [F10, if_true]
  refine Ev.bO2 (own27 hv.pt) ?_
  simp only [if_true]
  exact Ev.bO2 hfs .ret
theorem own28 (l : List D) : ListS tab 25 l → Ev (fun n => F19 n l l) (true, l) := by
  refine list_ind (P := fun l => ListS tab 25 l → Ev (fun n => F19 n l l) (true, l)) (fun l ih h => ?_) l
  refine .succ ?_
  simp only [F19, lenF, if_true]
  refine .succ ?_
  simp only [L19_1, Bool.false_eq_true, if_false]
  have loop : ∀ i : Nat, i ≤ l.length → Ev (fun n => L19_2 n l (i : Int) l) (true, l) := by
    refine down _ ?_ (fun i hi ihd => ?_)
    · refine .succ ?_
      simp only [L19_2, lenF, Int.lt_irrefl, if_false]
      exact .succ (by simp only [L19_3, Bool.false_eq_true, if_false]; exact .ret)
    · obtain ⟨v, hx, hvm, hv⟩ := rowV h hi
      have hN : l[(i : Int).toNat]? = some v.row := by simpa using hx
      have hset : l.set (i : Int).toNat (.agg [.int .u8 v.k, .int .i64 v.i, .str v.nm, .list true 6 v.fs, .int .i64 v.id, .list false 1 v.pt]) = l := set_same hN
      refine .succ ?_
      simp only [L19_2, lenF, if_pos (ilt hi)]
      refine .succ ?_
      simp only [L19_3, if_true, need_pos (show 0 ≤ (i : Int) ∧ (i : Int).toNat < l.length by omega), getN_some hN, getF_nat hx, ds25]
      refine Ev.bO3 (own11 v hv (ih v.fs (size_fs hvm) hv.fs)) ?_
      simp only [letB, Bool.not_true, Bool.false_eq_true, if_false, letF, setF, wrap_succ hi h.1, hset]
      exact ihd
  exact loop 0 (Nat.zero_le _)

theorem spoilP : ∀ (l6 l : List D) (N : Nat), l.length = N → N ≤ maxLen → (∀ (j : Nat) (x : D), l[j]? = some x → ∃ z, x = D.int .i64 z) → ∀ i : Nat, i ≤ N → ∀ l : List D, l.length = N → (∀ (j : Nat) (x : D), l[j]? = some x → ∃ z, x = D.int .i64 z) →
    ∃ r, Ev (fun n => L11_4 n l6 (i : Int) l (decide ((i : Int) < (N : Int)))) r := by
  intro l6 l0 N _ hN _
  refine down N ?_ ?_
  · intro l hl hx
    exact ⟨(l6, l), .succ (by simp only [L11_4, Int.lt_irrefl, decide_false, Bool.false_eq_true, if_false]; exact .ret)⟩
  · intro i hi ih l hl hx
    have hil : i < l.length := by omega
    obtain ⟨z, hz⟩ := hx i l[i] (List.getElem?_eq_getElem hil)
    have hN' : l[(i : Int).toNat]? = some (.int .i64 z) := by rw [Int.toNat_natCast, List.getElem?_eq_getElem hil, hz]
    obtain ⟨r, hr⟩ := ih (l.set i (.int .i64 (-7))) (by simpa using hl) (fun j x hj => by
      rcases List.mem_or_eq_of_mem_set (List.mem_of_getElem? hj) with h | h
      · obtain ⟨k, hk⟩ := List.getElem?_of_mem h
        exact hx k x hk
      · exact ⟨-7, h⟩)
    refine ⟨r, .succ ?_⟩
    have hN2 : l[i]? = some (.int .i64 z) := by rw [List.getElem?_eq_getElem hil, hz]
    simp only [decide_eq_true (ilt hi), L11_4, if_true, Int.toNat_natCast, need_pos (show 0 ≤ (i : Int) ∧ i < l.length by omega), getN_some hN2, ds_i64, letF, wrap_succ hi hN, setF]
    refine .succ ?_
    have hl' : (l.set i (.int .i64 (-7))).length = N := by simpa using hl
    simp only [L11_3, lenF, hl']
    by_cases c : ((i + 1 : Nat) : Int) < (N : Int)
    · rw [decide_eq_true c] at hr
      simp only [if_pos c]; exact hr
    · rw [decide_eq_false c] at hr
      simp only [if_neg c]; exact hr
theorem spoil3 (l6 : List D) {l : List D} (h : ListS tab 3 l) : ∃ r, Ev (fun n => L11_3 n l6 (0 : Int) l) r := by
  obtain ⟨r, hr⟩ := spoilP l6 l l.length rfl h.1 (fun j x hj => let ⟨z, hz, _⟩ := rs3 (h.mem hj); ⟨z, hz⟩) 0 (Nat.zero_le _) l rfl (fun j x hj => let ⟨z, hz, _⟩ := rs3 (h.mem hj); ⟨z, hz⟩)
  refine ⟨r, .succ ?_⟩
  simp only [L11_3, lenF]
  by_cases c : (0 : Int) < (l.length : Int)
  · simp only [if_pos c]
    have : decide (((0 : Nat) : Int) < (l.length : Int)) = true := decide_eq_true c
    rw [this] at hr; exact hr
  · simp only [if_neg c]
    have : decide (((0 : Nat) : Int) < (l.length : Int)) = false := decide_eq_false c
    rw [this] at hr; exact hr
theorem spoilL (l : List D) : ListS tab 25 l → ∀ (z1 z2 : Int) (s3 : ByteArray) (z4 : Int) (l6 : List D), ListS tab 3 l6 → ∃ r, Ev (fun n => F11 n z1 z2 s3 z4 l l6) r := by
  refine list_ind (P := fun l => ListS tab 25 l → ∀ (z1 z2 : Int) (s3 : ByteArray) (z4 : Int) (l6 : List D), ListS tab 3 l6 → ∃ r, Ev (fun n => F11 n z1 z2 s3 z4 l l6) r) (fun l ih h z1 z2 s3 z4 l6 h6 => ?_) l
  -- what stands from a place on is as it was
  have loop : ∀ i : Nat, i ≤ l.length → ∀ m : List D, m.length = l.length → m.drop i = l.drop i → ∃ r, Ev (fun n => L11_1 n l6 (i : Int) m) r := by
    refine down l.length ?_ ?_
    · intro m hm _
      obtain ⟨r, hr⟩ := spoil3 m h6
      refine ⟨r, .succ ?_⟩
      simp only [L11_1, lenF, hm, Int.lt_irrefl, if_false]
      exact .succ (by simp only [L11_2, Bool.false_eq_true, if_false]; exact hr)
    · intro i hi ihd m hm hd
      obtain ⟨v, hx, hvm, hv⟩ := rowV h hi
      have hmx : m[i]? = some v.row := by
        have := congrArg (fun l => l[0]?) hd
        simp only [List.getElem?_drop, Nat.add_zero] at this
        rw [this, hx]
      have hN : m[(i : Int).toNat]? = some v.row := by simpa using hmx
      obtain ⟨⟨a, b⟩, e1⟩ := ih v.fs (size_fs hvm) hv.fs v.k v.i v.nm v.id v.pt hv.pt
      obtain ⟨r, hr⟩ := ihd (m.set i (.agg [.int .u8 99, .int .i64 v.i, .str v.nm, .list true 6 a, .int .i64 v.id, .list false 1 b])) (by simpa using hm) (by
        rw [List.drop_set_of_lt (by omega)]
        have := congrArg (List.drop 1) hd
        simpa [List.drop_drop, Nat.add_comm] using this)
      refine ⟨r, .succ ?_⟩
      simp only [L11_1, lenF, hm, if_pos (ilt hi)]
      refine .succ ?_
      simp only [L11_2, if_true, hm, need_pos (show 0 ≤ (i : Int) ∧ (i : Int).toNat < l.length by omega), getN_some hN, ds25]
      refine Ev.bO2 e1 ?_
      simp only [letF, setF, wrap_succ hi h.1, Int.toNat_natCast]
      exact hr
  obtain ⟨r, hr⟩ := loop 0 (Nat.zero_le _) l rfl rfl
  exact ⟨r, .succ (by simp only [F11]; exact hr)⟩


theorem both18 {l : List D} (h : ListS tab 3 l) : Ev (fun n => F18x1 n l l) (true, l, l) := by
  unfold F18x1
  simp only [lenF, if_true]
  refine .succ ?_
  simp only [L18x1_1, Bool.false_eq_true, if_false]
  have loop : ∀ i : Nat, i ≤ l.length → Ev (fun n => L18x1_2 n l l (i : Int)) (true, l, l) := by
    refine down _ ?_ (fun i hi ih => ?_)
    · refine .succ ?_
      simp only [L18x1_2, lenF, Int.lt_irrefl, if_false]
      exact .succ (by simp only [L18x1_3, Bool.false_eq_true, if_false]; exact .ret)
    · obtain ⟨x, hx, _, hr⟩ := h.get hi
      obtain ⟨z, rfl, hz⟩ := rs3 hr
      have hN : l[(i : Int).toNat]? = some (.int .i64 z) := by simpa using hx
      refine .succ ?_
      simp only [L18x1_2, lenF, if_pos (ilt hi)]
      refine .succ ?_
      simp only [L18x1_3, if_true, need_pos (show 0 ≤ (i : Int) ∧ (i : Int).toNat < l.length by omega), getN_some hN, ds_i64]
      refine .succ ?_
      simp only [L18x1_4, Bool.false_eq_true, if_false, letF, wrap_succ hi h.1]
      exact ih
  exact loop 0 (Nat.zero_le _)
theorem both10 (v : VV) (hv : VT v) (hfs : Ev (fun n => F19x1 n v.fs v.fs) (true, v.fs, v.fs)) : Ev (fun n => F10x1 n v.k v.i v.nm v.id v.k v.i v.nm v.id v.fs v.pt v.fs v.pt) (true, v.fs, v.pt, v.fs, v.pt) := by
  refine .succ ?_
  simp only [F10x1, if_true]
  refine Ev.bO3 (both18 hv.pt) ?_
  simp only [if_true]
  exact Ev.bO3 hfs .ret
theorem both19 (l : List D) : ListS tab 25 l → Ev (fun n => F19x1 n l l) (true, l, l) := by
  refine list_ind (P := fun l => ListS tab 25 l → Ev (fun n => F19x1 n l l) (true, l, l)) (fun l ih h => ?_) l
  refine .succ ?_
  simp only [F19x1, lenF, if_true]
  refine .succ ?_
  simp only [L19x1_1, Bool.false_eq_true, if_false]
  have loop : ∀ i : Nat, i ≤ l.length → Ev (fun n => L19x1_2 n (i : Int) l l) (true, l, l) := by
    refine down _ ?_ (fun i hi ihd => ?_)
    · refine .succ ?_
      simp only [L19x1_2, lenF, Int.lt_irrefl, if_false]
      exact .succ (by simp only [L19x1_3, Bool.false_eq_true, if_false]; exact .ret)
    · obtain ⟨v, hx, hvm, hv⟩ := rowV h hi
      have hN : l[(i : Int).toNat]? = some v.row := by simpa using hx
      have hset : l.set (i : Int).toNat (.agg [.int .u8 v.k, .int .i64 v.i, .str v.nm, .list true 6 v.fs, .int .i64 v.id, .list false 1 v.pt]) = l := set_same hN
      refine .succ ?_
      simp only [L19x1_2, lenF, if_pos (ilt hi)]
      refine .succ ?_
      simp only [L19x1_3, if_true, need_pos (show 0 ≤ (i : Int) ∧ (i : Int).toNat < l.length by omega), getN_some hN, ds25]
      refine Ev.bO5 (both10 v hv (ih v.fs (size_fs hvm) hv.fs)) ?_
      simp only [letB, Bool.not_true, Bool.false_eq_true, if_false, letF, setF, wrap_succ hi h.1, hset]
      exact ihd
  exact loop 0 (Nat.zero_le _)

theorem ev16 (v : VV) (n0 : Int) : Ev (fun n => F16 n v.k v.i v.nm v.fs v.id v.pt n0) (leads v n0) := by
  unfold F16 leads
  by_cases c : v.k = 0
  · simp only [if_pos c]; exact .succ (by simp only [L16_1, if_true]; exact .ret)
  · simp only [if_neg c]
    have t : Ev (fun n => L16_2 n true) 6 := .succ (by simp only [L16_2, if_true]; exact .ret)
    have f : Ev (fun n => L16_2 n false) 0 := .succ (by simp only [L16_2, Bool.false_eq_true, if_false]; exact .ret)
    refine .succ ?_
    simp only [L16_1, Bool.false_eq_true, if_false, lenF]
    by_cases c4 : v.k = 4
    · by_cases cn : n0 < 0
      · simp only [if_pos c4, if_pos cn]; rw [if_neg (by omega)]; exact t
      · by_cases cl : (v.fs.length : Int) ≤ n0
        · simp only [if_pos c4, if_neg cn, if_pos cl]; rw [if_neg (by omega)]; exact t
        · simp only [if_pos c4, if_neg cn, if_neg cl]; rw [if_pos (by omega)]; exact f
    · by_cases c5 : v.k = 5
      · by_cases cn : n0 < 0
        · simp only [if_neg c4, if_pos c5, if_pos cn]; rw [if_neg (by omega)]; exact t
        · by_cases cl : (v.fs.length : Int) ≤ n0
          · simp only [if_neg c4, if_pos c5, if_neg cn, if_pos cl]; rw [if_neg (by omega)]; exact t
          · simp only [if_neg c4, if_pos c5, if_neg cn, if_neg cl]; rw [if_pos (by omega)]; exact f
      · simp only [if_neg c4, if_neg c5]; rw [if_neg (by omega)]; exact t
theorem from1 {γ : Type} (z : Int) (q : List Int) (k : List D → Option γ) : fromF (pD (z :: q)) (1 : Int) k = k (pD q) := by
  unfold fromF
  rw [if_pos ⟨by omega, by simp only [List.length_map, List.length_cons]; omega⟩]
  rfl
theorem ev7 : ∀ (q : List Int) {v : VV}, VS v → Ev (fun n => F7 n v.k v.i v.nm v.fs v.id v.pt (pD q)) ((getS q v).1.k, (getS q v).1.i, (getS q v).1.nm, (getS q v).1.fs, (getS q v).1.id, (getS q v).1.pt, (getS q v).2)
  | [], v, hv => by
    refine .succ ?_
    simp only [F7, lenF, List.map_nil, List.length_nil, show ((0 : Nat) : Int) = 0 from rfl, if_true]
    refine .succ ?_
    simp only [L7_1, if_true]
    unfold getS
    by_cases c : v.k = 0
    · simp only [if_pos c]
      exact .succ (by simp only [L7_2, if_true]; exact .ret)
    · simp only [if_neg c]
      exact .succ (by simp only [L7_2, Bool.false_eq_true, if_false]; exact Ev.bO6 (ev5 hv) .ret)
  | z :: q, v, hv => by
    have h0' : ∀ {γ : Type} (k : D → Option γ), getF (pD (z :: q)) 0 k = k (.int .i64 z) := fun k => getF_nat (i := 0) rfl
    refine .succ ?_
    simp only [F7, lenF, List.length_map, if_neg (show ¬ ((z :: q).length : Int) = 0 by simp only [List.length_cons]; omega)]
    refine .succ ?_
    simp only [L7_1, Bool.false_eq_true, if_false, h0', ds_i64]
    refine Ev.bO1 (ev16 v z) ?_
    rw [getS]
    by_cases c : leads v z = 0
    · obtain ⟨e1, _, e3⟩ := part_ok hv c
      have hg : ∀ k : D → Option (Int × Int × ByteArray × List D × Int × List D × Int), getF v.fs z k = k (part v z).row := fun k => getF_some (leads_ok c).2.2.1 e1
      simp only [if_pos c, c, if_true]
      refine .succ ?_
      simp only [L7_3, Bool.false_eq_true, if_false, hg, ds25, from1]
      exact Ev.bO7 (ev7 q e3) .ret
    · simp only [if_neg c]
      exact .succ (by simp only [L7_3, if_true]; exact .ret)
theorem setR_cons (z : Int) (q : List Int) (v x : VV) : setR (z :: q) v x = if leads v z = 0 then (if (setR q (part v z) x).2 = 0 then (setp v z (setR q (part v z) x).1, 0) else (zeroV, (setR q (part v z) x).2)) else (zeroV, leads v z) := by
  unfold setR
  rw [setS]
  by_cases c : leads v z = 0
  · rw [if_pos c, if_pos c]
    by_cases g : (setS q (part v z) x).2 = 0
    · simp only [if_pos g, if_true]
    · simp only [if_neg g]
  · rw [if_neg c, if_neg c]
    simp only [if_neg c]
theorem ev9 {x : VV} (hx : VS x) : ∀ (q : List Int) {v : VV}, VS v → Ev (fun n => F9 n v.k v.i v.nm v.fs v.id v.pt (pD q) x.k x.i x.nm x.fs x.id x.pt) ((setR q v x).1.k, (setR q v x).1.i, (setR q v x).1.nm, (setR q v x).1.id, (setR q v x).2, (setR q v x).1.fs, (setR q v x).1.pt)
  | [], v, hv => by
    have e : setR [] v x = (x, 0) := by unfold setR setS; rw [if_pos rfl]
    rw [e]
    refine .succ ?_
    simp only [F9, lenF, List.map_nil, List.length_nil, show ((0 : Nat) : Int) = 0 from rfl, if_true]
    exact .succ (by simp only [L9_1, if_true]; exact Ev.bO6 (ev5 hx) .ret)
  | z :: q, v, hv => by
    have h0' : ∀ {γ : Type} (k : D → Option γ), getF (pD (z :: q)) 0 k = k (.int .i64 z) := fun k => getF_nat (i := 0) rfl
    rw [setR_cons]
    refine .succ ?_
    simp only [F9, lenF, List.length_map, if_neg (show ¬ ((z :: q).length : Int) = 0 by simp only [List.length_cons]; omega)]
    refine .succ ?_
    simp only [L9_1, Bool.false_eq_true, if_false, h0', ds_i64]
    refine Ev.bO1 (ev16 v z) ?_
    by_cases c : leads v z = 0
    · obtain ⟨e1, _, e3⟩ := part_ok hv c
      obtain ⟨_, _, c1, c2⟩ := leads_ok c
      have hg : ∀ k : D → Option (Int × Int × ByteArray × Int × Int × List D × List D), getF v.fs z k = k (part v z).row := fun k => getF_some c1 e1
      simp only [if_pos c, c, if_true]
      refine .succ ?_
      simp only [L9_2, Bool.false_eq_true, if_false, hg, ds25, from1]
      refine Ev.bO7 (ev9 hx q e3) ?_
      by_cases g : (setR q (part v z) x).2 = 0
      · simp only [if_pos g]
        refine .succ ?_
        simp only [L9_3, Bool.false_eq_true, if_false]
        refine Ev.bO6 (ev5 hv) ?_
        simp only [need_pos (show 0 ≤ z ∧ z.toNat < v.fs.length from ⟨c1, c2⟩), getN_some e1, ds25, setF]
        exact .ret
      · simp only [if_neg g]
        exact .succ (by simp only [L9_3, if_true]; exact .ret)
    · simp only [if_neg c]
      exact .succ (by simp only [L9_2, if_true]; exact .ret)
theorem setR_VT {v x : VV} (hv : VS v) (hx : VS x) (q : List Int) : VT (setR q v x).1 := by
  unfold setR
  by_cases c : (setS q v x).2 = 0
  · rw [if_pos c]; exact (setS_VS hx q hv).t
  · rw [if_neg c]; exact zeroV_VT
theorem leads_range (v : VV) (n : Int) : 0 ≤ leads v n ∧ leads v n ≤ 6 := by
  unfold leads
  split
  · omega
  · split <;> omega
theorem getS_range : ∀ (q : List Int) (v : VV), 0 ≤ (getS q v).2 ∧ (getS q v).2 ≤ 6
  | [], v => by rw [getS]; split <;> simp
  | n :: q, v => by
    rw [getS]
    split
    · exact getS_range q _
    · exact leads_range v n
theorem setS_range : ∀ (q : List Int) (v x : VV), 0 ≤ (setS q v x).2 ∧ (setS q v x).2 ≤ 6
  | [], v, x => by rw [setS]; simp
  | n :: q, v, x => by
    rw [setS]
    split
    · exact setS_range q _ x
    · exact leads_range v n
theorem setR_range (q : List Int) (v x : VV) : 0 ≤ (setR q v x).2 ∧ (setR q v x).2 ≤ 6 := by
  unfold setR
  split
  · simp
  · exact setS_range q v x

open Classical in
theorem parts_law {v x : VV} (hv : VT v) (hx : VT x) {q : List Int} (hq : q.length ≤ maxLen) (hw : ∀ z ∈ q, (Lit.int .i64 z).wf = true) : Ev (fun n => F3 n v.k v.i v.nm v.fs v.id v.pt x.k x.i x.nm x.fs x.id x.pt (pD q)) true := by
  unfold F3
  obtain ⟨b, h8, hb⟩ := ev8 hv hx (pD q)
  refine Ev.bO1 h8 ?_
  cases b
  rotate_left
  · simp only [if_true]; exact .ret
  obtain ⟨sv, sx, _⟩ := hb rfl
  simp only [Bool.false_eq_true, if_false]
  refine Ev.bO6 (ev5 sv) (Ev.bO6 (ev5 sx) ?_)
  have self : ∀ {u : VV}, VT u → Ev (fun n => F10x2 n u.k u.i u.nm u.fs u.id u.pt u.k u.i u.nm u.fs u.id u.pt) true := fun h => by
    have := ev11 h h
    rwa [decide_eq_true rfl] at this
  have ga := getS_VT q sv
  have sa := setR_VT sv sx q
  obtain ⟨⟨r1, r2⟩, p1⟩ := spoilL (getS q v).1.fs ga.fs (getS q v).1.k (getS q v).1.i (getS q v).1.nm (getS q v).1.id (getS q v).1.pt ga.pt
  obtain ⟨⟨r3, r4⟩, p2⟩ := spoilL (setR q v x).1.fs sa.fs (setR q v x).1.k (setR q v x).1.i (setR q v x).1.nm (setR q v x).1.id (setR q v x).1.pt sa.pt
  have g0 := getS_range q v
  have s0 := setR_range q v x
  have round : ∀ t : Nat, t ≤ 2 → Ev (fun n => L3_1 n v.k v.i v.nm v.fs v.id v.pt x.k x.i x.nm x.fs x.id x.pt (pD q) v.k v.i v.nm v.id v.fs v.pt x.k x.i x.nm x.id x.fs x.pt (t : Int)) true := by
    refine down 2 ?_ (fun t ht ih => ?_)
    · refine .succ ?_
      simp only [L3_1, if_neg (show ¬ ((2 : Nat) : Int) < 2 by decide)]
      exact .succ (by simp only [L3_2, Bool.false_eq_true, if_false]; exact .ret)
    · refine .succ ?_
      simp only [L3_1, if_pos (show (t : Int) < 2 by omega)]
      refine .succ ?_
      simp only [L3_2, if_true]
      refine Ev.bO7 (ev20 q hq sv) (Ev.bO7 (ev7 q sv) (Ev.bO7 (ev19 sv sx hq hw) (Ev.bO7 (ev9 sx q sv) ?_)))
      refine Ev.bO3 (own11 (getS q v).1 ga (own28 _ ga.fs)) ?_
      simp only [letB, Bool.not_true, Bool.false_eq_true, if_false, letF, iw (z := (getS q v).2) (by omega) (by omega), if_true]
      refine Ev.bO5 (both10 (setR q v x).1 sa (both19 _ sa.fs)) ?_
      simp only [letB, Bool.not_true, Bool.false_eq_true, if_false, letF, iw (z := (setR q v x).2) (by omega) (by omega), if_true]
      refine Ev.bO1 (self hv) ?_
      simp only [letB, Bool.not_true, Bool.false_eq_true, if_false]
      refine Ev.bO1 (self hx) ?_
      simp only [letB, Bool.not_true]
      refine .succ ?_
      simp only [L3_3, Bool.false_eq_true, if_false]
      refine Ev.bO2 p1 (Ev.bO2 p2 ?_)
      simp only [letF, wrap_succ (N := 2) ht (by decide)]
      exact ih
  exact round 0 (by omega)
theorem value_parts_trip : ∀ xs : List D, Shapes tab [25, 25, 23] xs → Trip Try.prog inv 3 (xs.map V1.d) [] (.v (.d (.bool true))) [] [] := by
  intro xs h
  match xs, h with
  | [u, v, w], ⟨u1, u2, v1, v2, x1, x2, _⟩ =>
    obtain ⟨a0, a1, a2, a3, a4, a5, rfl, w0, w1, w2, w3, w4, w5⟩ := rs25 ⟨u1, u2⟩
    obtain ⟨c0, c1, c2, c3, c4, c5, rfl, d0, d1, d2, d3, d4, d5⟩ := rs25 ⟨v1, v2⟩
    obtain ⟨l, rfl, hl⟩ := rs23 ⟨x1, x2⟩
    obtain ⟨q, rfl, hq⟩ := intsS hl
    obtain ⟨n, hn⟩ := (parts_law (v := ⟨a0, a1, a2, a3, a4, a5⟩) (x := ⟨c0, c1, c2, c3, c4, c5⟩) ⟨w0, w1, w2, w3, w4, w5⟩ ⟨d0, d1, d2, d3, d4, d5⟩ (q := q) (by simpa using hl.1) hq).run
    exact T3 n hn
end Go.Proofs.Ytagiiaejijihoaa

namespace Go.Proofs.Ytagiiaejijihoaa
open Go Go.ChangeShapes Go.WideShapes Go.ChangeAt Go.RowKit Go.AM

theorem value_parts_reads : ∀ t ∈ [25, 25, 23], Try.prog.readableRec t = true ∧ t < Try.prog.types.size := by
  have h : ([25, 25, 23].all fun t => Try.prog.readableRec t && decide (t < Try.prog.types.size)) = true := by kernel_rfl
  intro t ht
  have := List.all_eq_true.1 h t ht
  simpa using this

set_option maxRecDepth 100000 in
theorem value_parts_lifted (os : Os) (started : os.Started) (H : Type) (enc : TypeId × Value → H) :
    ReturnsInHanded {} Try.checked os 3 .any (Rows.valuePartsSpec.pre6 enc Try.prog Try.f3 Rows.valuePartsRow.domain false) (Rows.valuePartsSpec.post enc Try.prog Try.f3 false true false false) := by
  refine returnsInHanded_of_change (C := Try.checked) (by kernel_rfl) started (by kernel_rfl) Try.func3
    (ChangeSpec.witness6 (enc := enc) (C := Try.checked) false ⟨#[], #[.agg #[.int .u8 0, .int .i64 0, .string ⟨#[]⟩, .slice none 0 0, .int .i64 0, .slice none 0 0], .agg #[.int .u8 0, .int .i64 0, .string ⟨#[]⟩, .slice none 0 0, .int .i64 0, .slice none 0 0], .slice none 0 0], []⟩ 8 (by kernel_rfl) (by kernel_rfl) (by kernel_rfl) (by kernel_rfl)) ?_
  intro W base args ds gs before hval0 hW _ _
  refine law_calls (ti := tab) (T := [2, 3, 5, 9, 22, 23, 25]) tab_ok (by kernel_rfl) (ts := [25, 25, 23]) (bt := 4) rfl rfl rfl (by kernel_rfl) (by decide) ?_ (by kernel_rfl) value_parts_reads value_parts_trip ⟨trivial, fun _ h => h.elim⟩ hval0 hW
  intro ds h
  match ds, h with
  | [_, _, _], _ => exact ⟨rfl, rfl, rfl⟩
theorem value_parts : Rows.ValuePartsSaid :=
  OpenClaim.holds_of_wide 3 Try.f3 rfl rfl rfl rfl rfl rfl rfl ⟨rfl, rfl, rfl, rfl, rfl⟩ rfl rfl rfl rfl rfl (by kernel_rfl) Try.func3 (by kernel_rfl)
    (of_decide_eq_true (by kernel_rfl)) (by unfold Func.isWrapper; first | (rw [if_pos (by decide +kernel)]; kernel_rfl) | (rw [if_neg (by decide +kernel)]; exact ⟨rfl, rfl⟩))
    (fun os started H enc _ => value_parts_lifted os started H enc)
end Go.Proofs.Ytagiiaejijihoaa
