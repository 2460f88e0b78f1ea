/- ValueInto, ValuePieces, ValueSet, ValueTexts of chapter 19: contracts of the functions, the plain laws, the cards. No condition. (Part 5: VlB, VlIh, VlPh, VlSh, YtagiiaejijihoaaDoorX23, YtagiiaejijihoaaDoorX29, YtagiiaejijihoaaDoorX30, YtagiiaejijihoaaDoorX7, VlC, VlTh.) -/
import Derived.Test.YtagiiaejijihoaaDoorRows
import Derived.Test.YtagiiaejijihoaaDoorTie
import Derived.Test.YtagiiaejijihoaaDoorCards
import Derived.ChangeSame
import Derived.JoinedOf
import Derived.JoinedAt
import Derived.RowKit
import Derived.RowKit2
import Derived.ReadAgain
import Derived.ChangeAlike
import Derived.Lay
import Derived.Handed
import Derived.LaidSub
import Derived.LaidLaws
import Derived.LaidHandle
import Derived.MakeChecks
import Derived.SevenTiedAt
import Derived.Lib.LaidTab
import Derived.Lib.LaidU8
import Derived.Lib.ItoaNum
import Derived.Lib.ItoaLen
import Derived.Test.YtagiiaejijihoaaDoorValD
set_option linter.unusedVariables false
set_option linter.unusedSimpArgs false
set_option linter.unusedVariables false
noncomputable section
namespace Go.Proofs.YtagiiaejijihoaaDoor
open Go Go.AM

theorem evk {α : Type} {A : Nat → Option α} {r : α} (h : ∀ m, A (m + 300) = some r) : Ev A r := ⟨300, fun n hn => by obtain ⟨m, rfl⟩ : ∃ m, n = m + 300 := ⟨n - 300, by omega⟩; exact h m⟩
theorem bO1s {α γ : Type} (a : α) (k : α → Option γ) : bO1 (some a) k = k a := id rfl
theorem Sm.nil : Sm [] := .mk (by simp) (by simp) (by simp)
theorem zeroV_VS : VS zeroV := ⟨zeroV_VT, by decide, .nil⟩
theorem leafVS {k i id : Int} (hk : (Lit.int .u8 k).wf = true) (hi : (Lit.int .i64 i).wf = true) (hid : (Lit.int .i64 id).wf = true) : VS ⟨k, i, ByteArray.empty, [], id, []⟩ :=
  ⟨⟨hk, hi, (show ByteArray.empty.size ≤ maxLen by decide), .nil, hid, .nil⟩, by simp, .nil⟩
theorem nodeVS {a b : VV} {s : ByteArray} (hs : s.size ≤ maxLen) (ha : VS a) (hb : VS b) : VS ⟨4, 0, s, [a.row, b.row], 0, []⟩ := by
  refine ⟨⟨rfl, rfl, hs, .cons ha.t.rowS (.one hb.t.rowS) (show 1 + 1 ≤ maxLen by decide), rfl, .nil⟩, by simp, .mk (by simp) (fun v hv => ?_) (fun v hv => ?_)⟩
  · rcases List.mem_cons.1 hv with h | h
    · rw [row_inj h]; exact ha.p
    · rw [row_inj (List.mem_singleton.1 h)]; exact hb.p
  · rcases List.mem_cons.1 hv with h | h
    · rw [row_inj h]; exact ha.f
    · rw [row_inj (List.mem_singleton.1 h)]; exact hb.f
def w1 : VV := ⟨1, 1, ByteArray.empty, [], 0, []⟩
def w5 : VV := ⟨1, 5, ByteArray.empty, [], 0, []⟩
def bx : VV := ⟨6, 0, ByteArray.empty, [], 7, []⟩
def inn : VV := ⟨4, 0, k_S, [zeroV.row, bx.row], 0, []⟩
def sV : VV := ⟨4, 0, k_S, [w1.row, inn.row], 0, []⟩
theorem w1_VS : VS w1 := leafVS rfl rfl rfl
theorem w5_VS : VS w5 := leafVS rfl rfl rfl
theorem bx_VS : VS bx := leafVS rfl rfl rfl
theorem sV_VS : VS sV := nodeVS (by decide) w1_VS (nodeVS (by decide) zeroV_VS bx_VS)
def cV : VV := (setS [1, 0] sV w5).1
theorem cV_VS : VS cV := setS_VS w5_VS [1, 0] sV_VS
theorem ev_awake : Ev (fun n => F18 n) true := by
  have g1 := ev20 [0] (by decide) sV_VS
  have g2 := ev20 [1, 1] (by decide) sV_VS
  have g3 := ev20 [1, 0] (by decide) sV_VS
  have g4 := ev20 [1, 0, 0] (by decide) sV_VS
  have g5 := ev20 [2] (by decide) sV_VS
  have g6 := ev20 [0, 0] (by decide) sV_VS
  have g7 := ev19 sV_VS w5_VS (q := [1, 0]) (by decide) (by intro z hz; rcases List.mem_cons.1 hz with rfl | hz; rfl; rw [List.mem_singleton.1 hz]; rfl)
  have g8 := ev20 [1, 0] (by decide) cV_VS
  rw [show getS [0] sV = (w1, 0) by kernel_rfl] at g1
  rw [show getS [1, 1] sV = (bx, 0) by kernel_rfl] at g2
  rw [show getS [1, 0] sV = (zeroV, 3) by kernel_rfl] at g3
  rw [show getS [1, 0, 0] sV = (zeroV, 3) by kernel_rfl] at g4
  rw [show getS [2] sV = (zeroV, 6) by kernel_rfl] at g5
  rw [show getS [0, 0] sV = (zeroV, 6) by kernel_rfl] at g6
  rw [show setR [1, 0] sV w5 = (cV, 0) by kernel_rfl] at g7
  rw [show getS [1, 0] cV = (w5, 0) by kernel_rfl] at g8
  have t1 : Ev (fun n => F15 n (1 : Int) (1 : Int) ByteArray.empty ([] : List D) (0 : Int) ([] : List D)) k_i1_0__0____ := evk (fun m => by kernel_rfl)
  have t2 : Ev (fun n => F12 n (1 : Int) (1 : Int) ByteArray.empty ([] : List D) (0 : Int) ([] : List D)) true := evk (fun m => by kernel_rfl)
  have t3 : Ev (fun n => F12 n bx.k bx.i bx.nm bx.fs bx.id bx.pt) false := evk (fun m => by kernel_rfl)
  unfold F18 F22 F36
  simp only [bO1s]
  refine Ev.bO7 g1 (Ev.bO7 g2 (Ev.bO7 g3 (Ev.bO7 g4 (Ev.bO7 g5 (Ev.bO7 g6 (Ev.bO7 g7 (Ev.bO7 g8 ?_)))))))
  simp only [show w1.i = 1 from rfl, show bx.id = 7 from rfl, show w5.i = 5 from rfl, if_true]
  refine Ev.bO1 t1 ?_
  simp only [if_true]
  refine Ev.bO1 t2 ?_
  simp only [if_true]
  exact Ev.bO1 t3 .ret

theorem into_law {v : VV} (hv : VT v) {z : Int} (hz : (Lit.int .i64 z).wf = true) : Ev (fun n => F6 n v.k v.i v.nm v.fs v.id v.pt z) true := by
  unfold F6
  refine Ev.bO1 ev_awake ?_
  simp only [letB, Bool.not_true, Bool.false_eq_true, if_false]
  obtain ⟨b, h8, hb⟩ := ev8 hv zeroV_VT []
  refine Ev.bO1 h8 ?_
  cases b
  rotate_left
  · simp only [if_true]; exact .ret
  obtain ⟨hv, _, _⟩ := hb rfl
  simp only [Bool.false_eq_true, if_false, F22, bO1s]
  have hw : ∀ y ∈ [z], (Lit.int .i64 y).wf = true := fun y hy => by rw [List.mem_singleton.1 hy]; exact hz
  refine Ev.bO7 (ev19 hv w1_VS (q := [z]) (show 1 ≤ maxLen by decide) hw) (Ev.bO7 (ev20 [z] (show 1 ≤ maxLen by decide) hv) ?_)
  have e1 : (setR [z] v w1).2 = leads v z := by
    unfold setR setS
    by_cases c : leads v z = 0
    · rw [if_pos c]; unfold setS; rw [if_pos rfl, c]
    · rw [if_neg c, if_neg c]
  have e2 : (getS [z] v).2 = if leads v z = 0 then (if (part v z).k = 0 then 3 else 0) else leads v z := by
    rw [getS]
    by_cases c : leads v z = 0
    · rw [if_pos c, if_pos c]; unfold getS; split <;> rfl
    · rw [if_neg c, if_neg c]
  simp only [e1, e2]
  -- how many parts
  have tail : ∀ z28 : Int, (z28 = if v.k = 4 ∨ v.k = 5 then (v.fs.length : Int) else 0) → Ev (fun n => L6_2 n v.k v.fs z (leads v z) (if leads v z = 0 then (if (part v z).k = 0 then 3 else 0) else leads v z) z28) true := by
    intro z28 h28
    refine .succ ?_
    simp only [L6_2]
    by_cases c0 : v.k = 0
    · have hl : leads v z = 3 := by unfold leads; rw [if_pos c0]
      simp only [if_pos c0, hl, if_neg (show ¬ (3 : Int) = 0 by decide)]
      exact .succ (by simp only [L6_3, if_true]; exact .ret)
    · simp only [if_neg c0]
      have six : leads v z = 6 → Ev (fun n => L6_4 n v.fs z (leads v z) (if leads v z = 0 then (if (part v z).k = 0 then 3 else 0) else leads v z) true) true := fun hl => by
        simp only [hl, if_neg (show ¬ (6 : Int) = 0 by decide)]
        exact .succ (by simp only [L6_4, if_true]; exact .ret)
      refine .succ ?_
      simp only [L6_3, Bool.false_eq_true, if_false]
      by_cases cn : z < 0
      · simp only [if_pos cn]
        exact six (by unfold leads; rw [if_neg c0, if_neg (by omega)])
      · by_cases cl : z28 ≤ z
        · simp only [if_neg cn, if_pos cl]
          refine six ?_
          unfold leads
          rw [if_neg c0, if_neg]
          intro h
          rw [if_pos h.1] at h28
          omega
        · have hk : v.k = 4 ∨ v.k = 5 := by
            by_cases h : v.k = 4 ∨ v.k = 5
            · exact h
            · rw [if_neg h] at h28; omega
          rw [if_pos hk] at h28
          have hl : leads v z = 0 := by unfold leads; rw [if_neg c0, if_pos ⟨hk, by omega, by omega⟩]
          obtain ⟨p1, p2, p3⟩ := part_ok hv hl
          have hg : ∀ k : D → Option Bool, getF v.fs z k = k (part v z).row := fun k => getF_some (leads_ok hl).2.2.1 p1
          simp only [if_neg cn, if_neg cl, hl, if_true]
          refine .succ ?_
          by_cases cp : (part v z).k = 0
          · simp only [L6_4, Bool.false_eq_true, if_false, if_true, if_pos cp, if_neg (show ¬ (3 : Int) = 0 by decide), hg, ds25]
            exact .ret
          · simp only [L6_4, Bool.false_eq_true, if_false, if_true, if_neg cp, hg, ds25]
            exact .ret
  have go1 : (v.k = 4 ∨ v.k = 5) → Ev (fun n => L6_1 n v.k v.fs z (leads v z) (if leads v z = 0 then (if (part v z).k = 0 then 3 else 0) else leads v z) true) true := fun h => by
    refine .succ ?_
    simp only [L6_1, if_true, lenF]
    exact tail _ (by rw [if_pos h])
  by_cases c4 : v.k = 4
  · simp only [if_pos c4]; exact go1 (.inl c4)
  · by_cases c5 : v.k = 5
    · simp only [if_neg c4, if_pos c5]; exact go1 (.inr c5)
    · simp only [if_neg c4, if_neg c5]
      refine .succ ?_
      simp only [L6_1, Bool.false_eq_true, if_false]
      exact tail _ (by rw [if_neg (by omega)])

theorem getS_app : ∀ (p r : List Int) (v : VV), ((getS p v).2 = 0 → getS (p ++ r) v = getS r (getS p v).1) ∧ ((getS p v).2 ≠ 0 → (getS (p ++ r) v).2 = (getS p v).2)
  | [], r, v => by
    by_cases c : v.k = 0
    · have e : getS [] v = (zeroV, 3) := by unfold getS; rw [if_pos c]
      rw [e, List.nil_append]
      refine ⟨fun h => absurd h (by show ¬ (3 : Int) = 0; decide), fun _ => ?_⟩
      cases r with
      | nil => rw [e]
      | cons n r =>
        have hl : leads v n = 3 := by unfold leads; rw [if_pos c]
        unfold getS
        rw [hl, if_neg (by decide)]
    · have e : getS [] v = (v, 0) := by unfold getS; rw [if_neg c]
      rw [e, List.nil_append]
      exact ⟨fun _ => rfl, fun h => absurd rfl h⟩
  | n :: p, r, v => by
    have e1 : getS (n :: p) v = if leads v n = 0 then getS p (part v n) else (zeroV, leads v n) := by rw [getS]
    have e2 : getS (n :: p ++ r) v = if leads v n = 0 then getS (p ++ r) (part v n) else (zeroV, leads v n) := by rw [List.cons_append, getS]
    rw [e1, e2]
    by_cases c : leads v n = 0
    · rw [if_pos c, if_pos c]; exact getS_app p r (part v n)
    · rw [if_neg c, if_neg c]; exact ⟨fun h => absurd h c, fun _ => rfl⟩
open Classical in
theorem pieces_law {v : VV} (hv : VT v) {q : List Int} (hq : q.length ≤ maxLen) {z : Int} : Ev (fun n => F5 n v.k v.i v.nm v.fs v.id v.pt (pD q) z) true := by
  unfold F5
  refine Ev.bO1 ev_awake ?_
  simp only [letB, Bool.not_true, Bool.false_eq_true, if_false]
  obtain ⟨b, h8, hb⟩ := ev8 hv zeroV_VT (pD q)
  refine Ev.bO1 h8 ?_
  have stop : Ev (fun n => L5_1 n v.k v.i v.nm v.fs v.id v.pt (pD q) z true) true := .succ (by simp only [L5_1, if_true]; exact .ret)
  cases b
  rotate_left
  · simp only [if_true]; exact stop
  obtain ⟨hv, _, _⟩ := hb rfl
  simp only [Bool.false_eq_true, if_false, lenF, List.length_map]
  by_cases c1 : z < 0
  · simp only [if_pos c1]; exact stop
  by_cases c2 : (q.length : Int) < z
  · simp only [if_neg c1, if_pos c2]; exact stop
  simp only [if_neg c1, if_neg c2]
  obtain ⟨k, rfl⟩ : ∃ k : Nat, z = (k : Int) := ⟨z.toNat, by omega⟩
  have hk : k ≤ q.length := by omega
  have hs : ∀ {γ : Type} (f : List D → Option γ), sliceF (pD q) (0 : Int) (k : Int) f = f (pD (q.take k)) := by
    intro γ f
    unfold sliceF
    rw [if_pos ⟨by omega, by omega, by simp only [List.length_map]; omega⟩]
    simp
  have hf : ∀ {γ : Type} (f : List D → Option γ), fromF (pD q) (k : Int) f = f (pD (q.drop k)) := by
    intro γ f
    unfold fromF
    rw [if_pos ⟨by omega, by simp only [List.length_map]; omega⟩]
    simp
  refine .succ ?_
  simp only [L5_1, Bool.false_eq_true, if_false, hs]
  refine Ev.bO7 (ev20 q hq hv) (Ev.bO7 (ev20 (q.take k) (by rw [List.length_take]; omega) hv) ?_)
  obtain ⟨a1, a2⟩ := getS_app (q.take k) (q.drop k) v
  rw [List.take_append_drop] at a1 a2
  by_cases g : (getS (q.take k) v).2 = 0
  · have hp := getS_VS (q.take k) hv g
    simp only [if_pos g]
    refine .succ ?_
    simp only [L5_2, Bool.false_eq_true, if_false, hf]
    refine Ev.bO7 (ev20 (q.drop k) (by rw [List.length_drop]; omega) hp) ?_
    rw [← a1 g]
    simp only [if_true]
    have := ev11 (getS_VT q hv) (getS_VT q hv)
    rw [decide_eq_true rfl] at this
    exact Ev.bO1 this .ret
  · simp only [if_neg g]
    refine .succ ?_
    simp only [L5_2, if_true, a2 g]
    exact .ret

theorem leads_setp {v w : VV} {n m : Int} : leads (setp v n w) m = leads v m := by
  unfold leads setp
  simp only [List.length_set]
theorem part_setp {v w : VV} {n : Int} (h : leads v n = 0) : part (setp v n w) n = w := by
  unfold part setp
  simp only
  rw [List.getElem?_set_self (leads_ok h).2.2.2]
  rfl
theorem part_setp_ne {v w : VV} {n m : Int} (h : n.toNat ≠ m.toNat) : part (setp v n w) m = part v m := by
  unfold part setp
  simp only
  rw [List.getElem?_set_ne h]
theorem setp_setp {v w u : VV} {n : Int} : setp (setp v n w) n u = setp v n u := by
  unfold setp
  simp only [List.set_set]
theorem setp_part {v : VV} (hv : VS v) {n : Int} (h : leads v n = 0) : setp v n (part v n) = v := by
  obtain ⟨h1, _, _⟩ := part_ok hv h
  unfold setp
  have : v.fs.set n.toNat (part v n).row = v.fs := by
    apply List.ext_getElem?
    intro i
    by_cases e : n.toNat = i
    · subst e
      rw [List.getElem?_set_self (leads_ok h).2.2.2, h1]
    · rw [List.getElem?_set_ne e]
  rw [this]
theorem set_ok {n : Int} {p : List Int} {v x : VV} (h : (setS (n :: p) v x).2 = 0) : leads v n = 0 ∧ (setS p (part v n) x).2 = 0 ∧ (setS (n :: p) v x).1 = setp v n (setS p (part v n) x).1 := by
  rw [setS] at h ⊢
  by_cases c : leads v n = 0
  · rw [if_pos c] at h ⊢; exact ⟨c, h, rfl⟩
  · rw [if_neg c] at h; exact absurd h c
theorem get_set : ∀ (p : List Int) (v x : VV), (setS p v x).2 = 0 → getS p (setS p v x).1 = if x.k = 0 then (zeroV, 3) else (x, 0)
  | [], v, x, _ => by rw [setS, getS]
  | n :: p, v, x, h => by
    obtain ⟨h1, h2, h3⟩ := set_ok h
    rw [h3, getS, leads_setp, if_pos h1, part_setp h1]
    exact get_set p (part v n) x h2
theorem get_other : ∀ (p o : List Int) (v x : VV), (setS p v x).2 = 0 → p.take o.length ≠ o → o.take p.length ≠ p → getS o (setS p v x).1 = getS o v
  | [], o, v, x, _, _, h => absurd (by simp) h
  | n :: p, [], v, x, _, h, _ => absurd (by simp) h
  | n :: p, m :: o, v, x, h, ha, hb => by
    obtain ⟨h1, h2, h3⟩ := set_ok h
    rw [h3, getS, getS, leads_setp]
    by_cases c : leads v m = 0
    · rw [if_pos c, if_pos c]
      by_cases e : n = m
      · subst e
        rw [part_setp h1]
        exact get_other p o (part v n) x h2 (fun h => ha (by simp [h])) (fun h => hb (by simp [h]))
      · have := (leads_ok h1).2.2.1
        have := (leads_ok c).2.2.1
        rw [part_setp_ne (by omega)]
    · rw [if_neg c, if_neg c]
theorem set_back : ∀ (p : List Int) (v x : VV), VS v → (setS p v x).2 = 0 → (getS p v).2 = 0 → setS p (setS p v x).1 (getS p v).1 = (v, 0)
  | [], v, x, _, _, h => by
    have e : getS [] v = (v, 0) := by
      rw [getS] at h ⊢
      by_cases c : v.k = 0
      · rw [if_pos c] at h; exact absurd h (by show ¬ (3 : Int) = 0; decide)
      · rw [if_neg c]
    rw [e, setS]
  | n :: p, v, x, hv, h, hg => by
    obtain ⟨h1, h2, h3⟩ := set_ok h
    have e : getS (n :: p) v = getS p (part v n) := by rw [getS, if_pos h1]
    rw [e] at hg ⊢
    rw [h3, setS, leads_setp, if_pos h1, part_setp h1, set_back p (part v n) x (part_ok hv h1).2.2 h2 hg]
    simp only [setp_setp, setp_part hv h1]
theorem ev21 {a b : List Int} (ha : a.length ≤ maxLen) (hb : b.length ≤ maxLen) : Ev (fun n => F21 n (pD a) (pD b)) (decide (a.take b.length = b)) := by
  unfold F21
  simp only [lenF, List.length_map]
  by_cases c : a.length < b.length
  · simp only [if_pos (ilt c)]
    rw [decide_eq_false (fun h => by have := congrArg List.length h; rw [List.length_take] at this; omega)]
    exact .succ (by simp only [L21_1, if_true]; exact .ret)
  · simp only [if_neg (show ¬ (a.length : Int) < (b.length : Int) by omega)]
    refine .succ ?_
    simp only [L21_1, Bool.false_eq_true, if_false]
    have loop : ∀ i : Nat, i ≤ b.length → Ev (fun n => L21_2 n (pD a) (pD b) (i : Int)) (decide ((a.drop i).take (b.length - i) = b.drop i)) := by
      refine down _ ?_ (fun i hi ih => ?_)
      · rw [Nat.sub_self, List.take_zero, List.drop_length, decide_eq_true rfl]
        refine .succ ?_
        simp only [L21_2, lenF, List.length_map, Int.lt_irrefl, if_false]
        exact .succ (by simp only [L21_3, Bool.false_eq_true, if_false]; exact .ret)
      · have hi' : i < a.length := by omega
        have h1 : (pD a)[i]? = some (.int .i64 a[i]) := by simp [hi']
        have h2 : (pD b)[i]? = some (.int .i64 b[i]) := by simp [hi]
        have d1 := List.drop_eq_getElem_cons hi'
        have d2 := List.drop_eq_getElem_cons hi
        obtain ⟨j, hj⟩ : ∃ j, b.length - i = j + 1 := ⟨b.length - i - 1, by omega⟩
        have hj' : b.length - (i + 1) = j := by omega
        rw [hj'] at ih
        have e : ((a.drop i).take (b.length - i) = b.drop i) ↔ (a[i] = b[i] ∧ (a.drop (i + 1)).take j = b.drop (i + 1)) := by
          rw [hj, d1, d2, List.take_succ_cons]
          exact ⟨fun h => List.cons.inj h, fun h => by rw [h.1, h.2]⟩
        refine .succ ?_
        simp only [L21_2, lenF, List.length_map, if_pos (ilt hi)]
        refine .succ ?_
        simp only [L21_3, if_true, getF_nat h1, getF_nat h2, ds_i64]
        by_cases c2 : a[i] = b[i]
        · simp only [if_pos c2]
          refine .succ ?_
          simp only [L21_4, Bool.false_eq_true, if_false, letF, wrap_succ hi hb]
          rw [decide_eq_decide.2 (e.trans ⟨fun h => h.2, fun h => ⟨c2, h⟩⟩)]
          exact ih
        · simp only [if_neg c2]
          rw [decide_eq_false (fun h => c2 (e.1 h).1)]
          exact .succ (by simp only [L21_4, if_true]; exact .ret)
    have := loop 0 (Nat.zero_le _)
    simpa using this
open Classical in
theorem same_self {v : VV} (h : VT v) : Ev (fun n => F11 n v.k v.i v.nm v.fs v.id v.pt v.k v.i v.nm v.fs v.id v.pt) true := by
  have := ev11 h h
  rwa [decide_eq_true rfl] at this
theorem set_law {v x : VV} (hv : VT v) (hx : VT x) {q o : List Int} (hq : q.length ≤ maxLen) (hw : ∀ z ∈ q, (Lit.int .i64 z).wf = true) (ho : o.length ≤ maxLen) :
    Ev (fun n => F4 n v.k v.i v.nm v.fs v.id v.pt x.k x.i x.nm x.fs x.id x.pt (pD q) (pD o)) true := by
  unfold F4
  refine Ev.bO1 ev_awake ?_
  simp only [letB, Bool.not_true, Bool.false_eq_true, if_false]
  obtain ⟨b, h8, hb⟩ := ev8 hv hx (pD q)
  refine Ev.bO1 h8 ?_
  have stop : Ev (fun n => L4_1 n v.k v.i v.nm v.fs v.id v.pt x.k x.i x.nm x.fs x.id x.pt (pD q) (pD o) true) true := .succ (by simp only [L4_1, if_true]; exact .ret)
  cases b
  rotate_left
  · simp only [if_true]; exact stop
  obtain ⟨hv, hx, _⟩ := hb rfl
  simp only [Bool.false_eq_true, if_false, lenF, List.length_map]
  by_cases c1 : (100 : Int) < (o.length : Int)
  · simp only [if_pos c1]; exact stop
  simp only [if_neg c1]
  refine .succ ?_
  simp only [L4_1, Bool.false_eq_true, if_false]
  refine Ev.bO7 (ev19 hv hx hq hw) ?_
  by_cases f : (setS q v x).2 = 0
  · have e : setR q v x = ((setS q v x).1, 0) := by unfold setR; rw [if_pos f]
    rw [e]
    have hout : VS (setS q v x).1 := setS_VS hx q hv
    simp only [if_true]
    refine .succ ?_
    simp only [L4_2, Bool.false_eq_true, if_false]
    have g1 := ev20 q hq hout
    have gs := get_set q v x f
    -- the last part
    have last : Ev (fun n => L4_6 n v.k v.i v.nm v.fs v.id v.pt (pD q) (setS q v x).1.k (setS q v x).1.i (setS q v x).1.nm (setS q v x).1.id (setS q v x).1.fs (setS q v x).1.pt) true := by
      refine .succ ?_
      simp only [L4_6]
      have hwas : VS (getS q v).1 := by
        by_cases g : (getS q v).2 = 0
        · exact getS_VS q hv g
        · have h2 := getS_app q [] v
          have : ∀ (q : List Int) (v : VV), (getS q v).2 ≠ 0 → (getS q v).1 = zeroV := by
            intro q
            induction q with
            | nil =>
              intro v h
              rw [getS] at h ⊢
              by_cases c : v.k = 0
              · rw [if_pos c]
              · rw [if_neg c] at h; exact absurd rfl h
            | cons n q ih =>
              intro v h
              rw [getS] at h ⊢
              by_cases c : leads v n = 0
              · rw [if_pos c] at h ⊢; exact ih _ h
              · rw [if_neg c]
          rw [this q v g]; exact zeroV_VS
      refine Ev.bO7 (ev20 q hq hv) (Ev.bO7 (ev19 hout hwas hq hw) ?_)
      by_cases g : (getS q v).2 = 0
      · have sb := set_back q v x hv f g
        have e2 : setR q (setS q v x).1 (getS q v).1 = (v, 0) := by unfold setR; rw [sb, if_pos rfl]
        simp only [if_pos g, e2, if_true]
        exact Ev.bO1 (same_self hv.t) .ret
      · simp only [if_neg g]; exact .ret
    have l5 : Ev (fun n => L4_5 n v.k v.i v.nm v.fs v.id v.pt (pD q) (setS q v x).1.k (setS q v x).1.i (setS q v x).1.nm (setS q v x).1.id (setS q v x).1.fs (setS q v x).1.pt false) true := .succ (by
      simp only [L4_5, Bool.false_eq_true, if_false]; exact last)
    have l4f : Ev (fun n => L4_4 n v.k v.i v.nm v.fs v.id v.pt (pD q) (pD o) (setS q v x).1.k (setS q v x).1.i (setS q v x).1.nm (setS q v x).1.id (setS q v x).1.fs (setS q v x).1.pt false) true := .succ (by
      simp only [L4_4, Bool.false_eq_true, if_false]; exact last)
    have l3 : Ev (fun n => L4_3 n v.k v.i v.nm v.fs v.id v.pt (pD q) (pD o) (setS q v x).1.k (setS q v x).1.i (setS q v x).1.nm (setS q v x).1.id (setS q v x).1.fs (setS q v x).1.pt false) true := by
      refine .succ ?_
      simp only [L4_3, Bool.false_eq_true, if_false]
      refine Ev.bO1 (ev21 hq ho) ?_
      by_cases ha : q.take o.length = o
      · simp only [decide_eq_true ha, letB, Bool.not_true, Bool.false_eq_true, if_false]; exact l4f
      · simp only [decide_eq_false ha, letB, Bool.not_false, if_true]
        refine Ev.bO1 (ev21 ho hq) ?_
        by_cases hb : o.take q.length = q
        · simp only [decide_eq_true hb, letB, Bool.not_true]; exact l4f
        · simp only [decide_eq_false hb, letB, Bool.not_false]
          refine .succ ?_
          simp only [L4_4, if_true]
          have g2 := ev20 o ho hout
          rw [get_other q o v x f ha hb] at g2
          refine Ev.bO7 (ev20 o ho hv) (Ev.bO7 g2 ?_)
          simp only [if_true]
          refine Ev.bO1 (same_self (getS_VT o hv)) ?_
          simp only [letB, Bool.not_true]
          exact l5
    by_cases ck : x.k = 0
    · rw [gs, if_pos ck] at g1
      refine Ev.bO7 g1 ?_
      simp only [if_pos ck, if_true]
      exact l3
    · rw [gs, if_neg ck] at g1
      refine Ev.bO7 g1 ?_
      simp only [if_neg ck, if_true]
      refine Ev.bO1 (same_self hx.t) ?_
      simp only [letB, Bool.not_true]
      exact l3
  · have e : setR q v x = (zeroV, (setS q v x).2) := by unfold setR; rw [if_neg f]
    rw [e]
    simp only [if_neg f]
    refine .succ ?_
    simp only [L4_2, if_true]
    exact Ev.bO1 (same_self zeroV_VT) .ret

theorem value_into_trip : ∀ xs : List D, Shapes tab [25, 3] xs → Trip Tryd.prog inv 6 (xs.map V1.d) [] (.v (.d (.bool true))) [] [] := by
  intro xs h
  match xs, h with
  | [u, v], ⟨u1, u2, v1, v2, _⟩ =>
    obtain ⟨a0, a1, a2, a3, a4, a5, rfl, w0, w1, w2, w3, w4, w5⟩ := rs25 ⟨u1, u2⟩
    obtain ⟨z, rfl, hz⟩ := rs3 ⟨v1, v2⟩
    obtain ⟨n, hn⟩ := (into_law (v := ⟨a0, a1, a2, a3, a4, a5⟩) ⟨w0, w1, w2, w3, w4, w5⟩ hz).run
    exact T6 n hn
theorem value_pieces_trip : ∀ xs : List D, Shapes tab [25, 23, 3] xs → Trip Tryd.prog inv 5 (xs.map V1.d) [] (.v (.d (.bool true))) [] [] := by
  intro xs h
  match xs, h with
  | [u, v, x], ⟨u1, u2, v1, v2, x1, x2, _⟩ =>
    obtain ⟨a0, a1, a2, a3, a4, a5, rfl, w0, w1, w2, w3, w4, w5⟩ := rs25 ⟨u1, u2⟩
    obtain ⟨l, rfl, hl⟩ := rs23 ⟨v1, v2⟩
    obtain ⟨z, rfl, hz⟩ := rs3 ⟨x1, x2⟩
    obtain ⟨q, rfl, hq⟩ := intsS hl
    obtain ⟨n, hn⟩ := (pieces_law (v := ⟨a0, a1, a2, a3, a4, a5⟩) ⟨w0, w1, w2, w3, w4, w5⟩ (q := q) (z := z) (by simpa using hl.1)).run
    exact T5 n hn
theorem value_set_trip : ∀ xs : List D, Shapes tab [25, 25, 23, 23] xs → Trip Tryd.prog inv 4 (xs.map V1.d) [] (.v (.d (.bool true))) [] [] := by
  intro xs h
  match xs, h with
  | [u, v, x, y], ⟨u1, u2, v1, v2, x1, x2, y1, y2, _⟩ =>
    obtain ⟨a0, a1, a2, a3, a4, a5, rfl, w0, w1, w2, w3, w4, w5⟩ := rs25 ⟨u1, u2⟩
    obtain ⟨c0, c1, c2, c3, c4, c5, rfl, d0, d1, d2, d3, d4, d5⟩ := rs25 ⟨v1, v2⟩
    obtain ⟨l, rfl, hl⟩ := rs23 ⟨x1, x2⟩
    obtain ⟨m, rfl, hm⟩ := rs23 ⟨y1, y2⟩
    obtain ⟨q, rfl, hq⟩ := intsS hl
    obtain ⟨o, rfl, ho⟩ := intsS hm
    obtain ⟨n, hn⟩ := (set_law (v := ⟨a0, a1, a2, a3, a4, a5⟩) (x := ⟨c0, c1, c2, c3, c4, c5⟩) ⟨w0, w1, w2, w3, w4, w5⟩ ⟨d0, d1, d2, d3, d4, d5⟩ (q := q) (o := o) (by simpa using hl.1) hq (by simpa using hm.1)).run
    exact T4 n hn
end Go.Proofs.YtagiiaejijihoaaDoor

namespace Go.Proofs.YtagiiaejijihoaaDoor
open Go Go.ChangeShapes Go.WideShapes Go.ChangeAt Go.RowKit Go.AM

theorem value_into_reads : ∀ t ∈ [25, 3], Tryd.prog.readableRec t = true ∧ t < Tryd.prog.types.size := by
  have h : ([25, 3].all fun t => Tryd.prog.readableRec t && decide (t < Tryd.prog.types.size)) = true := by kernel_rfl
  intro t ht
  have := List.all_eq_true.1 h t ht
  simpa using this

theorem value_into_inv {W : World} (h : laidMet Tryd.prog Rows.valueIntoRow.laid W) : inv.at W fun _ _ => False := by
  have e : (Rows.valueIntoRow.laid.filter fun x => x.1 == "internal/strconv.uint64pow10") = [("internal/strconv.uint64pow10", Lib.tabData .u64 Lib.pow10Tab)] := by kernel_rfl
  have h2 := laidMet.filter (fun x => x.1 == "internal/strconv.uint64pow10") h
  rw [e] at h2
  have ht : Lib.TabIs Tryd.prog W "internal/strconv.uint64pow10" .u64 Lib.pow10Tab := by
    exact Lib.tabIs_of_head (g := 0) (t := 76) (e := 68) (n := 20) (by kernel_rfl) (by kernel_rfl) (by kernel_rfl) (by kernel_rfl) (by kernel_rfl) (by kernel_rfl) h2
  refine ⟨ht, fun b hb => ⟨?_, fun _ h => h⟩⟩
  have hb : Tryd.prog.globalNamed "internal/strconv.uint64pow10" = some b := hb
  unfold Lib.TabIs World.var? at ht
  rw [hb] at ht
  simp only [Option.bind_some] at ht
  cases hx : W.heap[b]? with
  | none => rw [hx] at ht; simp at ht
  | some o => exact (Array.getElem?_eq_some_iff.1 hx).1

set_option maxRecDepth 100000 in
theorem value_into_lifted (os : Os) (started : os.Started) (H : Type) (enc : TypeId × Value → H) :
    ReturnsInHanded {} Tryd.checked os 6 .any (fun w args => (Rows.valueIntoSpec.pre enc Tryd.prog Tryd.f6 Rows.valueIntoRow.domain false w args ∧ laidMetH Tryd.prog Rows.valueIntoRow.laid w) ∧ sizedMet enc Tryd.prog Tryd.f6 (OpenSpec.ofChange Rows.valueIntoSpec) false w args)
      (Rows.valueIntoSpec.post enc Tryd.prog Tryd.f6 false true false false) := by
  refine returnsInHanded_of_change_and (C := Tryd.checked) (X := fun w _ => laidMetH Tryd.prog Rows.valueIntoRow.laid w) (fun _ _ _ hh h => h.of_heap hh) (by kernel_rfl) started (by kernel_rfl) Tryd.func6
    (ChangeSpec.witness_shaped (enc := enc) (C := Tryd.checked) (os := os) (X := fun w _ => laidMetH Tryd.prog Rows.valueIntoRow.laid w) false (World.laidAll Tryd.prog os Rows.valueIntoRow.laid) #[.agg #[.int .u8 0, .int .i64 0, .string ⟨#[]⟩, .slice none 0 0, .int .i64 0, .slice none 0 0], .int .i64 0] 8 (World.laidAll_os _ _ _)
      (World.shaped_of_ZipB (by kernel_rfl) (by kernel_rfl)) (by kernel_rfl) (by kernel_rfl) (by kernel_rfl)
      (by rw [MakeChecks.laidMetH_plain _ _ _ (by kernel_rfl)]; exact laidMet_laidAll _ (by kernel_rfl) (by kernel_rfl))) ?_
  intro W base args ds gs before hval0 hW _ _ hL _
  rw [MakeChecks.laidMetH_plain _ _ _ (by kernel_rfl)] at hL
  refine law_calls (ti := tab) (T := [2, 3, 5, 9, 22, 23, 25]) tab_ok (by kernel_rfl) (ts := [25, 3]) (bt := 4) rfl rfl rfl (by kernel_rfl) (by decide) ?_ (by kernel_rfl) value_into_reads value_into_trip (value_into_inv hL) hval0 hW
  intro ds h
  match ds, h with
  | [_, _], _ => exact ⟨rfl, rfl, rfl⟩
theorem value_into_row : Rows.ValueIntoSaid :=
  OpenClaim.holds_of_wide 6 Tryd.f6 rfl rfl rfl rfl rfl rfl rfl ⟨rfl, rfl, rfl, rfl, rfl⟩ rfl rfl rfl rfl rfl (by kernel_rfl) Tryd.func6 (by kernel_rfl)
    (of_decide_eq_true (by kernel_rfl)) (by unfold Func.isWrapper; first | (rw [if_pos (by decide +kernel)]; kernel_rfl) | (rw [if_neg (by decide +kernel)]; exact ⟨rfl, rfl⟩))
    (fun os started H enc _ => value_into_lifted os started H enc)
theorem value_into : Rows.ValueIntoCardSaid :=
  Claim7.holds_tied_plain_at .later [] [.data, .data, .data] true Rows.valueIntoCard.stood.harness false value_into_row (fun _ h => by cases h) (by kernel_rfl) (fun _ h => by cases h) valueInto_row_tie rfl ⟨rfl, rfl⟩ (by kernel_rfl) rfl
    (fun f fn hf hfn => by
      obtain rfl : f = 6 := Option.some.inj ((show Tryd.prog.funcNamed "weftway/weftwaylaw19.ValueInto" = some 6 by kernel_rfl).symm.trans hf) |>.symm
      obtain rfl : fn = Tryd.f6 := (Option.some.inj (Tryd.func6.symm.trans hfn)).symm
      exact ⟨by kernel_rfl, fun j t ht => by
        have hm : t ∈ [25, 3] := by
          have hp : Tryd.f6.params.toList = [25, 3] := rfl
          rw [← hp]; simpa using Array.mem_of_getElem? ht
        have hall : ([25, 3].all fun u => !Tryd.prog.wantsStandIn u) = true := by kernel_rfl
        exact (show Tryd.prog.wantsStandIn t = false by simpa using List.all_eq_true.1 hall t hm)⟩)
    (by kernel_rfl)
end Go.Proofs.YtagiiaejijihoaaDoor

namespace Go.Proofs.YtagiiaejijihoaaDoor
open Go Go.ChangeShapes Go.WideShapes Go.ChangeAt Go.RowKit Go.AM

theorem value_pieces_reads : ∀ t ∈ [25, 23, 3], Tryd.prog.readableRec t = true ∧ t < Tryd.prog.types.size := by
  have h : ([25, 23, 3].all fun t => Tryd.prog.readableRec t && decide (t < Tryd.prog.types.size)) = true := by kernel_rfl
  intro t ht
  have := List.all_eq_true.1 h t ht
  simpa using this

theorem value_pieces_inv {W : World} (h : laidMet Tryd.prog Rows.valuePiecesRow.laid W) : inv.at W fun _ _ => False := by
  have e : (Rows.valuePiecesRow.laid.filter fun x => x.1 == "internal/strconv.uint64pow10") = [("internal/strconv.uint64pow10", Lib.tabData .u64 Lib.pow10Tab)] := by kernel_rfl
  have h2 := laidMet.filter (fun x => x.1 == "internal/strconv.uint64pow10") h
  rw [e] at h2
  have ht : Lib.TabIs Tryd.prog W "internal/strconv.uint64pow10" .u64 Lib.pow10Tab := by
    exact Lib.tabIs_of_head (g := 0) (t := 76) (e := 68) (n := 20) (by kernel_rfl) (by kernel_rfl) (by kernel_rfl) (by kernel_rfl) (by kernel_rfl) (by kernel_rfl) h2
  refine ⟨ht, fun b hb => ⟨?_, fun _ h => h⟩⟩
  have hb : Tryd.prog.globalNamed "internal/strconv.uint64pow10" = some b := hb
  unfold Lib.TabIs World.var? at ht
  rw [hb] at ht
  simp only [Option.bind_some] at ht
  cases hx : W.heap[b]? with
  | none => rw [hx] at ht; simp at ht
  | some o => exact (Array.getElem?_eq_some_iff.1 hx).1

set_option maxRecDepth 100000 in
theorem value_pieces_lifted (os : Os) (started : os.Started) (H : Type) (enc : TypeId × Value → H) :
    ReturnsInHanded {} Tryd.checked os 5 .any (fun w args => (Rows.valuePiecesSpec.pre enc Tryd.prog Tryd.f5 Rows.valuePiecesRow.domain false w args ∧ laidMetH Tryd.prog Rows.valuePiecesRow.laid w) ∧ sizedMet enc Tryd.prog Tryd.f5 (OpenSpec.ofChange Rows.valuePiecesSpec) false w args)
      (Rows.valuePiecesSpec.post enc Tryd.prog Tryd.f5 false true false false) := by
  refine returnsInHanded_of_change_and (C := Tryd.checked) (X := fun w _ => laidMetH Tryd.prog Rows.valuePiecesRow.laid w) (fun _ _ _ hh h => h.of_heap hh) (by kernel_rfl) started (by kernel_rfl) Tryd.func5
    (ChangeSpec.witness_shaped (enc := enc) (C := Tryd.checked) (os := os) (X := fun w _ => laidMetH Tryd.prog Rows.valuePiecesRow.laid w) false (World.laidAll Tryd.prog os Rows.valuePiecesRow.laid) #[.agg #[.int .u8 0, .int .i64 0, .string ⟨#[]⟩, .slice none 0 0, .int .i64 0, .slice none 0 0], .slice none 0 0, .int .i64 0] 8 (World.laidAll_os _ _ _)
      (World.shaped_of_ZipB (by kernel_rfl) (by kernel_rfl)) (by kernel_rfl) (by kernel_rfl) (by kernel_rfl)
      (by rw [MakeChecks.laidMetH_plain _ _ _ (by kernel_rfl)]; exact laidMet_laidAll _ (by kernel_rfl) (by kernel_rfl))) ?_
  intro W base args ds gs before hval0 hW _ _ hL _
  rw [MakeChecks.laidMetH_plain _ _ _ (by kernel_rfl)] at hL
  refine law_calls (ti := tab) (T := [2, 3, 5, 9, 22, 23, 25]) tab_ok (by kernel_rfl) (ts := [25, 23, 3]) (bt := 4) rfl rfl rfl (by kernel_rfl) (by decide) ?_ (by kernel_rfl) value_pieces_reads value_pieces_trip (value_pieces_inv hL) hval0 hW
  intro ds h
  match ds, h with
  | [_, _, _], _ => exact ⟨rfl, rfl, rfl⟩
theorem value_pieces_row : Rows.ValuePiecesSaid :=
  OpenClaim.holds_of_wide 5 Tryd.f5 rfl rfl rfl rfl rfl rfl rfl ⟨rfl, rfl, rfl, rfl, rfl⟩ rfl rfl rfl rfl rfl (by kernel_rfl) Tryd.func5 (by kernel_rfl)
    (of_decide_eq_true (by kernel_rfl)) (by unfold Func.isWrapper; first | (rw [if_pos (by decide +kernel)]; kernel_rfl) | (rw [if_neg (by decide +kernel)]; exact ⟨rfl, rfl⟩))
    (fun os started H enc _ => value_pieces_lifted os started H enc)
theorem value_pieces : Rows.ValuePiecesCardSaid :=
  Claim7.holds_tied_plain_at .later [] [.data, .data, .data] true Rows.valuePiecesCard.stood.harness false value_pieces_row (fun _ h => by cases h) (by kernel_rfl) (fun _ h => by cases h) valuePieces_row_tie rfl ⟨rfl, rfl⟩ (by kernel_rfl) rfl
    (fun f fn hf hfn => by
      obtain rfl : f = 5 := Option.some.inj ((show Tryd.prog.funcNamed "weftway/weftwaylaw19.ValuePieces" = some 5 by kernel_rfl).symm.trans hf) |>.symm
      obtain rfl : fn = Tryd.f5 := (Option.some.inj (Tryd.func5.symm.trans hfn)).symm
      exact ⟨by kernel_rfl, fun j t ht => by
        have hm : t ∈ [25, 23, 3] := by
          have hp : Tryd.f5.params.toList = [25, 23, 3] := rfl
          rw [← hp]; simpa using Array.mem_of_getElem? ht
        have hall : ([25, 23, 3].all fun u => !Tryd.prog.wantsStandIn u) = true := by kernel_rfl
        exact (show Tryd.prog.wantsStandIn t = false by simpa using List.all_eq_true.1 hall t hm)⟩)
    (by kernel_rfl)
end Go.Proofs.YtagiiaejijihoaaDoor

namespace Go.Proofs.YtagiiaejijihoaaDoor
open Go Go.ChangeShapes Go.WideShapes Go.ChangeAt Go.RowKit Go.AM

theorem value_set_reads : ∀ t ∈ [25, 25, 23, 23], Tryd.prog.readableRec t = true ∧ t < Tryd.prog.types.size := by
  have h : ([25, 25, 23, 23].all fun t => Tryd.prog.readableRec t && decide (t < Tryd.prog.types.size)) = true := by kernel_rfl
  intro t ht
  have := List.all_eq_true.1 h t ht
  simpa using this

theorem value_set_inv {W : World} (h : laidMet Tryd.prog Rows.valueSetRow.laid W) : inv.at W fun _ _ => False := by
  have e : (Rows.valueSetRow.laid.filter fun x => x.1 == "internal/strconv.uint64pow10") = [("internal/strconv.uint64pow10", Lib.tabData .u64 Lib.pow10Tab)] := by kernel_rfl
  have h2 := laidMet.filter (fun x => x.1 == "internal/strconv.uint64pow10") h
  rw [e] at h2
  have ht : Lib.TabIs Tryd.prog W "internal/strconv.uint64pow10" .u64 Lib.pow10Tab := by
    exact Lib.tabIs_of_head (g := 0) (t := 76) (e := 68) (n := 20) (by kernel_rfl) (by kernel_rfl) (by kernel_rfl) (by kernel_rfl) (by kernel_rfl) (by kernel_rfl) h2
  refine ⟨ht, fun b hb => ⟨?_, fun _ h => h⟩⟩
  have hb : Tryd.prog.globalNamed "internal/strconv.uint64pow10" = some b := hb
  unfold Lib.TabIs World.var? at ht
  rw [hb] at ht
  simp only [Option.bind_some] at ht
  cases hx : W.heap[b]? with
  | none => rw [hx] at ht; simp at ht
  | some o => exact (Array.getElem?_eq_some_iff.1 hx).1

set_option maxRecDepth 100000 in
theorem value_set_lifted (os : Os) (started : os.Started) (H : Type) (enc : TypeId × Value → H) :
    ReturnsInHanded {} Tryd.checked os 4 .any (fun w args => (Rows.valueSetSpec.pre enc Tryd.prog Tryd.f4 Rows.valueSetRow.domain false w args ∧ laidMetH Tryd.prog Rows.valueSetRow.laid w) ∧ sizedMet enc Tryd.prog Tryd.f4 (OpenSpec.ofChange Rows.valueSetSpec) false w args)
      (Rows.valueSetSpec.post enc Tryd.prog Tryd.f4 false true false false) := by
  refine returnsInHanded_of_change_and (C := Tryd.checked) (X := fun w _ => laidMetH Tryd.prog Rows.valueSetRow.laid w) (fun _ _ _ hh h => h.of_heap hh) (by kernel_rfl) started (by kernel_rfl) Tryd.func4
    (ChangeSpec.witness_shaped (enc := enc) (C := Tryd.checked) (os := os) (X := fun w _ => laidMetH Tryd.prog Rows.valueSetRow.laid w) false (World.laidAll Tryd.prog os Rows.valueSetRow.laid) #[.agg #[.int .u8 0, .int .i64 0, .string ⟨#[]⟩, .slice none 0 0, .int .i64 0, .slice none 0 0], .agg #[.int .u8 0, .int .i64 0, .string ⟨#[]⟩, .slice none 0 0, .int .i64 0, .slice none 0 0], .slice none 0 0, .slice none 0 0] 8 (World.laidAll_os _ _ _)
      (World.shaped_of_ZipB (by kernel_rfl) (by kernel_rfl)) (by kernel_rfl) (by kernel_rfl) (by kernel_rfl)
      (by rw [MakeChecks.laidMetH_plain _ _ _ (by kernel_rfl)]; exact laidMet_laidAll _ (by kernel_rfl) (by kernel_rfl))) ?_
  intro W base args ds gs before hval0 hW _ _ hL _
  rw [MakeChecks.laidMetH_plain _ _ _ (by kernel_rfl)] at hL
  refine law_calls (ti := tab) (T := [2, 3, 5, 9, 22, 23, 25]) tab_ok (by kernel_rfl) (ts := [25, 25, 23, 23]) (bt := 4) rfl rfl rfl (by kernel_rfl) (by decide) ?_ (by kernel_rfl) value_set_reads value_set_trip (value_set_inv hL) hval0 hW
  intro ds h
  match ds, h with
  | [_, _, _, _], _ => exact ⟨rfl, rfl, rfl⟩
theorem value_set_row : Rows.ValueSetSaid :=
  OpenClaim.holds_of_wide 4 Tryd.f4 rfl rfl rfl rfl rfl rfl rfl ⟨rfl, rfl, rfl, rfl, rfl⟩ rfl rfl rfl rfl rfl (by kernel_rfl) Tryd.func4 (by kernel_rfl)
    (of_decide_eq_true (by kernel_rfl)) (by unfold Func.isWrapper; first | (rw [if_pos (by decide +kernel)]; kernel_rfl) | (rw [if_neg (by decide +kernel)]; exact ⟨rfl, rfl⟩))
    (fun os started H enc _ => value_set_lifted os started H enc)
theorem value_set : Rows.ValueSetCardSaid :=
  Claim7.holds_tied_plain_at .later [] [.data, .data, .data] true Rows.valueSetCard.stood.harness false value_set_row (fun _ h => by cases h) (by kernel_rfl) (fun _ h => by cases h) valueSet_row_tie rfl ⟨rfl, rfl⟩ (by kernel_rfl) rfl
    (fun f fn hf hfn => by
      obtain rfl : f = 4 := Option.some.inj ((show Tryd.prog.funcNamed "weftway/weftwaylaw19.ValueSet" = some 4 by kernel_rfl).symm.trans hf) |>.symm
      obtain rfl : fn = Tryd.f4 := (Option.some.inj (Tryd.func4.symm.trans hfn)).symm
      exact ⟨by kernel_rfl, fun j t ht => by
        have hm : t ∈ [25, 25, 23, 23] := by
          have hp : Tryd.f4.params.toList = [25, 25, 23, 23] := rfl
          rw [← hp]; simpa using Array.mem_of_getElem? ht
        have hall : ([25, 25, 23, 23].all fun u => !Tryd.prog.wantsStandIn u) = true := by kernel_rfl
        exact (show Tryd.prog.wantsStandIn t = false by simpa using List.all_eq_true.1 hall t hm)⟩)
    (by kernel_rfl)
end Go.Proofs.YtagiiaejijihoaaDoor

set_option linter.unusedVariables false
noncomputable section
namespace Go.Proofs.YtagiiaejijihoaaDoor
open Go Go.AM
mutual
def L23_1 : Nat → Int → (List D) → Int → Option (Bool)
  | 0, _, _, _ => none
  | n + 1, z1, l4, z7 =>
    lenF l4 fun z8 => (if z7 < z8 then L23_2 n z1 l4 z7 true else L23_2 n z1 l4 z7 false)
def L23_2 : Nat → Int → (List D) → Int → Bool → Option (Bool)
  | 0, _, _, _, _ => none
  | n + 1, z1, l4, z7, b9 =>
    (if b9 = true then getF l4 z7 fun x10 => ds_t25 x10 fun z11 z12 s13 l14 z15 l16 => bO1 (F23 n z11 z12 s13 l14 z15 l16) fun b17 => letB (!b17) fun b18 => (if b18 = true then some false else letF (IntKind.wrap .i64 (z7 + 1)) fun z19 => L23_1 n z1 l4 z19) else (if z1 ≤ (15 : Int) then some true else some false))
def F23 : Nat → Int → Int → ByteArray → (List D) → Int → (List D) → Option (Bool)
  | 0, _, _, _, _, _, _ => none
  | n + 1, z1, z2, s3, l4, z5, l6 =>
    L23_1 n z1 l4 (0 : Int)
end
set_option maxRecDepth 100000 in
set_option maxHeartbeats 40000000 in
theorem T23 (n : Nat) : ∀ ⦃z1 : Int⦄ ⦃z2 : Int⦄ ⦃s3 : ByteArray⦄ ⦃l4 : List D⦄ ⦃z5 : Int⦄ ⦃l6 : List D⦄ ⦃r1 : Bool⦄, F23 n z1 z2 s3 l4 z5 l6 = some r1 →
    Trip Tryd.prog inv 23 [.d (.agg [.int .u8 z1, .int .i64 z2, .str s3, .list true 6 l4, .int .i64 z5, .list false 1 l6])] [] (.v (.d (.bool r1))) [] [] := by
  induction n using Nat.strongRecOn with
  | _ n ih =>
    cases n with
    | zero =>
      intro z1 z2 s3 l4 z5 l6 r1 h
      cases (show (none : Option _) = some _ from h)
    | succ n =>
      intro z1 z2 s3 l4 z5 l6 r1 h
      rw [F23] at h
      refine Trip.of tab_ok tab_one fol Tryd.func23 rfl (by kernel_rfl) rfl rfl rfl (fun M hM hI => ?_)
      try cbv
      refine seq_go ?_
      try cbv
      refine seq_go ?_
      try cbv
      refine seq_go ?_
      try cbv
      refine loop_inv (T := Nat × Int) [1, 2, 3] [.loc 0] 96 (fun t => ⟨[(1, .v (.c (.ptr (.loc 0) 0))), (2, .v (.d (.bool false))), (3, .v (.d (.int .i64 t.2)))], [(.loc 0, .cells [.d (.int .u8 z1), .d (.int .i64 z2), .d (.str s3), .d (.list true 6 l4), .d (.int .i64 z5), .d (.list false 1 l6)])], 96⟩)
        (fun t => t.1 ≤ n ∧ L23_1 t.1 z1 l4 t.2 = some r1) (fun t => t.1) (n, (0 : Int)) ⟨Nat.le_refl _, h⟩ (by cbv) ?_
      clear h
      rintro ⟨m1, z7⟩ ⟨hm1, h⟩
      replace hm1 : m1 ≤ n := hm1
      cases m1 with
      | zero =>
        replace h : L23_1 0 z1 l4 z7 = some r1 := h
        rw [L23_1] at h
        cases h
      | succ m1 =>
        replace h : L23_1 (m1 + 1) z1 l4 z7 = some r1 := h
        rw [L23_1] at h
        try cbv
        refine seq_go ?_
        try cbv
        refine seq_join (T := Nat × Bool) (fun t => ⟨[(1, .v (.c (.ptr (.loc 0) 0))), (2, .v (.d (.bool false))), (3, .v (.d (.int .i64 z7))), (8, .v (.d (.bool t.2)))], [(.loc 0, .cells [.d (.int .u8 z1), .d (.int .i64 z2), .d (.str s3), .d (.list true 6 l4), .d (.int .i64 z5), .d (.list false 1 l6)])], 256⟩) (fun t => t.1 ≤ m1 ∧ L23_2 t.1 z1 l4 z7 t.2 = some r1) ?_ ?_
        · try cbv
          replace h := lenF_inv M h
          obtain ⟨z8, hz, h⟩ := h
          refine ⟨z8, hz, ?_⟩
          clear hz
          try cbv
          refine splitL (fun e => ?_) (fun e => ?_)
          · replace h := ite_t e h
            clear e
            try cbv
            exact join_next (m1, true) [1, 2, 3, 8] [.loc 0] 256 ⟨by omega, h⟩ (by cbv)
          · replace h := ite_f (Int.not_lt.2 e) h
            clear e
            try cbv
            exact join_next (m1, false) [1, 2, 3, 8] [.loc 0] 256 ⟨by omega, h⟩ (by cbv)
        · clear h
          rintro ⟨m2, b9⟩ ⟨hm2, h⟩
          replace hm2 : m2 ≤ m1 := hm2
          cases m2 with
          | zero =>
            replace h : L23_2 0 z1 l4 z7 b9 = some r1 := h
            rw [L23_2] at h
            cases h
          | succ m2 =>
            replace h : L23_2 (m2 + 1) z1 l4 z7 b9 = some r1 := h
            rw [L23_2] at h
            try cbv
            cases b9
            · replace h := ite_f Bool.false_ne_true h
              try cbv
              refine seq_go ?_
              try cbv
              refine splitLe (fun e => ?_) (fun e => ?_)
              · replace h := ite_t e h
                clear e
                try cbv
                obtain rfl := Option.some.inj h
                refine fin_go ?_
                try cbv
                exact ⟨[], rfl, rfl, trivial, trivial, trivial⟩
              · replace h := ite_f (Int.not_le.2 e) h
                clear e
                try cbv
                obtain rfl := Option.some.inj h
                refine fin_go ?_
                try cbv
                exact ⟨[], rfl, rfl, trivial, trivial, trivial⟩
            · replace h := ite_t rfl h
              try cbv
              refine seq_go ?_
              try cbv
              refine seq_go ?_
              try cbv
              replace h := getF_inv h
              obtain ⟨x10, hx10, h⟩ := h
              replace h := ds_t25_inv h
              obtain ⟨z11, z12, s13, l14, z15, l16, rfl, h⟩ := h
              refine ⟨_, hx10.1, hx10.2, ?_⟩
              try cbv
              replace h := bO1_inv h
              obtain ⟨b17, hr, h⟩ := h
              refine call_go rfl rfl ?_
              try cbv
              refine call_pure hM hI ((ih _ (by omega)) hr) rfl ?_
              clear hr
              try cbv
              replace h := letB_inv h
              obtain ⟨b18, hz, h⟩ := h
              refine ⟨b18, not_eq' hz, ?_⟩
              clear hz
              try cbv
              cases b18
              · replace h := ite_f Bool.false_ne_true h
                try cbv
                replace h := letF_inv h
                obtain ⟨z19, hz, h⟩ := h
                refine ⟨z19, hz, ?_⟩
                clear hz
                try cbv
                exact loop_next (m2, z19) [1, 2, 3] [.loc 0] 96 ⟨by omega, h⟩ (Nat.lt_succ_of_le (by omega)) (by cbv)
              · replace h := ite_t rfl h
                try cbv
                refine seq_go ?_
                try cbv
                obtain rfl := Option.some.inj h
                refine fin_go ?_
                try cbv
                exact ⟨[], rfl, rfl, trivial, trivial, trivial⟩
end Go.Proofs.YtagiiaejijihoaaDoor
end

set_option linter.unusedVariables false
noncomputable section
namespace Go.Proofs.YtagiiaejijihoaaDoor
open Go Go.AM
mutual
def L29_2 : Nat → (List D) → (List D) → Int → Int → Option (Bool)
  | 0, _, _, _, _ => none
  | n + 1, l1, l2, z6, z7 =>
    (if z7 < z6 then L29_3 n l1 l2 z6 z7 true else L29_3 n l1 l2 z6 z7 false)
def L29_3 : Nat → (List D) → (List D) → Int → Int → Bool → Option (Bool)
  | 0, _, _, _, _, _ => none
  | n + 1, l1, l2, z6, z7, b8 =>
    (if b8 = true then getF l1 z7 fun x9 => ds_i64 x9 fun z10 => getF l2 z7 fun x11 => ds_i64 x11 fun z12 => (if z10 = z12 then L29_4 n l1 l2 z6 z7 false else L29_4 n l1 l2 z6 z7 true) else some true)
def L29_4 : Nat → (List D) → (List D) → Int → Int → Bool → Option (Bool)
  | 0, _, _, _, _, _ => none
  | n + 1, l1, l2, z6, z7, b13 =>
    (if b13 = true then some false else letF (IntKind.wrap .i64 (z7 + 1)) fun z14 => L29_2 n l1 l2 z6 z14)
end
def L29_1 : Nat → (List D) → (List D) → Bool → Option (Bool)
  | 0, _, _, _ => none
  | n + 1, l1, l2, b5 =>
    (if b5 = true then some false else lenF l1 fun z6 => L29_2 n l1 l2 z6 (0 : Int))
def F29 (n : Nat) (l1 : List D) (l2 : List D) : Option (Bool) :=
  lenF l1 fun z3 => lenF l2 fun z4 => (if z3 = z4 then L29_1 n l1 l2 false else L29_1 n l1 l2 true)
set_option maxRecDepth 100000 in
set_option maxHeartbeats 40000000 in
theorem T29 (n : Nat) : ∀ ⦃l1 : List D⦄ ⦃l2 : List D⦄ ⦃r1 : Bool⦄, F29 n l1 l2 = some r1 →
    Trip Tryd.prog inv 29 [.d (.list false 1 l1), .d (.list false 1 l2)] [] (.v (.d (.bool r1))) [] [] := by
  intro l1 l2 r1 h
  unfold F29 at h
  refine Trip.of tab_ok tab_one fol Tryd.func29 rfl (by kernel_rfl) rfl rfl rfl (fun M hM hI => ?_)
  try cbv
  refine seq_go ?_
  try cbv
  refine seq_go ?_
  try cbv
  refine seq_join (T := Nat × Bool) (fun t => ⟨[(0, .v (.d (.list false 1 l1))), (1, .v (.d (.list false 1 l2))), (4, .v (.d (.bool false))), (10, .v (.d (.bool t.2)))], [], 192⟩) (fun t => t.1 ≤ n ∧ L29_1 t.1 l1 l2 t.2 = some r1) ?_ ?_
  · try cbv
    replace h := lenF_inv M h
    obtain ⟨z3, hz, h⟩ := h
    refine ⟨z3, hz, ?_⟩
    clear hz
    try cbv
    replace h := lenF_inv M h
    obtain ⟨z4, hz, h⟩ := h
    refine ⟨z4, hz, ?_⟩
    clear hz
    try cbv
    refine splitI (fun e => ?_) (fun e => ?_)
    · replace h := ite_t e h
      clear e
      try cbv
      exact join_next (n, false) [0, 1, 4, 10] [] 192 ⟨by omega, h⟩ (by cbv)
    · replace h := ite_f e h
      clear e
      try cbv
      exact join_next (n, true) [0, 1, 4, 10] [] 192 ⟨by omega, h⟩ (by cbv)
  · clear h
    rintro ⟨m1, b5⟩ ⟨hm1, h⟩
    replace hm1 : m1 ≤ n := hm1
    cases m1 with
    | zero =>
      replace h : L29_1 0 l1 l2 b5 = some r1 := h
      rw [L29_1] at h
      cases h
    | succ m1 =>
      replace h : L29_1 (m1 + 1) l1 l2 b5 = some r1 := h
      rw [L29_1] at h
      try cbv
      cases b5
      · replace h := ite_f Bool.false_ne_true h
        try cbv
        refine seq_go ?_
        try cbv
        refine seq_go ?_
        try cbv
        replace h := lenF_inv M h
        obtain ⟨z6, hz, h⟩ := h
        refine ⟨z6, hz, ?_⟩
        clear hz
        try cbv
        refine loop_inv (T := Nat × Int) [0, 1, 4, 12, 13] [] 288 (fun t => ⟨[(0, .v (.d (.list false 1 l1))), (1, .v (.d (.list false 1 l2))), (4, .v (.d (.bool false))), (12, .v (.d (.int .i64 z6))), (13, .v (.d (.int .i64 t.2)))], [], 288⟩)
          (fun t => t.1 ≤ m1 ∧ L29_2 t.1 l1 l2 z6 t.2 = some r1) (fun t => t.1) (m1, (0 : Int)) ⟨Nat.le_refl _, h⟩ (by cbv) ?_
        clear h
        rintro ⟨m2, z7⟩ ⟨hm2, h⟩
        replace hm2 : m2 ≤ m1 := hm2
        cases m2 with
        | zero =>
          replace h : L29_2 0 l1 l2 z6 z7 = some r1 := h
          rw [L29_2] at h
          cases h
        | succ m2 =>
          replace h : L29_2 (m2 + 1) l1 l2 z6 z7 = some r1 := h
          rw [L29_2] at h
          try cbv
          refine seq_join (T := Nat × Bool) (fun t => ⟨[(0, .v (.d (.list false 1 l1))), (1, .v (.d (.list false 1 l2))), (4, .v (.d (.bool false))), (12, .v (.d (.int .i64 z6))), (13, .v (.d (.int .i64 z7))), (14, .v (.d (.bool t.2)))], [], 320⟩) (fun t => t.1 ≤ m2 ∧ L29_3 t.1 l1 l2 z6 z7 t.2 = some r1) ?_ ?_
          · try cbv
            refine splitL (fun e => ?_) (fun e => ?_)
            · replace h := ite_t e h
              clear e
              try cbv
              exact join_next (m2, true) [0, 1, 4, 12, 13, 14] [] 320 ⟨by omega, h⟩ (by cbv)
            · replace h := ite_f (Int.not_lt.2 e) h
              clear e
              try cbv
              exact join_next (m2, false) [0, 1, 4, 12, 13, 14] [] 320 ⟨by omega, h⟩ (by cbv)
          · clear h
            rintro ⟨m3, b8⟩ ⟨hm3, h⟩
            replace hm3 : m3 ≤ m2 := hm3
            cases m3 with
            | zero =>
              replace h : L29_3 0 l1 l2 z6 z7 b8 = some r1 := h
              rw [L29_3] at h
              cases h
            | succ m3 =>
              replace h : L29_3 (m3 + 1) l1 l2 z6 z7 b8 = some r1 := h
              rw [L29_3] at h
              try cbv
              refine seq_go ?_
              try cbv
              cases b8
              · replace h := ite_f Bool.false_ne_true h
                try cbv
                refine seq_go ?_
                try cbv
                obtain rfl := Option.some.inj h
                refine fin_go ?_
                try cbv
                exact ⟨[], rfl, rfl, trivial, trivial, trivial⟩
              · replace h := ite_t rfl h
                try cbv
                refine seq_go ?_
                try cbv
                refine seq_go ?_
                try cbv
                refine seq_join (T := Nat × Bool) (fun t => ⟨[(0, .v (.d (.list false 1 l1))), (1, .v (.d (.list false 1 l2))), (4, .v (.d (.bool false))), (12, .v (.d (.int .i64 z6))), (13, .v (.d (.int .i64 z7))), (24, .v (.d (.bool t.2)))], [], 672⟩) (fun t => t.1 ≤ m3 ∧ L29_4 t.1 l1 l2 z6 z7 t.2 = some r1) ?_ ?_
                · try cbv
                  replace h := getF_inv h
                  obtain ⟨x9, hx9, h⟩ := h
                  replace h := ds_i64_inv h
                  obtain ⟨z10, rfl, h⟩ := h
                  refine ⟨_, hx9.1, hx9.2, ?_⟩
                  try cbv
                  replace h := getF_inv h
                  obtain ⟨x11, hx11, h⟩ := h
                  replace h := ds_i64_inv h
                  obtain ⟨z12, rfl, h⟩ := h
                  refine ⟨_, hx11.1, hx11.2, ?_⟩
                  try cbv
                  refine splitI (fun e => ?_) (fun e => ?_)
                  · replace h := ite_t e h
                    clear e
                    try cbv
                    refine drawn ?_ ?_
                    · show _ = true
                      kernel_rfl
                    try cbv
                    exact join_next (m3, false) [0, 1, 4, 12, 13, 24] [] 672 ⟨by omega, h⟩ (by cbv)
                  · replace h := ite_f e h
                    clear e
                    try cbv
                    refine drawn ?_ ?_
                    · show _ = true
                      kernel_rfl
                    try cbv
                    exact join_next (m3, true) [0, 1, 4, 12, 13, 24] [] 672 ⟨by omega, h⟩ (by cbv)
                · clear h
                  rintro ⟨m4, b13⟩ ⟨hm4, h⟩
                  replace hm4 : m4 ≤ m3 := hm4
                  cases m4 with
                  | zero =>
                    replace h : L29_4 0 l1 l2 z6 z7 b13 = some r1 := h
                    rw [L29_4] at h
                    cases h
                  | succ m4 =>
                    replace h : L29_4 (m4 + 1) l1 l2 z6 z7 b13 = some r1 := h
                    rw [L29_4] at h
                    try cbv
                    cases b13
                    · replace h := ite_f Bool.false_ne_true h
                      try cbv
                      replace h := letF_inv h
                      obtain ⟨z14, hz, h⟩ := h
                      refine ⟨z14, hz, ?_⟩
                      clear hz
                      try cbv
                      exact loop_next (m4, z14) [0, 1, 4, 12, 13] [] 288 ⟨by omega, h⟩ (Nat.lt_succ_of_le (by omega)) (by cbv)
                    · replace h := ite_t rfl h
                      try cbv
                      refine seq_go ?_
                      try cbv
                      obtain rfl := Option.some.inj h
                      refine fin_go ?_
                      try cbv
                      exact ⟨[], rfl, rfl, trivial, trivial, trivial⟩
      · replace h := ite_t rfl h
        try cbv
        refine seq_go ?_
        try cbv
        obtain rfl := Option.some.inj h
        refine fin_go ?_
        try cbv
        exact ⟨[], rfl, rfl, trivial, trivial, trivial⟩
end Go.Proofs.YtagiiaejijihoaaDoor
end

set_option linter.unusedVariables false
noncomputable section
namespace Go.Proofs.YtagiiaejijihoaaDoor
open Go Go.AM
mutual
def L30_1 : Nat → (List D) → (List D) → Bool → Option (Bool)
  | 0, _, _, _ => none
  | n + 1, l1, l2, b5 =>
    (if b5 = true then some false else lenF l1 fun z6 => L30_2 n l1 l2 z6 (0 : Int))
def L30_2 : Nat → (List D) → (List D) → Int → Int → Option (Bool)
  | 0, _, _, _, _ => none
  | n + 1, l1, l2, z6, z7 =>
    (if z7 < z6 then L30_3 n l1 l2 z6 z7 true else L30_3 n l1 l2 z6 z7 false)
def L30_3 : Nat → (List D) → (List D) → Int → Int → Bool → Option (Bool)
  | 0, _, _, _, _, _ => none
  | n + 1, l1, l2, z6, z7, b8 =>
    (if b8 = true then getF l1 z7 fun x9 => ds_t25 x9 fun z10 z11 s12 l13 z14 l15 => getF l2 z7 fun x16 => ds_t25 x16 fun z17 z18 s19 l20 z21 l22 => bO1 (F14 n z10 z11 s12 l13 z14 l15 z17 z18 s19 l20 z21 l22) fun b23 => letB (!b23) fun b24 => (if b24 = true then some false else letF (IntKind.wrap .i64 (z7 + 1)) fun z25 => L30_2 n l1 l2 z6 z25) else some true)
def F30 : Nat → (List D) → (List D) → Option (Bool)
  | 0, _, _ => none
  | n + 1, l1, l2 =>
    lenF l1 fun z3 => lenF l2 fun z4 => (if z3 = z4 then L30_1 n l1 l2 false else L30_1 n l1 l2 true)
def F14 : Nat → Int → Int → ByteArray → (List D) → Int → (List D) → Int → Int → ByteArray → (List D) → Int → (List D) → Option (Bool)
  | 0, _, _, _, _, _, _, _, _, _, _, _, _ => none
  | n + 1, z1, z2, s3, l4, z5, l6, z7, z8, s9, l10, z11, l12 =>
    (if z1 = z7 then (if z2 = z8 then (if s3 = s9 then (if z5 = z11 then bO1 (F29 n l6 l12) fun b13 => (if b13 = true then bO1 (F30 n l4 l10) fun b14 => some b14 else some false) else some false) else some false) else some false) else some false)
end
set_option maxRecDepth 100000 in
set_option maxHeartbeats 40000000 in
theorem G30 (n : Nat) : (∀ ⦃l1 : List D⦄ ⦃l2 : List D⦄ ⦃r1 : Bool⦄, F30 n l1 l2 = some r1 →
    Trip Tryd.prog inv 30 [.d (.list true 6 l1), .d (.list true 6 l2), .c (.fn 14 [])] [] (.v (.d (.bool r1))) [] []) ∧
    (∀ ⦃z1 : Int⦄ ⦃z2 : Int⦄ ⦃s3 : ByteArray⦄ ⦃l4 : List D⦄ ⦃z5 : Int⦄ ⦃l6 : List D⦄ ⦃z7 : Int⦄ ⦃z8 : Int⦄ ⦃s9 : ByteArray⦄ ⦃l10 : List D⦄ ⦃z11 : Int⦄ ⦃l12 : List D⦄ ⦃r1 : Bool⦄, F14 n z1 z2 s3 l4 z5 l6 z7 z8 s9 l10 z11 l12 = some r1 →
    Trip Tryd.prog inv 14 [.d (.agg [.int .u8 z1, .int .i64 z2, .str s3, .list true 6 l4, .int .i64 z5, .list false 1 l6]), .d (.agg [.int .u8 z7, .int .i64 z8, .str s9, .list true 6 l10, .int .i64 z11, .list false 1 l12])] [] (.v (.d (.bool r1))) [] []) := by
  induction n using Nat.strongRecOn with
  | _ n ih =>
    cases n with
    | zero =>
      refine ⟨?_, ?_⟩
      · intro l1 l2 r1 h
        cases (show (none : Option _) = some _ from h)
      · intro z1 z2 s3 l4 z5 l6 z7 z8 s9 l10 z11 l12 r1 h
        cases (show (none : Option _) = some _ from h)
    | succ n =>
      refine ⟨?_, ?_⟩
      · intro l1 l2 r1 h
        rw [F30] at h
        refine Trip.of tab_ok tab_one fol Tryd.func30 rfl (by kernel_rfl) rfl rfl rfl (fun M hM hI => ?_)
        try cbv
        refine seq_go ?_
        try cbv
        refine seq_go ?_
        try cbv
        refine seq_join (T := Nat × Bool) (fun t => ⟨[(0, .v (.d (.list true 6 l1))), (1, .v (.d (.list true 6 l2))), (2, .v (.c (.fn 14 []))), (6, .v (.d (.bool false))), (14, .v (.d (.bool t.2)))], [], 192⟩) (fun t => t.1 ≤ n ∧ L30_1 t.1 l1 l2 t.2 = some r1) ?_ ?_
        · try cbv
          replace h := lenF_inv M h
          obtain ⟨z3, hz, h⟩ := h
          refine ⟨z3, hz, ?_⟩
          clear hz
          try cbv
          replace h := lenF_inv M h
          obtain ⟨z4, hz, h⟩ := h
          refine ⟨z4, hz, ?_⟩
          clear hz
          try cbv
          refine splitI (fun e => ?_) (fun e => ?_)
          · replace h := ite_t e h
            clear e
            try cbv
            exact join_next (n, false) [0, 1, 2, 6, 14] [] 192 ⟨by omega, h⟩ (by cbv)
          · replace h := ite_f e h
            clear e
            try cbv
            exact join_next (n, true) [0, 1, 2, 6, 14] [] 192 ⟨by omega, h⟩ (by cbv)
        · clear h
          rintro ⟨m1, b5⟩ ⟨hm1, h⟩
          replace hm1 : m1 ≤ n := hm1
          cases m1 with
          | zero =>
            replace h : L30_1 0 l1 l2 b5 = some r1 := h
            rw [L30_1] at h
            cases h
          | succ m1 =>
            replace h : L30_1 (m1 + 1) l1 l2 b5 = some r1 := h
            rw [L30_1] at h
            try cbv
            cases b5
            · replace h := ite_f Bool.false_ne_true h
              try cbv
              refine seq_go ?_
              try cbv
              refine seq_go ?_
              try cbv
              replace h := lenF_inv M h
              obtain ⟨z6, hz, h⟩ := h
              refine ⟨z6, hz, ?_⟩
              clear hz
              try cbv
              refine loop_inv (T := Nat × Int) [1, 2, 6, 15, 16, 17] [] 288 (fun t => ⟨[(1, .v (.d (.list true 6 l2))), (2, .v (.c (.fn 14 []))), (6, .v (.d (.bool false))), (15, .v (.d (.list true 6 l1))), (16, .v (.d (.int .i64 z6))), (17, .v (.d (.int .i64 t.2)))], [], 288⟩)
                (fun t => t.1 ≤ m1 ∧ L30_2 t.1 l1 l2 z6 t.2 = some r1) (fun t => t.1) (m1, (0 : Int)) ⟨Nat.le_refl _, h⟩ (by cbv) ?_
              clear h
              rintro ⟨m2, z7⟩ ⟨hm2, h⟩
              replace hm2 : m2 ≤ m1 := hm2
              cases m2 with
              | zero =>
                replace h : L30_2 0 l1 l2 z6 z7 = some r1 := h
                rw [L30_2] at h
                cases h
              | succ m2 =>
                replace h : L30_2 (m2 + 1) l1 l2 z6 z7 = some r1 := h
                rw [L30_2] at h
                try cbv
                refine seq_join (T := Nat × Bool) (fun t => ⟨[(1, .v (.d (.list true 6 l2))), (2, .v (.c (.fn 14 []))), (6, .v (.d (.bool false))), (15, .v (.d (.list true 6 l1))), (16, .v (.d (.int .i64 z6))), (17, .v (.d (.int .i64 z7))), (18, .v (.d (.bool t.2)))], [], 320⟩) (fun t => t.1 ≤ m2 ∧ L30_3 t.1 l1 l2 z6 z7 t.2 = some r1) ?_ ?_
                · try cbv
                  refine splitL (fun e => ?_) (fun e => ?_)
                  · replace h := ite_t e h
                    clear e
                    try cbv
                    exact join_next (m2, true) [1, 2, 6, 15, 16, 17, 18] [] 320 ⟨by omega, h⟩ (by cbv)
                  · replace h := ite_f (Int.not_lt.2 e) h
                    clear e
                    try cbv
                    exact join_next (m2, false) [1, 2, 6, 15, 16, 17, 18] [] 320 ⟨by omega, h⟩ (by cbv)
                · clear h
                  rintro ⟨m3, b8⟩ ⟨hm3, h⟩
                  replace hm3 : m3 ≤ m2 := hm3
                  cases m3 with
                  | zero =>
                    replace h : L30_3 0 l1 l2 z6 z7 b8 = some r1 := h
                    rw [L30_3] at h
                    cases h
                  | succ m3 =>
                    replace h : L30_3 (m3 + 1) l1 l2 z6 z7 b8 = some r1 := h
                    rw [L30_3] at h
                    try cbv
                    refine seq_go ?_
                    try cbv
                    cases b8
                    · replace h := ite_f Bool.false_ne_true h
                      try cbv
                      refine seq_go ?_
                      try cbv
                      obtain rfl := Option.some.inj h
                      refine fin_go ?_
                      try cbv
                      exact ⟨[], rfl, rfl, trivial, trivial, trivial⟩
                    · replace h := ite_t rfl h
                      try cbv
                      refine seq_go ?_
                      try cbv
                      refine seq_go ?_
                      try cbv
                      replace h := getF_inv h
                      obtain ⟨x9, hx9, h⟩ := h
                      replace h := ds_t25_inv h
                      obtain ⟨z10, z11, s12, l13, z14, l15, rfl, h⟩ := h
                      refine ⟨_, hx9.1, hx9.2, ?_⟩
                      try cbv
                      refine seq_go ?_
                      try cbv
                      replace h := getF_inv h
                      obtain ⟨x16, hx16, h⟩ := h
                      replace h := ds_t25_inv h
                      obtain ⟨z17, z18, s19, l20, z21, l22, rfl, h⟩ := h
                      refine ⟨_, hx16.1, hx16.2, ?_⟩
                      try cbv
                      refine seq_go ?_
                      try cbv
                      replace h := bO1_inv h
                      obtain ⟨b23, hr, h⟩ := h
                      refine call_go rfl rfl ?_
                      try cbv
                      refine call_pure hM hI ((ih _ (by omega)).2 hr) rfl ?_
                      clear hr
                      try cbv
                      replace h := letB_inv h
                      obtain ⟨b24, hz, h⟩ := h
                      refine ⟨b24, not_eq' hz, ?_⟩
                      clear hz
                      try cbv
                      cases b24
                      · replace h := ite_f Bool.false_ne_true h
                        try cbv
                        replace h := letF_inv h
                        obtain ⟨z25, hz, h⟩ := h
                        refine ⟨z25, hz, ?_⟩
                        clear hz
                        try cbv
                        exact loop_next (m3, z25) [1, 2, 6, 15, 16, 17] [] 288 ⟨by omega, h⟩ (Nat.lt_succ_of_le (by omega)) (by cbv)
                      · replace h := ite_t rfl h
                        try cbv
                        refine seq_go ?_
                        try cbv
                        obtain rfl := Option.some.inj h
                        refine fin_go ?_
                        try cbv
                        exact ⟨[], rfl, rfl, trivial, trivial, trivial⟩
            · replace h := ite_t rfl h
              try cbv
              refine seq_go ?_
              try cbv
              obtain rfl := Option.some.inj h
              refine fin_go ?_
              try cbv
              exact ⟨[], rfl, rfl, trivial, trivial, trivial⟩
      · intro z1 z2 s3 l4 z5 l6 z7 z8 s9 l10 z11 l12 r1 h
        rw [F14] at h
        refine Trip.of tab_ok tab_one fol Tryd.func14 rfl (by kernel_rfl) rfl rfl rfl (fun M hM hI => ?_)
        try cbv
        refine seq_go ?_
        try cbv
        refine seq_go ?_
        try cbv
        refine splitI (fun e => ?_) (fun e => ?_)
        · replace h := ite_t e h
          clear e
          try cbv
          refine splitI (fun e => ?_) (fun e => ?_)
          · replace h := ite_t e h
            clear e
            try cbv
            refine splitS (fun e => ?_) (fun e => ?_)
            · replace h := ite_t (bytes_eq.1 e) h
              clear e
              try cbv
              refine splitI (fun e => ?_) (fun e => ?_)
              · replace h := ite_t e h
                clear e
                try cbv
                replace h := bO1_inv h
                obtain ⟨b13, hr, h⟩ := h
                refine call_go rfl rfl ?_
                try cbv
                refine call_pure hM hI (T29 _ hr) rfl ?_
                clear hr
                try cbv
                cases b13
                · replace h := ite_f Bool.false_ne_true h
                  try cbv
                  obtain rfl := Option.some.inj h
                  refine fin_go ?_
                  try cbv
                  exact ⟨[], rfl, rfl, trivial, trivial, trivial⟩
                · replace h := ite_t rfl h
                  try cbv
                  replace h := bO1_inv h
                  obtain ⟨b14, hr, h⟩ := h
                  refine call_go rfl rfl ?_
                  try cbv
                  refine call_pure hM hI ((ih _ (by omega)).1 hr) rfl ?_
                  clear hr
                  try cbv
                  obtain rfl := Option.some.inj h
                  refine fin_go ?_
                  try cbv
                  exact ⟨[], rfl, rfl, trivial, trivial, trivial⟩
              · replace h := ite_f e h
                clear e
                try cbv
                obtain rfl := Option.some.inj h
                refine fin_go ?_
                try cbv
                exact ⟨[], rfl, rfl, trivial, trivial, trivial⟩
            · replace h := ite_f (bytes_ne.1 e) h
              clear e
              try cbv
              obtain rfl := Option.some.inj h
              refine fin_go ?_
              try cbv
              exact ⟨[], rfl, rfl, trivial, trivial, trivial⟩
          · replace h := ite_f e h
            clear e
            try cbv
            obtain rfl := Option.some.inj h
            refine fin_go ?_
            try cbv
            exact ⟨[], rfl, rfl, trivial, trivial, trivial⟩
        · replace h := ite_f e h
          clear e
          try cbv
          obtain rfl := Option.some.inj h
          refine fin_go ?_
          try cbv
          exact ⟨[], rfl, rfl, trivial, trivial, trivial⟩
theorem T14 (n : Nat) : ∀ ⦃z1 : Int⦄ ⦃z2 : Int⦄ ⦃s3 : ByteArray⦄ ⦃l4 : List D⦄ ⦃z5 : Int⦄ ⦃l6 : List D⦄ ⦃z7 : Int⦄ ⦃z8 : Int⦄ ⦃s9 : ByteArray⦄ ⦃l10 : List D⦄ ⦃z11 : Int⦄ ⦃l12 : List D⦄ ⦃r1 : Bool⦄, F14 n z1 z2 s3 l4 z5 l6 z7 z8 s9 l10 z11 l12 = some r1 →
    Trip Tryd.prog inv 14 [.d (.agg [.int .u8 z1, .int .i64 z2, .str s3, .list true 6 l4, .int .i64 z5, .list false 1 l6]), .d (.agg [.int .u8 z7, .int .i64 z8, .str s9, .list true 6 l10, .int .i64 z11, .list false 1 l12])] [] (.v (.d (.bool r1))) [] [] := (G30 n).2
end Go.Proofs.YtagiiaejijihoaaDoor
end

set_option linter.unusedVariables false
noncomputable section
namespace Go.Proofs.YtagiiaejijihoaaDoor
open Go Go.AM
def L7_1 : Nat → Int → Int → ByteArray → (List D) → Int → (List D) → Int → Int → ByteArray → (List D) → Int → (List D) → Bool → Option (Bool)
  | 0, _, _, _, _, _, _, _, _, _, _, _, _, _ => none
  | n + 1, z1, z2, s3, l4, z5, l6, z7, z8, s9, l10, z11, l12, b20 =>
    (if b20 = true then some true else bO1 (F15 n z1 z2 s3 l4 z5 l6) fun s21 => bO1 (F15 n z7 z8 s9 l10 z11 l12) fun s22 => (if s21 = s22 then bO1 (F14 n z1 z2 s3 l4 z5 l6 z7 z8 s9 l10 z11 l12) fun b23 => letB (true == b23) fun b24 => (if b24 = true then bO1 (F14 n z1 z2 s3 l4 z5 l6 z1 z2 s3 l4 z5 l6) fun b25 => (if b25 = true then bO1 (F14 n z1 z2 s3 l4 z5 l6 z7 z8 s9 l10 z11 l12) fun b26 => bO1 (F14 n z7 z8 s9 l10 z11 l12 z1 z2 s3 l4 z5 l6) fun b27 => letB (b26 == b27) fun b28 => some b28 else some false) else some false) else bO1 (F14 n z1 z2 s3 l4 z5 l6 z7 z8 s9 l10 z11 l12) fun b29 => letB (false == b29) fun b30 => (if b30 = true then bO1 (F14 n z1 z2 s3 l4 z5 l6 z1 z2 s3 l4 z5 l6) fun b31 => (if b31 = true then bO1 (F14 n z1 z2 s3 l4 z5 l6 z7 z8 s9 l10 z11 l12) fun b32 => bO1 (F14 n z7 z8 s9 l10 z11 l12 z1 z2 s3 l4 z5 l6) fun b33 => letB (b32 == b33) fun b34 => some b34 else some false) else some false)))
def F7 (n : Nat) (z1 : Int) (z2 : Int) (s3 : ByteArray) (l4 : List D) (z5 : Int) (l6 : List D) (z7 : Int) (z8 : Int) (s9 : ByteArray) (l10 : List D) (z11 : Int) (l12 : List D) : Option (Bool) :=
  bO1 (F18 n) fun b13 => letB (!b13) fun b14 => (if b14 = true then some false else bO1 (F8 n z1 z2 s3 l4 z5 l6 z7 z8 s9 l10 z11 l12 ([] : List D)) fun b15 => (if b15 = true then L7_1 n z1 z2 s3 l4 z5 l6 z7 z8 s9 l10 z11 l12 true else bO1 (F23 n z1 z2 s3 l4 z5 l6) fun b16 => letB (!b16) fun b17 => (if b17 = true then L7_1 n z1 z2 s3 l4 z5 l6 z7 z8 s9 l10 z11 l12 true else bO1 (F23 n z7 z8 s9 l10 z11 l12) fun b18 => letB (!b18) fun b19 => L7_1 n z1 z2 s3 l4 z5 l6 z7 z8 s9 l10 z11 l12 b19)))
set_option maxRecDepth 100000 in
set_option maxHeartbeats 40000000 in
theorem T7 (n : Nat) : ∀ ⦃z1 : Int⦄ ⦃z2 : Int⦄ ⦃s3 : ByteArray⦄ ⦃l4 : List D⦄ ⦃z5 : Int⦄ ⦃l6 : List D⦄ ⦃z7 : Int⦄ ⦃z8 : Int⦄ ⦃s9 : ByteArray⦄ ⦃l10 : List D⦄ ⦃z11 : Int⦄ ⦃l12 : List D⦄ ⦃r1 : Bool⦄, F7 n z1 z2 s3 l4 z5 l6 z7 z8 s9 l10 z11 l12 = some r1 →
    Trip Tryd.prog inv 7 [.d (.agg [.int .u8 z1, .int .i64 z2, .str s3, .list true 6 l4, .int .i64 z5, .list false 1 l6]), .d (.agg [.int .u8 z7, .int .i64 z8, .str s9, .list true 6 l10, .int .i64 z11, .list false 1 l12])] [] (.v (.d (.bool r1))) [] [] := by
  intro z1 z2 s3 l4 z5 l6 z7 z8 s9 l10 z11 l12 r1 h
  unfold F7 at h
  refine Trip.of tab_ok tab_one fol Tryd.func7 rfl (by kernel_rfl) rfl rfl rfl (fun M hM hI => ?_)
  try cbv
  refine seq_go ?_
  try cbv
  refine seq_go ?_
  try cbv
  refine seq_go ?_
  try cbv
  replace h := bO1_inv h
  obtain ⟨b13, hr, h⟩ := h
  refine call_go rfl rfl ?_
  try cbv
  refine call_pure hM hI (T18 _ hr) rfl ?_
  clear hr
  try cbv
  replace h := letB_inv h
  obtain ⟨b14, hz, h⟩ := h
  refine ⟨b14, not_eq' hz, ?_⟩
  clear hz
  try cbv
  cases b14
  · replace h := ite_f Bool.false_ne_true h
    try cbv
    refine seq_go ?_
    try cbv
    refine seq_join (T := Nat × Bool) (fun t => ⟨[(2, .v (.c (.ptr (.loc 0) 0))), (3, .v (.c (.ptr (.loc 32) 0))), (4, .v (.d (.bool false))), (19, .v (.d (.bool t.2)))], [(.loc 0, .cells [.d (.int .u8 z1), .d (.int .i64 z2), .d (.str s3), .d (.list true 6 l4), .d (.int .i64 z5), .d (.list false 1 l6)]), (.loc 32, .cells [.d (.int .u8 z7), .d (.int .i64 z8), .d (.str s9), .d (.list true 6 l10), .d (.int .i64 z11), .d (.list false 1 l12)])], 576⟩) (fun t => t.1 ≤ n ∧ L7_1 t.1 z1 z2 s3 l4 z5 l6 z7 z8 s9 l10 z11 l12 t.2 = some r1) ?_ ?_
    · try cbv
      replace h := bO1_inv h
      obtain ⟨b15, hr, h⟩ := h
      refine call_go rfl rfl ?_
      try cbv
      refine call_pure hM hI (T8 _ hr) rfl ?_
      clear hr
      try cbv
      cases b15
      · replace h := ite_f Bool.false_ne_true h
        try cbv
        replace h := bO1_inv h
        obtain ⟨b16, hr, h⟩ := h
        refine call_go rfl rfl ?_
        try cbv
        refine call_pure hM hI (T23 _ hr) rfl ?_
        clear hr
        try cbv
        replace h := letB_inv h
        obtain ⟨b17, hz, h⟩ := h
        refine ⟨b17, not_eq' hz, ?_⟩
        clear hz
        try cbv
        cases b17
        · replace h := ite_f Bool.false_ne_true h
          try cbv
          replace h := bO1_inv h
          obtain ⟨b18, hr, h⟩ := h
          refine call_go rfl rfl ?_
          try cbv
          refine call_pure hM hI (T23 _ hr) rfl ?_
          clear hr
          try cbv
          replace h := letB_inv h
          obtain ⟨b19, hz, h⟩ := h
          refine ⟨b19, not_eq' hz, ?_⟩
          clear hz
          try cbv
          exact join_next (n, b19) [2, 3, 4, 19] [.loc 0, .loc 32] 576 ⟨by omega, h⟩ (by cbv)
        · replace h := ite_t rfl h
          try cbv
          exact join_next (n, true) [2, 3, 4, 19] [.loc 0, .loc 32] 576 ⟨by omega, h⟩ (by cbv)
      · replace h := ite_t rfl h
        try cbv
        exact join_next (n, true) [2, 3, 4, 19] [.loc 0, .loc 32] 576 ⟨by omega, h⟩ (by cbv)
    · clear h
      rintro ⟨m1, b20⟩ ⟨hm1, h⟩
      replace hm1 : m1 ≤ n := hm1
      cases m1 with
      | zero =>
        replace h : L7_1 0 z1 z2 s3 l4 z5 l6 z7 z8 s9 l10 z11 l12 b20 = some r1 := h
        rw [L7_1] at h
        cases h
      | succ m1 =>
        replace h : L7_1 (m1 + 1) z1 z2 s3 l4 z5 l6 z7 z8 s9 l10 z11 l12 b20 = some r1 := h
        rw [L7_1] at h
        try cbv
        cases b20
        · replace h := ite_f Bool.false_ne_true h
          try cbv
          refine seq_go ?_
          try cbv
          replace h := bO1_inv h
          obtain ⟨s21, hr, h⟩ := h
          first | refine .inr (.inl ⟨[], ?_⟩) | refine .inl ⟨[], ?_⟩
          try cbv
          refine call_pure hM hI (T15 _ hr) rfl ?_
          clear hr
          try cbv
          replace h := bO1_inv h
          obtain ⟨s22, hr, h⟩ := h
          first | refine .inr (.inl ⟨[], ?_⟩) | refine .inl ⟨[], ?_⟩
          try cbv
          refine call_pure hM hI (T15 _ hr) rfl ?_
          clear hr
          try cbv
          refine splitS (fun e => ?_) (fun e => ?_)
          · replace h := ite_t (bytes_eq.1 e) h
            clear e
            try cbv
            replace h := bO1_inv h
            obtain ⟨b23, hr, h⟩ := h
            first | refine .inr (.inl ⟨[], ?_⟩) | refine .inl ⟨[], ?_⟩
            try cbv
            refine call_pure hM hI (T14 _ hr) rfl ?_
            clear hr
            try cbv
            replace h := letB_inv h
            obtain ⟨b24, hz, h⟩ := h
            refine ⟨b24, eqv_eq hz, ?_⟩
            clear hz
            try cbv
            cases b24
            · replace h := ite_f Bool.false_ne_true h
              try cbv
              refine drawn ?_ ?_
              · show _ = true
                kernel_rfl
              try cbv
              obtain rfl := Option.some.inj h
              refine fin_go ?_
              try cbv
              exact ⟨[], rfl, rfl, trivial, trivial, trivial⟩
            · replace h := ite_t rfl h
              try cbv
              replace h := bO1_inv h
              obtain ⟨b25, hr, h⟩ := h
              first | refine .inr (.inl ⟨[], ?_⟩) | refine .inl ⟨[], ?_⟩
              try cbv
              refine call_pure hM hI (T14 _ hr) rfl ?_
              clear hr
              try cbv
              cases b25
              · replace h := ite_f Bool.false_ne_true h
                try cbv
                refine drawn ?_ ?_
                · show _ = true
                  kernel_rfl
                try cbv
                obtain rfl := Option.some.inj h
                refine fin_go ?_
                try cbv
                exact ⟨[], rfl, rfl, trivial, trivial, trivial⟩
              · replace h := ite_t rfl h
                try cbv
                replace h := bO1_inv h
                obtain ⟨b26, hr, h⟩ := h
                first | refine .inr (.inl ⟨[], ?_⟩) | refine .inl ⟨[], ?_⟩
                try cbv
                refine call_pure hM hI (T14 _ hr) rfl ?_
                clear hr
                try cbv
                replace h := bO1_inv h
                obtain ⟨b27, hr, h⟩ := h
                first | refine .inr (.inl ⟨[], ?_⟩) | refine .inl ⟨[], ?_⟩
                try cbv
                refine call_pure hM hI (T14 _ hr) rfl ?_
                clear hr
                try cbv
                replace h := letB_inv h
                obtain ⟨b28, hz, h⟩ := h
                refine ⟨b28, eqv_eq hz, ?_⟩
                clear hz
                try cbv
                refine drawn ?_ ?_
                · show _ = true
                  kernel_rfl
                try cbv
                obtain rfl := Option.some.inj h
                refine fin_go ?_
                try cbv
                exact ⟨[], rfl, rfl, trivial, trivial, trivial⟩
          · replace h := ite_f (bytes_ne.1 e) h
            clear e
            try cbv
            replace h := bO1_inv h
            obtain ⟨b29, hr, h⟩ := h
            first | refine .inr (.inl ⟨[], ?_⟩) | refine .inl ⟨[], ?_⟩
            try cbv
            refine call_pure hM hI (T14 _ hr) rfl ?_
            clear hr
            try cbv
            replace h := letB_inv h
            obtain ⟨b30, hz, h⟩ := h
            refine ⟨b30, eqv_eq hz, ?_⟩
            clear hz
            try cbv
            cases b30
            · replace h := ite_f Bool.false_ne_true h
              try cbv
              refine drawn ?_ ?_
              · show _ = true
                kernel_rfl
              try cbv
              obtain rfl := Option.some.inj h
              refine fin_go ?_
              try cbv
              exact ⟨[], rfl, rfl, trivial, trivial, trivial⟩
            · replace h := ite_t rfl h
              try cbv
              replace h := bO1_inv h
              obtain ⟨b31, hr, h⟩ := h
              first | refine .inr (.inl ⟨[], ?_⟩) | refine .inl ⟨[], ?_⟩
              try cbv
              refine call_pure hM hI (T14 _ hr) rfl ?_
              clear hr
              try cbv
              cases b31
              · replace h := ite_f Bool.false_ne_true h
                try cbv
                refine drawn ?_ ?_
                · show _ = true
                  kernel_rfl
                try cbv
                obtain rfl := Option.some.inj h
                refine fin_go ?_
                try cbv
                exact ⟨[], rfl, rfl, trivial, trivial, trivial⟩
              · replace h := ite_t rfl h
                try cbv
                replace h := bO1_inv h
                obtain ⟨b32, hr, h⟩ := h
                first | refine .inr (.inl ⟨[], ?_⟩) | refine .inl ⟨[], ?_⟩
                try cbv
                refine call_pure hM hI (T14 _ hr) rfl ?_
                clear hr
                try cbv
                replace h := bO1_inv h
                obtain ⟨b33, hr, h⟩ := h
                first | refine .inr (.inl ⟨[], ?_⟩) | refine .inl ⟨[], ?_⟩
                try cbv
                refine call_pure hM hI (T14 _ hr) rfl ?_
                clear hr
                try cbv
                replace h := letB_inv h
                obtain ⟨b34, hz, h⟩ := h
                refine ⟨b34, eqv_eq hz, ?_⟩
                clear hz
                try cbv
                refine drawn ?_ ?_
                · show _ = true
                  kernel_rfl
                try cbv
                obtain rfl := Option.some.inj h
                refine fin_go ?_
                try cbv
                exact ⟨[], rfl, rfl, trivial, trivial, trivial⟩
        · replace h := ite_t rfl h
          try cbv
          refine seq_go ?_
          try cbv
          obtain rfl := Option.some.inj h
          refine fin_go ?_
          try cbv
          exact ⟨[], rfl, rfl, trivial, trivial, trivial⟩
  · replace h := ite_t rfl h
    try cbv
    refine seq_go ?_
    try cbv
    obtain rfl := Option.some.inj h
    refine fin_go ?_
    try cbv
    exact ⟨[], rfl, rfl, trivial, trivial, trivial⟩
end Go.Proofs.YtagiiaejijihoaaDoor
end

set_option linter.unusedVariables false
noncomputable section
namespace Go.Proofs.YtagiiaejijihoaaDoor
open Go Go.AM

def bl (s : ByteArray) : List UInt8 := s.data.toList
def tx (l : List UInt8) : ByteArray := ⟨l.toArray⟩
theorem bl_tx (l : List UInt8) : bl (tx l) = l := by simp [bl, tx]
theorem bl_inj {s t : ByteArray} (h : bl s = bl t) : s = t := by
  apply ByteArray.ext
  apply Array.ext'
  exact h
theorem tx_inj {a b : List UInt8} (h : tx a = tx b) : a = b := by rw [← bl_tx a, h, bl_tx]
theorem bl_len (s : ByteArray) : s.size = (bl s).length := (Array.length_toList (xs := s.data)).symm
theorem tx_size (l : List UInt8) : (tx l).size = l.length := by rw [bl_len, bl_tx]
theorem tx_app (a b : List UInt8) : tx a ++ tx b = tx (a ++ b) := by
  apply bl_inj
  rw [bl_tx]
  show ((tx a) ++ (tx b)).data.toList = _
  rw [ByteArray.data_append, Array.toList_append]
  simp [tx]
theorem cat_tx {γ : Type} {a b : List UInt8} {k : ByteArray → Option γ} (h : a.length + b.length ≤ 10000000) : catF (tx a) (tx b) k = k (tx (a ++ b)) := by
  unfold catF
  rw [if_pos, tx_app]
  have : IntKind.i64.max = 9223372036854775807 := rfl
  rw [tx_size, tx_size]
  omega

theorem dec_small {u : Nat} (h : u < 10) : Lib.decDigits u = [UInt8.ofNat (48 + u)] := by rw [Lib.decDigits, dif_pos h]
theorem dec_big {u : Nat} (h : ¬ u < 10) : Lib.decDigits u = Lib.decDigits (u / 10) ++ [UInt8.ofNat (48 + u % 10)] := by rw [Lib.decDigits, dif_neg h]
def dval (l : List UInt8) : Nat := l.foldl (fun a b => a * 10 + (b.toNat - 48)) 0
theorem dg_nat {u : Nat} (h : u < 10) : (UInt8.ofNat (48 + u)).toNat = 48 + u := by
  rw [UInt8.toNat_ofNat']
  omega
theorem dval_dec (u : Nat) : dval (Lib.decDigits u) = u := by
  induction u using Nat.strongRecOn with
  | _ u ih =>
    by_cases c : u < 10
    · rw [dec_small c]
      show 0 * 10 + ((UInt8.ofNat (48 + u)).toNat - 48) = u
      rw [dg_nat c]; omega
    · rw [dec_big c]
      unfold dval
      rw [List.foldl_append]
      show dval (Lib.decDigits (u / 10)) * 10 + ((UInt8.ofNat (48 + u % 10)).toNat - 48) = u
      rw [ih _ (by omega), dg_nat (by omega)]; omega
theorem dec_digits (u : Nat) : ∀ b ∈ Lib.decDigits u, 48 ≤ b.toNat ∧ b.toNat ≤ 57 := by
  induction u using Nat.strongRecOn with
  | _ u ih =>
    by_cases c : u < 10
    · rw [dec_small c]
      intro b hb
      rw [List.mem_singleton.1 hb, dg_nat c]; omega
    · rw [dec_big c]
      intro b hb
      rcases List.mem_append.1 hb with hb | hb
      · exact ih _ (by omega) b hb
      · rw [List.mem_singleton.1 hb, dg_nat (by omega)]; omega
def nb (b : UInt8) : Bool := decide (b = 45) || (decide (48 ≤ b.toNat) && decide (b.toNat ≤ 57))
theorem itoa_nb (z : Int) : ∀ b ∈ Lib.itoa z, nb b = true := by
  intro b hb
  have h : ∀ u, b ∈ Lib.decDigits u → nb b = true := fun u h => by
    obtain ⟨h1, h2⟩ := dec_digits u b h
    simp [nb, h1, h2]
  unfold Lib.itoa at hb
  split at hb
  · rcases List.mem_cons.1 hb with rfl | hb
    · rfl
    · exact h _ hb
  · exact h _ hb
theorem itoa_inj {z w : Int} (h : Lib.itoa z = Lib.itoa w) : z = w := by
  have nohead : ∀ u l, Lib.decDigits u ≠ 45 :: l := fun u l h => by
    have := dec_digits u 45 (by rw [h]; simp)
    have e : (45 : UInt8).toNat = 45 := rfl
    omega
  unfold Lib.itoa at h
  split at h
  · split at h
    · have := congrArg dval (List.cons.inj h).2
      rw [dval_dec, dval_dec] at this; omega
    · exact absurd h.symm (nohead _ _)
  · split at h
    · exact absurd h (nohead _ _)
    · have := congrArg dval h
      rw [dval_dec, dval_dec] at this; omega
theorem takeWhile_sep {p : UInt8 → Bool} {c : UInt8} (hp : p c = false) (B : List UInt8) : ∀ t : List UInt8, (∀ b ∈ t, p b = true) → (t ++ c :: B).takeWhile p = t
  | [], _ => by simp [hp]
  | a :: t, h => by
    have h1 := h a (by simp)
    simp only [List.cons_append, List.takeWhile_cons, h1, if_true]
    rw [takeWhile_sep hp B t (fun b hb => h b (by simp [hb]))]
theorem itoa_sep {z w : Int} {c : UInt8} (hc : nb c = false) {a b : List UInt8} (h : Lib.itoa z ++ c :: a = Lib.itoa w ++ c :: b) : z = w ∧ a = b := by
  have h1 := takeWhile_sep hc a (Lib.itoa z) (itoa_nb z)
  have h2 := takeWhile_sep hc b (Lib.itoa w) (itoa_nb w)
  rw [h, h2] at h1
  obtain rfl := itoa_inj h1.symm
  exact ⟨rfl, (List.cons.inj (List.append_cancel_left h)).2⟩
theorem itoa_len {z : Int} (h : (Lit.int .i64 z).wf = true) : (Lib.itoa z).length ≤ 21 := Lib.itoa_length_le z (i64_range h).1 (i64_range h).2

def lettersL : List UInt8 := [45, 105, 98, 117, 115, 101, 66, 67, 82, 65, 77, 84, 83, 86, 114, 109]
def lt (k : Int) : UInt8 := if k < 16 then lettersL.getD k.toNat 0 else 63
def intOf : D → Int
  | .int _ z => z
  | _ => 0
def pathT (l : List D) : List UInt8 := l.flatMap fun d => Lib.itoa (intOf d) ++ [44]
def txt1 (T : List UInt8) (v : VV) : List UInt8 :=
  lt v.k :: (Lib.itoa v.i ++ 58 :: (Lib.itoa (v.nm.size : Int) ++ 58 :: (bl v.nm ++ 58 :: (Lib.itoa v.id ++ 40 :: (T ++ 41 :: 91 :: (pathT v.pt ++ [93]))))))
def txtL : Nat → List D → List UInt8
  | 0, _ => []
  | f + 1, l => l.flatMap fun x => txt1 (txtL f (un x).fs) (un x)
def txt (v : VV) : List UInt8 := txt1 (txtL (SizeOf.sizeOf v.fs + 1) v.fs) v
theorem txtL_fuel : ∀ (f g : Nat) (l : List D), (∀ x ∈ l, ∃ v : VV, x = v.row) → (ListS tab 25 l) → SizeOf.sizeOf l < f → SizeOf.sizeOf l < g → txtL f l = txtL g l
  | 0, g, l, _, _, h, _ => by omega
  | f + 1, 0, l, _, _, _, h => by omega
  | f + 1, g + 1, l, hr, hl, h1, h2 => by
    simp only [txtL]
    have main : ∀ m : List D, (∀ x ∈ m, x ∈ l) → m.flatMap (fun x => txt1 (txtL f (un x).fs) (un x)) = m.flatMap (fun x => txt1 (txtL g (un x).fs) (un x)) := by
      intro m hm
      induction m with
      | nil => rfl
      | cons x m ih =>
        obtain ⟨v, rfl⟩ := hr x (hm x (by simp))
        have hv := hm v.row (by simp)
        have hsz := size_fs hv
        have hvT : VT v := by
          obtain ⟨a0, a1, a2, a3, a4, a5, e, w0, w1, w2, w3, w4, w5⟩ := rs25 (hl.2 _ hv)
          have e' : v = ⟨a0, a1, a2, a3, a4, a5⟩ := row_inj e
          rw [e']; exact ⟨w0, w1, w2, w3, w4, w5⟩
        have hrows : ∀ x ∈ v.fs, ∃ w : VV, x = w.row := fun x hx => by
          obtain ⟨a0, a1, a2, a3, a4, a5, rfl, _⟩ := rs25 (hvT.fs.2 x hx)
          exact ⟨⟨a0, a1, a2, a3, a4, a5⟩, rfl⟩
        simp only [List.flatMap_cons, un_row, txtL_fuel f g v.fs hrows hvT.fs (by omega) (by omega), ih (fun x hx => hm x (by simp [hx]))]
    exact main l (fun x hx => hx)
theorem rowsOf {l : List D} (h : ListS tab 25 l) : ∀ x ∈ l, ∃ v : VV, x = v.row ∧ VT v := fun x hx => by
  obtain ⟨a0, a1, a2, a3, a4, a5, rfl, w0, w1, w2, w3, w4, w5⟩ := rs25 (h.2 x hx)
  exact ⟨⟨a0, a1, a2, a3, a4, a5⟩, rfl, ⟨w0, w1, w2, w3, w4, w5⟩⟩
theorem txtL_txt {l : List D} (h : ListS tab 25 l) {f : Nat} (hf : SizeOf.sizeOf l < f) : txtL f l = l.flatMap fun x => txt (un x) := by
  match f, hf with
  | f + 1, hf =>
    simp only [txtL]
    have main : ∀ m : List D, (∀ x ∈ m, x ∈ l) → m.flatMap (fun x => txt1 (txtL f (un x).fs) (un x)) = m.flatMap (fun x => txt (un x)) := by
      intro m hm
      induction m with
      | nil => rfl
      | cons x m ih =>
        obtain ⟨v, rfl, hv⟩ := rowsOf h x (hm x (by simp))
        have hsz := size_fs (hm v.row (by simp))
        simp only [List.flatMap_cons, un_row, ih (fun x hx => hm x (by simp [hx]))]
        unfold txt
        rw [txtL_fuel f (SizeOf.sizeOf v.fs + 1) v.fs (fun x hx => (rowsOf hv.fs x hx).imp fun _ h => h.1) hv.fs (by omega) (by omega)]
    exact main l (fun x hx => hx)
theorem txt_eq {v : VV} (h : VT v) : txt v = txt1 (v.fs.flatMap fun x => txt (un x)) v := by
  rw [← txtL_txt h.fs (Nat.lt_succ_self _)]
  rfl
theorem pathT_len {l : List D} (h : ListS tab 3 l) : (pathT l).length ≤ 22 * l.length := by
  obtain ⟨q, rfl, hq⟩ := intsS h
  unfold pathT
  clear h
  induction q with
  | nil => simp
  | cons z q ih =>
    have h1 := ih (fun y hy => hq y (by simp [hy]))
    have h2 := itoa_len (hq z (by simp))
    simp only [List.map_cons, List.flatMap_cons, List.length_append, List.length_cons, List.length_nil, intOf] at h1 ⊢
    omega

theorem ev24t (l : List D) : ListS tab 25 l → ∀ z : Int, -1 ≤ z → z ≤ 5000 → ∃ r, Ev (fun n => F24 n l z) r ∧ -1 ≤ r ∧ r ≤ z ∧ (0 ≤ r → ((l.flatMap fun x => txt (un x)).length : Int) ≤ 22 * (z - r)) := by
  refine list_ind (P := fun l => ListS tab 25 l → ∀ z : Int, -1 ≤ z → z ≤ 5000 → ∃ r, Ev (fun n => F24 n l z) r ∧ -1 ≤ r ∧ r ≤ z ∧ (0 ≤ r → ((l.flatMap fun x => txt (un x)).length : Int) ≤ 22 * (z - r))) (fun l ih h => ?_) l
  have loop : ∀ i : Nat, i ≤ l.length → ∀ z : Int, -1 ≤ z → z ≤ 5000 → ∃ r, Ev (fun n => L24_1 n l z (i : Int)) r ∧ -1 ≤ r ∧ r ≤ z ∧
      (0 ≤ r → (((l.drop i).flatMap fun x => txt (un x)).length : Int) ≤ 22 * (z - r)) := by
    refine down l.length ?_ ?_
    · intro z h1 h2
      refine ⟨z, .succ ?_, h1, Int.le_refl _, fun _ => by rw [List.drop_length]; simp⟩
      simp only [L24_1, lenF, Int.lt_irrefl, if_false]
      exact .succ (by simp only [L24_2, Bool.false_eq_true, if_false]; exact .ret)
    · intro i hi ihd z h1 h2
      by_cases hz : 0 ≤ z
      · obtain ⟨v, hx, hm, hv⟩ := rowV h hi
        have hw := iw (z := z - 10) (by omega) (by omega)
        by_cases c1 : z - 10 < 0
        · refine ⟨-1, .succ ?_, by omega, by omega, by omega⟩
          simp only [L24_1, lenF, if_pos (ilt hi), if_pos hz]
          refine .succ ?_
          simp only [L24_2, if_true, getF_nat hx, ds25, letF, hw, if_pos c1]
          exact .succ (by simp only [L24_3, if_true]; exact .ret)
        by_cases c2 : z - 10 < (v.nm.size : Int)
        · refine ⟨-1, .succ ?_, by omega, by omega, by omega⟩
          simp only [L24_1, lenF, if_pos (ilt hi), if_pos hz]
          refine .succ ?_
          simp only [L24_2, if_true, getF_nat hx, ds25, letF, hw, if_neg c1, szF, if_pos c2]
          exact .succ (by simp only [L24_3, if_true]; exact .ret)
        have hw2 := iw (z := z - 10 - (v.nm.size : Int)) (by omega) (by omega)
        by_cases c3 : z - 10 - (v.nm.size : Int) < (v.pt.length : Int)
        · refine ⟨-1, .succ ?_, by omega, by omega, by omega⟩
          simp only [L24_1, lenF, if_pos (ilt hi), if_pos hz]
          refine .succ ?_
          simp only [L24_2, if_true, getF_nat hx, ds25, letF, hw, if_neg c1, szF, if_neg c2, lenF, hw2, if_pos c3]
          exact .succ (by simp only [L24_3, if_true]; exact .ret)
        have hw3 := iw (z := z - 10 - (v.nm.size : Int) - (v.pt.length : Int)) (by omega) (by omega)
        obtain ⟨y, e1, e2, e3, e4⟩ := ih v.fs (size_fs hm) hv.fs (z - 10 - (v.nm.size : Int) - (v.pt.length : Int)) (by omega) (by omega)
        obtain ⟨r, k1, k2, k3, k4⟩ := ihd y (by omega) (by omega)
        refine ⟨r, .succ ?_, k2, by omega, fun hr => ?_⟩
        · simp only [L24_1, lenF, if_pos (ilt hi), if_pos hz]
          refine .succ ?_
          simp only [L24_2, if_true, getF_nat hx, ds25, letF, hw, if_neg c1, szF, if_neg c2, lenF, hw2, if_neg c3]
          refine .succ ?_
          simp only [L24_3, Bool.false_eq_true, if_false, szF, letF, hw2, lenF, hw3]
          refine Ev.bO1 e1 ?_
          simp only [letF, wrap_succ hi h.1]
          exact k1
        · have d1 : l.drop i = v.row :: l.drop (i + 1) := by
            rw [List.drop_eq_getElem_cons hi]; congr 1
            rw [List.getElem?_eq_getElem hi] at hx; exact Option.some.inj hx
          have l1 := k4 hr
          have l2 := e4 (by omega)
          have l3 := itoa_len hv.i
          have l4 := itoa_len hv.id
          have l5 := itoa_len (z := (v.nm.size : Int)) (i64_wf (by omega) (by have := hv.nm; simp only [maxLen] at this; omega))
          have l6 := pathT_len hv.pt
          have l7 := bl_len v.nm
          rw [d1, List.flatMap_cons, un_row, txt_eq hv]
          simp only [txt1, List.length_append, List.length_cons, List.length_nil]
          omega
      · refine ⟨z, .succ ?_, h1, Int.le_refl _, by omega⟩
        simp only [L24_1, lenF, if_pos (ilt hi), if_neg hz]
        exact .succ (by simp only [L24_2, Bool.false_eq_true, if_false]; exact .ret)
  intro z h1 h2
  obtain ⟨r, k1, k2, k3, k4⟩ := loop 0 (Nat.zero_le _) z h1 h2
  exact ⟨r, .succ (by simp only [F24]; exact k1), k2, k3, fun hr => by simpa using k4 hr⟩
theorem ev8t {v x : VV} (hv : VT v) (hx : VT x) (l : List D) : ∃ b, Ev (fun n => F8 n v.k v.i v.nm v.fs v.id v.pt x.k x.i x.nm x.fs x.id x.pt l) b ∧ (b = false → VS v ∧ VS x ∧ (txt v).length ≤ 200000 ∧ (txt x).length ≤ 200000) := by
  obtain ⟨b, hb, h1⟩ := ev8 hv hx l
  refine ⟨b, hb, fun e => ?_⟩
  subst e
  obtain ⟨g1, g2, g3⟩ := h1 rfl
  obtain ⟨y, e1, e2, e3, e4⟩ := ev24t [v.row] (.one hv.rowS) 5000 (by omega) (by omega)
  obtain ⟨r, k1, k2, k3, k4⟩ := ev24t [x.row] (.one hx.rowS) y (by omega) (by omega)
  by_cases hr : r < 0
  · exfalso
    have : Ev (fun n => F8 n v.k v.i v.nm v.fs v.id v.pt x.k x.i x.nm x.fs x.id x.pt l) true := by
      unfold F8
      simp only [lenF, if_neg (show ¬ (100 : Int) < (l.length : Int) by omega)]
      exact Ev.bO1 e1 (Ev.bO1 k1 (by simp only [if_pos hr]; exact .ret))
    cases this.uniq hb
  · have a1 := e4 (by omega)
    have a2 := k4 (by omega)
    simp only [List.flatMap_cons, List.flatMap_nil, List.append_nil, un_row] at a1 a2
    exact ⟨g1, g2, by omega, by omega⟩

theorem join_empty (xs : List (List UInt8)) : Lib.join xs [] = xs.flatten := by
  cases xs with
  | nil => rfl
  | cons x r => rw [Lib.join_cons]; simp [Lib.joinTail]
theorem ev32 {z : Int} (h : (Lit.int .i64 z).wf = true) (n : Nat) : F32 n z = some (tx (Lib.itoa z)) := by
  unfold F32; rw [if_pos (i64_range h)]; rfl
theorem ev34 {z : Int} (h : (Lit.int .i64 z).wf = true) (n : Nat) : F34 n z 10 = some (tx (Lib.itoa z)) := by
  unfold F34; rw [if_pos ⟨rfl, i64_range h⟩]; rfl
theorem flat_take {α : Type} (g : D → List UInt8) (l : List D) (i : Nat) : ((l.take i).flatMap g).length ≤ (l.flatMap g).length := by
  have : l.flatMap g = (l.take i).flatMap g ++ (l.drop i).flatMap g := by rw [← List.flatMap_append, List.take_append_drop]
  rw [this, List.length_append]; omega
theorem letter15 {k : Int} (h : (Lit.int .u8 k).wf = true) (h16 : k < 16) {γ : Type} (f : ByteArray → Option γ) :
    getF [.str k___1, .str k_i, .str k_b, .str k_u, .str k_s, .str k_e, .str k_B, .str k_C, .str k_R, .str k_A, .str k_M, .str k_T, .str k_S, .str k_V, .str k_r, .str k_m] k (fun x9 => ds_str x9 f) = f (tx [lt k]) := by
  have h0 := (u8_range h).1
  obtain ⟨i, rfl⟩ : ∃ i : Nat, k = (i : Int) := ⟨k.toNat, by omega⟩
  have hi : i < 16 := by omega
  have : ∀ i : Nat, i < 16 → i = 0 ∨ i = 1 ∨ i = 2 ∨ i = 3 ∨ i = 4 ∨ i = 5 ∨ i = 6 ∨ i = 7 ∨ i = 8 ∨ i = 9 ∨ i = 10 ∨ i = 11 ∨ i = 12 ∨ i = 13 ∨ i = 14 ∨ i = 15 := by omega
  rcases this i hi with rfl | rfl | rfl | rfl | rfl | rfl | rfl | rfl | rfl | rfl | rfl | rfl | rfl | rfl | rfl | rfl <;> rfl
theorem ev15L (l : List D) : ∀ v : VV, v.fs = l → VT v → (txt v).length ≤ 200000 → Ev (fun n => F15 n v.k v.i v.nm v.fs v.id v.pt) (tx (txt v)) := by
  refine list_ind (P := fun l => ∀ v : VV, v.fs = l → VT v → (txt v).length ≤ 200000 → Ev (fun n => F15 n v.k v.i v.nm v.fs v.id v.pt) (tx (txt v))) (fun l ih v hvl hv hlen => ?_) l
  subst hvl
  have hk := u8_range hv.k
  have hw := iw (z := v.k) (by omega) (by omega)
  have hnm : (Lit.int .i64 (v.nm.size : Int)).wf = true := i64_wf (by omega) (by have := hv.nm; simp only [maxLen] at this; omega)
  rw [txt_eq hv] at hlen ⊢
  have hlen' := hlen
  simp only [txt1, List.length_append, List.length_cons, List.length_nil] at hlen'
  -- the end
  have fin : Ev (fun n => L15_6 n v.i v.nm v.id v.pt (tx [lt v.k]) (tx (v.fs.flatMap fun x => txt (un x))) (v.pt.length : Int) (tx (pathT v.pt)) (v.pt.length : Int) false) (tx (txt1 (v.fs.flatMap fun x => txt (un x)) v)) := by
    refine .succ ?_
    simp only [L15_6, Bool.false_eq_true, if_false, ev32 hv.id, ev34 hv.i, szF, ev32 hnm, bO1s]
    refine Ev.bO1 (a := tx (txt1 (v.fs.flatMap fun x => txt (un x)) v)) ?_ .ret
    unfold F33
    refine Ev.bO1 (a := tx (txt1 (v.fs.flatMap fun x => txt (un x)) v)) (.of fun n => ?_) .ret
    have hj : Lib.join ([tx [lt v.k], tx (Lib.itoa v.i), k___3, tx (Lib.itoa (v.nm.size : Int)), k___3, v.nm, k___3, tx (Lib.itoa v.id), k___4, tx (v.fs.flatMap fun x => txt (un x)), k___, tx (pathT v.pt), k___5].map (·.data.toList)) ByteArray.empty.data.toList = txt1 (v.fs.flatMap fun x => txt (un x)) v := by
      rw [show ByteArray.empty.data.toList = ([] : List UInt8) from rfl, join_empty]
      show [bl (tx [lt v.k]), bl (tx (Lib.itoa v.i)), bl k___3, bl (tx (Lib.itoa (v.nm.size : Int))), bl k___3, bl v.nm, bl k___3, bl (tx (Lib.itoa v.id)), bl k___4, bl (tx (v.fs.flatMap fun x => txt (un x))), bl k___, bl (tx (pathT v.pt)), bl k___5].flatten = _
      simp only [bl_tx, show bl k___3 = [58] from rfl, show bl k___4 = [40] from rfl, show bl k___ = [41, 91] from rfl, show bl k___5 = [93] from rfl, List.flatten_cons, List.flatten_nil, txt1, List.cons_append, List.nil_append, List.append_nil]
    show (if 13 ≤ 140737488355328 ∧ (Lib.join _ _).length ≤ 140737488355328 then some (joinB _ _) else none) = _
    rw [if_pos ⟨by decide, by rw [hj]; omega⟩]
    unfold joinB
    rw [hj]
    rfl
  have path : ∀ i : Nat, i ≤ v.pt.length → Ev (fun n => L15_5 n v.i v.nm v.id v.pt (tx [lt v.k]) (tx (v.fs.flatMap fun x => txt (un x))) (v.pt.length : Int) (tx (pathT (v.pt.take i))) (i : Int)) (tx (txt1 (v.fs.flatMap fun x => txt (un x)) v)) := by
    refine down _ ?_ (fun i hi ihd => ?_)
    · refine .succ ?_
      simp only [L15_5, Int.lt_irrefl, if_false, List.take_length]
      exact fin
    · obtain ⟨x, hx, _, hr⟩ := hv.pt.get hi
      obtain ⟨z, rfl, hz⟩ := rs3 hr
      have ht : v.pt.take (i + 1) = v.pt.take i ++ [.int .i64 z] := by rw [List.take_add_one, hx]; rfl
      have hp : pathT (v.pt.take (i + 1)) = pathT (v.pt.take i) ++ (Lib.itoa z ++ [44]) := by rw [ht]; simp [pathT, intOf]
      have hb := flat_take (α := Nat) (fun d => Lib.itoa (intOf d) ++ [44]) v.pt i
      have hz' := itoa_len hz
      have q1 : ∀ k : ByteArray → Option ByteArray, catF (tx (Lib.itoa z)) k___2 k = k (tx (Lib.itoa z ++ [44])) := fun k => cat_tx (b := [44]) (by simp only [List.length_cons, List.length_nil]; omega)
      have q2 : ∀ k : ByteArray → Option ByteArray, catF (tx (pathT (v.pt.take i))) (tx (Lib.itoa z ++ [44])) k = k (tx (pathT (v.pt.take i) ++ (Lib.itoa z ++ [44]))) := fun k => cat_tx (by
        unfold pathT at hlen' ⊢
        simp only [List.length_append, List.length_cons, List.length_nil]; omega)
      refine .succ ?_
      simp only [L15_5, if_pos (ilt hi)]
      refine .succ ?_
      simp only [L15_6, if_true, getF_nat hx, ds_i64, ev32 hz, bO1s, q1, q2, letF, wrap_succ hi hv.pt.1]
      rw [hp] at ihd
      exact ihd
  have fields : ∀ i : Nat, i ≤ v.fs.length → Ev (fun n => L15_3 n v.i v.nm v.fs v.id v.pt (tx [lt v.k]) (v.fs.length : Int) (tx ((v.fs.take i).flatMap fun x => txt (un x))) (i : Int)) (tx (txt1 (v.fs.flatMap fun x => txt (un x)) v)) := by
    refine down _ ?_ (fun i hi ihd => ?_)
    · refine .succ ?_
      simp only [L15_3, Int.lt_irrefl, if_false, List.take_length]
      refine .succ ?_
      simp only [L15_4, Bool.false_eq_true, if_false, lenF]
      have := path 0 (Nat.zero_le _)
      rw [show tx (pathT (v.pt.take 0)) = ByteArray.empty from rfl] at this
      exact this
    · obtain ⟨w, hx, hm, hw'⟩ := rowV hv.fs hi
      have ht : (v.fs.take (i + 1)).flatMap (fun x => txt (un x)) = (v.fs.take i).flatMap (fun x => txt (un x)) ++ txt w := by
        rw [List.take_add_one, hx, List.flatMap_append]
        simp [un_row]
      have hb := flat_take (α := Nat) (fun x => txt (un x)) v.fs (i + 1)
      have hb' := congrArg List.length ht
      rw [List.length_append] at hb'
      refine .succ ?_
      simp only [L15_3, if_pos (ilt hi)]
      refine .succ ?_
      simp only [L15_4, if_true, getF_nat hx, ds25]
      refine Ev.bO1 (ih w.fs (size_fs hm) w rfl hw' (by omega)) ?_
      have q : ∀ k : ByteArray → Option ByteArray, catF (tx ((v.fs.take i).flatMap fun x => txt (un x))) (tx (txt w)) k = k (tx ((v.fs.take i).flatMap (fun x => txt (un x)) ++ txt w)) := fun k => cat_tx (by omega)
      simp only [q, letF, wrap_succ hi hv.fs.1]
      rw [ht] at ihd
      exact ihd
  have l2 : ∀ s, s = tx [lt v.k] → Ev (fun n => L15_2 n v.i v.nm v.fs v.id v.pt s) (tx (txt1 (v.fs.flatMap fun x => txt (un x)) v)) := by
    rintro s rfl
    refine .succ ?_
    simp only [L15_2, lenF]
    have := fields 0 (Nat.zero_le _)
    rw [show tx ((v.fs.take 0).flatMap fun x => txt (un x)) = ByteArray.empty from rfl] at this
    exact this
  refine .succ ?_
  simp only [F15, letF, hw, F31]
  refine Ev.bO0 .ret ?_
  by_cases c : v.k < 16
  · simp only [if_pos c]
    refine .succ ?_
    simp only [L15_1, if_true, F31]
    refine Ev.bO0 .ret ?_
    simp only [letter15 hv.k c]
    exact l2 _ rfl
  · simp only [if_neg c]
    refine .succ ?_
    simp only [L15_1, Bool.false_eq_true, if_false]
    exact l2 _ (by unfold lt; rw [if_neg c]; rfl)
theorem ev15 {v : VV} (hv : VT v) (h : (txt v).length ≤ 200000) : Ev (fun n => F15 n v.k v.i v.nm v.fs v.id v.pt) (tx (txt v)) := ev15L v.fs v rfl hv h

theorem ints29 {q q' : List Int} (h : q.length ≤ maxLen) : Ev (fun n => F29 n (pD q) (pD q')) (decide (q = q')) := by
  unfold F29
  simp only [lenF, List.length_map]
  by_cases e : q.length = q'.length
  · simp only [if_pos (show (q.length : Int) = (q'.length : Int) by omega)]
    refine .succ ?_
    simp only [L29_1, Bool.false_eq_true, if_false, lenF, List.length_map]
    have loop : ∀ i : Nat, i ≤ q.length → Ev (fun n => L29_2 n (pD q) (pD q') (q.length : Int) (i : Int)) (decide (q.drop i = q'.drop i)) := by
      refine down _ ?_ (fun i hi ih => ?_)
      · refine .succ ?_
        simp only [L29_2, Int.lt_irrefl, if_false]
        rw [List.drop_length, e, List.drop_length, decide_eq_true rfl]
        exact .succ (by simp only [L29_3, Bool.false_eq_true, if_false]; exact .ret)
      · have hi' : i < q'.length := by omega
        have h1 : (pD q)[i]? = some (.int .i64 q[i]) := by simp [hi]
        have h2 : (pD q')[i]? = some (.int .i64 q'[i]) := by simp [hi']
        have d1 := List.drop_eq_getElem_cons hi
        have d2 := List.drop_eq_getElem_cons hi'
        refine .succ ?_
        simp only [L29_2, if_pos (ilt hi)]
        refine .succ ?_
        simp only [L29_3, if_true, getF_nat h1, getF_nat h2, ds_i64]
        by_cases c : q[i] = q'[i]
        · simp only [if_pos c]
          refine .succ ?_
          simp only [L29_4, Bool.false_eq_true, if_false, letF, wrap_succ hi h]
          have : decide (q.drop i = q'.drop i) = decide (q.drop (i + 1) = q'.drop (i + 1)) := by
            rw [d1, d2, c]; exact decide_eq_decide.2 ⟨fun h => (List.cons.inj h).2, fun h => by rw [h]⟩
          rw [this]
          exact ih
        · simp only [if_neg c]
          rw [decide_eq_false (by rw [d1, d2]; intro h; exact c (List.cons.inj h).1)]
          exact .succ (by simp only [L29_4, if_true]; exact .ret)
    have := loop 0 (Nat.zero_le _)
    simpa using this
  · simp only [if_neg (show ¬ (q.length : Int) = (q'.length : Int) by omega)]
    rw [decide_eq_false (fun h => e (congrArg _ h))]
    exact .succ (by simp only [L29_1, if_true]; exact .ret)
open Classical in
theorem same14 (v w : VV) (hv : VT v) (hw : VT w) (hfs : Ev (fun n => F30 n v.fs w.fs) (decide (v.fs = w.fs))) :
    Ev (fun n => F14 n v.k v.i v.nm v.fs v.id v.pt w.k w.i w.nm w.fs w.id w.pt) (decide (v = w)) := by
  have no : v ≠ w → Ev (fun _ => some false) (decide (v = w)) := fun h => by rw [decide_eq_false h]; exact .ret
  refine .succ ?_
  simp only [F14]
  by_cases c1 : v.k = w.k
  rotate_left
  · simp only [if_neg c1]; exact no (fun h => c1 (by rw [h]))
  by_cases c2 : v.i = w.i
  rotate_left
  · simp only [if_pos c1, if_neg c2]; exact no (fun h => c2 (by rw [h]))
  by_cases c3 : v.nm = w.nm
  rotate_left
  · simp only [if_pos c1, if_pos c2, if_neg c3]; exact no (fun h => c3 (by rw [h]))
  by_cases c4 : v.id = w.id
  rotate_left
  · simp only [if_pos c1, if_pos c2, if_pos c3, if_neg c4]; exact no (fun h => c4 (by rw [h]))
  simp only [if_pos c1, if_pos c2, if_pos c3, if_pos c4]
  obtain ⟨q, e1, _⟩ := intsS hv.pt
  obtain ⟨q', e2, _⟩ := intsS hw.pt
  have hq : q.length ≤ maxLen := by have := hv.pt.1; rw [e1] at this; simpa using this
  rw [e1, e2]
  refine Ev.bO1 (ints29 hq) ?_
  by_cases c5 : q = q'
  rotate_left
  · simp only [decide_eq_false c5, Bool.false_eq_true, if_false]
    exact no (fun h => c5 (pD_inj (e1.symm.trans ((congrArg VV.pt h).trans e2))))
  simp only [decide_eq_true c5, if_true]
  refine Ev.bO1 hfs ?_
  have : decide (v.fs = w.fs) = decide (v = w) := by
    refine decide_eq_decide.2 ⟨fun h => ?_, fun h => by rw [h]⟩
    have e3 : v.pt = w.pt := by rw [e1, e2, c5]
    obtain ⟨a, b, c, d, e, f⟩ := v
    obtain ⟨a', b', c', d', e', f'⟩ := w
    simp only [VV.mk.injEq]
    exact ⟨c1, c2, c3, h, c4, e3⟩
  rw [this]
  exact .ret
open Classical in
theorem same30 (l : List D) : ∀ m, ListS tab 25 l → ListS tab 25 m → Ev (fun n => F30 n l m) (decide (l = m)) := by
  refine list_ind (P := fun l => ∀ m, ListS tab 25 l → ListS tab 25 m → Ev (fun n => F30 n l m) (decide (l = m))) (fun l ih m h hm => ?_) l
  refine .succ ?_
  simp only [F30, lenF]
  by_cases e : l.length = m.length
  rotate_left
  · simp only [if_neg (show ¬ (l.length : Int) = (m.length : Int) by omega)]
    rw [decide_eq_false (fun h => e (congrArg _ h))]
    exact .succ (by simp only [L30_1, if_true]; exact .ret)
  simp only [if_pos (show (l.length : Int) = (m.length : Int) by omega)]
  refine .succ ?_
  simp only [L30_1, Bool.false_eq_true, if_false, lenF]
  have loop : ∀ i : Nat, i ≤ l.length → Ev (fun n => L30_2 n l m (l.length : Int) (i : Int)) (decide (l.drop i = m.drop i)) := by
    refine down _ ?_ (fun i hi ihd => ?_)
    · refine .succ ?_
      simp only [L30_2, Int.lt_irrefl, if_false]
      rw [List.drop_length, e, List.drop_length, decide_eq_true rfl]
      exact .succ (by simp only [L30_3, Bool.false_eq_true, if_false]; exact .ret)
    · have hi' : i < m.length := by omega
      obtain ⟨v, hx, hvm, hv⟩ := rowV h hi
      obtain ⟨w, hy, hwm, hw⟩ := rowV hm hi'
      have d1 : l.drop i = v.row :: l.drop (i + 1) := by
        rw [List.drop_eq_getElem_cons hi]; congr 1
        rw [List.getElem?_eq_getElem hi] at hx; exact Option.some.inj hx
      have d2 : m.drop i = w.row :: m.drop (i + 1) := by
        rw [List.drop_eq_getElem_cons hi']; congr 1
        rw [List.getElem?_eq_getElem hi'] at hy; exact Option.some.inj hy
      refine .succ ?_
      simp only [L30_2, if_pos (ilt hi)]
      refine .succ ?_
      simp only [L30_3, if_true, getF_nat hx, getF_nat hy, ds25]
      refine Ev.bO1 (same14 v w hv hw (ih v.fs (size_fs hvm) w.fs hv.fs hw.fs)) ?_
      by_cases c : v = w
      · simp only [decide_eq_true c, letB, Bool.not_true, Bool.false_eq_true, if_false, letF, wrap_succ hi h.1]
        have : decide (l.drop i = m.drop i) = decide (l.drop (i + 1) = m.drop (i + 1)) := by
          rw [d1, d2, c]; exact decide_eq_decide.2 ⟨fun h => (List.cons.inj h).2, fun h => by rw [h]⟩
        rw [this]
        exact ihd
      · simp only [decide_eq_false c, letB, Bool.not_false, if_true]
        rw [decide_eq_false (by rw [d1, d2]; intro h; exact c (row_inj (List.cons.inj h).1))]
        exact .ret
  have := loop 0 (Nat.zero_le _)
  simpa using this
open Classical in
theorem ev14 {v w : VV} (hv : VT v) (hw : VT w) : Ev (fun n => F14 n v.k v.i v.nm v.fs v.id v.pt w.k w.i w.nm w.fs w.id w.pt) (decide (v = w)) :=
  same14 v w hv hw (same30 v.fs w.fs hv.fs hw.fs)

inductive Kn : List D → Prop
  | mk {l : List D} (hk : ∀ v : VV, v.row ∈ l → v.k ≤ 15) (hf : ∀ v : VV, v.row ∈ l → Kn v.fs) : Kn l
theorem ev23L (l : List D) : ListS tab 25 l → ∃ b, (b = true → Kn l) ∧ ∀ (z1 z2 : Int) (s3 : ByteArray) (z5 : Int) (l6 : List D), Ev (fun n => F23 n z1 z2 s3 l z5 l6) (b && decide (z1 ≤ 15)) := by
  refine list_ind (P := fun l => ListS tab 25 l → ∃ b, (b = true → Kn l) ∧ ∀ (z1 z2 : Int) (s3 : ByteArray) (z5 : Int) (l6 : List D), Ev (fun n => F23 n z1 z2 s3 l z5 l6) (b && decide (z1 ≤ 15))) (fun l ih h => ?_) l
  have loop : ∀ i : Nat, i ≤ l.length → ∃ b, (b = true → ∀ j : Nat, i ≤ j → ∀ v : VV, l[j]? = some v.row → v.k ≤ 15 ∧ Kn v.fs) ∧ ∀ z1 : Int, Ev (fun n => L23_1 n z1 l (i : Int)) (b && decide (z1 ≤ 15)) := by
    refine down l.length ⟨true, fun _ j hj v hv => absurd ((List.getElem?_eq_some_iff.1 hv).1) (by omega), fun z1 => ?_⟩ (fun i hi ihd => ?_)
    · refine .succ ?_
      simp only [L23_1, lenF, Int.lt_irrefl, if_false]
      refine .succ ?_
      simp only [L23_2, Bool.false_eq_true, if_false, Bool.true_and]
      by_cases c : z1 ≤ 15
      · simp only [if_pos c, decide_eq_true c]; exact .ret
      · simp only [if_neg c, decide_eq_false c]; exact .ret
    · obtain ⟨b, hb1, hb2⟩ := ihd
      obtain ⟨v, hx, hm, hv⟩ := rowV h hi
      obtain ⟨c, hc1, hc2⟩ := ih v.fs (size_fs hm) hv.fs
      refine ⟨(c && decide (v.k ≤ 15)) && b, fun he j hj w hw => ?_, fun z1 => ?_⟩
      · simp only [Bool.and_eq_true, decide_eq_true_eq] at he
        by_cases e : j = i
        · subst e
          rw [hx] at hw
          obtain rfl := row_inj (Option.some.inj hw)
          exact ⟨he.1.2, hc1 he.1.1⟩
        · exact hb1 he.2 j (by omega) w hw
      · refine .succ ?_
        simp only [L23_1, lenF, if_pos (ilt hi)]
        refine .succ ?_
        simp only [L23_2, if_true, getF_nat hx, ds25]
        refine Ev.bO1 (hc2 v.k v.i v.nm v.id v.pt) ?_
        cases c && decide (v.k ≤ 15)
        · simp only [letB, Bool.not_false, if_true, Bool.false_and]; exact .ret
        · simp only [letB, Bool.not_true, Bool.false_eq_true, if_false, Bool.true_and, letF, wrap_succ hi h.1]; exact hb2 z1
  obtain ⟨b, h1, h2⟩ := loop 0 (Nat.zero_le _)
  refine ⟨b, fun e => .mk (fun v hv => ?_) (fun v hv => ?_), fun z1 z2 s3 z5 l6 => .succ (by simp only [F23]; exact h2 z1)⟩
  · obtain ⟨j, hj⟩ := List.getElem?_of_mem hv
    exact (h1 e j (Nat.zero_le _) v hj).1
  · obtain ⟨j, hj⟩ := List.getElem?_of_mem hv
    exact (h1 e j (Nat.zero_le _) v hj).2

theorem lt_inj {k m : Int} (h0 : 0 ≤ k) (h1 : k ≤ 15) (h2 : 0 ≤ m) (h3 : m ≤ 15) (h : lt k = lt m) : k = m := by
  obtain ⟨a, rfl⟩ : ∃ a : Nat, k = (a : Int) := ⟨k.toNat, by omega⟩
  obtain ⟨b, rfl⟩ : ∃ b : Nat, m = (b : Int) := ⟨m.toNat, by omega⟩
  have key : ∀ a : Fin 16, ∀ b : Fin 16, lettersL.getD a.val 0 = lettersL.getD b.val 0 → a = b := by decide
  unfold lt at h
  rw [if_pos (by omega), if_pos (by omega)] at h
  have := key ⟨a, by omega⟩ ⟨b, by omega⟩ (by simpa using h)
  have := Fin.mk.inj this
  omega
theorem pathT_inj : ∀ {q r : List Int} {A B : List UInt8}, pathT (pD q) ++ 93 :: A = pathT (pD r) ++ 93 :: B → q = r ∧ A = B := by
  have ne : ∀ (z : Int) (X Y : List UInt8), (93 : UInt8) :: X ≠ Lib.itoa z ++ Y := by
    intro z X Y h
    cases e : Lib.itoa z with
    | nil =>
      have : Lib.itoa z = Lib.itoa z := rfl
      unfold Lib.itoa at e
      split at e
      · cases e
      · have := Lib.decDigits_length z.toNat
        rw [e] at this
        have := Lib.nDigits_pos z.toNat
        simp at *
        omega
    | cons c t =>
      rw [e] at h
      have h1 := (List.cons.inj h).1
      have := itoa_nb z c (by rw [e]; simp)
      rw [← h1] at this
      exact absurd this (by decide)
  intro q
  induction q with
  | nil =>
    intro r A B h
    cases r with
    | nil => exact ⟨rfl, (List.cons.inj h).2⟩
    | cons z r =>
      simp only [pathT, List.map_cons, List.flatMap_cons, List.map_nil, List.flatMap_nil, List.nil_append, intOf, List.append_assoc] at h
      exact absurd h (ne _ _ _)
  | cons z q ih =>
    intro r A B h
    cases r with
    | nil =>
      simp only [pathT, List.map_cons, List.flatMap_cons, List.map_nil, List.flatMap_nil, List.nil_append, intOf, List.append_assoc] at h
      exact absurd h.symm (ne _ _ _)
    | cons w r =>
      simp only [pathT, List.map_cons, List.flatMap_cons, intOf, List.append_assoc, List.cons_append, List.nil_append] at h
      obtain ⟨rfl, h'⟩ := itoa_sep (by decide) h
      obtain ⟨rfl, e⟩ := ih h'
      exact ⟨rfl, e⟩
theorem Kn.k {l : List D} (h : Kn l) {v : VV} (hv : v.row ∈ l) : v.k ≤ 15 := by
  cases h with
  | mk hk hf => exact hk v hv
theorem Kn.f {l : List D} (h : Kn l) {v : VV} (hv : v.row ∈ l) : Kn v.fs := by
  cases h with
  | mk hk hf => exact hf v hv
def Inj (l : List D) : Prop := ∀ m, ListS tab 25 m → Kn m → ∀ A B, (l.flatMap fun x => txt (un x)) ++ 41 :: A = (m.flatMap fun x => txt (un x)) ++ 41 :: B → l = m ∧ A = B
theorem txt_inj {v w : VV} (hv : VT v) (hw : VT w) (kv : v.k ≤ 15) (kw : w.k ≤ 15) (knw : Kn w.fs) (hi : Inj v.fs) {A B : List UInt8} (h : txt v ++ A = txt w ++ B) : v = w ∧ A = B := by
  rw [txt_eq hv, txt_eq hw] at h
  simp only [txt1, List.cons_append, List.append_assoc, List.nil_append] at h
  obtain ⟨h1, h⟩ := List.cons.inj h
  have e1 := lt_inj (u8_range hv.k).1 kv (u8_range hw.k).1 kw h1
  obtain ⟨e2, h⟩ := itoa_sep (by decide) h
  obtain ⟨e3, h⟩ := itoa_sep (by decide) h
  have e3' : (bl v.nm).length = (bl w.nm).length := by rw [← bl_len, ← bl_len]; omega
  obtain ⟨e4, h⟩ := List.append_inj h e3'
  have e4' := bl_inj e4
  obtain ⟨e5, h⟩ := itoa_sep (by decide) (List.cons.inj h).2
  obtain ⟨e6, h⟩ := hi w.fs hw.fs knw _ _ h
  obtain ⟨q, p1, _⟩ := intsS hv.pt
  obtain ⟨r, p2, _⟩ := intsS hw.pt
  rw [p1, p2] at h
  obtain ⟨rfl, e7⟩ := pathT_inj (List.cons.inj h).2
  refine ⟨?_, e7⟩
  obtain ⟨a, b, c, d, e, f⟩ := v
  obtain ⟨a', b', c', d', e', f'⟩ := w
  simp only [VV.mk.injEq]
  exact ⟨e1, e2, e4', e6, e5, p1.trans p2.symm⟩
theorem txt_ne (v : VV) (hv : VT v) (hk : v.k ≤ 15) (X Y : List UInt8) : txt v ++ X ≠ 41 :: Y := by
  rw [txt_eq hv]
  intro h
  have h1 := (List.cons.inj h).1
  have h0 := (u8_range hv.k).1
  obtain ⟨a, ha⟩ : ∃ a : Nat, v.k = (a : Int) := ⟨v.k.toNat, by omega⟩
  have key : ∀ a : Fin 16, lettersL.getD a.val 0 ≠ 41 := by decide
  unfold lt at h1
  rw [if_pos (by omega)] at h1
  exact key ⟨v.k.toNat, by omega⟩ h1
theorem injL (l : List D) : ListS tab 25 l → Kn l → Inj l := by
  refine list_ind (P := fun l => ListS tab 25 l → Kn l → Inj l) (fun l ih h hk => ?_) l
  have main : ∀ a : List D, (∀ x ∈ a, x ∈ l) → ∀ m, ListS tab 25 m → Kn m → ∀ A B, (a.flatMap fun x => txt (un x)) ++ 41 :: A = (m.flatMap fun x => txt (un x)) ++ 41 :: B → a = m ∧ A = B := by
    intro a
    induction a with
    | nil =>
      intro _ m hm km A B hh
      cases m with
      | nil => exact ⟨rfl, (List.cons.inj hh).2⟩
      | cons y m =>
        obtain ⟨w, rfl, hw⟩ := rowsOf hm y (by simp)
        simp only [List.flatMap_nil, List.nil_append, List.flatMap_cons, un_row, List.append_assoc] at hh
        exact absurd hh.symm (txt_ne w hw (km.k (by simp)) _ _)
    | cons x a iha =>
      intro hsub m hm km A B hh
      obtain ⟨v, rfl, hv⟩ := rowsOf h x (hsub x (by simp))
      have hvm := hsub v.row (by simp)
      cases m with
      | nil =>
        simp only [List.flatMap_nil, List.nil_append, List.flatMap_cons, un_row, List.append_assoc] at hh
        exact absurd hh (txt_ne v hv (hk.k hvm) _ _)
      | cons y m =>
        obtain ⟨w, rfl, hw⟩ := rowsOf hm y (by simp)
        simp only [List.flatMap_cons, un_row, List.append_assoc] at hh
        obtain ⟨rfl, hh'⟩ := txt_inj hv hw (hk.k hvm) (km.k (by simp)) (km.f (by simp)) (ih v.fs (size_fs hvm) hv.fs (hk.f hvm)) hh
        have hm' : ListS tab 25 m := ⟨by have := hm.1; simp only [List.length_cons] at this; omega, fun y hy => hm.2 y (by simp [hy])⟩
        have km' : Kn m := .mk (fun u hu => km.k (by simp [hu])) (fun u hu => km.f (by simp [hu]))
        obtain ⟨rfl, e⟩ := iha (fun x hx => hsub x (by simp [hx])) m hm' km' A B hh'
        exact ⟨rfl, e⟩
  exact main l (fun x hx => hx)

open Classical in
theorem texts_law {v x : VV} (hv : VT v) (hx : VT x) : Ev (fun n => F7 n v.k v.i v.nm v.fs v.id v.pt x.k x.i x.nm x.fs x.id x.pt) true := by
  unfold F7
  refine Ev.bO1 ev_awake ?_
  simp only [letB, Bool.not_true, Bool.false_eq_true, if_false]
  obtain ⟨b, h8, hb⟩ := ev8t hv hx []
  refine Ev.bO1 h8 ?_
  have stop : Ev (fun n => L7_1 n v.k v.i v.nm v.fs v.id v.pt x.k x.i x.nm x.fs x.id x.pt true) true := .succ (by simp only [L7_1, if_true]; exact .ret)
  cases b
  rotate_left
  · simp only [if_true]; exact stop
  obtain ⟨_, _, t1, t2⟩ := hb rfl
  simp only [Bool.false_eq_true, if_false]
  obtain ⟨b1, k1, k2⟩ := ev23L v.fs hv.fs
  obtain ⟨b2, k3, k4⟩ := ev23L x.fs hx.fs
  refine Ev.bO1 (k2 _ _ _ _ _) ?_
  by_cases c1 : (b1 && decide (v.k ≤ 15)) = true
  rotate_left
  · simp only [Bool.not_eq_true] at c1
    simp only [c1, Bool.not_false, if_true]; exact stop
  simp only [c1, Bool.not_true, Bool.false_eq_true, if_false]
  refine Ev.bO1 (k4 _ _ _ _ _) ?_
  by_cases c2 : (b2 && decide (x.k ≤ 15)) = true
  rotate_left
  · simp only [Bool.not_eq_true] at c2
    simp only [c2, Bool.not_false]; exact stop
  simp only [c2, Bool.not_true]
  simp only [Bool.and_eq_true, decide_eq_true_eq] at c1 c2
  refine .succ ?_
  simp only [L7_1, Bool.false_eq_true, if_false]
  refine Ev.bO1 (ev15 hv t1) (Ev.bO1 (ev15 hx t2) ?_)
  have s1 := ev14 hv hx
  have s2 := ev14 hx hv
  have s3 := ev14 hv hv
  rw [decide_eq_true rfl] at s3
  by_cases e : v = x
  · subst e
    rw [decide_eq_true rfl] at s1 s2
    simp only [if_true]
    refine Ev.bO1 s1 ?_
    simp only [show (true == true) = true from rfl, if_true]
    refine Ev.bO1 s3 ?_
    simp only [if_true]
    exact Ev.bO1 s1 (Ev.bO1 s2 .ret)
  · have ne : tx (txt v) ≠ tx (txt x) := fun h => e (txt_inj hv hx c1.2 c2.2 (k3 c2.1) (injL v.fs hv.fs (k1 c1.1)) (A := []) (B := []) (by rw [tx_inj h])).1
    rw [decide_eq_false e] at s1
    rw [decide_eq_false (fun h => e h.symm)] at s2
    simp only [if_neg ne]
    refine Ev.bO1 s1 ?_
    simp only [show (false == false) = true from rfl, if_true]
    refine Ev.bO1 s3 ?_
    simp only [if_true]
    exact Ev.bO1 s1 (Ev.bO1 s2 .ret)
theorem value_texts_trip : ∀ xs : List D, Shapes tab [25, 25] xs → Trip Tryd.prog inv 7 (xs.map V1.d) [] (.v (.d (.bool true))) [] [] := by
  intro xs h
  match xs, h with
  | [u, v], ⟨u1, u2, v1, v2, _⟩ =>
    obtain ⟨a0, a1, a2, a3, a4, a5, rfl, w0, w1, w2, w3, w4, w5⟩ := rs25 ⟨u1, u2⟩
    obtain ⟨c0, c1, c2, c3, c4, c5, rfl, d0, d1, d2, d3, d4, d5⟩ := rs25 ⟨v1, v2⟩
    obtain ⟨n, hn⟩ := (texts_law (v := ⟨a0, a1, a2, a3, a4, a5⟩) (x := ⟨c0, c1, c2, c3, c4, c5⟩) ⟨w0, w1, w2, w3, w4, w5⟩ ⟨d0, d1, d2, d3, d4, d5⟩).run
    exact T7 n hn
end Go.Proofs.YtagiiaejijihoaaDoor

namespace Go.Proofs.YtagiiaejijihoaaDoor
open Go Go.ChangeShapes Go.WideShapes Go.ChangeAt Go.RowKit Go.AM

theorem value_texts_reads : ∀ t ∈ [25, 25], Tryd.prog.readableRec t = true ∧ t < Tryd.prog.types.size := by
  have h : ([25, 25].all fun t => Tryd.prog.readableRec t && decide (t < Tryd.prog.types.size)) = true := by kernel_rfl
  intro t ht
  have := List.all_eq_true.1 h t ht
  simpa using this

theorem value_texts_inv {W : World} (h : laidMet Tryd.prog Rows.valueTextsRow.laid W) : inv.at W fun _ _ => False := by
  have e : (Rows.valueTextsRow.laid.filter fun x => x.1 == "internal/strconv.uint64pow10") = [("internal/strconv.uint64pow10", Lib.tabData .u64 Lib.pow10Tab)] := by kernel_rfl
  have h2 := laidMet.filter (fun x => x.1 == "internal/strconv.uint64pow10") h
  rw [e] at h2
  have ht : Lib.TabIs Tryd.prog W "internal/strconv.uint64pow10" .u64 Lib.pow10Tab := by
    exact Lib.tabIs_of_head (g := 0) (t := 76) (e := 68) (n := 20) (by kernel_rfl) (by kernel_rfl) (by kernel_rfl) (by kernel_rfl) (by kernel_rfl) (by kernel_rfl) h2
  refine ⟨ht, fun b hb => ⟨?_, fun _ h => h⟩⟩
  have hb : Tryd.prog.globalNamed "internal/strconv.uint64pow10" = some b := hb
  unfold Lib.TabIs World.var? at ht
  rw [hb] at ht
  simp only [Option.bind_some] at ht
  cases hx : W.heap[b]? with
  | none => rw [hx] at ht; simp at ht
  | some o => exact (Array.getElem?_eq_some_iff.1 hx).1

set_option maxRecDepth 100000 in
theorem value_texts_lifted (os : Os) (started : os.Started) (H : Type) (enc : TypeId × Value → H) :
    ReturnsInHanded {} Tryd.checked os 7 .any (fun w args => (Rows.valueTextsSpec.pre enc Tryd.prog Tryd.f7 Rows.valueTextsRow.domain false w args ∧ laidMetH Tryd.prog Rows.valueTextsRow.laid w) ∧ sizedMet enc Tryd.prog Tryd.f7 (OpenSpec.ofChange Rows.valueTextsSpec) false w args)
      (Rows.valueTextsSpec.post enc Tryd.prog Tryd.f7 false true false false) := by
  refine returnsInHanded_of_change_and (C := Tryd.checked) (X := fun w _ => laidMetH Tryd.prog Rows.valueTextsRow.laid w) (fun _ _ _ hh h => h.of_heap hh) (by kernel_rfl) started (by kernel_rfl) Tryd.func7
    (ChangeSpec.witness_shaped (enc := enc) (C := Tryd.checked) (os := os) (X := fun w _ => laidMetH Tryd.prog Rows.valueTextsRow.laid w) false (World.laidAll Tryd.prog os Rows.valueTextsRow.laid) #[.agg #[.int .u8 0, .int .i64 0, .string ⟨#[]⟩, .slice none 0 0, .int .i64 0, .slice none 0 0], .agg #[.int .u8 0, .int .i64 0, .string ⟨#[]⟩, .slice none 0 0, .int .i64 0, .slice none 0 0]] 8 (World.laidAll_os _ _ _)
      (World.shaped_of_ZipB (by kernel_rfl) (by kernel_rfl)) (by kernel_rfl) (by kernel_rfl) (by kernel_rfl)
      (by rw [MakeChecks.laidMetH_plain _ _ _ (by kernel_rfl)]; exact laidMet_laidAll _ (by kernel_rfl) (by kernel_rfl))) ?_
  intro W base args ds gs before hval0 hW _ _ hL _
  rw [MakeChecks.laidMetH_plain _ _ _ (by kernel_rfl)] at hL
  refine law_calls (ti := tab) (T := [2, 3, 5, 9, 22, 23, 25]) tab_ok (by kernel_rfl) (ts := [25, 25]) (bt := 4) rfl rfl rfl (by kernel_rfl) (by decide) ?_ (by kernel_rfl) value_texts_reads value_texts_trip (value_texts_inv hL) hval0 hW
  intro ds h
  match ds, h with
  | [_, _], _ => exact ⟨rfl, rfl, rfl⟩
theorem value_texts_row : Rows.ValueTextsSaid :=
  OpenClaim.holds_of_wide 7 Tryd.f7 rfl rfl rfl rfl rfl rfl rfl ⟨rfl, rfl, rfl, rfl, rfl⟩ rfl rfl rfl rfl rfl (by kernel_rfl) Tryd.func7 (by kernel_rfl)
    (of_decide_eq_true (by kernel_rfl)) (by unfold Func.isWrapper; first | (rw [if_pos (by decide +kernel)]; kernel_rfl) | (rw [if_neg (by decide +kernel)]; exact ⟨rfl, rfl⟩))
    (fun os started H enc _ => value_texts_lifted os started H enc)
theorem value_texts : Rows.ValueTextsCardSaid :=
  Claim7.holds_tied_plain_at .later [] [.data, .data, .data] true Rows.valueTextsCard.stood.harness false value_texts_row (fun _ h => by cases h) (by kernel_rfl) (fun _ h => by cases h) valueTexts_row_tie rfl ⟨rfl, rfl⟩ (by kernel_rfl) rfl
    (fun f fn hf hfn => by
      obtain rfl : f = 7 := Option.some.inj ((show Tryd.prog.funcNamed "weftway/weftwaylaw19.ValueTexts" = some 7 by kernel_rfl).symm.trans hf) |>.symm
      obtain rfl : fn = Tryd.f7 := (Option.some.inj (Tryd.func7.symm.trans hfn)).symm
      exact ⟨by kernel_rfl, fun j t ht => by
        have hm : t ∈ [25, 25] := by
          have hp : Tryd.f7.params.toList = [25, 25] := rfl
          rw [← hp]; simpa using Array.mem_of_getElem? ht
        have hall : ([25, 25].all fun u => !Tryd.prog.wantsStandIn u) = true := by kernel_rfl
        exact (show Tryd.prog.wantsStandIn t = false by simpa using List.all_eq_true.1 hall t hm)⟩)
    (by kernel_rfl)
end Go.Proofs.YtagiiaejijihoaaDoor
