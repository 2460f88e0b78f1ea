/- Behind its end no event of a thread may be; ahead of it, it cannot be joined: contracts of the functions, the plain law, the card. No condition. (Part 5: TrH, TrHh.) -/
import Derived.Test.YtjobleemmjjocaaDoorRows
import Derived.Test.YtjobleemmjjocaaDoorTie
import Derived.Test.YtjobleemmjjocaaDoorCards
import Derived.ChangeSame
import Derived.JoinedOf
import Derived.JoinedAt
import Derived.RowKit
import Derived.RowKit2
import Derived.ReadAgain
import Derived.ChangeAlike
import Derived.Lay
import Derived.Handed
import Derived.LaidSub
import Derived.LaidLaws
import Derived.LaidHandle
import Derived.MakeChecks
import Derived.SevenTiedAt
import Derived.Lib.LaidTab
import Derived.Lib.LaidU8
import Derived.Test.YtjobleemmjjocaaDoorTenD
set_option linter.unusedVariables false
set_option linter.unusedSimpArgs false
set_option linter.unusedVariables false
noncomputable section
namespace Go.Proofs.YtjobleemmjjocaaDoor
open Go Go.AM
open Classical

def rdE : List D → Nat → List D → Option (List D)
  | [], _, E => some E
  | x :: xs, i, E => if 65536 ≤ (i : Int) then none else
    match stepX x E with
    | none => none
    | some E' => rdE xs (i + 1) E'
theorem rd_rdE : ∀ (xs : List D) (i : Nat) (E : List D), (∃ E', rdE xs i E = some E' ∧ rd xs i E = (-1, (E'.length : Int))) ∨ (rdE xs i E = none ∧ ∃ j : Nat, rd xs i E = ((j : Int), 0))
  | [], i, E => .inl ⟨E, rfl, rfl⟩
  | x :: xs, i, E => by
    simp only [rdE, rd]
    by_cases c : 65536 ≤ (i : Int)
    · right; simp only [if_pos c]; exact ⟨trivial, i, rfl⟩
    · simp only [if_neg c]
      cases hs : stepX x E with
      | none => right; exact ⟨rfl, i, rfl⟩
      | some E' => exact rd_rdE xs (i + 1) E'
theorem rdE_app (xs : List D) (y : D) : ∀ (i : Nat) (E E' : List D), (i : Int) + xs.length < 65536 → rdE xs i E = some E' → rdE (xs ++ [y]) i E = stepX y E' := by
  induction xs with
  | nil =>
    intro i E E' hi h
    rw [rdE, Option.some.injEq] at h
    subst h
    have hi : ¬ 65536 ≤ (i : Int) := by
      have h0 : (([] : List D).length : Int) = 0 := rfl
      rw [h0] at hi
      omega
    rw [List.nil_append, rdE, if_neg hi]
    cases stepX y E with
    | none => rfl
    | some E1 =>
      show rdE [] (i + 1) E1 = some E1
      rw [rdE]
  | cons x xs ih =>
    intro i E E' hi h
    rw [List.length_cons] at hi
    rw [rdE, if_neg (show ¬ 65536 ≤ (i : Int) by omega)] at h
    rw [List.cons_append, rdE, if_neg (show ¬ 65536 ≤ (i : Int) by omega)]
    cases hs : stepX x E with
    | none => rw [hs] at h; cases h
    | some E1 =>
      rw [hs] at h
      exact ih (i + 1) E1 E' (by omega) h
theorem rdE_ok : ∀ (xs : List D) (i : Nat) (E E' : List D), rdE xs i E = some E' → AllB E → (E.length : Int) ≤ 65536 → AllB E' ∧ (E'.length : Int) ≤ 65536 ∧ E.length ≤ E'.length
  | [], i, E, E', h, h1, h2 => by
    simp only [rdE, Option.some.injEq] at h
    subst h
    exact ⟨h1, h2, Nat.le_refl _⟩
  | x :: xs, i, E, E', h, h1, h2 => by
    simp only [rdE] at h
    by_cases c : 65536 ≤ (i : Int)
    · rw [if_pos c] at h; cases h
    · rw [if_neg c] at h
      cases hs : stepX x E with
      | none => rw [hs] at h; cases h
      | some E1 =>
        rw [hs] at h
        have hm := stepX_mono hs
        have hok : AllB E1 ∧ (E1.length : Int) ≤ 65536 := by
          unfold stepX at hs
          split at hs
          · exact stepS_ok hs h1 h2
          · cases hs
        obtain ⟨q1, q2, q3⟩ := rdE_ok xs (i + 1) E1 E' h hok.1 hok.2
        exact ⟨q1, q2, by omega⟩

def padE (n : Nat) (E : List D) : List D := E ++ List.replicate (n - E.length) (.bool false)
theorem padE_len {n : Nat} {E : List D} (h : E.length ≤ n) : (padE n E).length = n := by simp [padE]; omega
theorem padE_app {n : Nat} {E : List D} (h : E.length + 1 ≤ n) : padE n (E ++ [.bool false]) = padE n E := by
  simp only [padE, List.length_append, List.length_cons, List.length_nil, List.append_assoc]
  congr 1
  rw [show n - E.length = (n - (E.length + 1)) + 1 by omega, List.replicate_succ]
  simp
theorem padE_set {n : Nat} {E : List D} {i : Nat} (h : i < E.length) (x : D) : padE n (E.set i x) = (padE n E).set i x := by
  simp only [padE, List.length_set]
  rw [List.set_append_left _ _ h]
theorem padE_all {n : Nat} {E : List D} (h : AllB E) : AllB (padE n E) := fun x hx => by
  rcases List.mem_append.1 hx with hx | hx
  · exact h x hx
  · exact ⟨false, (List.mem_replicate.1 hx).2⟩

theorem stepX_agg {k t d : Int} {p E : List D} : stepX (.agg [.int .u8 k, .int .i64 t, .int .i64 d, .list false 1 p]) E = stepS k t d p E := rfl

theorem ends3 {L : List D} (hL : EvL L) (k t d : Int) (p : List D) {E0 : List D} {r : Bool} (hE0 : (E0.length : Int) ≤ 65536)
    (hend : Ev (fun n => L8_4 n L k t d p (E0.length : Int) (L.length : Int) E0 false) r) :
    ∀ i, i ≤ L.length → ∀ E, AllB E → (E.length : Int) ≤ 65536 → rdE (L.drop i) i E = some E0 → Ev (fun n => L8_3 n L k t d p (E0.length : Int) (i : Int) (padE E0.length E)) r := by
  refine down L.length (fun E hE hl h => ?_) (fun i hi ih E hE hl h => ?_)
  · rw [List.drop_length] at h
    simp only [rdE, Option.some.injEq] at h
    subst h
    refine Ev.succ ?_
    simp only [L8_3, lenF, Int.lt_irrefl, if_false]
    rw [show padE E.length E = E by simp [padE]]
    exact hend
  · obtain ⟨q, u, e, v, hx, hv⟩ := hL.get hi
    rw [drop_cons hx] at h
    simp only [rdE] at h
    by_cases c : 65536 ≤ (i : Int)
    · rw [if_pos c] at h; cases h
    rw [if_neg c, stepX_agg] at h
    cases hs : stepS q u e v E with
    | none => rw [hs] at h; cases h
    | some E1 =>
      rw [hs] at h
      obtain ⟨ok1, ok2⟩ := stepS_ok hs hE hl
      obtain ⟨_, _, mono⟩ := rdE_ok _ _ _ _ h ok1 ok2
      have m1 : E.length ≤ E1.length := by
        have := stepX_mono (x := .agg [.int .u8 q, .int .i64 u, .int .i64 e, .list false 1 v]) (E := E) (E' := E1) (by rw [stepX_agg]; exact hs)
        exact this
      have hw := wrap_succ hi hL.1
      have next := ih E1 ok1 ok2 h
      unfold stepS at hs
      split at hs
      rotate_left
      · cases hs
      rename_i g
      obtain ⟨g1, g2, g3⟩ := g
      refine Ev.succ ?_
      simp only [L8_3, lenF, if_pos (ilt hi)]
      refine Ev.succ ?_
      simp only [L8_4, if_true, getF_nat hx, ds_t32, if_neg (show ¬ u < 0 by omega), if_neg (show ¬ (E0.length : Int) ≤ u by omega)]
      refine Ev.succ ?_
      simp only [L8_5, Bool.false_eq_true, if_false, getF_nat hx, ds_t32]
      have fin : ∀ {A : List D}, A = padE E0.length E1 → Ev (fun n => L8_7 n L k t d p (E0.length : Int) (i : Int) A) r := by
        rintro A rfl
        refine Ev.succ ?_
        simp only [L8_7, letF, hw]
        exact next
      by_cases c9 : q = 9
      · subst c9
        simp only [if_true]
        refine Ev.succ ?_
        have hl' : u.toNat < (padE E0.length E).length := by rw [padE_len (by omega)]; omega
        obtain ⟨b, hb⟩ := (padE_all (n := E0.length) hE).get hl'
        simp only [L8_6, if_true, getF_nat hx, ds_t32, needF, if_pos (And.intro g1 hl'), getN_eq hb, ds_bool, setF]
        refine fin ?_
        simp [stepK] at hs
        obtain ⟨_, rfl⟩ := hs
        rw [padE_set g2]
      · simp only [if_neg c9]
        refine Ev.succ ?_
        simp only [L8_6, Bool.false_eq_true, if_false]
        refine fin ?_
        unfold stepK at hs
        split at hs
        · split at hs
          · cases hs; rfl
          · cases hs
        · split at hs
          · split at hs
            · cases hs; rfl
            · cases hs
          · split at hs
            · split at hs
              · cases hs
                simp only [List.length_append, List.length_cons, List.length_nil] at mono
                exact (padE_app (by omega)).symm
              · cases hs
            · split at hs
              · split at hs
                · cases hs; rfl
                · cases hs
              · first | (rw [if_neg c9] at hs; cases hs) | cases hs

theorem ends4 {L : List D} (hL : ListS tab 32 L) (h2000 : L.length ≤ 2000) {k t d : Int} {p : List D} (hp : ListS tab 3 p) (hx : RowS tab 32 (.agg [.int .u8 k, .int .i64 t, .int .i64 d, .list false 1 p])) {E : List D} (hE : AllB E) (hl : (E.length : Int) ≤ 65536) (h : rdE L 0 [.bool false] = some E) :
    Ev (fun n => L8_4 n L k t d p (E.length : Int) (L.length : Int) E false) true := by
  let x : D := .agg [.int .u8 k, .int .i64 t, .int .i64 d, .list false 1 p]
  have hall : ListS tab 32 (L ++ [x]) := ⟨by simp [maxLen]; omega, fun y hy => by
    rcases List.mem_append.1 hy with hy | hy
    · exact hL.2 y hy
    · obtain rfl : y = x := by simpa using hy
      exact hx⟩
  have happ : rdE (L ++ [x]) 0 [.bool false] = stepS k t d p E := by
    rw [rdE_app L x 0 [.bool false] E (by simp; omega) h]; rfl
  have hb1 : ([] : List D).length + L.length ≤ maxLen ∧ (([] : List D).length + L.length) * 48 ≤ 140737488355328 := by simp [maxLen]; omega
  have hb2 : L.length + [x].length ≤ maxLen ∧ (L.length + [x].length) * 48 ≤ 140737488355328 := by simp [maxLen]; omega
  -- is it there?
  let th : Bool := decide (0 ≤ t ∧ t < (E.length : Int) ∧ E[t.toNat]? = some (.bool false))
  let ok : Bool := (stepS k t d p E).isSome
  have hok : ok = true → th = true := by
    intro h1
    show decide _ = true
    rw [decide_eq_true_iff]
    have h1 : (stepS k t d p E).isSome = true := h1
    unfold stepS at h1
    split at h1
    · rename_i g; exact ⟨g.1, by omega, g.2.2⟩
    · cases h1
  have hrd : ∃ z, (rd0 (L ++ [x])).1 = z ∧ (ok = true → z = -1) ∧ (ok = false → 0 ≤ z) := by
    refine ⟨_, rfl, fun h1 => ?_, fun h1 => ?_⟩
    · rcases rd_rdE (L ++ [x]) 0 [.bool false] with ⟨E', q1, q2⟩ | ⟨q1, _⟩
      · show (rd _ _ _).1 = -1; rw [q2]
      · rw [happ] at q1; have h1 : (stepS k t d p E).isSome = true := h1; rw [q1] at h1; cases h1
    · rcases rd_rdE (L ++ [x]) 0 [.bool false] with ⟨E', q1, q2⟩ | ⟨q1, j, q2⟩
      · rw [happ] at q1; have h1 : (stepS k t d p E).isSome = false := h1; rw [q1] at h1; cases h1
      · show 0 ≤ (rd _ _ _).1; rw [q2]; show (0 : Int) ≤ (j : Int); omega
  obtain ⟨z, hz, hz1, hz2⟩ := hrd
  have f11 : Ev (fun n => L8_11 n (L ++ [x]) ok false) true := by
    refine Ev.succ ?_
    simp only [L8_11, Bool.false_eq_true, if_false]
    refine Ev.bO1 (ev19 (EvL.of hall)) ?_
    rw [hz]
    cases ho : ok
    · have := hz2 ho
      simp only [if_neg (show ¬ z = -1 by omega), letB, beq_self_eq_true, if_true]
      exact Ev.bO1 ev22 Ev.ret
    · simp only [hz1 ho, if_true, letB, beq_self_eq_true]
      exact Ev.bO1 ev22 Ev.ret
  have f10 : Ev (fun n => L8_10 n k d p (E.length : Int) (L ++ [x]) th ok false) true := by
    refine Ev.succ ?_
    simp only [L8_10, Bool.false_eq_true, if_false]
    cases hth : th
    · simp only [Bool.false_eq_true, if_false]; exact f11
    · simp only [if_true]
      have hth' : 0 ≤ t ∧ t < (E.length : Int) ∧ E[t.toNat]? = some (.bool false) := of_decide_eq_true hth
      by_cases c7 : k = 7
      · subst c7
        simp only [if_true, lenF]
        by_cases cp : p = []
        · simp only [if_pos (lenz.2 cp)]
          by_cases cn : (E.length : Int) < 65536
          · simp only [if_pos cn]
            have hst : ok = decide (d = (E.length : Int)) := by
              show (stepS 7 t d p E).isSome = _
              unfold stepS
              rw [if_pos ⟨hth'.1, by omega, hth'.2.2⟩]
              simp only [stepK, cn, cp]
              by_cases c : d = (E.length : Int)
              · simp [c, cn]
              · simp [c]
            by_cases c : d = (E.length : Int)
            · have : ok = true := by rw [hst]; exact decide_eq_true c
              simp only [if_pos c, this, letB]
              have f := f11; rw [this] at f; exact f
            · have : ok = false := by rw [hst]; exact decide_eq_false c
              simp only [if_neg c, this, letB]
              have f := f11; rw [this] at f; exact f
          · simp only [if_neg cn]; exact f11
        · simp only [if_neg (fun h => cp (lenz.1 h))]; exact f11
      · simp only [if_neg c7]; exact f11
  have f9 : Ev (fun n => L8_9 n k d p (E.length : Int) E (L ++ [x]) ok th) true := by
    refine Ev.succ ?_
    cases ho : ok
    · simp only [L8_9, Bool.false_eq_true, if_false]
      have f := f10; rw [ho] at f; exact f
    · have hth := hok ho
      have hth' : 0 ≤ t ∧ t < (E.length : Int) ∧ E[t.toNat]? = some (.bool false) := of_decide_eq_true hth
      have f := f10; rw [ho, hth] at f
      simp only [L8_9, if_true, letB, hth, Bool.not_true, Bool.false_eq_true, if_false]
      by_cases c8 : k = 8
      · subst c8
        have h1 : (stepS 8 t d p E).isSome = true := ho
        unfold stepS at h1
        rw [if_pos ⟨hth'.1, by omega, hth'.2.2⟩] at h1
        simp [stepK] at h1
        obtain ⟨q1, q2, q3, q4⟩ := h1
        have hd : d.toNat < E.length := by omega
        simp only [if_true, if_neg (show ¬ d < 0 by omega), if_neg (show ¬ (E.length : Int) ≤ d by omega), needF, if_pos (And.intro q2 hd), getN_eq q4, ds_bool, Bool.not_true]
        exact f
      · simp only [if_neg c8]; exact f
  refine Ev.succ ?_
  simp only [L8_4, Bool.false_eq_true, if_false, appF, if_pos hb1, List.nil_append, if_pos (show L.length + [D.agg [D.int .u8 k, D.int .i64 t, D.int .i64 d, D.list false 1 p]].length ≤ maxLen ∧ (L.length + [D.agg [D.int .u8 k, D.int .i64 t, D.int .i64 d, D.list false 1 p]].length) * 48 ≤ 140737488355328 from hb2)]
  refine Ev.bO1 (ev21 (EvL.of hall)) ?_
  rw [show (rd0 (L ++ [D.agg [D.int .u8 k, D.int .i64 t, D.int .i64 d, D.list false 1 p]])).1 = z from hz]
  have f8 : Ev (fun n => L8_8 n k t d p (E.length : Int) E (L ++ [x]) ok) true := by
    refine Ev.succ ?_
    simp only [L8_8]
    by_cases c0 : 0 ≤ t
    · simp only [if_pos c0]
      by_cases c1 : t < (E.length : Int)
      · have ht : t.toNat < E.length := by omega
        obtain ⟨b, hb⟩ := hE.get ht
        simp only [if_pos c1, needF, if_pos (And.intro c0 ht), getN_eq hb, ds_bool, letB]
        have : th = !b := by
          show decide _ = _
          cases b
          · rw [Bool.not_false, decide_eq_true_iff]; exact ⟨c0, c1, hb⟩
          · rw [Bool.not_true, decide_eq_false_iff_not]; rintro ⟨_, _, h3⟩; rw [hb] at h3; cases h3
        rw [← this]; exact f9
      · simp only [if_neg c1]
        have : th = false := decide_eq_false (fun h => c1 h.2.1)
        rw [this] at f9; exact f9
    · simp only [if_neg c0]
      have : th = false := decide_eq_false (fun h => c0 h.1)
      rw [this] at f9; exact f9
  cases ho : ok
  · have := hz2 ho
    simp only [if_pos this, if_neg (show ¬ (250 : Int) = 0 by decide)]
    rw [ho] at f8; exact f8
  · have := hz1 ho
    simp only [if_neg (show ¬ (0 : Int) ≤ z by omega), if_true]
    rw [ho] at f8; exact f8

theorem trace_ends_trip : ∀ xs : List D, Shapes tab [22, 32] xs → Trip Tryd.prog inv 8 (xs.map V1.d) [] (.v (.d (.bool true))) [] [] := by
  intro xs h
  match xs, h with
  | [u, v], ⟨u1, u2, v1, v2, _⟩ =>
    have hu : RowS tab 22 u := ⟨u1, u2⟩
    obtain ⟨l, e0, hl⟩ := (hu.flat1 (y := tyD tab 22) (by kernel_rfl) rfl).listS (x := tyD tab 22) (y := tyD tab 32) (by kernel_rfl) rfl (by kernel_rfl)
    obtain rfl : u = .list true 4 l := e0
    have hv : RowS tab 32 v := ⟨v1, v2⟩
    obtain ⟨k, t, d, p, rfl, _, _, _, hp⟩ := rs32 hv
    have law : Ev (fun n => F8 n l k t d p) true := by
      have yes : Ev (fun n => L8_1 n l k t d p true) true := Ev.succ (by simp only [L8_1, if_true]; exact Ev.bO1 ev22 Ev.ret)
      obtain ⟨r, hr, hr2⟩ := ev17 hl
      obtain ⟨r', hr', _⟩ := ev17 (L := [.agg [.int .u8 k, .int .i64 t, .int .i64 d, .list false 1 p]]) ⟨by simp [maxLen], fun y hy => by obtain rfl : y = _ := List.mem_singleton.1 hy; exact hv⟩
      unfold F8
      refine Ev.bO1 hr ?_
      cases r
      · simp only [Bool.false_eq_true, if_false]
        refine Ev.bO1 hr' ?_
        cases r'
        · simp only [Bool.false_eq_true, if_false]
          refine Ev.bO1 (ev21 (EvL.of hl)) ?_
          by_cases c : 0 ≤ (rd0 l).1
          · simp only [if_pos c, if_neg (show ¬ (250 : Int) = 0 by decide)]; exact yes
          · simp only [if_neg c, if_true]
            rcases rd_rdE l 0 [.bool false] with ⟨E, q1, q2⟩ | ⟨_, j, q2⟩
            · obtain ⟨a1, a2, a3⟩ := rdE_ok _ _ _ _ q1 (fun x hx => ⟨false, by simpa using hx⟩) (by simp)
              have e2 : (rd0 l).2 = (E.length : Int) := by show (rd _ _ _).2 = _; rw [q2]
              refine Ev.succ ?_
              simp only [L8_1, Bool.false_eq_true, if_false]
              refine Ev.bO1 (ev20 (EvL.of hl)) ?_
              simp only [List.length_cons, List.length_nil] at a3
              rw [e2]
              simp only [if_neg (show ¬ (E.length : Int) < 1 by omega)]
              refine Ev.succ ?_
              have hb : 0 ≤ (E.length : Int) ∧ (E.length : Int) ≤ 9223372036854775807 ∧ ((1 : Nat) : Int) * (E.length : Int) ≤ 281474976710656 := by omega
              simp only [L8_2, Bool.false_eq_true, if_false, makeF, true_and, if_pos hb, Int.toNat_natCast]
              have := ends3 (EvL.of hl) k t d p (r := true) a2 (ends4 hl (hr2 rfl) hp hv a1 a2 q1) 0 (Nat.zero_le _) [.bool false] (fun x hx => ⟨false, by simpa using hx⟩) (by simp) q1
              rw [show padE E.length [D.bool false] = List.replicate E.length (D.bool false) by
                simp only [padE, List.length_cons, List.length_nil]
                obtain ⟨m, hm⟩ : ∃ m, E.length = m + 1 := ⟨E.length - 1, by omega⟩
                rw [hm, List.replicate_succ]; simp] at this
              exact this
            · exfalso; apply c; show 0 ≤ (rd _ _ _).1; rw [q2]; show (0 : Int) ≤ (j : Int); omega
        · simp only [if_true]; exact yes
      · simp only [if_true]; exact yes
    obtain ⟨n, hn⟩ := law.run
    exact T8 n hn
end Go.Proofs.YtjobleemmjjocaaDoor
end

namespace Go.Proofs.YtjobleemmjjocaaDoor
open Go Go.ChangeShapes Go.WideShapes Go.ChangeAt Go.RowKit Go.AM

theorem trace_ends_reads : ∀ t ∈ [22, 32], Tryd.prog.readableRec t = true ∧ t < Tryd.prog.types.size := by
  have h : ([22, 32].all fun t => Tryd.prog.readableRec t && decide (t < Tryd.prog.types.size)) = true := by kernel_rfl
  intro t ht
  have := List.all_eq_true.1 h t ht
  simpa using this

theorem trace_ends_inv {W : World} (h : laidMet Tryd.prog Rows.traceEndsRow.laid W) : inv.at W fun _ _ => False := by
  have e : (Rows.traceEndsRow.laid.filter fun x => x.1 == "internal/strconv.uint64pow10") = [("internal/strconv.uint64pow10", Lib.tabData .u64 Lib.pow10Tab)] := by kernel_rfl
  have h2 := laidMet.filter (fun x => x.1 == "internal/strconv.uint64pow10") h
  rw [e] at h2
  have ht : Lib.TabIs Tryd.prog W "internal/strconv.uint64pow10" .u64 Lib.pow10Tab := by
    exact Lib.tabIs_of_head (g := 0) (t := 138) (e := 35) (n := 20) (by kernel_rfl) (by kernel_rfl) (by kernel_rfl) (by kernel_rfl) (by kernel_rfl) (by kernel_rfl) h2
  refine ⟨ht, fun b hb => ⟨?_, fun _ h => h⟩⟩
  have hb : Tryd.prog.globalNamed "internal/strconv.uint64pow10" = some b := hb
  unfold Lib.TabIs World.var? at ht
  rw [hb] at ht
  simp only [Option.bind_some] at ht
  cases hx : W.heap[b]? with
  | none => rw [hx] at ht; simp at ht
  | some o => exact (Array.getElem?_eq_some_iff.1 hx).1

set_option maxRecDepth 100000 in
theorem trace_ends_lifted (os : Os) (started : os.Started) (H : Type) (enc : TypeId × Value → H) :
    ReturnsInHanded {} Tryd.checked os 8 .any (fun w args => (Rows.traceEndsSpec.pre enc Tryd.prog Tryd.f8 Rows.traceEndsRow.domain false w args ∧ laidMetH Tryd.prog Rows.traceEndsRow.laid w) ∧ sizedMet enc Tryd.prog Tryd.f8 (OpenSpec.ofChange Rows.traceEndsSpec) false w args)
      (Rows.traceEndsSpec.post enc Tryd.prog Tryd.f8 false true false false) := by
  refine returnsInHanded_of_change_and (C := Tryd.checked) (X := fun w _ => laidMetH Tryd.prog Rows.traceEndsRow.laid w) (fun _ _ _ hh h => h.of_heap hh) (by kernel_rfl) started (by kernel_rfl) Tryd.func8
    (ChangeSpec.witness_shaped (enc := enc) (C := Tryd.checked) (os := os) (X := fun w _ => laidMetH Tryd.prog Rows.traceEndsRow.laid w) false (World.laidAll Tryd.prog os Rows.traceEndsRow.laid) #[.slice none 0 0, .agg #[.int .u8 0, .int .i64 0, .int .i64 0, .slice none 0 0]] 8 (World.laidAll_os _ _ _)
      (World.shaped_of_ZipB (by kernel_rfl) (by kernel_rfl)) (by kernel_rfl) (by kernel_rfl) (by kernel_rfl)
      (by rw [MakeChecks.laidMetH_plain _ _ _ (by kernel_rfl)]; exact laidMet_laidAll _ (by kernel_rfl) (by kernel_rfl))) ?_
  intro W base args ds gs before hval0 hW _ _ hL _
  rw [MakeChecks.laidMetH_plain _ _ _ (by kernel_rfl)] at hL
  refine law_calls (ti := tab) (T := [3, 5, 22, 30, 32]) tab_ok (by kernel_rfl) (ts := [22, 32]) (bt := 4) rfl rfl rfl (by kernel_rfl) (by decide) ?_ (by kernel_rfl) trace_ends_reads trace_ends_trip (trace_ends_inv hL) hval0 hW
  intro ds h
  match ds, h with
  | [_, _], _ => exact ⟨rfl, rfl, rfl⟩
theorem trace_ends_row : Rows.TraceEndsSaid :=
  OpenClaim.holds_of_wide 8 Tryd.f8 rfl rfl rfl rfl rfl rfl rfl ⟨rfl, rfl, rfl, rfl, rfl⟩ rfl rfl rfl rfl rfl (by kernel_rfl) Tryd.func8 (by kernel_rfl)
    (of_decide_eq_true (by kernel_rfl)) (by unfold Func.isWrapper; first | (rw [if_pos (by decide +kernel)]; kernel_rfl) | (rw [if_neg (by decide +kernel)]; exact ⟨rfl, rfl⟩))
    (fun os started H enc _ => trace_ends_lifted os started H enc)
theorem trace_ends : Rows.TraceEndsCardSaid :=
  Claim7.holds_tied_plain_at .later [] [.data, .data, .data] true Rows.traceEndsCard.stood.harness false trace_ends_row (fun _ h => by cases h) (by kernel_rfl) (fun _ h => by cases h) traceEnds_row_tie rfl ⟨rfl, rfl⟩ (by kernel_rfl) rfl
    (fun f fn hf hfn => by
      obtain rfl : f = 8 := Option.some.inj ((show Tryd.prog.funcNamed "weftway/weftwaylaw25.TraceEnds" = some 8 by kernel_rfl).symm.trans hf) |>.symm
      obtain rfl : fn = Tryd.f8 := (Option.some.inj (Tryd.func8.symm.trans hfn)).symm
      exact ⟨by kernel_rfl, fun j t ht => by
        have hm : t ∈ [22, 32] := by
          have hp : Tryd.f8.params.toList = [22, 32] := rfl
          rw [← hp]; simpa using Array.mem_of_getElem? ht
        have hall : ([22, 32].all fun u => !Tryd.prog.wantsStandIn u) = true := by kernel_rfl
        exact (show Tryd.prog.wantsStandIn t = false by simpa using List.all_eq_true.1 hall t hm)⟩)
    (by kernel_rfl)
end Go.Proofs.YtjobleemmjjocaaDoor
