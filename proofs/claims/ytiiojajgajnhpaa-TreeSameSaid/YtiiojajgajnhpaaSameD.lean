/- TreeSame: whether any two programs, types, expressions are the same is what the chapter says. No condition. (Part 4 of 4: TsC, AmR, TsR.) -/
import Derived.Carry
import Derived.ChangeSame
import Derived.ChangeOld
import Derived.ChangeCalls
import Derived.WideShapes
import Derived.Test.YtiiojajgajnhpaaRows
import Derived.JoinedOf
import Derived.JoinedAt
import Derived.RowKit
import Derived.RowKit2
import Derived.ReadAgain
import Derived.ChangeAlike
import Derived.Test.YtiiojajgajnhpaaSameC
set_option linter.unusedVariables false
set_option linter.unusedSimpArgs false
/- TreeSame, the plain law, part C: statements, fields, programs. No condition. -/
namespace Go.Proofs.Ytiiojajgajnhpaa
open Go Go.AM

theorem agStmts (L : List D) : ListS tab 152 L → ∀ (M : List D), ListS tab 152 M → ∃ r, Ev (fun n => F75 n L M) r ∧ Ev (fun n => F79 n L M false) r := by
  induction L using list_ind with
  | H L IH =>
  intro hL M hM
  by_cases he : L.length = M.length
  · have loop : ∀ i, i ≤ L.length → ∃ r, Ev (fun n => L122_1 n L M (L.length : Int) (i : Int)) r ∧ Ev (fun n => L79_1 n L M false (i : Int)) r := by
      refine down L.length ⟨true, Ev.succ (by simp [L122_1, Ev.ret]), Ev.succ (by simp [L79_1, lenF, Ev.ret])⟩ (fun i hi ih => ?_)
      obtain ⟨x, hx, hm, hr⟩ := hL.get hi
      obtain ⟨op, s1, s2, N, tk, tn, tl, v, pn, pp, E, B, C, R, at_, rfl, _, _, _, hN, _, _, htl, _, _, hpp, hE, hB, hC, hR, _⟩ := rs152 hr
      obtain ⟨y, hy, hm', hr'⟩ := hM.get (he ▸ hi)
      obtain ⟨op', s1', s2', N', tk', tn', tl', v', pn', pp', E', B', C', R', at_', rfl, _, _, _, hN', _, _, htl', _, _, hpp', hE', hB', hC', hR', _⟩ := rs152 hr'
      obtain ⟨q, hq, hq'⟩ := ih
      have hq2 : Ev (fun n => L79_1 n L M false (IntKind.i64.wrap ((i : Int) + 1))) q := by rw [wrap_succ hi hL.1]; exact hq'
      -- the arms: in the document's text what follows stands behind them
      have arms : ∃ r, Ev (fun n => F143 n R R') r ∧ (R.length = R'.length → ∀ q, Ev (fun n => L79_1 n L M false (IntKind.i64.wrap ((i : Int) + 1))) q → Ev (fun n => L79_2 n L M false (i : Int) R R' 0) (r && q)) ∧ (R.length ≠ R'.length → r = false) := by
        by_cases hl : R.length = R'.length
        · have lp : ∀ k, k ≤ R.length → ∃ r, Ev (fun n => L143_1 n R R' (R.length : Int) (k : Int)) r ∧ ∀ q, Ev (fun n => L79_1 n L M false (IntKind.i64.wrap ((i : Int) + 1))) q → Ev (fun n => L79_2 n L M false (i : Int) R R' (k : Int)) (r && q) := by
            refine down R.length ⟨true, Ev.succ (by simp [L143_1, Ev.ret]), fun q h => Ev.succ (by simpa [L79_2, lenF, letF] using h)⟩ (fun k hk ihk => ?_)
            obtain ⟨u, hu, hmu, hru⟩ := hR.get hk
            obtain ⟨v1, v2, A, rfl, _, _, hA⟩ := rs154 hru
            obtain ⟨w, hw, hmw, hrw⟩ := hR'.get (hl ▸ hk)
            obtain ⟨v1', v2', A', rfl, _, _, hA'⟩ := rs154 hrw
            obtain ⟨r, h1, h2⟩ := ihk
            obtain ⟨b, h3, h4⟩ := IH A (Nat.lt_trans (size_row (ag := true) (sz := 15) hmu (by simp)) (size_row (ag := true) (sz := 3) hm (by simp))) hA A' hA'
            by_cases c1 : v1 = v1'
            · by_cases c2 : v2 = v2'
              · cases b
                · refine ⟨false, Ev.succ ?_, fun q h => Ev.succ ?_⟩
                  · simp only [L143_1, if_pos (ilt hk), getF_nat hu, getF_nat hw, ds_t154]
                    exact Ev.bO1 (a := false) (Ev.succ (by simp only [F144, if_pos c1, if_pos c2]; exact Ev.bO1 h3 Ev.ret)) Ev.ret
                  · simp only [L79_2, lenF, if_pos (ilt hk), getF_nat hu, getF_nat hw, ds_t154, if_pos c1, if_pos c2]
                    exact Ev.bO1 h4 Ev.ret
                · refine ⟨r, Ev.succ ?_, fun q h => Ev.succ ?_⟩
                  · simp only [L143_1, letF, if_pos (ilt hk), getF_nat hu, getF_nat hw, ds_t154, wrap_succ hk hR.1]
                    exact Ev.bO1 (a := true) (Ev.succ (by simp only [F144, if_pos c1, if_pos c2]; exact Ev.bO1 h3 Ev.ret)) h1
                  · simp only [L79_2, lenF, letF, if_pos (ilt hk), getF_nat hu, getF_nat hw, ds_t154, if_pos c1, if_pos c2, wrap_succ hk hR.1]
                    exact Ev.bO1 h4 (h2 q h)
              · refine ⟨false, Ev.succ ?_, fun q h => Ev.succ ?_⟩
                · simp only [L143_1, if_pos (ilt hk), getF_nat hu, getF_nat hw, ds_t154]
                  exact Ev.bO1 (a := false) (Ev.succ (by simp only [F144, if_pos c1, if_neg c2]; exact Ev.ret)) Ev.ret
                · simp only [L79_2, lenF, if_pos (ilt hk), getF_nat hu, getF_nat hw, ds_t154, if_pos c1, if_neg c2]
                  exact Ev.ret
            · refine ⟨false, Ev.succ ?_, fun q h => Ev.succ ?_⟩
              · simp only [L143_1, if_pos (ilt hk), getF_nat hu, getF_nat hw, ds_t154]
                exact Ev.bO1 (a := false) (Ev.succ (by simp only [F144, if_neg c1]; exact Ev.ret)) Ev.ret
              · simp only [L79_2, lenF, if_pos (ilt hk), getF_nat hu, getF_nat hw, ds_t154, if_neg c1]
                exact Ev.ret
          obtain ⟨r, h1, h2⟩ := lp 0 (Nat.zero_le _)
          refine ⟨r, Ev.succ ?_, fun _ => h2, fun h => absurd hl h⟩
          simp only [F143, lenF, hl, if_true]
          rw [hl] at h1; exact h1
        · refine ⟨false, Ev.succ ?_, fun h => absurd h hl, fun _ => rfl⟩
          simp only [F143, lenF, if_neg (len_ne_cast hl)]; exact Ev.ret
      obtain ⟨rA, hA1, hA2, hA3⟩ := arms
      obtain ⟨b1, p1, q1⟩ := agNames hN hN'
      obtain ⟨b2, p2, q2⟩ := agType tl htl tl' htl' tk tn tk' tn'
      obtain ⟨b3, p3, q3⟩ := agPlace pn pn' hpp hpp'
      obtain ⟨b4, p4, q4⟩ : ∃ r, Ev (fun n => F82 n E E') r ∧ Ev (fun n => F84 n E E' false) r := agExprs hE hE'
      obtain ⟨b5, p5, q5⟩ := IH B (size_row (ag := true) (sz := 15) hm (by simp)) hB B' hB'
      obtain ⟨b6, p6, q6⟩ := IH C (size_row (ag := true) (sz := 15) hm (by simp)) hC C' hC'
      -- one statement, in the program's text
      have one : ∃ b, Ev (fun n => F123 n op s1 s2 N tk tn tl v pn pp E B C R at_ op' s1' s2' N' tk' tn' tl' v' pn' pp' E' B' C' R' at_') b ∧
          (Ev (fun n => L79_1 n L M false (i : Int)) (b && q)) := by
        by_cases c1 : op = op'
        case neg => exact ⟨false, Ev.succ (by simp only [F123, if_neg c1]; exact Ev.ret), Ev.succ (by simp only [L79_1, lenF, if_pos (ilt hi), getF_nat hx, getF_nat hy, ds_t152, if_neg c1]; exact Ev.ret)⟩
        by_cases c2 : s1 = s1'
        case neg => exact ⟨false, Ev.succ (by simp only [F123, if_pos c1, if_neg c2]; exact Ev.ret), Ev.succ (by simp only [L79_1, lenF, if_pos (ilt hi), getF_nat hx, getF_nat hy, ds_t152, if_pos c1, if_neg c2]; exact Ev.ret)⟩
        by_cases c3 : s2 = s2'
        case neg => exact ⟨false, Ev.succ (by simp only [F123, if_pos c1, if_pos c2, if_neg c3]; exact Ev.ret), Ev.succ (by simp only [L79_1, lenF, if_pos (ilt hi), getF_nat hx, getF_nat hy, ds_t152, if_pos c1, if_pos c2, if_neg c3]; exact Ev.ret)⟩
        have fst : ∀ b, Ev (fun n => if v = v' then bO1 (F81 n pn pp pn' pp') fun b33 => if b33 = true then bO1 (F82 n E E') fun b34 => if b34 = true then bO1 (F75 n B B') fun b35 => if b35 = true then bO1 (F75 n C C') fun b36 => if b36 = true then bO1 (F143 n R R') fun b37 => some b37 else some false else some false else some false else some false else some false) b →
            Ev (fun n => F123 n op s1 s2 N tk tn tl v pn pp E B C R at_ op' s1' s2' N' tk' tn' tl' v' pn' pp' E' B' C' R' at_') (b1 && (b2 && b)) := by
          intro b hb
          refine Ev.succ ?_
          simp only [F123, if_pos c1, if_pos c2, if_pos c3]
          refine Ev.bO1 p1 ?_
          cases b1
          · exact Ev.ret
          refine Ev.bO1 p2 ?_
          cases b2
          · exact Ev.ret
          exact hb
        by_cases c4 : v = v'
        case neg =>
          refine ⟨_, fst false (by simp only [if_neg c4]; exact Ev.ret), Ev.succ ?_⟩
          simp only [L79_1, lenF, if_pos (ilt hi), getF_nat hx, getF_nat hy, ds_t152, if_pos c1, if_pos c2, if_pos c3, if_neg c4, Bool.and_false, Bool.false_and]; exact Ev.ret
        refine ⟨_, fst (b3 && (b4 && (b5 && (b6 && rA)))) ?_, Ev.succ ?_⟩
        · simp only [if_pos c4]
          refine Ev.bO1 p3 ?_
          cases b3
          · exact Ev.ret
          refine Ev.bO1 p4 ?_
          cases b4
          · exact Ev.ret
          refine Ev.bO1 p5 ?_
          cases b5
          · exact Ev.ret
          refine Ev.bO1 p6 ?_
          cases b6
          · exact Ev.ret
          exact Ev.bO1 hA1 Ev.ret
        · simp only [L79_1, lenF, if_pos (ilt hi), getF_nat hx, getF_nat hy, ds_t152, if_pos c1, if_pos c2, if_pos c3, if_pos c4, Bool.false_eq_true, if_false]
          by_cases hl : R.length = R'.length
          · simp only [hl, if_true]
            refine Ev.bO1 q1 ?_
            cases b1
            · exact Ev.ret
            refine Ev.bO1 q2 ?_
            cases b2
            · exact Ev.ret
            refine Ev.bO1 q3 ?_
            cases b3
            · exact Ev.ret
            refine Ev.bO1 q4 ?_
            cases b4
            · exact Ev.ret
            refine Ev.bO1 q5 ?_
            cases b5
            · exact Ev.ret
            refine Ev.bO1 q6 ?_
            cases b6
            · exact Ev.ret
            exact hA2 hl q hq2
          · simp only [if_neg (len_ne_cast hl), hA3 hl, Bool.and_false, Bool.false_and]; exact Ev.ret
      obtain ⟨b, o1, o2⟩ := one
      refine ⟨b && q, Ev.succ ?_, o2⟩
      simp only [L122_1, letF, if_pos (ilt hi), getF_nat hx, getF_nat hy, ds_t152, wrap_succ hi hL.1]
      refine Ev.bO1 o1 ?_
      cases b
      · exact Ev.ret
      · exact hq
    obtain ⟨r, h1, h2⟩ := loop 0 (Nat.zero_le _)
    refine ⟨r, Ev.succ ?_, Ev.succ ?_⟩
    · simp only [F75]
      refine Ev.bO1 (Ev.succ ?_) Ev.ret
      simp only [F122, lenF, he, if_true]
      rw [he] at h1; exact h1
    · simp only [F79, lenF, he, if_true]; exact h2
  · refine ⟨false, Ev.succ ?_, Ev.succ ?_⟩
    · simp only [F75]
      refine Ev.bO1 (Ev.succ ?_) Ev.ret
      simp only [F122, lenF, if_neg (len_ne_cast he)]; exact Ev.ret
    · simp only [F79, lenF, if_neg (len_ne_cast he)]; exact Ev.ret

theorem agFields {L M : List D} (hL : ListS tab 136 L) (hM : ListS tab 136 M) : ∃ r, Ev (fun n => F76 n L M) r ∧ Ev (fun n => F78 n L M) r := by
  by_cases he : L.length = M.length
  · have loop : ∀ i, i ≤ L.length → ∃ r, Ev (fun n => L76_1 n L M (L.length : Int) (i : Int)) r ∧ Ev (fun n => L78_1 n L M (i : Int)) r := by
      refine down L.length ⟨true, Ev.succ (by simp [L76_1, Ev.ret]), Ev.succ (by simp [L78_1, lenF, Ev.ret])⟩ (fun i hi ih => ?_)
      obtain ⟨x, hx, hm, hr⟩ := hL.get hi
      obtain ⟨s, a, b, A, rfl, _, _, _, hA⟩ := rs136 hr
      obtain ⟨y, hy, hm', hr'⟩ := hM.get (he ▸ hi)
      obtain ⟨s', a', b', A', rfl, _, _, _, hA'⟩ := rs136 hr'
      obtain ⟨r, h1, h2⟩ := ih
      obtain ⟨q, h3, h4⟩ := agType A hA A' hA' a b a' b'
      by_cases h : s = s'
      · refine ⟨q && r, Ev.succ ?_, Ev.succ ?_⟩
        · simp only [L76_1, letF, if_pos (ilt hi), getF_nat hx, getF_nat hy, ds_t136, wrap_succ hi hL.1]
          refine Ev.bO1 (a := q) (by simp only [F77, if_pos h]; exact Ev.bO1 h3 Ev.ret) ?_
          cases q
          · exact Ev.ret
          · exact h1
        · simp only [L78_1, lenF, letF, if_pos (ilt hi), getF_nat hx, getF_nat hy, ds_t136, if_pos h, wrap_succ hi hL.1]
          refine Ev.bO1 h4 ?_
          cases q
          · exact Ev.ret
          · exact h2
      · refine ⟨false, Ev.succ ?_, Ev.succ ?_⟩
        · simp only [L76_1, if_pos (ilt hi), getF_nat hx, getF_nat hy, ds_t136]
          exact Ev.bO1 (a := false) (by simp only [F77, if_neg h]; exact Ev.ret) Ev.ret
        · simp only [L78_1, lenF, if_pos (ilt hi), getF_nat hx, getF_nat hy, ds_t136, if_neg h]; exact Ev.ret
    obtain ⟨r, h1, h2⟩ := loop 0 (Nat.zero_le _)
    refine ⟨r, ?_, ?_⟩
    · simp only [F76, lenF, he, if_true]
      rw [he] at h1; exact h1
    · simp only [F78, lenF, he, if_true]; exact h2
  · refine ⟨false, ?_, ?_⟩
    · simp only [F76, lenF, if_neg (len_ne_cast he)]; exact Ev.ret
    · simp only [F78, lenF, if_neg (len_ne_cast he)]; exact Ev.ret

theorem agItems {L M : List D} (hL : ListS tab 126 L) (hM : ListS tab 126 M) : ∃ r, Ev (fun n => F18 n L M) r ∧ Ev (fun n => F19 n L M false) r := by
  by_cases he : L.length = M.length
  · have loop : ∀ i, i ≤ L.length → ∃ r, Ev (fun n => L73_1 n L M (L.length : Int) (i : Int)) r ∧ Ev (fun n => L19_1 n L M false (i : Int)) r := by
      refine down L.length ⟨true, Ev.succ (by simp [L73_1, Ev.ret]), Ev.succ (by simp [L19_1, lenF, Ev.ret])⟩ (fun i hi ih => ?_)
      obtain ⟨x, hx, hm, hr⟩ := hL.get hi
      obtain ⟨k, nm, Fs, rk, rn, rl, B, e0, e1, e2, e3, e4, e5, e6, e7, at_, rfl, _, _, hF, _, _, hrl, hB, _, _, _, _, _, h5, h6, _, _⟩ := rs126 hr
      obtain ⟨y, hy, hm', hr'⟩ := hM.get (he ▸ hi)
      obtain ⟨k', nm', Fs', rk', rn', rl', B', e0', e1', e2', e3', e4', e5', e6', e7', at_', rfl, _, _, hF', _, _, hrl', hB', _, _, _, _, _, h5', h6', _, _⟩ := rs126 hr'
      obtain ⟨q, hq1, hq2⟩ := ih
      obtain ⟨b1, p1, q1⟩ := agFields hF hF'
      obtain ⟨b2, p2, q2⟩ := agType rl hrl rl' hrl' rk rn rk' rn'
      obtain ⟨b3, p3, q3⟩ := agStmts B hB B' hB'
      obtain ⟨b4, p4, q4⟩ := agExpr e6 h6 e6' h6' e5 e5' h5 h5' e0 e1 e2 e3 e4 e7 e0' e1' e2' e3' e4' e7'
      by_cases c : k = k' ∧ nm = nm'
      · obtain ⟨c1, c2⟩ := c
        refine ⟨(b1 && (b2 && (b3 && b4))) && q, Ev.succ ?_, Ev.succ ?_⟩
        · simp only [L73_1, letF, if_pos (ilt hi), getF_nat hx, getF_nat hy, ds_t126, wrap_succ hi hL.1]
          refine Ev.bO1 (a := b1 && (b2 && (b3 && b4))) ?_ ?_
          · simp only [F74, if_pos c1, if_pos c2]
            refine Ev.bO1 p2 ?_
            cases b2
            · cases b1 <;> exact Ev.ret
            refine Ev.bO1 p4 ?_
            cases b4
            · cases b1 <;> cases b3 <;> exact Ev.ret
            refine Ev.bO1 p3 ?_
            cases b3
            · cases b1 <;> exact Ev.ret
            refine Ev.bO1 p1 ?_
            cases b1 <;> exact Ev.ret
          · cases b1 <;> cases b2 <;> cases b3 <;> cases b4 <;> first | exact Ev.ret | exact hq1
        · simp only [L19_1, lenF, letF, if_pos (ilt hi), getF_nat hx, getF_nat hy, ds_t126, if_pos c1, if_pos c2, Bool.false_eq_true, if_false, wrap_succ hi hL.1]
          refine Ev.bO1 q1 ?_
          cases b1
          · exact Ev.ret
          refine Ev.bO1 q2 ?_
          cases b2
          · exact Ev.ret
          refine Ev.bO1 q3 ?_
          cases b3
          · exact Ev.ret
          refine Ev.bO1 q4 ?_
          cases b4
          · exact Ev.ret
          exact hq2
      · refine ⟨false, Ev.succ ?_, Ev.succ ?_⟩
        · simp only [L73_1, if_pos (ilt hi), getF_nat hx, getF_nat hy, ds_t126]
          refine Ev.bO1 (a := false) ?_ Ev.ret
          by_cases c1 : k = k' <;> by_cases c2 : nm = nm' <;> simp_all [F74, Ev.ret]
        · by_cases c1 : k = k' <;> by_cases c2 : nm = nm' <;> simp_all [L19_1, lenF, getF_nat hx, getF_nat hy, ds_t126, Ev.ret]
    obtain ⟨r, h1, h2⟩ := loop 0 (Nat.zero_le _)
    refine ⟨r, ?_, ?_⟩
    · simp only [F18]
      refine Ev.bO1 ?_ Ev.ret
      simp only [F73, lenF, he, if_true]
      rw [he] at h1; exact h1
    · simp only [F19, lenF, he, if_true]; exact h2
  · refine ⟨false, ?_, ?_⟩
    · simp only [F18]
      refine Ev.bO1 ?_ Ev.ret
      simp only [F73, lenF, if_neg (len_ne_cast he)]; exact Ev.ret
    · simp only [F19, lenF, if_neg (len_ne_cast he)]; exact Ev.ret

theorem lawSame {A B T U P Q E G : List D} (hA : ListS tab 126 A) (hB : ListS tab 126 B) (hT : ListS tab 27 T) (hU : ListS tab 27 U) (hP : ListS tab 9 P) (hQ : ListS tab 9 Q) (hE : ListS tab 33 E) (hG : ListS tab 33 G)
    (k : Int) (s : ByteArray) (k' : Int) (s' : ByteArray) (e0 e1 : Int) (e2 e3 e4 : ByteArray) (e7 f0 f1 : Int) (f2 f3 f4 : ByteArray) (f7 : Int) :
    Ev (fun n => F3 n A B k s T k' s' U e0 e1 e2 e3 e4 P E e7 f0 f1 f2 f3 f4 Q G f7) true := by
  obtain ⟨g1, h1⟩ := tot15 hA
  obtain ⟨g2, h2⟩ := tot15 hB
  obtain ⟨g3, h3⟩ := tot16 hT k s
  obtain ⟨g4, h4⟩ := tot16 hU k' s'
  obtain ⟨g5, h5⟩ := tot17 hP hE e0 e1 e2 e3 e4 e7
  obtain ⟨g6, h6⟩ := tot17 hQ hG f0 f1 f2 f3 f4 f7
  obtain ⟨b1, p1, q1⟩ := agItems hA hB
  obtain ⟨b2, p2, q2⟩ := agType T hT U hU k s k' s'
  obtain ⟨b3, p3, q3⟩ := agExpr E hE G hG P Q hP hQ e0 e1 e2 e3 e4 e7 f0 f1 f2 f3 f4 f7
  unfold F3
  refine Ev.bO1 h1 ?_
  cases g1
  case true => exact Ev.ret
  refine Ev.bO1 h2 ?_
  cases g2
  case true => exact Ev.ret
  refine Ev.bO1 h3 ?_
  cases g3
  case true => exact Ev.ret
  refine Ev.bO1 h4 ?_
  cases g4
  case true => exact Ev.ret
  refine Ev.bO1 h5 ?_
  cases g5
  case true => exact Ev.ret
  refine Ev.bO1 h6 ?_
  cases g6
  case true => exact Ev.ret
  refine Ev.bO1 p1 (Ev.bO1 q1 ?_)
  cases b1 <;> (refine Ev.bO1 p2 (Ev.bO1 q2 ?_); cases b2 <;> (refine Ev.bO1 p3 (Ev.bO1 q3 ?_); cases b3 <;> exact Ev.ret))
end Go.Proofs.Ytiiojajgajnhpaa

/- The abstract machine, part R: a law that returns true, out of its contract over typed data. No condition. -/
namespace Go.AM
open Go Go.RowKit Go.ChangeShapes Go.WideShapes

/-- Arguments of given types. -/
def Shapes (ti : Types) : List TypeId → List D → Prop
  | [], [] => True
  | t :: ts, x :: xs => Shape ti t x.cells ∧ (∀ y, ti t = some y → x.isAgg = rowD y.desc) ∧ Shapes ti ts xs
  | _, _ => False

theorem Shapes.length {ti : Types} : ∀ {ts : List TypeId} {xs : List D}, Shapes ti ts xs → xs.length = ts.length
  | [], [], _ => rfl
  | _ :: _, _ :: _, h => by simp [Shapes.length h.2.2]
  | [], _ :: _, h => h.elim
  | _ :: _, [], h => h.elim

theorem rowD_cases {d : TypeDesc} : (∃ fs, d = .struct fs) ∨ (∃ n e, d = .array n e) ∨ rowD d = false := by
  cases d <;> simp [rowD]

section
variable {H : Type} {enc : TypeId × Value → H} {P : Program} {ti : Types} {T : List TypeId} {w : World}

/-- One argument. -/
theorem conv_arg (hti : TIok P ti) (hT : plainB ti T = true) {Z : Zone} (hZ : ∀ b o, ¬ Z b o) {base base' : Nat} {spare : Nat → Bool} {held : Bool} {r : Reach} {t : TypeId} {v : Value} {d : DataW H} {ps : List MemPlace} (ht : t ∈ T)
    (hok : Value.okWide P w r base' t v) (h : DataW.Trod enc P w base spare held t v d ps) : ∃ x : D, Shape ti t x.cells ∧ (∀ y, ti t = some y → x.isAgg = rowD y.desc) ∧ RelD w Z x v := by
  obtain ⟨fuel, h⟩ := h
  obtain ⟨ds, hs, h1, h2, h3⟩ := conv hti hT (Z := Z) hZ fuel t _ _ _ ht h
  have hp := List.all_eq_true.1 hT t ht
  split at hp
  · rename_i y hy
    have hu := (hti t y hy).1
    have single : rowD y.desc = false → v.cells.toList = [v] → ∃ x : D, Shape ti t x.cells ∧ (∀ y, ti t = some y → x.isAgg = rowD y.desc) ∧ RelD w Z x v := by
      intro hr hv
      rw [hv] at h1 h3
      obtain ⟨c, rfl⟩ := List.length_eq_one_iff.1 h1
      have hc := h2 c (by simp)
      have e : c.cells = [c] := by cases c <;> first | rfl | simp [D.isAgg] at hc
      refine ⟨c, by rw [e]; exact hs, fun y' hy' => ?_, h3 0 c v rfl rfl⟩
      rw [hy] at hy'
      obtain rfl : y = y' := by simpa using hy'
      rw [hc, hr]
    split at hp
    · rename_i hd
      rw [hd] at hu
      obtain ⟨b, rfl⟩ := okWide_bool hu hok
      exact single (by rw [hd]; rfl) rfl
    · rename_i k hd
      rw [hd] at hu
      obtain ⟨b, rfl⟩ := okWide_int hu hok
      exact single (by rw [hd]; rfl) rfl
    · rename_i hd
      rw [hd] at hu
      obtain ⟨b, rfl⟩ := okWide_string hu hok
      exact single (by rw [hd]; rfl) rfl
    · rename_i e hd
      rw [hd] at hu
      obtain ⟨a, l, c, rfl⟩ := okWide_slice hu hok
      exact single (by rw [hd]; rfl) rfl
    · rename_i fs hd
      rw [hd] at hu
      obtain ⟨cs, rfl, _⟩ := okWide_struct hu hok
      refine ⟨.agg ds, hs, fun y' hy' => ?_, .agg ds cs (by simpa [Value.cells] using h1.symm) h2 (fun j c u hc hu' => h3 j c u hc (by simpa [Value.cells] using hu'))⟩
      rw [hy] at hy'
      obtain rfl : y = y' := by simpa using hy'
      rw [hd]; rfl
    · simp at hp
  · simp at hp

theorem conv_args (hti : TIok P ti) (hT : plainB ti T = true) {Z : Zone} (hZ : ∀ b o, ¬ Z b o) {base base' : Nat} {spare : Nat → Bool} {held : Bool} {r : Reach} :
    ∀ (ts : List TypeId) (vs : List Value) (ds : List (DataW H)) (ps : List MemPlace), (∀ t ∈ ts, t ∈ T) → DataW.TrodAll enc P w base spare held ts vs ds ps →
      (∀ (j : Nat) t v, ts[j]? = some t → vs[j]? = some v → Value.okWide P w r base' t v) →
      ∃ xs, Shapes ti ts xs ∧ ∀ (j : Nat) x v, xs[j]? = some x → vs[j]? = some v → RelD w Z x v
  | [], vs, ds, ps, _, h, _ => ⟨[], trivial, by simp⟩
  | t :: ts, vs, ds, ps, ht, h, hok => by
    obtain ⟨v, vs1, d, ds1, a, b, rfl, rfl, rfl, h1, h2⟩ := trodAll_cons h
    obtain ⟨x, k1, k2, k3⟩ := conv_arg hti hT hZ (ht t (by simp)) (hok 0 t v rfl rfl) h1
    obtain ⟨xs, k4, k5⟩ := conv_args hti hT hZ ts vs1 ds1 b (fun t ht' => ht t (by simp [ht'])) h2 (fun j t v h1 h2 => hok (j + 1) t v (by simpa using h1) (by simpa using h2))
    refine ⟨x :: xs, ⟨k1, k2, k4⟩, fun j x' v' hx hv => ?_⟩
    match j with
    | 0 => simp at hx hv; subst hx; subst hv; exact k3
    | j + 1 => simp at hx hv; exact k5 j x' v' hx hv

theorem again_all (hl : laidOutB P = true) {W W' : World} (hb : Below W.heap.size W W') : ∀ (ts : List TypeId) (vs : List Value) (ds : List (DataW H)) (ps : List MemPlace),
    (∀ t ∈ ts, P.readableRec t = true ∧ t < P.types.size) → DataW.TrodAll enc P W 0 (fun _ => true) true ts vs ds ps → (∀ x ∈ ps, x.block < W.heap.size) →
    DataW.TrodAll enc P W' 0 (fun b => decide (b < W.heap.size)) true ts vs ds ps
  | [], vs, ds, ps, _, h, _ => by
    obtain ⟨rfl, rfl, rfl⟩ := trodAll_nil h
    exact rfl
  | t :: ts, vs, ds, ps, ht, h, hlt => by
    obtain ⟨v, vs1, d, ds1, a, b, rfl, rfl, rfl, h1, h2⟩ := trodAll_cons h
    have ht1 := ht t (by simp)
    exact ⟨a, b, Below.trod hl ht1.1 ht1.2 h1 hb (fun x hx => hlt x (by simp [hx])), again_all hl hb ts vs1 ds1 b (fun t ht' => ht t (by simp [ht'])) h2 (fun x hx => hlt x (by simp [hx])), rfl⟩

/-- A law: its contract over every typed input makes its row. -/
theorem law_calls (hti : TIok P ti) (hT : plainB ti T = true) {s : ChangeSpec} {fn : Func} {f : FuncId} {ts : List TypeId} {bt : TypeId}
    (hp : fn.params.toList = ts) (hv : s.vars = []) (hr : fn.resultTypes = #[bt]) (hb : P.underlying bt = some .bool) (htT : ∀ t ∈ ts, t ∈ T)
    (hs : ∀ ds : List (DataW H), ds.length = ts.length → (s.fn H ds).results = [.lit (.bool true)] ∧ (s.fn H ds).args = ds ∧ (s.fn H ds).vars = [])
    (hl : laidOutB P = true) (hrec : ∀ t ∈ ts, P.readableRec t = true ∧ t < P.types.size)
    (hc : ∀ xs : List D, Shapes ti ts xs → Trip P f (xs.map V1.d) [] (.v (.d (.bool true))) [] [])
    {W : World} {base : Nat} {args : Array Value} {ds gs : List (DataW H)} {before : List MemPlace}
    (hval : ∀ (j : Nat) t v, fn.params[j]? = some t → args[j]? = some v → Value.okWide P W .any base t v)
    (hW : DataW.Whole enc P fn.params.toList s.vars false W args.toList ds gs before) :
    Calls P f args W fun e W' => ∃ v, e = .returned v ∧ s.post enc P fn false true false false W args v W' := by
  have hW' := hW
  obtain ⟨p, q, hA, hV, rfl, _, _⟩ := hW
  rw [hv] at hV
  obtain ⟨rfl, rfl⟩ : gs = [] ∧ q = [] := by
    cases gs with
    | nil => exact ⟨rfl, hV⟩
    | cons _ _ => exact hV.elim
  rw [hp] at hA
  obtain ⟨hlen, hdl⟩ := trodAll_length hA
  obtain ⟨xs, hsh, hrel⟩ := conv_args hti hT (Z := fun _ _ => False) (fun _ _ h => h) (r := .any) (base' := base) ts args.toList ds p htT hA (fun j t v h1 h2 => hval j t v (by
    rw [← Array.getElem?_toList, hp]; exact h1) (by simpa using h2))
  have hxl := hsh.length
  have ⟨_, hcall⟩ := hc xs hsh
  have hheap : ∀ i o, heapOf [] i = some o → False := by
    intro i o h
    cases i <;> simp [heapOf] at h
  have hzone : ∀ (g : Ghost) b o, ¬ zone g (heapOf []) b o := by
    rintro g b o ⟨i, ob, h, _⟩
    exact hheap i ob h
  refine (hcall W (fun _ _ => False) (fun _ => undef) args (fun _ _ h => h.elim) ⟨fun i o h => (hheap i o h).elim, fun i _ _ _ _ h => (hheap i _ h).elim, fun i _ _ _ h => (hheap i _ h).elim⟩ (fun _ => rfl)
    (by simp at hlen; simp; omega) (fun j x v hx hvv => ?_)).mono ?_
  · simp only [List.getElem?_map, Option.map_eq_some_iff] at hx
    obtain ⟨d, hd, rfl⟩ := hx
    exact (hrel j d v hd (by simpa using hvv)).mono (fun b o u hu _ => ⟨hu, fun hz => hz.elim (hzone _ b o) id⟩)
  · rintro e W' ⟨v, g', rfl, hpost⟩
    obtain rfl : v = .bool true := by cases (show RelD _ _ (.bool true) v from hpost.res); rfl
    have hbel : Below W.heap.size W W' := ⟨hpost.frame.os, hpost.frame.tape, hpost.frame.output, hpost.frame.size, fun k hk => hpost.frame.block k hk (fun o => hzone _ k o)⟩
    obtain ⟨s1, s2, s3⟩ := hs (ds ++ []) (by simp [hdl])
    refine ⟨_, rfl, ds, [], p ++ [], [], p, [], hW', ?_, ?_, ?_, hbel.frame _, fun h => by cases h⟩
    · rw [s1, hr]
      exact trodAll_mk1 (shut_bool hb true)
    · rw [s2, hp, List.append_nil]
      exact again_all hl hbel ts args.toList ds p hrec hA (fun x hx => hW'.lt x (by simp [hx]))
    · rw [s3, hv]; rfl
end
end Go.AM

/- TreeSame holds: whether any two programs, types, expressions are the same is what the chapter says. No condition. -/
namespace Go.Proofs.Ytiiojajgajnhpaa
open Go Go.ChangeShapes Go.WideShapes Go.ChangeAt Go.RowKit Go.AM

theorem same_trip : ∀ xs : List D, Shapes tab [24, 24, 27, 27, 33, 33] xs → Trip Try.prog 3 (xs.map V1.d) [] (.v (.d (.bool true))) [] [] := by
  intro xs h
  match xs, h with
  | [a, b, t, u, e, f], ⟨a1, a2, b1, b2, t1, t2, u1, u2, e1, e2, f1, f2, _⟩ =>
    obtain ⟨A, rfl, hA⟩ := rs24 ⟨a1, a2⟩
    obtain ⟨B, rfl, hB⟩ := rs24 ⟨b1, b2⟩
    obtain ⟨k, s, T, rfl, _, _, hT⟩ := rs27 ⟨t1, t2⟩
    obtain ⟨k', s', U, rfl, _, _, hU⟩ := rs27 ⟨u1, u2⟩
    obtain ⟨a0, a1, a2, a3, a4, P, E, a7, rfl, _, _, _, _, _, hP, hE, _⟩ := rs33 ⟨e1, e2⟩
    obtain ⟨b0, b1, b2, b3, b4, Q, G, b7, rfl, _, _, _, _, _, hQ, hG, _⟩ := rs33 ⟨f1, f2⟩
    obtain ⟨n, hn⟩ := (lawSame hA hB hT hU hP hQ hE hG k s k' s' a0 a1 a2 a3 a4 a7 b0 b1 b2 b3 b4 b7).run
    exact T3 n hn

theorem same_reads : ∀ t ∈ [24, 24, 27, 27, 33, 33], Try.prog.readableRec t = true ∧ t < Try.prog.types.size := by
  have h : ([24, 24, 27, 27, 33, 33].all fun t => Try.prog.readableRec t && decide (t < Try.prog.types.size)) = true := by kernel_rfl
  intro t ht
  have := List.all_eq_true.1 h t ht
  simpa using this

set_option maxRecDepth 100000 in
theorem tree_same_lifted (os : Os) (started : os.Started) (H : Type) (enc : TypeId × Value → H) :
    ReturnsInHanded {} Try.checked os 3 .any (Rows.treeSameSpec.pre6 enc Try.prog Try.f3 Rows.treeSameRow.domain false) (Rows.treeSameSpec.post enc Try.prog Try.f3 false true false false) := by
  refine returnsInHanded_of_change (C := Try.checked) (by kernel_rfl) started (by kernel_rfl) Try.func3
    (ChangeSpec.witness6 (enc := enc) (C := Try.checked) false ⟨#[], #[.agg #[.slice none 0 0],.agg #[.slice none 0 0],.agg #[.int .u8 0, .string ⟨#[]⟩, .slice none 0 0],.agg #[.int .u8 0, .string ⟨#[]⟩, .slice none 0 0], .agg #[.int .u8 0, .int .i64 0, .string ⟨#[]⟩, .string ⟨#[]⟩, .string ⟨#[]⟩, .slice none 0 0, .slice none 0 0, .int .i64 0],.agg #[.int .u8 0, .int .i64 0, .string ⟨#[]⟩, .string ⟨#[]⟩, .string ⟨#[]⟩, .slice none 0 0, .slice none 0 0, .int .i64 0]], []⟩ 8 (by kernel_rfl) (by kernel_rfl) (by kernel_rfl) (by kernel_rfl)) ?_
  intro W base args ds gs before hval0 hW _ _
  refine law_calls (ti := tab) (T := [2, 3, 5, 9, 22, 24, 25, 27, 28, 30, 31, 33, 123, 124, 126, 136, 150, 152, 154]) tab_ok (by kernel_rfl) (ts := [24, 24, 27, 27, 33, 33]) (bt := 4) rfl rfl rfl (by kernel_rfl) (by decide) ?_ (by kernel_rfl) same_reads same_trip hval0 hW
  intro ds h
  match ds, h with
  | [_, _, _, _, _, _], _ => exact ⟨rfl, rfl, rfl⟩
theorem tree_same : Rows.TreeSameSaid :=
  OpenClaim.holds_of_wide 3 Try.f3 rfl rfl rfl rfl rfl rfl rfl ⟨rfl, rfl, rfl, rfl, rfl⟩ rfl rfl rfl rfl rfl (by kernel_rfl) Try.func3 (by kernel_rfl)
    (of_decide_eq_true (by kernel_rfl)) (by unfold Func.isWrapper; first | (rw [if_pos (by decide +kernel)]; kernel_rfl) | (rw [if_neg (by decide +kernel)]; exact ⟨rfl, rfl⟩))
    (fun os started H enc _ => tree_same_lifted os started H enc)
end Go.Proofs.Ytiiojajgajnhpaa
