/- LexBack of chapter 2: tokens written one behind the other, with a blank between, are read as the same tokens; so they are with a remark ahead and behind. No condition. (Part 5: LxX, LxXh.) -/
import Derived.Test.YtjmofeakajdbiaaDoorRows
import Derived.Test.YtjmofeakajdbiaaDoorTie
import Derived.Test.YtjmofeakajdbiaaDoorCards
import Derived.ChangeSame
import Derived.JoinedOf
import Derived.JoinedAt
import Derived.RowKit
import Derived.RowKit2
import Derived.ReadAgain
import Derived.ChangeAlike
import Derived.Lay
import Derived.Handed
import Derived.LaidSub
import Derived.LaidLaws
import Derived.LaidHandle
import Derived.MakeChecks
import Derived.SevenTiedAt
import Derived.Lib.LaidTab
import Derived.Lib.LaidU8
import Derived.Test.YtjmofeakajdbiaaDoorLbaD
set_option linter.unusedVariables false
set_option linter.unusedSimpArgs false
set_option linter.unusedVariables false
noncomputable section
namespace Go.Proofs.YtjmofeakajdbiaaDoor
open Go Go.AM

def bD (l : List UInt8) : List D := l.map fun b => D.int .u8 (b.toNat : Int)
theorem strD_bl (s : ByteArray) : strD s = bD (bl s) := rfl
theorem bytesD_bD : ∀ l : List UInt8, bytesD (bD l) = some (l.map fun b => (b.toNat : Int))
  | [] => rfl
  | b :: r => by
    show (match bytesD (bD r) with | some ns => some ((b.toNat : Int) :: ns) | none => none) = _
    rw [bytesD_bD r]
    rfl
theorem bytesB_map (l : List UInt8) : bytesB (l.map fun b => (b.toNat : Int)) = tx l := by
  have main : ∀ (l : List UInt8) (acc : ByteArray), bl ((l.map fun b => (b.toNat : Int)).foldl (fun r n => r.push (UInt8.ofNat n.toNat)) acc) = bl acc ++ l := by
    intro l
    induction l with
    | nil => intro acc; simp
    | cons b r ih =>
      intro acc
      rw [List.map_cons, List.foldl_cons, ih]
      have : UInt8.ofNat ((b.toNat : Int).toNat) = b := by rw [Int.toNat_natCast]; exact UInt8.ofNat_toNat
      rw [this]
      have e : bl (acc.push b) = bl acc ++ [b] := by
        unfold bl
        show (acc.data.push b).toList = _
        rw [Array.toList_push]
      rw [e, List.append_assoc]
      rfl
  refine bl_inj ?_
  rw [bl_tx]
  exact main l ByteArray.empty
theorem strF_bD {γ : Type} (l : List UInt8) (k : ByteArray → Option γ) : strF (bD l) k = k (tx l) := by
  unfold strF
  rw [bytesD_bD]
  show k (bytesB _) = _
  rw [bytesB_map]
theorem bD_app (a b : List UInt8) : bD a ++ bD b = bD (a ++ b) := by simp [bD]
theorem appSF_bD {γ : Type} {a : List UInt8} {s : ByteArray} {k : List D → Option γ} (h : a.length + (bl s).length ≤ 20000) : appSF (bD a) s k = k (bD (a ++ bl s)) := by
  unfold appSF
  rw [if_pos, strD_bl, bD_app]
  have : maxLen = 9223372036854775807 := rfl
  rw [bl_len]
  simp only [bD, List.length_map]
  omega
theorem appF_bD {γ : Type} {a : List UInt8} {b : UInt8} {k : List D → Option γ} (h : a.length ≤ 20000) : appF 1 (bD a) [.int .u8 (b.toNat : Int)] k = k (bD (a ++ [b])) := by
  unfold appF
  rw [if_pos]
  · show k (bD a ++ bD [b]) = _
    rw [bD_app]
  · have : maxLen = 9223372036854775807 := rfl
    simp only [bD, List.length_map, List.length_cons, List.length_nil]
    omega

theorem takeWhile_sep {p : UInt8 → Bool} {c : UInt8} (hp : p c = false) (B : List UInt8) : ∀ t : List UInt8, (∀ b ∈ t, p b = true) → (t ++ c :: B).takeWhile p = t
  | [], _ => by simp [hp]
  | a :: t, h => by
    have h1 := h a (by simp)
    simp only [List.cons_append, List.takeWhile_cons, h1, if_true]
    rw [takeWhile_sep hp B t (fun b hb => h b (by simp [hb]))]
theorem mem_takeWhile {p : UInt8 → Bool} : ∀ {l : List UInt8} {b : UInt8}, b ∈ l.takeWhile p → p b = true
  | a :: l, b, h => by
    rw [List.takeWhile_cons] at h
    split at h
    · rcases List.mem_cons.1 h with rfl | h
      · assumption
      · exact mem_takeWhile h
    · cases h
structure Good (x : Tok) : Prop where
  ne : x.k ≠ 0
  ex : ∃ l, oneL l = (x.k, x.t)
theorem Good.read {x : Tok} (h : Good x) : ∃ b r, x.t = b :: r ∧ blank b = false ∧ ∀ B, oneL (x.t ++ 32 :: B) = (x.k, x.t) ∧ ¬ (b = 47 ∧ (r ++ 32 :: B).head? = some 47) := by
  obtain ⟨hne, l, hl⟩ := h
  match l, hl with
  | [], hl => exact absurd (congrArg Prod.fst hl).symm hne
  | b :: r, hl =>
    have nb : ∀ c : UInt8, letter c = true ∨ dig c = true ∨ sgn c = true → blank c = false := by
      intro c hc
      cases hb : blank c with
      | false => rfl
      | true =>
        exfalso
        unfold blank at hb
        simp only [Bool.or_eq_true, beq_iff_eq] at hb
        have : c = 32 ∨ c = 9 ∨ c = 10 ∨ c = 13 := by rcases hb with ((h | h) | h) | h <;> simp [h]
        rcases this with rfl | rfl | rfl | rfl <;> exact absurd hc (by decide)
    have n47 : letter 47 = false ∧ dig 47 = false := by decide
    unfold oneL at hl
    dsimp only at hl
    cases c1 : letter b with
    | true =>
      rw [c1, if_pos rfl] at hl
      obtain ⟨e1, e2⟩ := Prod.mk.inj hl
      have pb : pB b = true := by unfold letter at c1; unfold pB partZ; simp at c1; rcases c1 with h | h <;> simp [h]
      have ht : x.t = b :: r.takeWhile pB := by rw [← e2, List.takeWhile_cons, if_pos pb]
      refine ⟨b, r.takeWhile pB, ht, nb b (.inl c1), fun B => ⟨?_, fun hh => ?_⟩⟩
      · have hall : ∀ y ∈ x.t, pB y = true := by rw [← e2]; exact fun y hy => mem_takeWhile hy
        have tw := takeWhile_sep (p := pB) (c := 32) (by decide) B x.t hall
        rw [ht] at tw ⊢
        rw [List.cons_append] at tw ⊢
        unfold oneL
        dsimp only
        rw [c1, if_pos rfl, tw, ← ht, ← e1, ← e2]
      · rw [hh.1, n47.1] at c1; cases c1
    | false =>
      rw [c1] at hl
      simp only [Bool.false_eq_true, if_false] at hl
      cases c2 : dig b with
      | true =>
        rw [c2] at hl
        simp only [if_true] at hl
        cases c3 : numOK ((b :: r).takeWhile dig) with
        | false => rw [c3] at hl; simp only [Bool.false_eq_true, if_false] at hl; exact absurd (congrArg Prod.fst hl).symm hne
        | true =>
          rw [c3] at hl
          simp only [if_true] at hl
          obtain ⟨e1, e2⟩ := Prod.mk.inj hl
          have ht : x.t = b :: r.takeWhile dig := by rw [← e2, List.takeWhile_cons, if_pos c2]
          refine ⟨b, r.takeWhile dig, ht, nb b (.inr (.inl c2)), fun B => ⟨?_, fun hh => ?_⟩⟩
          · have hall : ∀ y ∈ x.t, dig y = true := by rw [← e2]; exact fun y hy => mem_takeWhile hy
            have tw := takeWhile_sep (p := dig) (c := 32) (by decide) B x.t hall
            have c3' : numOK x.t = true := by rw [← e2]; exact c3
            rw [ht] at tw c3' ⊢
            rw [List.cons_append] at tw ⊢
            unfold oneL
            dsimp only
            rw [c1, c2, tw, c3']
            simp only [Bool.false_eq_true, if_false, if_true]
            rw [← ht, ← e1]
          · rw [hh.1, n47.2] at c2; cases c2
      | false =>
        rw [c2] at hl
        simp only [Bool.false_eq_true, if_false] at hl
        cases c3 : twoS (b :: r) with
        | true =>
          rw [c3] at hl
          simp only [if_true] at hl
          obtain ⟨e1, e2⟩ := Prod.mk.inj hl
          match r, c3, e2 with
          | [], c3, _ => simp [twoS, hasPrefix_two] at c3
          | c :: r, c3, e2 =>
            have ht : x.t = [b, c] := by rw [← e2]; simp
            have tS : ∀ B, twoS (b :: c :: B) = twoS (b :: c :: r) := fun B => by unfold twoS; simp [hasPrefix_two]
            have hb : sgn b = true ∧ b ≠ 47 := by
              unfold twoS at c3
              simp only [hasPrefix_two, List.head?_cons, Option.some.injEq, Bool.or_eq_true, Bool.and_eq_true, decide_eq_true_eq] at c3
              rcases c3 with (⟨rfl, _⟩ | ⟨rfl, _⟩) | ⟨rfl, _⟩ <;> decide
            refine ⟨b, [c], ht, nb b (.inr (.inr hb.1)), fun B => ⟨?_, fun hh => hb.2 hh.1⟩⟩
            rw [ht]
            simp only [List.cons_append, List.nil_append]
            unfold oneL
            dsimp only
            rw [c1, c2, tS, c3]
            simp only [Bool.false_eq_true, if_false, if_true, List.take_succ_cons, List.take_zero]
            rw [← e1]
        | false =>
          rw [c3] at hl
          simp only [Bool.false_eq_true, if_false] at hl
          cases c4 : sgn b with
          | false => rw [c4] at hl; simp only [Bool.false_eq_true, if_false] at hl; exact absurd (congrArg Prod.fst hl).symm hne
          | true =>
            rw [c4] at hl
            simp only [if_true] at hl
            obtain ⟨e1, e2⟩ := Prod.mk.inj hl
            have ht : x.t = [b] := by rw [← e2]; simp
            refine ⟨b, [], ht, nb b (.inr (.inr c4)), fun B => ⟨?_, fun hh => ?_⟩⟩
            · have tS : twoS (b :: 32 :: B) = false := by unfold twoS; simp [hasPrefix_two]
              rw [ht]
              simp only [List.cons_append, List.nil_append]
              unfold oneL
              dsimp only
              rw [c1, c2, tS, c4]
              simp only [Bool.false_eq_true, if_false, if_true, List.take_succ_cons, List.take_zero]
              rw [← e1]
            · simp at hh

theorem toks_good : ∀ (m p : Nat) (l : List UInt8), (∀ x ∈ (toks m p l).1, Good x) ∧ ((toks m p l).1.map fun x => x.t.length).sum ≤ l.length
  | 0, p, l => by simp [toks]
  | m + 1, p, [] => by simp [toks]
  | m + 1, p, b :: r => by
    rw [toks]
    dsimp only
    by_cases c : (oneL (b :: r)).1 = 0
    · rw [if_pos c]; simp
    · rw [if_neg c]
      obtain ⟨k1, k2, k3⟩ := oneL_take (b :: r) c
      have ih := toks_good m (p + (oneL (b :: r)).2.length + skipB false ((b :: r).drop (oneL (b :: r)).2.length)) (((b :: r).drop (oneL (b :: r)).2.length).drop (skipB false ((b :: r).drop (oneL (b :: r)).2.length)))
      have hq := skipB_le false ((b :: r).drop (oneL (b :: r)).2.length)
      refine ⟨fun x hx => ?_, ?_⟩
      · rcases List.mem_cons.1 hx with rfl | hx
        · exact ⟨c, b :: r, rfl⟩
        · exact ih.1 x hx
      · have := ih.2
        simp only [List.map_cons, List.sum_cons]
        simp only [List.length_drop] at this
        simp only [List.length_drop] at hq
        omega

def joinT : List Tok → List UInt8
  | [] => []
  | x :: r => x.t ++ 32 :: joinT r
theorem joinT_len : ∀ ts : List Tok, (joinT ts).length = (ts.map fun x => x.t.length).sum + ts.length
  | [] => rfl
  | x :: r => by
    have := joinT_len r
    simp only [joinT, List.length_append, List.length_cons, List.map_cons, List.sum_cons]
    omega
theorem joinT_app (a : List Tok) (x : Tok) : joinT (a ++ [x]) = joinT a ++ (x.t ++ [32]) := by
  induction a with
  | nil => simp [joinT]
  | cons y a ih => simp only [List.cons_append, joinT, ih, List.append_assoc, List.cons_append]
def kt (x : Tok) : Int × List UInt8 := (x.k, x.t)
theorem toksNil (m p : Nat) : toks m p [] = ([], none) := by cases m <;> rfl
theorem skip_joinT (x : Tok) (hx : Good x) (Y : List UInt8) : skipB false (x.t ++ 32 :: Y) = 0 := by
  obtain ⟨b, r, ht, hb, hr⟩ := hx.read
  rw [ht, List.cons_append, skipB, if_neg (by rw [hb]; simp), if_neg (hr Y).2]
theorem toks_join (E : List UInt8) (hE : skipB false E = E.length) : ∀ (ts : List Tok), (∀ x ∈ ts, Good x) → ∀ m p, (joinT ts ++ E).length ≤ m →
    (toks m p ((joinT ts ++ E).drop (skipB false (joinT ts ++ E)))).2 = none ∧ (toks m p ((joinT ts ++ E).drop (skipB false (joinT ts ++ E)))).1.map kt = ts.map kt
  | [], _, m, p, _ => by
    simp only [joinT, List.nil_append, hE, List.drop_length, toksNil, List.map_nil, and_self]
  | x :: ts, hg, m, p, hm => by
    have hx := hg x (by simp)
    obtain ⟨b, r, ht, hb, hr⟩ := hx.read
    have e0 : joinT (x :: ts) ++ E = x.t ++ 32 :: (joinT ts ++ E) := by simp [joinT]
    rw [e0] at hm ⊢
    rw [skip_joinT x hx, List.drop_zero]
    have ho := (hr (joinT ts ++ E)).1
    match m, hm with
    | 0, hm => simp at hm
    | m + 1, hm =>
      have hm' : (joinT ts ++ E).length ≤ m := by simp only [List.length_append, List.length_cons] at hm ⊢; omega
      have hdr : (x.t ++ 32 :: (joinT ts ++ E)).drop x.t.length = 32 :: (joinT ts ++ E) := by simp
      have hs : skipB false (32 :: (joinT ts ++ E)) = 1 + skipB false (joinT ts ++ E) := by rw [skipB, if_pos (by decide)]
      have hd2 : (32 :: (joinT ts ++ E)).drop (1 + skipB false (joinT ts ++ E)) = (joinT ts ++ E).drop (skipB false (joinT ts ++ E)) := by rw [Nat.add_comm, List.drop_succ_cons]
      have key : ∀ L, L = x.t ++ 32 :: (joinT ts ++ E) → toks (m + 1) p L = (⟨x.k, x.t, p⟩ :: (toks m (p + x.t.length + (1 + skipB false (joinT ts ++ E))) ((joinT ts ++ E).drop (skipB false (joinT ts ++ E)))).1, (toks m (p + x.t.length + (1 + skipB false (joinT ts ++ E))) ((joinT ts ++ E).drop (skipB false (joinT ts ++ E)))).2) := by
        intro L hL
        have hL' : L = b :: (r ++ 32 :: (joinT ts ++ E)) := by rw [hL, ht]; rfl
        have ho' : oneL (b :: (r ++ 32 :: (joinT ts ++ E))) = (x.k, x.t) := by rw [← hL', hL]; exact ho
        rw [hL', toks]
        dsimp only
        rw [ho']
        dsimp only
        rw [if_neg hx.ne, ← hL', hL, hdr, hs, hd2]
      rw [key _ rfl]
      obtain ⟨h1, h2⟩ := toks_join E hE ts (fun y hy => hg y (by simp [hy])) m (p + x.t.length + (1 + skipB false (joinT ts ++ E))) hm'
      exact ⟨h1, by simp only [List.map_cons, h2]; rfl⟩
theorem lexR_join (E : List UInt8) (hE : skipB false E = E.length) (pre : List UInt8) (ts : List Tok) (hg : ∀ x ∈ ts, Good x) (hn : ts.length ≤ 1500)
    (hp : ∀ Y, skipB false (pre ++ Y) = pre.length + skipB false Y) (hl : (pre ++ (joinT ts ++ E)).length ≤ 4000) : ∃ ts', lexR (pre ++ (joinT ts ++ E)) = (ts', 0, 0) ∧ ts'.map kt = ts.map kt := by
  unfold lexR
  rw [if_neg (by omega), hp]
  have e : (pre ++ (joinT ts ++ E)).drop (pre.length + skipB false (joinT ts ++ E)) = (joinT ts ++ E).drop (skipB false (joinT ts ++ E)) := by rw [List.drop_length_add_append]
  rw [e]
  obtain ⟨h1, h2⟩ := toks_join E hE ts hg (pre ++ (joinT ts ++ E)).length (pre.length + skipB false (joinT ts ++ E)) (by simp only [List.length_append]; omega)
  generalize toks (pre ++ (joinT ts ++ E)).length (pre.length + skipB false (joinT ts ++ E)) ((joinT ts ++ E).drop (skipB false (joinT ts ++ E))) = z at h1 h2
  obtain ⟨a, o⟩ := z
  dsimp only at h1 h2
  subst h1
  have hla : a.length = ts.length := by have := congrArg List.length h2; simpa using this
  dsimp only
  rw [if_neg (by omega)]
  exact ⟨a, rfl, h2⟩
theorem skip_true_all : ∀ R : List UInt8, (∀ b ∈ R, b ≠ 10) → skipB true R = R.length
  | [], _ => rfl
  | b :: R, h => by
    have hb : (b != 10) = true := by simpa using h b (by simp)
    rw [skipB, hb, skip_true_all R (fun c hc => h c (by simp [hc])), List.length_cons]; omega
def noteL (R : List UInt8) : List UInt8 := 47 :: 47 :: R.filter (· ≠ 10)
theorem skip_note (R : List UInt8) : skipB false (noteL R) = (noteL R).length := by
  unfold noteL
  have h : ∀ b ∈ (47 :: R.filter (· ≠ 10)), b ≠ 10 := by
    intro b hb
    rcases List.mem_cons.1 hb with rfl | hb
    · decide
    · simpa using (List.mem_filter.1 hb).2
  rw [skipB, if_neg (by decide), if_pos (by simp), skip_true_all _ h]
  simp only [List.length_cons]; omega
theorem skip_pre (R Y : List UInt8) : skipB false ((noteL R ++ [10, 9]) ++ Y) = (noteL R ++ [10, 9]).length + skipB false Y := by
  have e : (noteL R ++ [10, 9]) ++ Y = noteL R ++ 10 :: (9 :: Y) := by simp
  rw [e, skip_app, if_pos (skip_note R), skipB, if_pos (by decide)]
  simp only [List.length_append, List.length_cons, List.length_nil]; omega

theorem cmp7 {ts ts' : List Tok} (h : ts'.map kt = ts.map kt) (hn : ts.length ≤ 1500) (l12 l24 : List D) (z : Int) (hz : z < 2)
    (hnext : Ev (fun n => L7_9 n (ts.map tokD) l12 l24 (IntKind.i64.wrap (z + 1))) true) : Ev (fun n => L7_15 n (ts.map tokD) l12 l24 z (ts'.map tokD) (0 : Int)) true := by
  have hM : 4000 < maxLen := by decide
  have hlen : ts'.length = ts.length := by have := congrArg List.length h; simpa using this
  have loop : ∀ i, i ≤ ts.length → Ev (fun n => L7_15 n (ts.map tokD) l12 l24 z (ts'.map tokD) (i : Int)) true := by
    refine down _ ?_ (fun i hi ih => ?_)
    · refine .succ ?_
      simp only [L7_15, lenF, List.length_map, Int.lt_irrefl, if_false]
      refine .succ ?_
      simp only [L7_16, Bool.false_eq_true, if_false, letF]
      exact hnext
    · have hi' : i < ts'.length := by omega
      have h1 : (ts.map tokD)[i]? = some (tokD ts[i]) := by simp [hi]
      have h2 : (ts'.map tokD)[i]? = some (tokD ts'[i]) := by simp [hi']
      have hk : kt ts'[i] = kt ts[i] := by
        have := congrArg (fun l => l[i]?) h
        simpa [hi, hi'] using this
      obtain ⟨k1, k2⟩ := Prod.mk.inj hk
      refine .succ ?_
      simp only [L7_15, lenF, List.length_map, if_pos (ilt hi)]
      refine .succ ?_
      simp only [L7_16, if_true, getF_nat h1, getF_nat h2, tokD, ds_t46, k1, k2]
      refine .succ ?_
      simp only [L7_17, Bool.false_eq_true, if_false, letF, wrap_succ (N := ts.length) hi (by omega)]
      exact ih
  exact loop 0 (Nat.zero_le _)
theorem turn7 {ts : List Tok} (hg : ∀ x ∈ ts, Good x) (hn : ts.length ≤ 1500) (l12 l24 : List D) (z : Int) (hz : z < 2) (u : ByteArray) (pre E : List UInt8) (hu : bl u = pre ++ (joinT ts ++ E))
    (hE : skipB false E = E.length) (hp : ∀ Y, skipB false (pre ++ Y) = pre.length + skipB false Y) (hs : u.size ≤ maxLen)
    (hnext : Ev (fun n => L7_9 n (ts.map tokD) l12 l24 (IntKind.i64.wrap (z + 1))) true) : Ev (fun n => L7_12 n (ts.map tokD) l12 l24 z u) true := by
  refine .succ ?_
  simp only [L7_12, szF_eq]
  by_cases c : (4000 : Int) < ((bl u).length : Int)
  · simp only [if_pos c]
    exact .succ (by simp only [L7_13, if_true]; exact .ret)
  · simp only [if_neg c]
    refine .succ ?_
    simp only [L7_13, Bool.false_eq_true, if_false]
    obtain ⟨ts', e1, e2⟩ := lexR_join E hE pre ts hg hn hp (by rw [← hu]; omega)
    have h27 := ev27 hs
    rw [hu, e1] at h27
    have hlen : ts'.length = ts.length := by have := congrArg List.length e2; simpa using this
    refine Ev.bO3 h27 ?_
    simp only [if_true, lenF, List.length_map, hlen]
    refine .succ ?_
    simp only [L7_14, Bool.false_eq_true, if_false]
    exact cmp7 e2 hn l12 l24 z hz hnext
theorem lex_back_law {s t : ByteArray} (hs : s.size ≤ maxLen) (ht : t.size ≤ maxLen) : Ev (fun n => F7 n s t) true := by
  have hM : 40000 < maxLen := by decide
  have skip : Ev (fun n => L7_1 n s t true) true := .succ (by simp only [L7_1, if_true]; exact .ret)
  unfold F7
  refine Ev.bO1 ev28 ?_
  simp only [letB, Bool.not_true, Bool.false_eq_true, if_false, szF_eq]
  by_cases c1 : (6000 : Int) < ((bl s).length : Int)
  · simp only [if_pos c1]; exact skip
  by_cases c2 : (100 : Int) < ((bl t).length : Int)
  · simp only [if_neg c1, if_pos c2]; exact skip
  simp only [if_neg c1, if_neg c2]
  refine .succ ?_
  simp only [L7_1, Bool.false_eq_true, if_false]
  refine Ev.bO3 (ev27 hs) ?_
  by_cases r1 : (lexR (bl s)).2.2 = 0
  · have c4 : (bl s).length ≤ 4000 := by
      by_cases h : (bl s).length ≤ 4000
      · exact h
      · unfold lexR at r1; rw [if_pos (by omega)] at r1; exact absurd r1 (by show ¬ (3 : Int) = 0; decide)
    obtain ⟨ts, ha, ea, na⟩ := lexR_ok r1 c4
    simp only [if_pos r1]
    simp only [ea]
    refine .succ ?_
    simp only [L7_2, Bool.false_eq_true, if_false]
    obtain ⟨hg, hsum⟩ := toks_good (bl s).length (skipB false (bl s)) ((bl s).drop (skipB false (bl s)))
    rw [ha] at hg hsum
    dsimp only at hg hsum
    rw [List.length_drop] at hsum
    have hjl := joinT_len ts
    -- the rounds
    have last : Ev (fun n => L7_9 n (ts.map tokD) (bD (joinT ts)) (bD (noteL (bl t))) (2 : Int)) true := by
      refine .succ ?_
      simp only [L7_9, Int.lt_irrefl, if_false]
      exact .succ (by simp only [L7_10, Bool.false_eq_true, if_false]; exact .ret)
    have hnl : (noteL (bl t)).length ≤ 102 := by
      have := List.length_filter_le (· ≠ 10) (bl t)
      simp only [noteL, List.length_cons]; omega
    have second : Ev (fun n => L7_9 n (ts.map tokD) (bD (joinT ts)) (bD (noteL (bl t))) (1 : Int)) true := by
      refine .succ ?_
      simp only [L7_9, if_pos (show (1 : Int) < 2 by decide)]
      refine .succ ?_
      simp only [L7_10, if_true, strF_bD]
      refine .succ ?_
      have hk : bl k____4 = [10, 9] := rfl
      have q1 : ∀ k : ByteArray → Option Bool, catF (tx (noteL (bl t))) k____4 k = k (tx (noteL (bl t)) ++ k____4) := fun k => catF_le (by rw [bl_tx, hk]; simp only [List.length_cons, List.length_nil]; omega)
      have q2 : ∀ k : ByteArray → Option Bool, catF (tx (noteL (bl t)) ++ k____4) (tx (joinT ts)) k = k (tx (noteL (bl t)) ++ k____4 ++ tx (joinT ts)) := fun k => catF_le (by rw [bl_app, bl_tx, bl_tx, hk, List.length_append]; simp only [List.length_cons, List.length_nil]; omega)
      have q3 : ∀ k : ByteArray → Option Bool, catF (tx (noteL (bl t)) ++ k____4 ++ tx (joinT ts)) (tx (noteL (bl t))) k = k (tx (noteL (bl t)) ++ k____4 ++ tx (joinT ts) ++ tx (noteL (bl t))) := fun k => catF_le (by rw [bl_app, bl_app, bl_tx, bl_tx, hk, List.length_append, List.length_append]; simp only [List.length_cons, List.length_nil]; omega)
      simp only [L7_11, if_true, strF_bD, q1, q2, q3]
      have hbl : bl (tx (noteL (bl t)) ++ k____4 ++ tx (joinT ts) ++ tx (noteL (bl t))) = (noteL (bl t) ++ [10, 9]) ++ (joinT ts ++ noteL (bl t)) := by
        rw [bl_app, bl_app, bl_app, bl_tx, bl_tx, hk]; simp only [List.append_assoc]
      refine turn7 hg na _ _ 1 (by decide) _ (noteL (bl t) ++ [10, 9]) (noteL (bl t)) hbl (skip_note _) (skip_pre _) ?_ last
      rw [bl_len, hbl]
      simp only [List.length_append, List.length_cons, List.length_nil]
      omega
    have first : Ev (fun n => L7_9 n (ts.map tokD) (bD (joinT ts)) (bD (noteL (bl t))) (0 : Int)) true := by
      refine .succ ?_
      simp only [L7_9, if_pos (show (0 : Int) < 2 by decide)]
      refine .succ ?_
      simp only [L7_10, if_true, strF_bD, if_neg (show ¬ (0 : Int) = 1 by decide)]
      refine .succ ?_
      simp only [L7_11, Bool.false_eq_true, if_false]
      refine turn7 hg na _ _ 0 (by decide) _ [] [] (by rw [bl_tx]; simp) rfl (by intro Y; simp) ?_ second
      rw [bl_len, bl_tx]; omega
    -- the remark
    have remark : ∀ i, i ≤ (bl t).length → Ev (fun n => L7_5 n t (ts.map tokD) (bD (joinT ts)) (bD (noteL ((bl t).take i))) (i : Int)) true := by
      refine down _ ?_ (fun i hi ih => ?_)
      · refine .succ ?_
        simp only [L7_5, szF_eq, Int.lt_irrefl, if_false, List.take_length]
        exact .succ (by simp only [L7_6, Bool.false_eq_true, if_false]; exact first)
      · have hb : (bl t)[i]? = some (bl t)[i] := List.getElem?_eq_getElem hi
        have hw := wrap_succ (N := (bl t).length) hi (by omega)
        have hln : (noteL ((bl t).take i)).length ≤ 20000 := by
          have := List.length_filter_le (· ≠ 10) ((bl t).take i)
          have h2 := List.length_take_le i (bl t)
          simp only [noteL, List.length_cons]; omega
        have htk : (bl t).take (i + 1) = (bl t).take i ++ [(bl t)[i]] := by rw [List.take_add_one, hb]; rfl
        refine .succ ?_
        simp only [L7_5, szF_eq, if_pos (ilt hi)]
        refine .succ ?_
        simp only [L7_6, if_true, atF_get hb]
        by_cases e : (bl t)[i] = 10
        · have e' : (((bl t)[i]).toNat : Int) = 10 := by rw [e]; rfl
          simp only [if_pos e']
          refine .succ ?_
          simp only [L7_7, Bool.false_eq_true, if_false]
          refine .succ ?_
          simp only [L7_8, letF, hw]
          rw [htk] at ih
          have : noteL ((bl t).take i ++ [(bl t)[i]]) = noteL ((bl t).take i) := by
            unfold noteL
            rw [List.filter_append]
            have : [(bl t)[i]].filter (· ≠ 10) = [] := by simp [e]
            rw [this, List.append_nil]
          rw [this] at ih
          exact ih
        · have e' : ¬ (((bl t)[i]).toNat : Int) = 10 := by
            intro h
            apply e
            apply UInt8.toNat_inj.1
            show ((bl t)[i]).toNat = 10
            omega
          simp only [if_neg e']
          refine .succ ?_
          simp only [L7_7, if_true, atF_get hb, appF_bD hln]
          refine .succ ?_
          simp only [L7_8, letF, hw]
          rw [htk] at ih
          have : noteL ((bl t).take i ++ [(bl t)[i]]) = noteL ((bl t).take i) ++ [(bl t)[i]] := by
            unfold noteL
            rw [List.filter_append]
            have : [(bl t)[i]].filter (· ≠ 10) = [(bl t)[i]] := by simp [e]
            rw [this]; rfl
          rw [this] at ih
          exact ih
    -- the tokens' texts
    have texts : ∀ i, i ≤ ts.length → Ev (fun n => L7_3 n t (ts.map tokD) (bD (joinT (ts.take i))) (i : Int)) true := by
      refine down _ ?_ (fun i hi ih => ?_)
      · refine .succ ?_
        simp only [L7_3, lenF, List.length_map, Int.lt_irrefl, if_false, List.take_length]
        refine .succ ?_
        have hk : bl k____3 = [47, 47] := rfl
        have q : ∀ k : List D → Option Bool, appSF ([] : List D) k____3 k = k (bD [47, 47]) := fun k => (appSF_bD (a := []) (by rw [hk]; simp)).trans (by rw [hk]; rfl)
        simp only [L7_4, Bool.false_eq_true, if_false, q]
        have := remark 0 (Nat.zero_le _)
        simpa [noteL] using this
      · have h1 : (ts.map tokD)[i]? = some (tokD ts[i]) := by simp [hi]
        have hw := wrap_succ (N := ts.length) hi (by omega)
        have htk : ts.take (i + 1) = ts.take i ++ [ts[i]] := by rw [List.take_add_one, List.getElem?_eq_getElem hi]; rfl
        have hjl2 : (joinT (ts.take (i + 1))).length ≤ 10000 := by
          have h3 : joinT ts = joinT (ts.take (i + 1)) ++ joinT (ts.drop (i + 1)) := by
            have : ∀ a b : List Tok, joinT (a ++ b) = joinT a ++ joinT b := by
              intro a b
              induction a with
              | nil => rfl
              | cons x a ih => simp [joinT, ih]
            rw [← this, List.take_append_drop]
          have := congrArg List.length h3
          rw [List.length_append] at this
          omega
        rw [htk, joinT_app, List.length_append, List.length_append] at hjl2
        refine .succ ?_
        simp only [L7_3, lenF, List.length_map, if_pos (ilt hi)]
        refine .succ ?_
        have q1 : ∀ k : List D → Option Bool, appSF (bD (joinT (ts.take i))) (tx ts[i].t) k = k (bD (joinT (ts.take i) ++ ts[i].t)) := fun k => (appSF_bD (by rw [bl_tx]; simp at hjl2 ⊢; omega)).trans (by rw [bl_tx])
        have q2 : ∀ k : List D → Option Bool, appF 1 (bD (joinT (ts.take i) ++ ts[i].t)) [.int .u8 32] k = k (bD (joinT (ts.take i) ++ ts[i].t ++ [32])) := fun k => appF_bD (b := 32) (by rw [List.length_append]; simp at hjl2; omega)
        simp only [L7_4, if_true, getF_nat h1, tokD, ds_t46, q1, q2, letF, hw]
        rw [htk, joinT_app, ← List.append_assoc] at ih
        exact ih
    have := texts 0 (Nat.zero_le _)
    simpa [joinT, bD] using this
  · simp only [if_neg r1]
    exact .succ (by simp only [L7_2, if_true]; exact .ret)
theorem lex_back_trip : ∀ xs : List D, Shapes tab [9, 9] xs → Trip Tryd.prog inv 7 (xs.map V1.d) [] (.v (.d (.bool true))) [] [] := by
  intro xs h
  match xs, h with
  | [u, v], ⟨u1, u2, v1, v2, _⟩ =>
    obtain ⟨s, rfl, hs⟩ := rs9 ⟨u1, u2⟩
    obtain ⟨t, rfl, ht⟩ := rs9 ⟨v1, v2⟩
    obtain ⟨n, hn⟩ := (lex_back_law hs ht).run
    exact T7 n hn
end Go.Proofs.YtjmofeakajdbiaaDoor
end

namespace Go.Proofs.YtjmofeakajdbiaaDoor
open Go Go.ChangeShapes Go.WideShapes Go.ChangeAt Go.RowKit Go.AM

theorem lex_back_reads : ∀ t ∈ [9, 9], Tryd.prog.readableRec t = true ∧ t < Tryd.prog.types.size := by
  have h : ([9, 9].all fun t => Tryd.prog.readableRec t && decide (t < Tryd.prog.types.size)) = true := by kernel_rfl
  intro t ht
  have := List.all_eq_true.1 h t ht
  simpa using this

theorem lex_back_inv {W : World} (h : laidMet Tryd.prog Rows.lexBackRow.laid W) : inv.at W fun _ _ => False := by
  have e : (Rows.lexBackRow.laid.filter fun x => x.1 == "strings.asciiSpace") = [("strings.asciiSpace", Lib.tabData .u8 Lib.asciiSpaceTab)] := by kernel_rfl
  have h2 := laidMet.filter (fun x => x.1 == "strings.asciiSpace") h
  rw [e] at h2
  have ht : Lib.TabIs Tryd.prog W "strings.asciiSpace" .u8 Lib.asciiSpaceTab := by
    exact Lib.tabIs_of_head (g := 0) (t := 87) (e := 5) (n := 256) (by kernel_rfl) (by kernel_rfl) (by kernel_rfl) (by kernel_rfl) (by kernel_rfl) (by kernel_rfl) h2
  refine ⟨ht, fun b hb => ⟨?_, fun _ h => h⟩⟩
  have hb : Tryd.prog.globalNamed "strings.asciiSpace" = some b := hb
  unfold Lib.TabIs World.var? at ht
  rw [hb] at ht
  simp only [Option.bind_some] at ht
  cases hx : W.heap[b]? with
  | none => rw [hx] at ht; simp at ht
  | some o => exact (Array.getElem?_eq_some_iff.1 hx).1

set_option maxRecDepth 100000 in
theorem lex_back_lifted (os : Os) (started : os.Started) (H : Type) (enc : TypeId × Value → H) :
    ReturnsInHanded {} Tryd.checked os 7 .any (fun w args => (Rows.lexBackSpec.pre enc Tryd.prog Tryd.f7 Rows.lexBackRow.domain false w args ∧ laidMetH Tryd.prog Rows.lexBackRow.laid w) ∧ sizedMet enc Tryd.prog Tryd.f7 (OpenSpec.ofChange Rows.lexBackSpec) false w args)
      (Rows.lexBackSpec.post enc Tryd.prog Tryd.f7 false true false false) := by
  refine returnsInHanded_of_change_and (C := Tryd.checked) (X := fun w _ => laidMetH Tryd.prog Rows.lexBackRow.laid w) (fun _ _ _ hh h => h.of_heap hh) (by kernel_rfl) started (by kernel_rfl) Tryd.func7
    (ChangeSpec.witness_shaped (enc := enc) (C := Tryd.checked) (os := os) (X := fun w _ => laidMetH Tryd.prog Rows.lexBackRow.laid w) false (World.laidAll Tryd.prog os Rows.lexBackRow.laid) #[.string ⟨#[]⟩, .string ⟨#[]⟩] 8 (World.laidAll_os _ _ _)
      (World.shaped_of_ZipB (by kernel_rfl) (by kernel_rfl)) (by kernel_rfl) (by kernel_rfl) (by kernel_rfl)
      (by rw [MakeChecks.laidMetH_plain _ _ _ (by kernel_rfl)]; exact laidMet_laidAll _ (by kernel_rfl) (by kernel_rfl))) ?_
  intro W base args ds gs before hval0 hW _ _ hL _
  rw [MakeChecks.laidMetH_plain _ _ _ (by kernel_rfl)] at hL
  refine law_calls (ti := tab) (T := [9]) tab_ok (by kernel_rfl) (ts := [9, 9]) (bt := 4) rfl rfl rfl (by kernel_rfl) (by decide) ?_ (by kernel_rfl) lex_back_reads lex_back_trip (lex_back_inv hL) hval0 hW
  intro ds h
  match ds, h with
  | [_, _], _ => exact ⟨rfl, rfl, rfl⟩
theorem lex_back_row : Rows.LexBackSaid :=
  OpenClaim.holds_of_wide 7 Tryd.f7 rfl rfl rfl rfl rfl rfl rfl ⟨rfl, rfl, rfl, rfl, rfl⟩ rfl rfl rfl rfl rfl (by kernel_rfl) Tryd.func7 (by kernel_rfl)
    (of_decide_eq_true (by kernel_rfl)) (by unfold Func.isWrapper; first | (rw [if_pos (by decide +kernel)]; kernel_rfl) | (rw [if_neg (by decide +kernel)]; exact ⟨rfl, rfl⟩))
    (fun os started H enc _ => lex_back_lifted os started H enc)
theorem lex_back : Rows.LexBackCardSaid :=
  Claim7.holds_tied_plain_at .later [] [.listed, .data] true Rows.lexBackCard.stood.harness false lex_back_row (fun _ h => by cases h) (by kernel_rfl) (fun _ h => by cases h) lexBack_row_tie rfl ⟨rfl, rfl⟩ (by kernel_rfl) rfl
    (fun f fn hf hfn => by
      obtain rfl : f = 7 := Option.some.inj ((show Tryd.prog.funcNamed "weftway/weftwaylaw02.LexBack" = some 7 by kernel_rfl).symm.trans hf) |>.symm
      obtain rfl : fn = Tryd.f7 := (Option.some.inj (Tryd.func7.symm.trans hfn)).symm
      exact ⟨by kernel_rfl, fun j t ht => by
        have hm : t ∈ [9, 9] := by
          have hp : Tryd.f7.params.toList = [9, 9] := rfl
          rw [← hp]; simpa using Array.mem_of_getElem? ht
        have hall : ([9, 9].all fun u => !Tryd.prog.wantsStandIn u) = true := by kernel_rfl
        exact (show Tryd.prog.wantsStandIn t = false by simpa using List.all_eq_true.1 hall t hm)⟩)
    (by kernel_rfl)
end Go.Proofs.YtjmofeakajdbiaaDoor
