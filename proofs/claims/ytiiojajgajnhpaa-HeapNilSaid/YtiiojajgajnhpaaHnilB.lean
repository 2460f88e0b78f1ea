/- HeapNil: a heap that nobody made is none. No condition. (Part 2 of 4: AmHF, AmHG, AmI, AmJ, AmK, AmL, AmM, AmN, AmKB, AmO, AmQ, AmS.) -/
import Derived.LoopN
import Derived.Laws.CopyRow
import Derived.DataReads
import Derived.Test.YtiiojajgajnhpaaHnilA
set_option linter.unusedVariables false
set_option linter.unusedSimpArgs false
/- The abstract machine, part HF: append onto a growable list, literal lists: the operations. No condition. -/
namespace Go.AM
open Go Go.RowKit

section
variable {C : Cx} {ti : Types} {o : Oper} {fresh : Nat} {s : Slots} {h : Heap} {k : Out → Prop}

theorem ok_tokAppend (hti : TIok C.P ti) {t e : TypeId} {q j : TI} (hq : ti t = some q) (hd : q.desc = .slice e) (hj : ti e = some j) (hsz : 0 < j.size) (x y : Operand) (ho : o.op = .call { callee := .builtin .append, args := #[x, y], argTypes := #[t, t] })
    {i : Nat} {rows ys : List D} (hx0 : opd ti s t x = .v (.c (.lst (.loc i) (rowD j.desc) j.size rows))) (hi : h (.loc i) = some (.tok rows.length j.size e))
    (hy : ∀ {w : World} {Z : Zone} {g : Ghost} {h : Heap} {v : Value}, RelAV w Z g h (opd ti s t y) v → RelD w Z (.list (rowD j.desc) j.size ys) v)
    (hmax : rows.length + ys.length ≤ maxLen) (hbytes : (rows.length + ys.length) * j.bytes ≤ 140737488355328) :
    OKop C o fresh s h ⟨.v (.c (.lst (.loc i) (rowD j.desc) j.size (rows ++ ys))), [.loc i], [(.loc i, .tok (rows ++ ys).length j.size e)]⟩ := by
  rintro F σs σh a w Q ⟨g, R⟩ hs hrd hF hdst
  have hσi : σh (.loc i) = some (.tok rows.length j.size e) := (hrd _ (by simp)).trans hi
  have hx := opd_rel ti t x R (s := s) (fun k hk => hs k (by subst hk; simp [ho, Op.operands, Call.operands]))
  rw [hx0] at hx
  obtain ⟨hrx, hsl, htok⟩ := hx
  obtain ⟨_, _, hv⟩ := htok _ _ _ hσi
  have hv := hv rfl
  have hry := hy (opd_rel ti t y R (s := s) (fun k hk => hs k (by subst hk; simp [ho, Op.operands, Call.operands])))
  have ht : C.P.underlying t = some (.slice e) := by rw [(hti t q hq).1, hd]
  obtain ⟨ii, i1, i2, i3, i4, i5⟩ := elem_info hti hj
  obtain ⟨_, xs, hown⟩ := R.heap.objs _ _ hσi
  have hl : (rows ++ ys).length = rows.length + ys.length := List.length_append
  -- the end: a run, and what it leaves
  have fin : ∀ v' w', (Builtin.append_ #[t, t] o.type #[a.eval x, a.eval y]).run C.P w = .ok v' w' →
      (RelS C F σs (updO σh (.loc i) (.tok (rows ++ ys).length j.size e)) (updG g (.loc i) v') a w' ∧
      RelC w' (zor (zone (updG g (.loc i) v') (updO σh (.loc i) (.tok (rows ++ ys).length j.size e))) C.X) (updG g (.loc i) v') (updO σh (.loc i) (.tok (rows ++ ys).length j.size e)) (.lst (.loc i) (rowD j.desc) j.size (rows ++ ys)) v') →
      o.wp C.P a w (fun a' w' => Rel C (fun n => F n ∧ ¬ (fresh ≤ n ∧ n < fresh + 8)) (updS σs o.dst (.v (.c (.lst (.loc i) (rowD j.desc) j.size (rows ++ ys))))) (updW σh [(.loc i, .tok (rows ++ ys).length j.size e)]) a' w') Q := by
    rintro v' w' hrun ⟨R', hlst⟩
    unfold Oper.wp
    rw [run_appendOp (r := .ok v' w') ho hrun]
    exact ⟨_, (R'.put hdst (v := .v (.c (.lst (.loc i) (rowD j.desc) j.size (rows ++ ys)))) hlst).free_mono (fun n hn => hn.1)⟩
  generalize hyv : a.eval y = vy at hry fin
  by_cases hys : ys = []
  · subst hys
    cases hry with
    | list _ _ _ B c b o' U hcap hmx hfit ha hc hr =>
      obtain ⟨hlx, h2⟩ := hown
      have hrun : (Builtin.append_ #[t, t] o.type #[a.eval x, .slice B 0 c]).run C.P w = .ok (g (.loc i)) w := by
        rw [hv]
        rcases h2 with ⟨h3, h4⟩ | ⟨qb, cap, cur, h3, _, h5, h6, _⟩
        · rw [h3]; exact run_append_none (P := C.P) ht i1 (Nat.le_refl _)
        · rw [h3]; exact run_append_none (P := C.P) ht i1 h6
      refine fin (g (.loc i)) w hrun ?_
      have e1 : updO σh (.loc i) (.tok (rows ++ []).length j.size e) = σh := updO_same (by simpa using hσi)
      rw [e1, updG_same]
      refine ⟨R, ?_⟩
      rw [List.append_nil, ← hv]
      exact ⟨hrx, hsl, fun n sz' e' hn => htok n sz' e' hn⟩
  · cases vy with
    | slice B m c =>
      obtain ⟨hm, _, _, hB, hfy, news, n1, n2, n3, n4⟩ := hry.cellsRow hsz
      obtain ⟨bb, oo, rfl⟩ := hB hys
      subst hm
      have hmpos : 0 < ys.length := by
        have : ys.length ≠ 0 := fun h => hys (List.eq_nil_of_length_eq_zero h)
        omega
      have hnews : ∀ (j' : Nat) u, news[j']? = some u → w.cell? ((⟨bb, oo, none⟩ : Addr).add j') = some u := fun j' u hu => by
        have := (n3 bb oo rfl j' u hu).1
        simpa [addr_add] using this
      generalize hgi : g (.loc i) = gi at hown hv
      rw [hv] at hrx fin
      obtain ⟨hlx, h2⟩ := hown
      rcases h2 with ⟨rfl, h4⟩ | ⟨qb, cap, cur, rfl, _, h5, h6, h7, h8, h9⟩
      · -- the list is nil
        have hr0 : rows = [] := List.eq_nil_of_length_eq_zero h4
        subst hr0
        obtain ⟨v', w', hrun, r1, r2, _⟩ := run_append_own (P := C.P) w w.heap.size t o.type e ii j.zero j.size j.bytes ht i1 i4 i2 i3 i5 hsz (.slice none 0 0) 0 [] (World.ownsRow_nil w _ _ _) ⟨bb, oo, none⟩ ys.length c news n1 hnews n2 (by simpa using hmax) (by simpa using hbytes) (Nat.le_refl _)
        obtain ⟨g1, g2, g3, g4, g5⟩ := r2
        refine fin v' w' (by simpa using hrun) (R.tokNext hsz hσi (zs := news) ⟨g1, g2, g3, g4⟩ (fun b hb _ => g5 b hb (by simp [Value.ownBlock])) (fun b o u hu _ => ?_) ?_ (fun b hb => .inr ?_) (by simp; omega) (by simpa using hfy) (by simpa using n4))
        · exact (World.cell?_of_block (a := ⟨b, o, none⟩) (g5 b (World.block_lt_of_cell? w ⟨b, o, none⟩ hu) (by simp [Value.ownBlock]))).trans hu
        · obtain ⟨p1, p2⟩ := r1
          refine ⟨by simpa using p1, ?_⟩
          rcases p2 with p2 | ⟨q', c', cu', p3, _, p4⟩
          · exact .inl (by simpa using p2)
          · exact .inr ⟨q', c', cu', by simpa using p3, Nat.zero_le _, by simpa using p4⟩
        · rcases r1.2 with ⟨p3, _⟩ | ⟨q', c', cu', p3, p4, _⟩
          · rw [p3] at hb; simp [blk] at hb
          · rw [p3] at hb; simp [blk] at hb; omega
      · -- a row
        obtain ⟨_, _, _, hA, hfr, olds, o1, o2, o3, o4⟩ := hrx.cellsRow hsz
        have hxs : ∀ (k : Nat) u, olds[k]? = some u → xs[k]? = some u := by
          intro k u hu
          have hc := (o3 qb 0 rfl k u hu).1
          have hk := (List.getElem?_eq_some_iff.1 hu).1
          rw [o1] at hk
          have : cur[k]? = some u := by simpa [World.cell?, h5] using hc
          rw [← h9, List.getElem?_take, if_pos hk]
          simpa using this
        have o4' : ∀ (i : Nat) x (q : Nat) c, rows[i]? = some x → x.cells[q]? = some c → ∃ u, xs[i * j.size + q]? = some u ∧ RelD w (zor (zone g σh) C.X) c u := by
          intro i x q c hx hq
          obtain ⟨u, hu, hr⟩ := o4 i x q c hx hq
          exact ⟨u, hxs _ u hu, hr⟩
        have hrow := row_append hlx hfy hfr o4' n4
        have hfit := fits_append hfr hfy
        have hownw : w.ownsRow 0 e j.size (.slice (some ⟨qb, 0, none⟩) rows.length cap) rows.length xs := ⟨hlx, .inr ⟨qb, cap, cur, rfl, Nat.zero_le _, h5, h6, h7, h8, h9⟩⟩
        by_cases hroom : rows.length + ys.length ≤ cap
        · -- in place
          obtain ⟨v', w', hrun, r1, r2, _⟩ := run_append_own (P := C.P) w 0 t o.type e ii j.zero j.size j.bytes ht i1 i4 i2 i3 i5 hsz _ rows.length xs hownw ⟨bb, oo, none⟩ ys.length c news n1 hnews n2 hmax hbytes (Nat.zero_le _)
          have hrun2 := run_append_room_cells (P := C.P) w t o.type e ii ht i1 qb 0 rows.length cap ⟨bb, oo, none⟩ ys.length c news (by rw [i2]; exact n1) hnews n2 hroom
            (fun k hk => by
              have hlt : rows.length * ii.size + k < cur.size := by
                rw [h8, i2]
                rw [n1] at hk
                have := Nat.mul_le_mul_right j.size hroom
                rw [Nat.add_mul] at this
                omega
              simp [World.cell?, h5, hlt])
            (fun k hk => by simp [World.frozen?, h5])
          rw [hrun] at hrun2
          obtain ⟨rfl, rfl⟩ : v' = .slice (some ⟨qb, 0, none⟩) (rows.length + ys.length) cap ∧ w' = w.setCells qb (0 + rows.length * ii.size) news := by
            injection hrun2 with e1 e2
            exact ⟨e1, e2⟩
          obtain ⟨g1, g2, g3, g4, g5⟩ := r2
          refine fin _ _ hrun (R.tokNext hsz hσi (zs := xs ++ news) ⟨g1, g2, g3, g4⟩ (fun b hb hne => g5 b hb (by rw [hgi] at hne; simpa [Value.ownBlock, blk, eq_comm] using hne)) (fun b o' u hu hz => ?_) (by rw [hl]; exact r1) (fun b hb => .inl ?_) (by omega) hfit hrow)
          · have := World.cell?_setCells_out qb news (0 + rows.length * ii.size) w ⟨b, o', none⟩ (fun hb _ => .inl ?_)
            · rw [this]; exact hu
            · rw [hgi] at hz
              simp only at hb
              subst hb
              rw [i2, Nat.zero_add]
              by_cases hlo : o' < rows.length * j.size
              · exact hlo
              · exact absurd ⟨rfl, by omega⟩ hz
          · rw [hgi]; exact hb
        · -- a new row
          obtain ⟨v', w', hrun, r1, r2⟩ := run_append_arg_grows (P := C.P) w t o.type e ii j.zero j.size j.bytes ht i1 i4 i2 i3 i5 hsz ⟨qb, 0, none⟩ rows.length cap xs hlx
            (fun k u hu => by
              have hk := (List.getElem?_eq_some_iff.1 hu).1
              rw [← h9, List.getElem?_take] at hu
              split at hu
              · have hu : cur[k]? = some u := by simpa using hu
                simp [addr_add, World.cell?, h5, hu]
              · cases hu)
            ⟨bb, oo, none⟩ ys.length c news n1 hnews (by omega) hmax hbytes
          obtain ⟨g1, g2, g3, g4, g5⟩ := r2
          refine fin v' w' hrun (R.tokNext hsz hσi (zs := xs ++ news) ⟨g1, g2, g3, g4⟩ (fun b hb _ => g5 b hb (by simp)) (fun b o' u hu _ => ?_) ?_ (fun b hb => .inr ?_) (by omega) hfit hrow)
          · exact (World.cell?_of_block (a := ⟨b, o', none⟩) (g5 b (World.block_lt_of_cell? w ⟨b, o', none⟩ hu) (by simp))).trans hu
          · obtain ⟨p1, p2⟩ := r1
            rw [hl]
            refine ⟨p1, ?_⟩
            rcases p2 with p2 | ⟨q', c', cu', p3, _, p4⟩
            · exact .inl p2
            · exact .inr ⟨q', c', cu', p3, Nat.zero_le _, p4⟩
          · rcases r1.2 with ⟨p3, _⟩ | ⟨q', c', cu', p3, p4, _⟩
            · rw [p3] at hb; simp [blk] at hb
            · rw [p3] at hb; simp [blk] at hb; omega
    | _ => cases hry

theorem ok_append (hti : TIok C.P ti) (t : TypeId) (x y : Operand) (ho : o.op = .call { callee := .builtin .append, args := #[x, y], argTypes := #[t, t] }) (hk : outAppend ti t (opd ti s t x) (opd ti s t y) fresh h k) : ∃ out, k out ∧ OKop C o fresh s h out := by
  unfold outAppend at hk
  obtain ⟨q, hq, hk⟩ := withT_iff.1 hk
  split at hk
  · rename_i e hd
    obtain ⟨j, hj, hk⟩ := withT_iff.1 hk
    replace hk := req_iff.1 hk
    obtain ⟨hsz, hk⟩ := hk
    have hsz : 0 < j.size := by simp [Nat.blt] at hsz; omega
    replace hk := withL_iff hk
    obtain ⟨ag, sz, ys, hy, hk⟩ := hk
    replace hk := req_iff.1 hk
    obtain ⟨hag, hk⟩ := hk
    replace hk := req_iff.1 hk
    obtain ⟨hs2, hk⟩ := hk
    have hag : rowD j.desc = ag := by simpa using hag
    have hs2 : sz = j.size := Nat.eq_of_beq_eq_true hs2
    subst hag
    subst hs2
    split at hk
    · rename_i ag' sz' hop
      refine ok_growNew hti hq hd hj hsz x y ho (fun r => ?_) hy hk
      rw [hop] at r
      rw [show _ = _ from r]
      exact ⟨⟨none, rfl, fun _ => ⟨rfl, rfl⟩⟩, relD_nil _ _⟩
    · rename_i ag' sz' rows hop
      replace hk := req_iff.1 hk
      obtain ⟨ha', hk⟩ := hk
      replace hk := req_iff.1 hk
      obtain ⟨hs', hk⟩ := hk
      have ha' : rowD j.desc = ag' := by simpa using ha'
      have hs' : sz' = j.size := Nat.eq_of_beq_eq_true hs'
      subst ha'
      subst hs'
      refine ok_growNew hti hq hd hj hsz x y ho (fun r => ?_) hy hk
      rw [hop] at r
      obtain ⟨r1, A, r2⟩ := r
      exact ⟨⟨A, r2, fun h => by cases h⟩, r1⟩
    · rename_i i ag' sz' rows hop
      replace hk := req_iff.1 hk
      obtain ⟨ha', hk⟩ := hk
      replace hk := req_iff.1 hk
      obtain ⟨hs', hk⟩ := hk
      have ha' : rowD j.desc = ag' := by simpa using ha'
      have hs' : sz' = j.size := Nat.eq_of_beq_eq_true hs'
      subst ha'
      subst hs'
      split at hk
      · rename_i n sz2 e2 hi
        replace hk := req_iff.1 hk
        obtain ⟨h1, hk⟩ := hk
        replace hk := req_iff.1 hk
        obtain ⟨h2, rfl, ⟨h3, h4⟩, out, rfl, hk⟩ := hk
        have h1 := Nat.eq_of_beq_eq_true h1
        have h2 := Nat.eq_of_beq_eq_true h2
        subst h1
        subst h2
        exact ⟨_, hk, ok_tokAppend hti hq hd hj hsz x y ho hop hi hy h3 h4⟩
      · exact hk.elim
    · exact hk.elim
  · exact hk.elim
end
end Go.AM

/- The abstract machine, part HG: literal lists. No condition. -/
namespace Go.AM
open Go Go.RowKit

/-- The cells of rows, one behind the other. -/
def flatD (ds : List D) : List CV := (ds.flatMap D.cells).map CV.d

theorem flatD_len {ds : List D} {sz : Nat} (h : ∀ d ∈ ds, d.cells.length = sz) : (flatD ds).length = ds.length * sz := by
  unfold flatD
  rw [List.length_map]
  induction ds with
  | nil => simp
  | cons d ds ih => simp [h d (by simp), ih (fun x hx => h x (by simp [hx])), Nat.add_mul]; omega

theorem flatD_get {ds : List D} {sz : Nat} (h : ∀ d ∈ ds, d.cells.length = sz) : ∀ (i : Nat) x (j : Nat) c, ds[i]? = some x → x.cells[j]? = some c → (flatD ds)[i * sz + j]? = some (.d c) := by
  induction ds with
  | nil => intro i x j c hx; simp at hx
  | cons d ds ih =>
    intro i x j c hx hj
    have hd := h d (by simp)
    match i with
    | 0 =>
      simp at hx
      subst hx
      have hlt := (List.getElem?_eq_some_iff.1 hj).1
      simp only [flatD, List.flatMap_cons, List.map_append, Nat.zero_mul, Nat.zero_add]
      rw [List.getElem?_append_left (by simpa using hlt)]
      simp [hj]
    | i + 1 =>
      simp at hx
      simp only [flatD, List.flatMap_cons, List.map_append]
      rw [List.getElem?_append_right (by simp [hd, Nat.add_mul]; omega)]
      have := ih (fun x hx => h x (by simp [hx])) i x j c hx hj
      rw [← this]
      simp only [flatD, List.length_map, hd]
      congr 1
      rw [Nat.add_mul]
      omega

theorem rowsP_ok {ti : Types} {s : Slots} {e : TypeId} {ag : Bool} {sz : Nat} {k : List D → Prop} :
    ∀ (L : List (Nat × Operand)) (n : Nat) (k : List D → Prop), rowsP ti s e ag sz n L k → ∃ ds, k ds ∧ ds.length = L.length ∧ (∀ d ∈ ds, d.isAgg = ag ∧ d.cells.length = sz) ∧
      ∀ (w : World) (Z : Zone) (g : Ghost) (h : Heap) (ev : Operand → Value), (∀ t i p, (i, p) ∈ L → RelAV w Z g h (opd ti s t p) (ev p)) →
        (∀ (i : Nat) d, ds[i]? = some d → ∃ v, RelD w Z d v) ∧
        ∀ (cs : List CV) (vs : Array Value), RelCs w Z g h cs vs → (n + L.length) * sz ≤ cs.length →
        ∃ vs', Instr.fill (fun i => some (i * sz, sz)) vs (L.map fun x => (x.1, ev x.2)) = some vs' ∧ RelCs w Z g h (cs.take (n * sz) ++ flatD ds ++ cs.drop ((n + L.length) * sz)) vs'
  | [], n, k, hk => ⟨[], hk, rfl, by simp, fun w Z g h ev _ => ⟨by simp, fun cs vs hc _ => ⟨vs, rfl, by simpa [flatD] using hc⟩⟩⟩
  | (i, x) :: L, n, k, hk => by
    unfold rowsP at hk
    replace hk := req_iff.1 hk
    obtain ⟨hin, hk⟩ := hk
    have hin := Nat.eq_of_beq_eq_true hin
    subst hin
    split at hk
    · rename_i y hy
      split at hk
      · rename_i d hd
        replace hk := req_iff.1 hk
        obtain ⟨hag, hk⟩ := hk
        replace hk := req_iff.1 hk
        obtain ⟨hsz, hk⟩ := hk
        have hag : d.isAgg = ag := by simpa using hag
        have hsz := Nat.eq_of_beq_eq_true hsz
        obtain ⟨ds, k1, k2, k3, k4⟩ := rowsP_ok (k := k) L (i + 1) _ hk
        refine ⟨d :: ds, k1, by simp [k2], ?_, fun w Z g h ev hev => ?_⟩
        · intro x hx
          rcases List.mem_cons.1 hx with rfl | hx
          · exact ⟨hag, hsz⟩
          · exact k3 x hx
        · have hr := hev e i x (by simp)
          rw [hy] at hr
          have hr := RelV1.norm hr
          rw [hd] at hr
          obtain ⟨k5, k6⟩ := k4 w Z g h ev (fun t i' p hp => hev t i' p (List.mem_cons_of_mem _ hp))
          refine ⟨fun q d' hq => ?_, fun cs vs hc hb => ?_⟩
          · match q with
            | 0 => simp at hq; subst hq; exact ⟨_, hr⟩
            | q + 1 => exact k5 q d' (by simpa using hq)
          · obtain ⟨c1, c2⟩ := RelV1.cells hr
            have hcl : (V1.cells (.d d)).length = sz := by simpa [V1.cells] using hsz
            have hb' : i * sz + sz ≤ cs.length := by
              simp [Nat.add_mul] at hb
              omega
            have step := fill_cs (off := i * sz) hc ⟨c1, c2⟩ (by rw [hcl]; exact hb')
            rw [hcl] at step
            obtain ⟨vs', h1, h2⟩ := k6 _ _ step (by
              simp [hsz, V1.cells, Nat.add_mul] at hb ⊢
              omega)
            refine ⟨vs', ?_, ?_⟩
            · simp only [List.map_cons, Instr.fill]
              rw [if_neg]
              · exact h1
              · rw [c1, hcl, hc.1]
                simp
                omega
            · have e1 : (cs.take (i * sz) ++ V1.cells (.d d) ++ cs.drop (i * sz + sz)).take ((i + 1) * sz) = cs.take (i * sz) ++ V1.cells (.d d) := by
                rw [List.take_append_of_le_length (by simp [hsz, V1.cells, Nat.add_mul]; omega), List.take_of_length_le (by simp [hsz, V1.cells, Nat.add_mul]; omega)]
              have e2 : (cs.take (i * sz) ++ V1.cells (.d d) ++ cs.drop (i * sz + sz)).drop ((i + 1 + L.length) * sz) = cs.drop ((i + (L.length + 1)) * sz) := by
                rw [List.drop_append, List.drop_of_length_le (by simp [hsz, V1.cells, Nat.add_mul]; omega), List.nil_append, List.drop_drop]
                congr 1
                simp [hsz, V1.cells, Nat.add_mul]
                omega
              rw [e1, e2] at h2
              simpa [flatD, V1.cells, List.append_assoc] using h2
      · exact hk.elim
    · exact hk.elim

section
variable {C : Cx} {ti : Types} {o : Oper} {fresh : Nat} {s : Slots} {h : Heap} {k : Out → Prop}

theorem grownBy_alloc' (w : World) (ob : Obj) : w.grownBy (w.alloc ob) none := World.grownBy_alloc w ob none

theorem ok_buildSlice (hti : TIok C.P ti) (t : TypeId) (len : Nat) (parts : Array (Nat × Operand)) (ho : o.op = .buildSlice t len parts) (hk : outBuildSlice ti s t len parts.toList k) : ∃ out, k out ∧ OKop C o fresh s h out := by
  unfold outBuildSlice at hk
  replace hk := withT_iff.1 hk
  obtain ⟨q, hq, hk⟩ := hk
  split at hk
  · rename_i e hd
    replace hk := withT_iff.1 hk
    obtain ⟨j, hj, hk⟩ := hk
    replace hk := req_iff.1 hk
    obtain ⟨hle, hk⟩ := hk
    replace hk := req_iff.1 hk
    obtain ⟨hlen, hk⟩ := hk
    replace hk := req_iff.1 hk
    obtain ⟨hsz, hk⟩ := hk
    have hle := Nat.le_of_ble_eq_true hle
    have hlen := Nat.eq_of_beq_eq_true hlen
    have hsz : 0 < j.size := by simp [Nat.blt] at hsz; omega
    obtain ⟨ds, hk, hdl, hds, hfill⟩ := rowsP_ok (k := fun ds => k ⟨.v (.c (.tl (rowD j.desc) j.size ds)), [], []⟩) _ _ _ hk
    refine ⟨_, hk, ?_⟩
    rintro F σs σh a w Q ⟨g, R⟩ hs hrd hF hdst
    have hev : ∀ t i p, (i, p) ∈ parts.toList → RelAV w (zor (zone g σh) C.X) g σh (opd ti s t p) (a.eval p) := fun t i p hp =>
      opd_rel ti t p R (s := s) (fun k hk => hs k (by
        subst hk
        simp only [ho, Op.operands, List.mem_map]
        exact ⟨(i, .tmp k), hp, rfl⟩))
    obtain ⟨f1, f2⟩ := hfill w _ g σh a.eval hev
    obtain ⟨ii, i1, i2, i3, i4, i5⟩ := elem_info hti hj
    obtain ⟨_, ii', j1, j2, _, _, j5, j6, j7⟩ := hti e j hj
    -- the row of zero cells
    let zs : Array Value := (Array.range (len * j.size)).map (fun i => j.zero.cells[i % j.zero.cells.size]!)
    have hz0 : RelCs w (zor (zone g σh) C.X) g σh (List.replicate (len * j.size) CV.un) zs := by
      refine ⟨by simp [zs], fun i c u hc hu => ?_⟩
      obtain rfl := List.eq_of_mem_replicate (List.mem_of_getElem? hc)
      have hlt : i < len * j.size := by
        have := (Array.getElem?_eq_some_iff.1 hu).1
        simpa [zs] using this
      have hu' : u = j.zero.cells[i % j.zero.cells.size]! := by
        simp [zs, hlt] at hu
        exact hu.symm
      have hm : i % j.zero.cells.size < j.zero.cells.size := Nat.mod_lt _ (by rw [j5]; exact hsz)
      have hzc : ∃ c, j.zc[i % j.zero.cells.size]? = some c := ⟨_, List.getElem?_eq_getElem (by rw [j6, ← j5]; exact hm)⟩
      obtain ⟨c, hc⟩ := hzc
      have := j7 _ c _ hc (show j.zero.cells[i % j.zero.cells.size]? = some j.zero.cells[i % j.zero.cells.size] from by simp [hm])
      have := RelC.oneCell (zrel_rel (w := w) (Z := fun _ _ => False) (g := g) (h := σh) this)
      subst hu'
      show _ = true
      simpa [hm] using this
    obtain ⟨vs', h1, h2⟩ := f2 _ _ hz0 (by simp [hlen])
    have hflat : (List.replicate (len * j.size) CV.un).take (0 * j.size) ++ flatD ds ++ (List.replicate (len * j.size) CV.un).drop ((0 + parts.toList.length) * j.size) = flatD ds := by
      simp [hlen]
    rw [hflat] at h2
    have hfl := flatD_len (ds := ds) (sz := j.size) (fun d hd => (hds d hd).2)
    have hn : ds.length = len := by rw [hdl, hlen]
    -- the run
    have e1 := tund hti hq w
    rw [hd] at e1
    have e2 := tsize hti hj w
    have e3 : (zeroValue e).run C.P w = .ok j.zero w := by simp [zeroValue, typeInfo, i1, i4]
    have hrun : (execOp a.eval o).run C.P w = .ok (.value (.slice (some ⟨w.heap.size, 0, none⟩) len len)) (w.alloc (.cells vs' e)) := by
      have hnot : ¬ (len * j.size > 2 ^ 24) := by omega
      have r0 : ∀ f : Nat → Value, Array.map f (Array.range 0) = #[] := fun f => by apply Array.ext'; simp
      have h1' : Instr.fill (fun i => some (i * j.size, j.size)) (Array.map (fun i => j.zero.cells[i % j.zero.cells.size]!) (Array.range (len * j.size))) (List.map (fun x => (x.1, a.eval x.2)) parts.toList) = some vs' := h1
      by_cases h0 : len * j.size = 0
      · rw [h0, r0] at h1'
        simp [execOp, ho, Instr.buildSlice, e1, e2, h0, r0, h1', newRow]
      · simp [execOp, ho, Instr.buildSlice, e1, e2, hnot, h0, e3, h1', newRow]
    unfold Oper.wp
    rw [hrun]
    have hown : (w.alloc (.cells vs' e)).ownsRow w.heap.size e j.size (.slice (some ⟨w.heap.size, 0, none⟩) len len) ds.length vs'.toList := by
      refine ⟨by rw [Array.length_toList, h2.1, hfl], .inr ⟨w.heap.size, len, vs', by rw [hn], Nat.le_refl _, heap_alloc_new w _, by omega, ?_, by rw [h2.1, hfl, hn], ?_⟩⟩
      · have : len ≤ len * j.size := Nat.le_mul_of_pos_right _ hsz
        simp only [maxLen]; omega
      · rw [List.take_of_length_le]
        rw [Array.length_toList, h2.1, hfl]
        exact Nat.le_refl _
    have hrel : ∀ (i : Nat) x (q : Nat) c, ds[i]? = some x → x.cells[q]? = some c → ∃ u, vs'.toList[i * j.size + q]? = some u ∧ RelD w (zor (zone g σh) C.X) c u := by
      intro i x q c hx hc
      have hg := flatD_get (sz := j.size) (fun d hd => (hds d hd).2) i x q c hx hc
      have hlt := (List.getElem?_eq_some_iff.1 hg).1
      have hlt' : i * j.size + q < vs'.size := by rw [h2.1]; exact hlt
      exact ⟨vs'[i * j.size + q], by simp [hlt'], (h2.2 _ _ _ hg (by simp [hlt'])).1⟩
    have hfit : ∀ x ∈ ds, x.fits (rowD j.desc) j.size := by
      intro x hx
      obtain ⟨a1, a2⟩ := hds x hx
      refine ⟨a1, a2, fun c hc => ?_⟩
      obtain ⟨i, hi⟩ := List.mem_iff_getElem?.1 hx
      obtain ⟨q, hq'⟩ := List.mem_iff_getElem?.1 hc
      have hg := flatD_get (sz := j.size) (fun d hd => (hds d hd).2) i x q c hi hq'
      have hlt' : i * j.size + q < vs'.size := by rw [h2.1]; exact (List.getElem?_eq_some_iff.1 hg).1
      exact (h2.2 _ _ _ hg (show vs'[i * j.size + q]? = some vs'[i * j.size + q] from by simp [hlt'])).2
    obtain ⟨r1, r2⟩ := R.plain (grownBy_alloc' w _) hsz hown hfit hrel
    exact ⟨g, (r1.put hdst (v := .v (.c (.tl (rowD j.desc) j.size ds))) ⟨r2, _, by rw [hn]⟩).free_mono (fun n hn => hn.1)⟩
  · exact hk.elim

theorem cellsP_ok {ti : Types} {s : Slots} {e : TypeId} {sz : Nat} :
    ∀ (L : List (Nat × Operand)) (n : Nat) (k : List CV → Prop), cellsP ti s e sz n L k → ∃ ys, k ys ∧ ys.length = L.length * sz ∧
      ∀ (w : World) (Z : Zone) (g : Ghost) (h : Heap) (ev : Operand → Value), (∀ t i p, (i, p) ∈ L → RelAV w Z g h (opd ti s t p) (ev p)) →
        ∀ (cs : List CV) (vs : Array Value), RelCs w Z g h cs vs → (n + L.length) * sz ≤ cs.length →
        ∃ vs', Instr.fill (fun i => some (i * sz, sz)) vs (L.map fun x => (x.1, ev x.2)) = some vs' ∧ RelCs w Z g h (cs.take (n * sz) ++ ys ++ cs.drop ((n + L.length) * sz)) vs'
  | [], n, k, hk => ⟨[], hk, by simp, fun w Z g h ev _ cs vs hc _ => ⟨vs, rfl, by simpa using hc⟩⟩
  | (i, x) :: L, n, k, hk => by
    unfold cellsP at hk
    replace hk := req_iff.1 hk
    obtain ⟨hin, hk⟩ := hk
    have hin := Nat.eq_of_beq_eq_true hin
    subst hin
    split at hk
    · rename_i y hy
      replace hk := req_iff.1 hk
      obtain ⟨hsz, hk⟩ := hk
      have hsz := Nat.eq_of_beq_eq_true hsz
      obtain ⟨ys, k1, k2, k4⟩ := cellsP_ok L (i + 1) _ hk
      refine ⟨y.cells ++ ys, k1, by simp [k2, hsz, Nat.add_mul]; omega, fun w Z g h ev hev cs vs hc hb => ?_⟩
      have hr := hev e i x (by simp)
      rw [hy] at hr
      obtain ⟨c1, c2⟩ := RelV1.cells hr
      have hb' : i * sz + sz ≤ cs.length := by
        simp [Nat.add_mul] at hb
        omega
      have step := fill_cs (off := i * sz) hc ⟨c1, c2⟩ (by rw [hsz]; exact hb')
      rw [hsz] at step
      obtain ⟨vs', h1, h2⟩ := k4 w Z g h ev (fun t i' p hp => hev t i' p (List.mem_cons_of_mem _ hp)) _ _ step (by
        simp [hsz, Nat.add_mul] at hb ⊢
        omega)
      refine ⟨vs', ?_, ?_⟩
      · simp only [List.map_cons, Instr.fill]
        rw [if_neg]
        · exact h1
        · rw [c1, hsz, hc.1]
          simp
          omega
      · have e1 : (cs.take (i * sz) ++ y.cells ++ cs.drop (i * sz + sz)).take ((i + 1) * sz) = cs.take (i * sz) ++ y.cells := by
          rw [List.take_append_of_le_length (by simp [hsz, Nat.add_mul]; omega), List.take_of_length_le (by simp [hsz, Nat.add_mul]; omega)]
        have e2 : (cs.take (i * sz) ++ y.cells ++ cs.drop (i * sz + sz)).drop ((i + 1 + L.length) * sz) = cs.drop ((i + (L.length + 1)) * sz) := by
          rw [List.drop_append, List.drop_of_length_le (by simp [hsz, Nat.add_mul]; omega), List.nil_append, List.drop_drop]
          congr 1
          simp [hsz, Nat.add_mul]
          omega
        rw [e1, e2] at h2
        simpa [List.append_assoc] using h2
    · exact hk.elim

theorem ok_buildSliceC (hti : TIok C.P ti) (t : TypeId) (len : Nat) (parts : Array (Nat × Operand)) (ho : o.op = .buildSlice t len parts) (hk : outBuildSliceC ti s t len parts.toList fresh k) : ∃ out, k out ∧ OKop C o fresh s h out := by
  unfold outBuildSliceC at hk
  replace hk := withT_iff.1 hk
  obtain ⟨q, hq, hk⟩ := hk
  split at hk
  · rename_i e hd
    replace hk := withT_iff.1 hk
    obtain ⟨j, hj, hk⟩ := hk
    replace hk := req_iff.1 hk
    obtain ⟨hle, hk⟩ := hk
    replace hk := req_iff.1 hk
    obtain ⟨hlen, hk⟩ := hk
    replace hk := req_iff.1 hk
    obtain ⟨hsz, hk⟩ := hk
    have hle := Nat.le_of_ble_eq_true hle
    have hlen := Nat.eq_of_beq_eq_true hlen
    have hsz : 0 < j.size := by simp [Nat.blt] at hsz; omega
    obtain ⟨ys, hk, hyl, f2⟩ := cellsP_ok _ _ _ hk
    refine ⟨_, hk, ?_⟩
    rintro F σs σh a w Q ⟨g, R⟩ hs hrd hF hdst
    have hev : ∀ t i p, (i, p) ∈ parts.toList → RelAV w (zor (zone g σh) C.X) g σh (opd ti s t p) (a.eval p) := fun t i p hp =>
      opd_rel ti t p R (s := s) (fun k hk => hs k (by
        subst hk
        simp only [ho, Op.operands, List.mem_map]
        exact ⟨(i, .tmp k), hp, rfl⟩))
    have f2 := f2 w _ g σh a.eval hev
    obtain ⟨ii, i1, i2, i3, i4, i5⟩ := elem_info hti hj
    obtain ⟨_, ii', j1, j2, _, _, j5, j6, j7⟩ := hti e j hj
    let zs : Array Value := (Array.range (len * j.size)).map (fun i => j.zero.cells[i % j.zero.cells.size]!)
    have hz0 : RelCs w (zor (zone g σh) C.X) g σh (List.replicate (len * j.size) CV.un) zs := by
      refine ⟨by simp [zs], fun i c u hc hu => ?_⟩
      obtain rfl := List.eq_of_mem_replicate (List.mem_of_getElem? hc)
      have hlt : i < len * j.size := by
        have := (Array.getElem?_eq_some_iff.1 hu).1
        simpa [zs] using this
      have hu' : u = j.zero.cells[i % j.zero.cells.size]! := by
        simp [zs, hlt] at hu
        exact hu.symm
      have hm : i % j.zero.cells.size < j.zero.cells.size := Nat.mod_lt _ (by rw [j5]; exact hsz)
      have hzc : ∃ c, j.zc[i % j.zero.cells.size]? = some c := ⟨_, List.getElem?_eq_getElem (by rw [j6, ← j5]; exact hm)⟩
      obtain ⟨c, hc⟩ := hzc
      have := j7 _ c _ hc (show j.zero.cells[i % j.zero.cells.size]? = some j.zero.cells[i % j.zero.cells.size] from by simp [hm])
      have := RelC.oneCell (zrel_rel (w := w) (Z := fun _ _ => False) (g := g) (h := σh) this)
      subst hu'
      show _ = true
      simpa [hm] using this
    obtain ⟨vs', h1, h2⟩ := f2 _ _ hz0 (by simp [hlen])
    have hflat : (List.replicate (len * j.size) CV.un).take (0 * j.size) ++ ys ++ (List.replicate (len * j.size) CV.un).drop ((0 + parts.toList.length) * j.size) = ys := by
      simp [hlen]
    rw [hflat] at h2
    have e1 := tund hti hq w
    rw [hd] at e1
    have e2 := tsize hti hj w
    have e3 : (zeroValue e).run C.P w = .ok j.zero w := by simp [zeroValue, typeInfo, i1, i4]
    have hrun : (execOp a.eval o).run C.P w = .ok (.value (.slice (some ⟨w.heap.size, 0, none⟩) len len)) (w.alloc (.cells vs' e)) := by
      have hnot : ¬ (len * j.size > 2 ^ 24) := by omega
      have r0 : ∀ f : Nat → Value, Array.map f (Array.range 0) = #[] := fun f => by apply Array.ext'; simp
      have h1' : Instr.fill (fun i => some (i * j.size, j.size)) (Array.map (fun i => j.zero.cells[i % j.zero.cells.size]!) (Array.range (len * j.size))) (List.map (fun x => (x.1, a.eval x.2)) parts.toList) = some vs' := h1
      by_cases h0 : len * j.size = 0
      · rw [h0, r0] at h1'
        simp [execOp, ho, Instr.buildSlice, e1, e2, h0, r0, h1', newRow]
      · simp [execOp, ho, Instr.buildSlice, e1, e2, hnot, h0, e3, h1', newRow]
    unfold Oper.wp
    rw [hrun]
    have R' := R.alloc (n := fresh) (hF 0 (by omega)) vs' e ys h2.1 h2.2
    exact ⟨_, (R'.put hdst (v := .v (.c (.sl (.loc fresh) len))) ⟨⟨w.heap.size, by simp [updG]⟩, by simp [updG, slAt]⟩).free_mono (fun n hn => ⟨hn.1, fun e => hn.2 (by omega)⟩)⟩
  · exact hk.elim

theorem ok_lookup (hti : TIok C.P ti) (t : TypeId) (x y : Operand) (ok : Bool) (ho : o.op = .lookup t x y ok) (hk : outLookup ti t (opd ti s t x) (opd ti s 0 y) ok k) : ∃ out, k out ∧ OKop C o fresh s h out := by
  unfold outLookup at hk
  replace hk := withT_iff.1 hk
  obtain ⟨q, hq, hk⟩ := hk
  split at hk
  · rename_i kt et hd
    replace hk := withT_iff.1 hk
    obtain ⟨kk, hkk, hk⟩ := hk
    replace hk := withT_iff.1 hk
    obtain ⟨j, hj, hk⟩ := hk
    replace hk := req_iff.1 hk
    obtain ⟨hpk, hk⟩ := hk
    replace hk := req_iff.1 hk
    obtain ⟨hz0, hk⟩ := hk
    split at hk
    · rename_i hop
      obtain ⟨ii, i1, i2, i3, i4, i5⟩ := elem_info hti hj
      obtain ⟨_, ii', j1, j2, _, _, j5, j6, j7⟩ := hti et j hj
      have run : ∀ F σs σh g a w, RelS C F σs σh g a w → (∀ t, Operand.tmp t ∈ o.op.operands.toList → σs t = s t) →
          (execOp a.eval o).run C.P w = .ok (.value (if ok then .tuple #[j.zero, .bool false] else j.zero)) w := by
        intro F σs σh g a w R hs
        have hx := opd_rel ti t x R (s := s) (fun t ht => hs t (by subst ht; simp [ho, Op.operands]))
        rw [hop] at hx
        have hx : a.eval x = .map none := hx
        have e1 := tund hti hq w
        rw [hd] at e1
        have e2 := tund hti hkk w
        have e3 : (zeroValue et).run C.P w = .ok j.zero w := by simp [zeroValue, typeInfo, i1, i4]
        have e5 : ∀ n v, (Instr.checkKey true (n + 1) kt v).run C.P w = .ok () w := by
          intro n v
          have : plainKey kk.desc = true := hpk
          unfold plainKey at this
          split at this
          · rename_i hk2; rw [hk2] at e2; simp [Instr.checkKey, e2]
          · rename_i hk2; rw [hk2] at e2; simp [Instr.checkKey, e2]
          · cases this
        have e4 : ∀ v, (Instr.checkKey true 10000 kt v).run C.P w = .ok () w := e5 9999
        simp [execOp, ho, Instr.lookup, e1, hx, e4, Instr.findKey, e2, Instr.findNow, e3]
      have rel : ∀ (w : World) (Z : Zone) (g : Ghost) (h : Heap), RelV1 w Z g h (V1.ofCells (rowD j.desc) j.zc) j.zero := by
        intro w Z g h
        have hc : ∀ (q : Nat) c u, j.zc[q]? = some c → j.zero.cells[q]? = some u → RelC w Z g h c u := fun q c u h1 h2 => zrel_rel (j7 q c u h1 h2)
        have hl : j.zero.cells.size = j.zc.length := by rw [j5, j6]
        have hz1 := hz0
        unfold zeroOK at hz1
        split at hz1
        · rename_i cs hcs
          rw [hcs] at hc hl ⊢
          exact (RelV1.ofCells hl hc).1 hz1
        · cases hz1
        · rename_i v h1 h2
          have hrow : rowD j.desc = false := by cases hh : rowD j.desc <;> simp [hh, notB] at hz1 ⊢
          have hcell : j.zero.cells = #[j.zero] := by
            cases hz : j.zero <;> first | rfl | exact absurd hz (h1 _)
          exact (RelV1.ofCells hl hc).2 hrow _ hcell
      cases ok with
      | true =>
        refine ⟨_, hk, okop_value fun F σs σh g a w R hs _ => ⟨_, run F σs σh g a w R hs, ?_⟩⟩
        refine ⟨#[j.zero, .bool false], rfl, rfl, fun q c u hc hu => ?_⟩
        match q with
        | 0 => simp at hc hu; subst hc; subst hu; exact rel _ _ _ _
        | 1 => simp at hc hu; subst hc; subst hu; exact .bool _
        | q + 2 => simp at hc
      | false => exact ⟨_, hk, okop_value fun F σs σh g a w R hs _ => ⟨_, run F σs σh g a w R hs, rel _ _ _ _⟩⟩
    · exact hk.elim
  · exact hk.elim
end
end Go.AM

/- The abstract machine, part I: the executor of code over abstract states, and that it tells what the model does. No condition. -/
namespace Go.AM
open Go Go.RowKit

section
variable {C : Cx} {ti : Types} {o : Oper} {fresh : Nat} {s : Slots} {h : Heap} {k : Out → Prop}

theorem opsArgs_rel {F : Nat → Prop} {σs : Slots} {σh : Heap} {g : Ghost} {a : Act} {w : World} (R : RelS C F σs σh g a w) :
    ∀ (l : List Operand) (ts : List TypeId) (xs : List V1), (∀ t, Operand.tmp t ∈ l → σs t = s t) → vals1 (opsArgs ti s l ts) = some xs →
      xs.length = l.length ∧ ∀ (j : Nat) x p, xs[j]? = some x → l[j]? = some p → RelV1 w (zor (zone g σh) C.X) g σh x (a.eval p)
  | [], ts, xs, _, he => by
    have : xs = [] := by cases ts <;> simpa [opsArgs, vals1] using he.symm
    subst this
    exact ⟨rfl, by simp⟩
  | p :: l, ts, xs, hs, he => by
    have main : ∀ (t : TypeId) (ts' : List TypeId), vals1 (opd ti s t p :: opsArgs ti s l ts') = some xs →
        xs.length = (p :: l).length ∧ ∀ (j : Nat) x q, xs[j]? = some x → (p :: l)[j]? = some q → RelV1 w (zor (zone g σh) C.X) g σh x (a.eval q) := by
      intro t ts' he
      unfold vals1 at he
      split at he
      · rename_i e; simp at e
      · rename_i y r e
        simp at e
        obtain ⟨e1, rfl⟩ := e
        split at he
        · rename_i l' hl'
          simp at he
          subst he
          obtain ⟨h1, h2⟩ := opsArgs_rel R l ts' l' (fun t ht => hs t (List.mem_cons_of_mem _ ht)) hl'
          refine ⟨by simp [h1], fun j x q hx hq => ?_⟩
          match j with
          | 0 =>
            simp at hx hq
            subst hx; subst hq
            have := opd_rel ti t p R (s := s) (fun k hk => hs k (by simp [hk]))
            rw [e1] at this
            exact RelV1.norm this
          | j + 1 => simp at hx hq; exact h2 j x q hx hq
        · simp at he
      · simp at he
    match ts with
    | [] => exact main 0 [] he
    | t :: ts' => exact main t ts' he

theorem ok_call (c : Call) (f : Operand) (ho : o.op = .call c) (hc : c.callee = .value f)
    (hk : outCallV C.M (opd ti s 0 f) (opsArgs ti s c.args.toList c.argTypes.toList) fresh h k) : ∃ out, k out ∧ OKop C o fresh s h out := by
  unfold outCallV at hk
  split at hk
  · rename_i n cap hop
    unfold withArgs at hk
    split at hk
    · rename_i xs hxs
      obtain ⟨m, targs, pre, res, post, new, htrip, hargs, hlen, hnd, hpre, hkinds, hnew, hk⟩ := (C.M.lock_iff _).1 hk
      refine ⟨_, hk, ?_⟩
      rintro F σs σh a w Q ⟨g, R⟩ hs hrd hF hd
      have hf := opd_rel ti 0 f R (s := s) (fun k hk => hs k (by subst hk; simp [ho, hc, Op.operands, Call.operands]))
      rw [hop] at hf
      obtain ⟨hfv, hcap⟩ := hf
      obtain ⟨h1, h2⟩ := opsArgs_rel (ti := ti) R c.args.toList c.argTypes.toList xs (fun t ht => hs t (by simp [ho, hc, Op.operands, Call.operands]; right; simpa using ht)) hxs
      obtain ⟨⟨fn, body, hfn, hb, hname⟩, _⟩ := htrip
      have hrun : (execOp a.eval o).run C.P w = .ok (.enter n (c.args.map a.eval ++ (cap.map (fun i => ptrAt (g i) 0)).toArray)) w := by
        have hn' : ¬ fn.name = "runtime.NumGoroutine" := by simpa using hname
        simp [execOp, ho, resolve, hc, hfv, Deferred.ofValue, invoke, callFunc, hfn, hb, hn']
      have hpre' : ∀ (j : Nat) i o, m[j]? = some i → pre[j]? = some o → σh i = some (o.ren (renM m fresh)) := fun j i o' hm hp =>
        (hrd i (List.mem_of_getElem? hm)).trans (hpre j i o' hm hp)
      unfold Oper.wp
      rw [hrun, Oper.upon_enter]
      refine call_core R ⟨⟨fn, body, hfn, hb, hname⟩, by assumption⟩ hlen hnd hpre' hkinds hnew hF hd ?_ ?_
      · have := congrArg List.length hargs
        simp [h1] at this
        simp
        omega
      · intro j x v hx hv
        rw [← hargs] at hx
        simp only [Array.getElem?_append, Array.size_map, List.getElem?_toArray] at hv
        by_cases hj : j < c.args.size
        · rw [if_pos hj] at hv
          rw [List.getElem?_append_left (by rw [h1]; simpa using hj)] at hx
          simp only [Array.getElem?_map, Option.map_eq_some_iff] at hv
          obtain ⟨p, hp, rfl⟩ := hv
          exact h2 j x p hx (by simpa using hp)
        · rw [if_neg hj] at hv
          rw [List.getElem?_append_right (by rw [h1]; simpa using hj), h1] at hx
          simp only [List.getElem?_map, Option.map_eq_some_iff, Array.length_toList] at hx hv
          obtain ⟨i, hi, rfl⟩ := hx
          obtain ⟨i', hi', rfl⟩ := hv
          rw [hi] at hi'
          obtain rfl : i = i' := by simpa using hi'
          obtain ⟨b, hb'⟩ := hcap i (List.mem_of_getElem? hi)
          exact ⟨⟨b, hb'⟩, rfl⟩
    · exact hk.elim
  · exact hk.elim

/-- All operations. -/
theorem opOut_sound (hti : TIok C.P ti) (h1 : TIone ti) (hst : ∀ t x y, o.op = .store t x y → o.dst = none) (hk : opOut C.M ti o fresh s h k) : ∃ out, k out ∧ OKop C o fresh s h out := by
  unfold opOut at hk
  split at hk
  · rename_i x ho; exact ⟨_, hk, ok_move x (.inl ho)⟩
  · rename_i x ho; exact ⟨_, hk, ok_move x (.inr ho)⟩
  · rename_i c x y ho
    obtain ⟨q, hq, hk⟩ := withB_iff.1 hk
    exact ⟨_, hk, ok_pick c x y ho hq⟩
  · rename_i t ho
    obtain ⟨i, hi, hk⟩ := withT_iff.1 hk
    exact ⟨_, hk, ok_alloc hti t ho hi⟩
  · rename_i t x ho
    obtain ⟨y, hy, hk⟩ := withV_iff.1 hk
    exact ⟨_, hk, ok_box t x ho hy⟩
  · rename_i t x ho; exact ok_load hti h1 t x ho hk
  · rename_i t x y ho; exact ok_store hti t x y ho (hst t x y ho) hk
  · rename_i t x f ho; exact ok_field hti t x f ho hk
  · rename_i t x y ho; exact ok_index hti t x y ho hk
  · rename_i x ho
    split at hk
    · rename_i i q hop; exact ⟨_, hk, ok_nilCheck x ho hop⟩
    · exact hk.elim
  · rename_i op t x y t' ho; exact ok_bin hti op t t' x y ho hk
  · rename_i op t x ho; exact ok_un op t x ho hk
  · rename_i fn first captured ho
    split at hk
    · rename_i f hfi
      split at hk
      · rename_i l hl; exact ⟨_, hk, ok_makeFunc _ first captured ho rfl hfi hl⟩
      · exact hk.elim
    · exact hk.elim
  · rename_i t parts ho; exact ok_build hti t parts ho hk
  · rename_i t len parts ho
    obtain ⟨c, hk⟩ := hk
    cases c with
    | true => exact ok_buildSlice hti t len parts ho hk
    | false => exact ok_buildSliceC hti t len parts ho hk
  · rename_i t x i ok ho; exact ok_lookup hti t x i ok ho hk
  · rename_i t x lo hi mx ho; exact ok_sliceS hti t x lo hi mx ho hk
  · rename_i t x i ho; exact ok_indexV hti t x i ho hk
  · rename_i t x f ho; exact ok_fieldV hti h1 t x f ho hk
  · rename_i x i ho; exact ok_extract x i ho hk
  · rename_i a b x ho; exact ok_convert hti a b x ho hk
  · rename_i c ho
    split at hk
    · rename_i hc
      split at hk
      · rename_i x t hx ht
        refine ok_len hti t x ?_ hk
        obtain ⟨callee, args, argTypes⟩ := c
        have e1 : args = #[x] := by apply Array.ext'; simpa using hx
        have e2 : argTypes = #[t] := by apply Array.ext'; simpa using ht
        subst e1; subst e2
        simp only [] at hc
        subst hc
        exact ho
      · exact hk.elim
    · rename_i hc
      split at hk
      · rename_i x y t t' hx ht
        replace hk := req_iff.1 hk
        obtain ⟨htt, hk⟩ := hk
        have htt := Nat.eq_of_beq_eq_true htt
        subst htt
        refine ok_append hti t x y ?_ hk
        obtain ⟨callee, args, argTypes⟩ := c
        have e1 : args = #[x, y] := by apply Array.ext'; simpa using hx
        have e2 : argTypes = #[t, t] := by apply Array.ext'; simpa using ht
        subst e1; subst e2
        simp only [] at hc
        subst hc
        exact ho
      · exact hk.elim
    · rename_i f hc; exact ok_call c f ho hc hk
    · exact hk.elim
  · exact hk.elim

end
end Go.AM

/- The abstract machine, part J: abstract states, the executor of regions and code. No condition. -/
namespace Go.AM
open Go Go.RowKit

structure St where
  slots : List (Nat × AV)
  heap : List (Id × AObj)
  next : Nat

def getS : List (Nat × AV) → Slots
  | [], _ => .u
  | (k, v) :: r, t => match Nat.beq k t with
    | true => v
    | false => getS r t
def getH : List (Id × AObj) → Heap
  | [], _ => none
  | (k, v) :: r, i => match Id.beq k i with
    | true => some v
    | false => getH r i
def setH : List (Id × AObj) → Id → AObj → List (Id × AObj)
  | [], i, o => [(i, o)]
  | (k, v) :: r, i, o => match Id.beq k i with
    | true => (i, o) :: r
    | false => (k, v) :: setH r i o
def setW (l : List (Id × AObj)) : List (Id × AObj) → List (Id × AObj)
  | [] => l
  | (i, o) :: r => setW (setH l i o) r
def putS (l : List (Nat × AV)) (d : Option Tmp) (v : AV) : List (Nat × AV) :=
  match d with
  | some d => (d, v) :: l
  | none => l

theorem getS_cons (k : Nat) (v : AV) (l : List (Nat × AV)) : getS ((k, v) :: l) = fun t => if t = k then v else getS l t := by
  funext t
  show (match Nat.beq k t with | true => v | false => getS l t) = _
  cases hb : Nat.beq k t with
  | true => rw [if_pos (Nat.eq_of_beq_eq_true hb).symm]
  | false => rw [if_neg (fun e => Nat.ne_of_beq_eq_false hb e.symm)]
theorem getS_putS (l : List (Nat × AV)) (d : Option Tmp) (v : AV) : getS (putS l d v) = updS (getS l) d v := by
  cases d with
  | none => rfl
  | some d => exact getS_cons d v l
theorem getH_cons (k : Id) (v : AObj) (l : List (Id × AObj)) : getH ((k, v) :: l) = updO (getH l) k v := by
  funext i
  show (match Id.beq k i with | true => some v | false => getH l i) = if i = k then some v else getH l i
  cases hb : Id.beq k i with
  | true => rw [if_pos (Id.beq_iff.1 hb).symm]
  | false => rw [if_neg (fun e => Id.beq_false.1 hb e.symm)]
theorem getH_setH (l : List (Id × AObj)) (i : Id) (o : AObj) : getH (setH l i o) = updO (getH l) i o := by
  induction l with
  | nil => exact getH_cons i o []
  | cons x l ih =>
    obtain ⟨k, v⟩ := x
    unfold setH
    cases hb : Id.beq k i with
    | true =>
      have := Id.beq_iff.1 hb
      subst this
      simp only [getH_cons]
      funext j
      simp only [updO]
      split <;> rfl
    | false =>
      have := Id.beq_false.1 hb
      simp only [getH_cons, ih]
      funext j
      simp only [updO]
      by_cases h1 : j = k
      · subst h1; simp [this]
      · simp [h1]
theorem getH_setW (wr : List (Id × AObj)) : ∀ l : List (Id × AObj), getH (setW l wr) = updW (getH l) wr := by
  induction wr with
  | nil => intro l; rfl
  | cons x wr ih =>
    intro l
    show getH (setW (setH l x.1 x.2) wr) = updW (updO (getH l) x.1 x.2) wr
    rw [ih, getH_setH]

def dstOK (nt : Nat) (d : Option Tmp) (K : Prop) : Prop :=
  match d with
  | none => K
  | some d => req (Nat.blt d nt) K
def storeOK (o : Oper) (K : Prop) : Prop :=
  match o.op with
  | .store .. => match o.dst with
    | some _ => False
    | none => K
  | _ => K

def stepOp (M : Mach) (ti : Types) (nt : Nat) (o : Oper) (fresh : Nat) (σ : St) (K : St → Prop) : Prop :=
  storeOK o <| dstOK nt o.dst <| opOut M ti o fresh (getS σ.slots) (getH σ.heap) fun out =>
    K ⟨putS σ.slots o.dst out.val, setW σ.heap out.wr, σ.next⟩

def guarded (ops : Array Oper) (o : Oper) (σ : St) (K1 K0 : St → Prop) : Prop :=
  match o.guard with
  | none => K1 σ
  | some (j, want) => match (ops[j]?).bind (·.dst) with
    | none => False
    | some d => match getS σ.slots d with
      | .v (.d (.bool c)) => match want with
        | true => match c with
          | true => K1 σ
          | false => K0 σ
        | false => match c with
          | true => K0 σ
          | false => K1 σ
      | .t [] => K0 σ
      | _ => False

def execOps (M : Mach) (ti : Types) (nt : Nat) (ops : Array Oper) (base : Nat) : List Oper → Nat → St → (St → Prop) → Prop
  | [], i, σ, K => K ⟨σ.slots, σ.heap, base + 8 * i⟩
  | o :: r, i, σ, K => guarded ops o σ
      (fun σ1 => stepOp M ti nt o (base + 8 * i) σ1 fun σ2 => execOps M ti nt ops base r (i + 1) σ2 K)
      (fun σ1 => dstOK nt o.dst (execOps M ti nt ops base r (i + 1) ⟨putS σ1.slots o.dst (.t []), σ1.heap, σ1.next⟩ K))

inductive AExit where
  | normal
  | exit (id : Nat)
  | ret

def RelSt (C : Cx) (σ : St) (a : Act) (w : World) : Prop := Rel C (fun n => σ.next ≤ n) (getS σ.slots) (getH σ.heap) a w
def Weak (σ σ' : St) : Prop := ∀ C a w, RelSt C σ a w → RelSt C σ' a w

/-- How a region that draws its order is executed (part K): here a parameter. -/
abbrev Draw := Array Oper → St → (St → Prop) → Prop

/-- A loop: what holds at each round's head, and a number that goes down. -/
def loopP (ex : St → (AExit → St → Prop) → Prop) (σ : St) (K : AExit → St → Prop) : Prop :=
  ∃ (I : Nat → St → Prop) (m : Nat), (∃ σ0, Weak σ σ0 ∧ I m σ0) ∧ ∀ n σ1, I n σ1 → ex σ1 fun e σ2 => match e with
    | .normal => ∃ n' σ3, n' < n ∧ Weak σ2 σ3 ∧ I n' σ3
    | .exit id => K (.exit id) σ2
    | .ret => K .ret σ2

/-- A loop, round by round. -/
def unrollP (ex : St → (AExit → St → Prop) → Prop) (K : AExit → St → Prop) : Nat → St → Prop
  | 0, _ => False
  | n + 1, σ => ex σ fun e σ2 => match e with
    | .normal => unrollP ex K n σ2
    | .exit id => K (.exit id) σ2
    | .ret => K .ret σ2

def exec (M : Mach) (ti : Types) (nt : Nat) (dr : Draw) : Code → St → (AExit → St → Prop) → Prop
  | .skip, σ, K => K .normal σ
  | .region _ ops draw, σ, K => match draw with
    | false => execOps M ti nt ops σ.next ops.toList 0 σ fun σ' => K .normal σ'
    | true => dr ops σ fun σ' => K .normal σ'
  | .seq a b, σ, K => exec M ti nt dr a σ fun e σ' => match e with
    | .normal => exec M ti nt dr b σ' K
    | .exit id => K (.exit id) σ'
    | .ret => K .ret σ'
  | .cond c a b, σ, K => withB (opd ti (getS σ.slots) 0 c) fun q => match q with
    | true => exec M ti nt dr a σ K
    | false => exec M ti nt dr b σ K
  | .block id c, σ, K => exec M ti nt dr c σ fun e σ' => match e with
    | .normal => K .normal σ'
    | .exit id' => match Nat.beq id' id with
      | true => K .normal σ'
      | false => K (.exit id') σ'
    | .ret => K .ret σ'
  | .loop c, σ, K => M.lock fun _ => loopP (fun σ K => exec M ti nt dr c σ K) σ K ∨ ∃ n, unrollP (fun σ K => exec M ti nt dr c σ K) K n σ
  | .exit id, σ, K => K (.exit id) σ
  | .ret, σ, K => K .ret σ
  | _, _, _ => False

def Qof (C : Cx) (K : AExit → St → Prop) : Exit → Act → World → Prop
  | .normal, a, w => ∃ σ, K .normal σ ∧ RelSt C σ a w
  | .exit id, a, w => ∃ σ, K (.exit id) σ ∧ RelSt C σ a w
  | .ret, a, w => ∃ σ, K .ret σ ∧ RelSt C σ a w
  | _, _, _ => False

theorem Rel.free_mono {C : Cx} {F F' : Nat → Prop} {s : Slots} {h : Heap} {a : Act} {w : World} (R : Rel C F s h a w) (hF : ∀ n, F' n → F n) : Rel C F' s h a w :=
  let ⟨g, r⟩ := R
  ⟨g, r.free_mono hF⟩

section
variable {C : Cx} {ti : Types} {dr : Draw}

theorem dstOK_iff {nt : Nat} {d : Option Tmp} {K : Prop} : dstOK nt d K ↔ (∀ x, d = some x → x < nt) ∧ K := by
  unfold dstOK
  split
  · simp
  · simp [req_iff]
theorem storeOK_iff {o : Oper} {K : Prop} (h : storeOK o K) : (∀ t x y, o.op = .store t x y → o.dst = none) ∧ K := by
  unfold storeOK at h
  split at h
  · split at h
    · exact h.elim
    · rename_i hd
      exact ⟨fun _ _ _ _ => hd, h⟩
  · rename_i hne
    exact ⟨fun t x y e => absurd e (hne t x y), h⟩

/-- The truth of a guard: what the concrete frame yields. -/
theorem yields {F : Nat → Prop} {σ : St} {a : Act} {w : World} {ops : Array Oper} {j d : Nat} {c : Bool} (R : Rel C F (getS σ.slots) (getH σ.heap) a w)
    (hd : (ops[j]?).bind (·.dst) = some d) (hc : getS σ.slots d = .v (.d (.bool c))) : yielded ops a.tmps j = some c := by
  obtain ⟨g, R⟩ := R
  have := R.slots d
  rw [hc] at this
  have hv := relB this
  unfold yielded
  rw [hd]
  have : a.tmps[d]? = some (.bool c) := by
    rw [Array.getD_eq_getD_getElem?] at hv
    cases h : a.tmps[d]? with
    | none => rw [h] at hv; simp [undef] at hv
    | some v => rw [h] at hv; simpa using hv
  simp [this]

/-- What an operation that was passed over yields. -/
theorem yields_none' {ops : Array Oper} {a : Act} {j d : Nat} (hd : (ops[j]?).bind (·.dst) = some d) (h : ∃ vs : Array Value, a.tmps.getD d undef = .tuple vs) : yielded ops a.tmps j = none := by
  obtain ⟨vs, hv⟩ := h
  unfold yielded
  rw [hd]
  rw [Array.getD_eq_getD_getElem?] at hv
  cases h : a.tmps[d]? with
  | none => simp [h]
  | some v =>
    rw [h] at hv
    have hv : v = .tuple vs := by simpa using hv
    subst hv
    simp [h]
theorem yields_none {F : Nat → Prop} {σ : St} {a : Act} {w : World} {ops : Array Oper} {j d : Nat} (R : Rel C F (getS σ.slots) (getH σ.heap) a w)
    (hd : (ops[j]?).bind (·.dst) = some d) (hc : getS σ.slots d = .t []) : yielded ops a.tmps j = none := by
  obtain ⟨g, R⟩ := R
  have := R.slots d
  rw [hc] at this
  obtain ⟨vs, hv, _⟩ := this
  exact yields_none' hd ⟨vs, hv⟩

theorem rel_set_same {F : Nat → Prop} {σ : St} {a : Act} {w : World} {d : Nat} {v : AV} (R : Rel C F (getS σ.slots) (getH σ.heap) a w) (hc : getS σ.slots d = v) :
    Rel C F (getS ((d, v) :: σ.slots)) (getH σ.heap) a w := by
  have : getS ((d, v) :: σ.slots) = getS σ.slots := by
    rw [getS_cons]
    funext t
    split
    · subst t; exact hc.symm
    · rfl
  rw [this]
  exact R

/-- A guard, both ways. -/
theorem guarded_sound {F : Nat → Prop} {σ : St} {a : Act} {w : World} {ops : Array Oper} {o : Oper} {K1 K0 : St → Prop} (R : Rel C F (getS σ.slots) (getH σ.heap) a w)
    (hk : guarded ops o σ K1 K0) : ∃ σ', σ'.heap = σ.heap ∧ Rel C F (getS σ'.slots) (getH σ'.heap) a w ∧
      ((Region.wanted o (yielded ops a.tmps) = true ∧ K1 σ') ∨ (Region.wanted o (yielded ops a.tmps) = false ∧ K0 σ')) := by
  unfold guarded at hk
  split at hk
  · rename_i hg
    exact ⟨σ, rfl, R, .inl ⟨by simp [Region.wanted, hg], hk⟩⟩
  · rename_i j want hg
    split at hk
    · exact hk.elim
    · rename_i d hd
      split at hk
      · rename_i c hc
        have hy := yields R hd hc
        cases want <;> cases c
        · exact ⟨σ, rfl, R, .inl ⟨by simp [Region.wanted, hg, hy], hk⟩⟩
        · exact ⟨σ, rfl, R, .inr ⟨by simp [Region.wanted, hg, hy], hk⟩⟩
        · exact ⟨σ, rfl, R, .inr ⟨by simp [Region.wanted, hg, hy], hk⟩⟩
        · exact ⟨σ, rfl, R, .inl ⟨by simp [Region.wanted, hg, hy], hk⟩⟩
      · rename_i hc
        have hy := yields_none R hd hc
        exact ⟨σ, rfl, R, .inr ⟨by simp [Region.wanted, hg, hy], hk⟩⟩
      · exact hk.elim

theorem execOps_sound (hti : TIok C.P ti) (h1 : TIone ti) {ops : Array Oper} {base : Nat} {K : St → Prop} {Q : Exit → Act → World → Prop}
    (hQ : ∀ σ a w, K σ → RelSt C σ a w → Q .normal a w) : ∀ (l : List Oper) (i : Nat) (σ : St) (a : Act) (w : World), ops.toList.drop i = l →
      execOps C.M ti C.nt ops base l i σ K → Rel C (fun n => base + 8 * i ≤ n) (getS σ.slots) (getH σ.heap) a w → wpOps C.P ops Q (List.range' i l.length) a w
  | [], i, σ, a, w, _, hk, R => hQ _ a w hk R
  | o :: r, i, σ, a, w, hl, hk, R => by
    have hi : ops[i]? = some o := by
      have := congrArg (fun l => l[0]?) hl
      simpa using this
    have hr : ops.toList.drop (i + 1) = r := by
      have := congrArg List.tail hl
      simpa using this
    simp only [List.length_cons, List.range'_succ]
    rw [wpOps_cons]
    unfold wpOp
    rw [hi]
    simp only []
    obtain ⟨σ', hh, R', ⟨hw, hk⟩ | ⟨hw, hk⟩⟩ := guarded_sound R hk
    · rw [if_pos hw]
      obtain ⟨hst, hk⟩ := storeOK_iff hk
      obtain ⟨hd, hk⟩ := dstOK_iff.1 hk
      obtain ⟨out, hk, hok⟩ := opOut_sound hti h1 hst hk
      refine .inl ?_
      refine Oper.wp_mono ?_ (hok _ _ _ a w Q R' (fun _ _ => rfl) (fun _ _ => rfl) (fun k hk => by omega) hd)
      intro a' w' R2
      refine execOps_sound hti h1 hQ r (i + 1) _ a' w' hr hk ?_
      rw [getS_putS, getH_setW]
      exact R2.free_mono (fun n hn => by omega)
    · rw [if_neg (by simp [hw])]
      obtain ⟨hd, hk⟩ := dstOK_iff.1 hk
      refine execOps_sound hti h1 hQ r (i + 1) _ _ w hr hk ?_
      obtain ⟨g, R'⟩ := R'
      rw [getS_putS]
      exact ⟨g, (R'.put hd (v := .t []) ⟨#[], rfl, rfl, by simp⟩).free_mono (fun n hn => by omega)⟩

/-- What a way to execute a region that draws must tell. -/
def DrawOK (C : Cx) (dr : Draw) : Prop := ∀ (id : Nat) (ops : Array Oper) (σ : St) (K : St → Prop) (Q : Exit → Act → World → Prop) (a : Act) (w : World),
  (∀ σ a w, K σ → RelSt C σ a w → Q .normal a w) → dr ops σ K → RelSt C σ a w → (Code.region id ops true).wp C.P Q a w

theorem least {p : Nat → Prop} (h : ∃ n, p n) : ∃ n, p n ∧ ∀ m, p m → n ≤ m := by
  obtain ⟨n, hn⟩ := h
  induction n using Nat.strongRecOn with
  | _ n ih =>
    by_cases hx : ∃ m, m < n ∧ p m
    · obtain ⟨m, hm, hp⟩ := hx
      exact ih m hm hp
    · exact ⟨n, hn, fun m hp => Nat.le_of_not_lt (fun hlt => hx ⟨m, hlt, hp⟩)⟩

theorem exec_sound (hti : TIok C.P ti) (h1 : TIone ti) (hdr : DrawOK C dr) : ∀ (c : Code) (σ : St) (K : AExit → St → Prop) (a : Act) (w : World),
    exec C.M ti C.nt dr c σ K → RelSt C σ a w → c.wp C.P (Qof C K) a w
  | .skip, σ, K, a, w, hk, R => wp_skip ⟨σ, hk, R⟩
  | .region id ops draw, σ, K, a, w, hk, R => by
    cases draw with
    | false =>
      refine wp_region ?_
      have := execOps_sound (Q := Qof C K) hti h1 (fun σ a w hk R => ⟨σ, hk, R⟩) ops.toList 0 σ a w rfl hk (R.free_mono (fun n hn => by omega))
      simpa [List.range_eq_range'] using this
    | true => exact hdr id ops σ _ (Qof C K) a w (fun σ a w hk R => ⟨σ, hk, R⟩) hk R
  | .seq x y, σ, K, a, w, hk, R => by
    refine wp_seq (wp_mono (exec_sound hti h1 hdr x σ _ a w hk R) ?_)
    intro e a' w' hq
    cases e with
    | normal =>
      obtain ⟨σ', hk', R'⟩ := hq
      exact exec_sound hti h1 hdr y σ' K a' w' hk' R'
    | exit id => exact hq
    | ret => exact hq
    | goto l => exact hq
    | panic ch => exact hq
    | outgrown => exact hq
  | .cond c x y, σ, K, a, w, hk, R => by
    obtain ⟨q, hq, hk⟩ := withB_iff.1 hk
    have hc : a.eval c = .bool q := by
      obtain ⟨g, R'⟩ := R
      have := opd_rel ti 0 c R' (s := getS σ.slots) (fun _ _ => rfl)
      rw [hq] at this
      exact relB this
    refine wp_cond hc ?_
    cases q with
    | true => exact exec_sound hti h1 hdr x σ K a w hk R
    | false => exact exec_sound hti h1 hdr y σ K a w hk R
  | .block id c, σ, K, a, w, hk, R => by
    refine wp_block (wp_mono (exec_sound hti h1 hdr c σ _ a w hk R) ?_)
    intro e a' w' hq
    cases e with
    | normal => exact hq
    | exit id' =>
      obtain ⟨σ', hk', R'⟩ := hq
      show if id' = id then Qof C K .normal a' w' else Qof C K (.exit id') a' w'
      revert hk'
      simp only []
      cases hb : Nat.beq id' id with
      | true =>
        intro hk'
        rw [if_pos (Nat.eq_of_beq_eq_true hb)]
        exact ⟨σ', hk', R'⟩
      | false =>
        intro hk'
        rw [if_neg (Nat.ne_of_beq_eq_false hb)]
        exact ⟨σ', hk', R'⟩
    | ret => exact hq
    | goto l => exact hq
    | panic ch => exact hq
    | outgrown => exact hq
  | .loop c, σ, K, a, w, hk, R => by
    rcases (C.M.lock_iff _).1 hk with hk | ⟨n, hk⟩
    rotate_left
    · refine wp_loop_rounds n ?_
      have key : ∀ n σ a w, unrollP (fun σ K => exec C.M ti C.nt dr c σ K) K n σ → RelSt C σ a w → Code.rounds C.P c (Qof C K) n a w := by
        intro n
        induction n with
        | zero => intro σ a w h _; exact h.elim
        | succ n ih =>
          intro σ a w h R
          refine wp_mono (exec_sound hti h1 hdr c σ _ a w h R) ?_
          intro e a' w' hq
          cases e with
          | normal =>
            obtain ⟨σ', h', R'⟩ := hq
            exact ih σ' a' w' h' R'
          | exit id => exact hq
          | ret => exact hq
          | goto l => exact hq
          | panic ch => exact hq
          | outgrown => exact hq
      exact key n σ a w hk R
    obtain ⟨I, m, ⟨σ0, hw, hI⟩, hround⟩ := hk
    classical
    let J : Act → World → Prop := fun a w => ∃ n σ, I n σ ∧ RelSt C σ a w
    let μ : Act → World → Nat := fun a w => if h : ∃ n σ, I n σ ∧ RelSt C σ a w then Classical.choose (least h) else 0
    have hμ : ∀ a w n σ, I n σ → RelSt C σ a w → μ a w ≤ n := by
      intro a w n σ hi hr
      have hh : ∃ n σ, I n σ ∧ RelSt C σ a w := ⟨n, σ, hi, hr⟩
      show (if h : ∃ n σ, I n σ ∧ RelSt C σ a w then Classical.choose (least h) else 0) ≤ n
      rw [dif_pos hh]
      exact (Classical.choose_spec (least hh)).2 n ⟨σ, hi, hr⟩
    refine wp_loop J μ ⟨m, σ0, hI, hw _ _ _ R⟩ ?_
    rintro a w ⟨n0, σ1, hi0, hr0⟩
    have hh : ∃ n σ, I n σ ∧ RelSt C σ a w := ⟨n0, σ1, hi0, hr0⟩
    obtain ⟨σ2, hi, hr⟩ := (Classical.choose_spec (least hh)).1
    have hμa : μ a w = Classical.choose (least hh) := dif_pos hh
    refine wp_mono (exec_sound hti h1 hdr c σ2 _ a w (hround _ σ2 hi) hr) ?_
    intro e a' w' hq
    cases e with
    | normal =>
      obtain ⟨σ', ⟨n', σ3, hlt, hwk, hi3⟩, R'⟩ := hq
      exact ⟨⟨n', σ3, hi3, hwk _ _ _ R'⟩, by
        have := hμ a' w' n' σ3 hi3 (hwk _ _ _ R')
        omega⟩
    | exit id => exact hq
    | ret => exact hq
    | goto l => exact hq
    | panic ch => exact hq
    | outgrown => exact hq
  | .exit id, σ, K, a, w, hk, R => wp_exit ⟨σ, hk, R⟩
  | .ret, σ, K, a, w, hk, R => wp_ret ⟨σ, hk, R⟩
  | .rangeFunc .., _, _, _, _, hk, _ => hk.elim
  | .scope _, _, _, _, _, hk, _ => hk.elim
  | .label _, _, _, _, _, hk, _ => hk.elim
  | .goto _, _, _, _, _, hk, _ => hk.elim
  | .refuse _, _, _, _, _, hk, _ => hk.elim
end
end Go.AM

/- The abstract machine, part K: a contract from the executor; states made smaller. No condition. -/
namespace Go.AM
open Go Go.RowKit

/-! ### A state made smaller: slots, objects forgotten; numbers of objects taken back -/
def idB (n : Nat) : Id → Bool
  | .loc k => Nat.blt k n
  | .ext _ => true
def allB {α : Type} (p : α → Bool) : List α → Bool
  | [] => true
  | x :: r => match p x with
    | true => allB p r
    | false => false
def cvB (n : Nat) : CV → Bool
  | .ptr i _ => idB n i
  | .fn _ cap => allB (idB n) cap
  | .lst i _ _ _ => idB n i
  | .sl i _ => idB n i
  | .map i => idB n i
  | _ => true
def v1B (n : Nat) : V1 → Bool
  | .d _ => true
  | .c x => cvB n x
  | .agg cs => allB (cvB n) cs
def avB (n : Nat) : AV → Bool
  | .u => true
  | .v x => v1B n x
  | .t xs => allB (v1B n) xs
def objB (n : Nat) : AObj → Bool
  | .cells cs => allB (cvB n) cs
  | .tok .. => true
  | .map _ _ es => allB (fun e => v1B n e.2) es

theorem allB_iff {α : Type} {p : α → Bool} {l : List α} : allB p l = true ↔ ∀ x ∈ l, p x = true := by
  induction l with
  | nil => simp [allB]
  | cons x l ih =>
    unfold allB
    cases h : p x <;> simp [h, ih]

theorem map_same {α : Type} {f : α → α} {l : List α} (h : ∀ x ∈ l, f x = x) : l.map f = l := by
  induction l with
  | nil => rfl
  | cons x l ih => simp [h x (by simp), ih (fun y hy => h y (by simp [hy]))]

section
variable {n N : Nat}
def low (n N : Nat) : Id → Id
  | .loc k => if k < n then .loc k else .loc N
  | .ext j => .ext j
theorem low_id {i : Id} (h : idB n i = true) : low n N i = i := by
  cases i with
  | ext j => rfl
  | loc k =>
    have : k < n := by simpa [idB] using h
    simp [low, this]
theorem low_cv {c : CV} (h : cvB n c = true) : c.ren (low n N) = c := by
  cases c <;> simp only [CV.ren, cvB] at h ⊢
  · rw [low_id h]
  · congr 1
    rw [allB_iff] at h
    exact map_same fun i hi => low_id (h i hi)
  · rw [low_id h]
  · rw [low_id h]
  · rw [low_id h]
theorem low_v1 {c : V1} (h : v1B n c = true) : c.ren (low n N) = c := by
  cases c <;> simp only [V1.ren, v1B] at h ⊢
  · rw [low_cv h]
  · congr 1
    rw [allB_iff] at h
    exact map_same fun i hi => low_cv (h i hi)
theorem low_av {c : AV} (h : avB n c = true) : c.ren (low n N) = c := by
  cases c <;> simp only [AV.ren, avB] at h ⊢
  · rw [low_v1 h]
  · congr 1
    rw [allB_iff] at h
    exact map_same fun i hi => low_v1 (h i hi)
theorem low_obj {c : AObj} (h : objB n c = true) : c.ren (low n N) = c := by
  cases c <;> simp only [AObj.ren, objB] at h ⊢
  · congr 1
    rw [allB_iff] at h
    exact map_same fun i hi => low_cv (h i hi)
  · congr 1
    rw [allB_iff] at h
    exact map_same fun i hi => by rw [low_v1 (h i hi)]
end

/-- σ' holds a part of what σ holds, and no object from its own 'next' on. -/
def Part (σ σ' : St) : Prop :=
  (∀ t, getS σ'.slots t = .u ∨ getS σ'.slots t = getS σ.slots t) ∧ (∀ i o, getH σ'.heap i = some o → getH σ.heap i = some o) ∧
  (∀ t, avB σ'.next (getS σ'.slots t) = true) ∧ (∀ i o, getH σ'.heap i = some o → idB σ'.next i = true ∧ objB σ'.next o = true)

theorem weak_part {σ σ' : St} (h : Part σ σ') : Weak σ σ' := by
  obtain ⟨hs, hh, hb, ho⟩ := h
  rintro C a w ⟨g, R⟩
  let N := max σ.next σ'.next
  let r := low σ'.next N
  let g' : Ghost := fun i => g (r i)
  have hN := R.free N (Nat.le_max_left _ _)
  have hz : ∀ b o, zone g' (getH σ'.heap) b o → zone g (getH σ.heap) b o := by
    rintro b o ⟨i, ob, hi, h1⟩
    refine ⟨i, ob, hh i ob hi, ?_⟩
    have : g' i = g i := by show g (low _ _ i) = g i; rw [low_id (ho i ob hi).1]
    rw [← this]; exact h1
  have hzz : ∀ b o, zor (zone g' (getH σ'.heap)) C.X b o → zor (zone g (getH σ.heap)) C.X b o := fun b o hx => hx.imp (hz b o) id
  have ht : ∀ i n sz e, getH σ'.heap i = some (.tok n sz e) → getH σ.heap (r i) = some (.tok n sz e) := by
    intro i n sz e hi
    rw [show r i = i from low_id (ho i _ hi).1]
    exact hh i _ hi
  refine ⟨g', R.size, R.defers, fun t => ?_, ⟨fun i o hi => ?_, fun i j oi oj b hi hj bi bj => ?_, fun i oi b o hi bi => ?_⟩, R.frame, fun j => R.ext j, fun n o b hn hb' => ?_, fun j ob b o hj hz' => ?_, R.xs, fun n hn => ⟨?_, ?_⟩⟩
  · rcases hs t with e | e
    · rw [e]; trivial
    · have := R.slots t
      rw [← e, ← low_av (N := N) (hb t)] at this
      exact RelAV.pull (r := r) hzz (fun _ => rfl) ht this
  · have h1 := R.heap.objs i o (hh i o hi)
    rw [← low_obj (N := N) (ho i o hi).2] at h1
    have := RelObj.pull (r := r) (g' := g') hzz (fun _ => rfl) ht h1
    rw [show g' i = g i from by show g (low _ _ i) = g i; rw [low_id (ho i o hi).1]]
    exact this
  · have e1 : g' i = g i := by show g (low _ _ i) = g i; rw [low_id (ho i oi hi).1]
    have e2 : g' j = g j := by show g (low _ _ j) = g j; rw [low_id (ho j oj hj).1]
    rw [e1] at bi
    rw [e2] at bj
    exact R.heap.sep i j oi oj b (hh i oi hi) (hh j oj hj) bi bj
  · have e1 : g' i = g i := by show g (low _ _ i) = g i; rw [low_id (ho i oi hi).1]
    rw [e1] at bi
    exact R.heap.apart i oi b o (hh i oi hi) bi
  · have e1 : g' (.loc n) = g (.loc n) := by show g (low _ _ _) = _; rw [low_id (ho _ o hn).1]
    rw [e1] at hb'
    exact R.own n o b (hh _ o hn) hb'
  · exact R.outer j ob b o (hh _ ob hj) hz'
  · have : ¬ n < σ'.next := by omega
    show g (low _ _ (.loc n)) = undef
    simp only [low, if_neg this]
    exact hN.1
  · cases hc : getH σ'.heap (.loc n) with
    | none => rfl
    | some o =>
      have := (ho _ o hc).1
      simp [idB] at this
      omega

/-- The same, reckoned: keep these slots, these objects, number on from n. -/
def keepS (l : List (Nat × AV)) : List Nat → List (Nat × AV)
  | [] => []
  | k :: ks => (k, getS l k) :: keepS l ks
def keepH (l : List (Id × AObj)) : List Id → Option (List (Id × AObj))
  | [] => some []
  | i :: is => match getH l i with
    | some o => match keepH l is with
      | some r => some ((i, o) :: r)
      | none => none
    | none => none
def keep (ks : List Nat) (is : List Id) (n : Nat) (σ : St) (K : St → Prop) : Prop :=
  match keepH σ.heap is with
  | none => False
  | some hp => req (allB (fun x => avB n x.2) (keepS σ.slots ks)) <| req (allB (fun x : Id × AObj => match idB n x.1 with | true => objB n x.2 | false => false) hp) <|
      K ⟨keepS σ.slots ks, hp, n⟩

theorem keepS_get {l : List (Nat × AV)} {ks : List Nat} (t : Nat) : getS (keepS l ks) t = .u ∨ getS (keepS l ks) t = getS l t := by
  induction ks with
  | nil => exact .inl rfl
  | cons k ks ih =>
    show getS ((k, getS l k) :: keepS l ks) t = _ ∨ getS ((k, getS l k) :: keepS l ks) t = _
    rw [getS_cons]
    simp only []
    split
    · subst t; exact .inr rfl
    · exact ih
theorem getS_all {p : AV → Bool} (hu : p .u = true) {l : List (Nat × AV)} (h : allB (fun x => p x.2) l = true) (t : Nat) : p (getS l t) = true := by
  induction l with
  | nil => exact hu
  | cons x l ih =>
    obtain ⟨k, v⟩ := x
    rw [allB_iff] at h
    rw [getS_cons]
    simp only []
    split
    · exact h (k, v) (by simp)
    · exact ih (allB_iff.2 fun x hx => h x (by simp [hx]))
theorem keepH_get {l : List (Id × AObj)} : ∀ {is : List Id} {r : List (Id × AObj)}, keepH l is = some r → ∀ i o, getH r i = some o → getH l i = some o ∧ (i, o) ∈ r
  | [], r, h, i, o, hi => by simp [keepH] at h; subst h; simp [getH] at hi
  | j :: is, r, h, i, o, hi => by
    unfold keepH at h
    split at h
    · rename_i o' ho
      split at h
      · rename_i r' hr
        simp at h
        subst h
        rw [getH_cons] at hi
        simp only [updO] at hi
        split at hi
        · simp at hi
          subst hi
          subst i
          exact ⟨ho, by simp⟩
        · obtain ⟨h1, h2⟩ := keepH_get hr i o hi
          exact ⟨h1, by simp [h2]⟩
      · simp at h
    · simp at h

theorem keep_weak {ks : List Nat} {is : List Id} {n : Nat} {σ : St} {K : St → Prop} (h : keep ks is n σ K) : ∃ σ', Weak σ σ' ∧ K σ' := by
  unfold keep at h
  split at h
  · exact h.elim
  · rename_i hp hhp
    obtain ⟨h1, h⟩ := req_iff.1 h
    obtain ⟨h2, h⟩ := req_iff.1 h
    refine ⟨_, weak_part ⟨fun t => keepS_get t, fun i o hi => (keepH_get hhp i o hi).1, fun t => getS_all rfl h1 t, fun i o hi => ?_⟩, h⟩
    have := allB_iff.1 h2 _ (keepH_get hhp i o hi).2
    simp only [] at this
    split at this
    · rename_i hb; exact ⟨hb, this⟩
    · simp at this

/-! ### A contract from the executor -/
def slotsOf : List V1 → Nat → List (Nat × AV)
  | [], _ => []
  | x :: r, i => (i, .v x) :: slotsOf r (i + 1)
def extsOf : List AObj → Nat → List (Id × AObj)
  | [], _ => []
  | x :: r, i => (.ext i, x) :: extsOf r (i + 1)

theorem slotsOf_get : ∀ (l : List V1) (i t : Nat), getS (slotsOf l i) t = .u ∨ ∃ x, i ≤ t ∧ l[t - i]? = some x ∧ getS (slotsOf l i) t = .v x
  | [], i, t => .inl rfl
  | x :: r, i, t => by
    show getS ((i, .v x) :: slotsOf r (i + 1)) t = _ ∨ ∃ y, i ≤ t ∧ (x :: r)[t - i]? = some y ∧ getS ((i, .v x) :: slotsOf r (i + 1)) t = .v y
    rw [getS_cons]
    simp only []
    split
    · subst t; exact .inr ⟨x, Nat.le_refl _, by simp, rfl⟩
    · rcases slotsOf_get r (i + 1) t with h | ⟨y, h1, h2, h3⟩
      · exact .inl h
      · refine .inr ⟨y, by omega, ?_, h3⟩
        rw [show t - i = (t - (i + 1)) + 1 from by omega]
        simpa using h2
theorem extsOf_get : ∀ (l : List AObj) (i : Nat) (x : Id) (o : AObj), getH (extsOf l i) x = some o → ∃ j, x = .ext j ∧ i ≤ j ∧ l[j - i]? = some o
  | [], i, x, o, h => by simp [extsOf, getH] at h
  | y :: r, i, x, o, h => by
    rw [show extsOf (y :: r) i = (.ext i, y) :: extsOf r (i + 1) from rfl, getH_cons] at h
    simp only [updO] at h
    split at h
    · simp at h; subst h; subst x; exact ⟨i, rfl, Nat.le_refl _, by simp⟩
    · obtain ⟨j, h1, h2, h3⟩ := extsOf_get r (i + 1) x o h
      refine ⟨j, h1, by omega, ?_⟩
      rw [show j - i = (j - (i + 1)) + 1 from by omega]
      simpa using h3
theorem extsOf_ext : ∀ (l : List AObj) (i j : Nat), getH (extsOf l i) (.ext (i + j)) = l[j]?
  | [], i, j => by simp [extsOf, getH]
  | y :: r, i, j => by
    rw [show extsOf (y :: r) i = (.ext i, y) :: extsOf r (i + 1) from rfl, getH_cons]
    simp only [updO]
    cases j with
    | zero => simp
    | succ j =>
      rw [if_neg (by simp), show i + (j + 1) = i + 1 + j from by omega, extsOf_ext r (i + 1) j]
      simp

/-- What the results are. -/
def withRes (ti : Types) (σ : St) : List ResultVar → (List V1 → Prop) → Prop
  | [], K => K []
  | .tmp t :: r, K => withV (getS σ.slots t) fun x => withRes ti σ r fun xs => K (x.norm :: xs)
  | .cell a t :: r, K => outLoad ti t (getS σ.slots a) (getH σ.heap) fun out => withV out.val fun x => withRes ti σ r fun xs => K (x.norm :: xs)

def mkRes : List V1 → AV
  | [x] => .v x
  | xs => .t xs

def renN (nm : List Nat) (N : Nat) : Id → Id
  | .ext j => .ext j
  | .loc k => match nm[k]? with
    | some n => .loc n
    | none => .loc N

def postOK (h : Heap) (r : Id → Id) : List AObj → Nat → Prop
  | [], _ => True
  | o :: l, j => h (.ext j) = some (o.ren r) ∧ postOK h r l (j + 1)
def newOK (h : Heap) (r : Id → Id) : List AObj → List Nat → Prop
  | [], [] => True
  | o :: l, n :: nm => h (.loc n) = some (o.ren r) ∧ newOK h r l nm
  | _, _ => False

def Fin' (ti : Types) (rs : List ResultVar) (σ : St) (res : AV) (post new : List AObj) : Prop :=
  withRes ti σ rs fun xs => ∃ nm : List Nat, nm.Nodup ∧ mkRes xs = res.ren (renN nm σ.next) ∧ postOK (getH σ.heap) (renN nm σ.next) post 0 ∧ newOK (getH σ.heap) (renN nm σ.next) new nm

theorem postOK_get {h : Heap} {r : Id → Id} : ∀ {l : List AObj} {i j : Nat} {o : AObj}, postOK h r l i → l[j]? = some o → h (.ext (i + j)) = some (o.ren r)
  | o :: l, i, 0, _, hp, hj => by simp at hj; subst hj; exact hp.1
  | o :: l, i, j + 1, _, hp, hj => by
    simp at hj
    have := postOK_get (j := j) hp.2 hj
    rw [show i + (j + 1) = i + 1 + j from by omega]
    exact this
theorem newOK_get {h : Heap} {r : Id → Id} : ∀ {l : List AObj} {nm : List Nat} {j : Nat} {o : AObj}, newOK h r l nm → l[j]? = some o → ∃ n, nm[j]? = some n ∧ h (.loc n) = some (o.ren r)
  | o :: l, n :: nm, 0, _, hp, hj => by simp at hj; subst hj; exact ⟨n, rfl, hp.1⟩
  | o :: l, n :: nm, j + 1, _, hp, hj => by
    simp at hj
    obtain ⟨m, h1, h2⟩ := newOK_get (j := j) hp.2 hj
    exact ⟨m, by simpa using h1, h2⟩
  | [], [], j, _, _, hj => by simp at hj
  | [], _ :: _, _, _, hp, _ => hp.elim
  | _ :: _, [], _, _, hp, _ => hp.elim
theorem newOK_len {h : Heap} {r : Id → Id} : ∀ {l : List AObj} {nm : List Nat}, newOK h r l nm → nm.length = l.length
  | o :: l, n :: nm, hp => by simp [newOK_len hp.2]
  | [], [], _ => rfl
  | [], _ :: _, hp => hp.elim
  | _ :: _, [], hp => hp.elim

section
variable {C : Cx} {ti : Types} {σ : St} {g : Ghost} {a : Act} {w : World} {F : Nat → Prop}

/-- One load, whatever the operation: the place's value. -/
theorem loadVal (hti : TIok C.P ti) (h1 : TIone ti) (R : RelS C F (getS σ.slots) (getH σ.heap) g a w) {p : Tmp} {t : TypeId} {k : Out → Prop}
    (hk : outLoad ti t (getS σ.slots p) (getH σ.heap) k) : ∃ out v ad, k out ∧ a.tmps.getD p undef = .pointer (some ad) ∧ (loadVar t ad).run C.P w = .ok v w ∧ RelAV w (zor (zone g (getH σ.heap)) C.X) g (getH σ.heap) out.val v := by
  obtain ⟨out, hko, _, H⟩ := load_core (C := C) hti h1 t _ hk
  obtain ⟨v, hv, hr⟩ := H F _ _ g a w _ R (R.slots p) (fun _ _ => rfl)
  refine ⟨out, v, ?_⟩
  revert hv
  generalize a.tmps.getD p undef = u
  intro hv
  cases u with
  | pointer ad =>
    cases ad with
    | none => simp [Instr.loadAt, Instr.sureAddr] at hv
    | some ad => exact ⟨ad, hko, rfl, by simpa [Instr.loadAt, Instr.sureAddr] using hv, hr⟩
  | _ => simp [Instr.loadAt, Instr.sureAddr] at hv

def oneRes (tmps : Array Value) : ResultVar → Sem Value
  | .tmp t => pure (tmps.getD t undef)
  | .cell a t => do loadVar t (← asAddr (tmps.getD a undef))

theorem withRes_sound (hti : TIok C.P ti) (h1 : TIone ti) (R : RelS C F (getS σ.slots) (getH σ.heap) g a w) : ∀ (rs : List ResultVar) (K : List V1 → Prop), withRes ti σ rs K →
    ∃ xs vs, K xs ∧ (rs.mapM (oneRes a.tmps)).run C.P w = .ok vs w ∧ vs.length = xs.length ∧ ∀ (j : Nat) x v, xs[j]? = some x → vs[j]? = some v → RelV1 w (zor (zone g (getH σ.heap)) C.X) g (getH σ.heap) x v
  | [], K, hk => ⟨[], [], hk, rfl, rfl, by simp⟩
  | .tmp t :: r, K, hk => by
    obtain ⟨y, hy, hk⟩ := withV_iff.1 hk
    obtain ⟨xs, vs, h2, h3, h4, h5⟩ := withRes_sound hti h1 R r _ hk
    refine ⟨y.norm :: xs, a.tmps.getD t undef :: vs, h2, by simp [List.mapM_cons, oneRes, h3], by simp [h4], fun j x v hx hv => ?_⟩
    match j with
    | 0 =>
      simp only [List.getElem?_cons_zero, Option.some.injEq] at hx hv
      subst hx; subst hv
      have := R.slots t
      rw [hy] at this
      exact RelV1.norm this
    | j + 1 => simp at hx hv; exact h5 j x v hx hv
  | .cell p t :: r, K, hk => by
    obtain ⟨out, v0, ad, hk, hp, hl, hr⟩ := loadVal hti h1 R hk
    obtain ⟨y, hy, hk⟩ := withV_iff.1 hk
    obtain ⟨xs, vs, h2, h3, h4, h5⟩ := withRes_sound hti h1 R r _ hk
    refine ⟨y.norm :: xs, v0 :: vs, h2, by simp only [List.mapM_cons, oneRes, hp, asAddr]; simp [hl, h3], by simp [h4], fun j x v hx hv => ?_⟩
    match j with
    | 0 =>
      simp only [List.getElem?_cons_zero, Option.some.injEq] at hx hv
      subst hx; subst hv
      rw [hy] at hr
      exact RelV1.norm hr
    | j + 1 => simp at hx hv; exact h5 j x v hx hv

theorem results_run {fn : Func} {vs : List Value} (h : (fn.results.toList.mapM (oneRes a.tmps)).run C.P w = .ok vs w) :
    (results fn a.tmps).run C.P w = .ok (if h : vs.toArray.size = 1 then vs.toArray[0] else .tuple vs.toArray) w := by
  have e : results fn a.tmps = (do let vs ← fn.results.mapM (oneRes a.tmps); pure (if h : vs.size = 1 then vs[0] else .tuple vs)) := by
    unfold results
    congr 1
  rw [e, Array.mapM_eq_mapM_toList, Sem.run_bind, Sem.run_map, h]
  rfl

end

def Mach.of (P : Program) : Mach where
  P := P
  split := fun c A => A c
  split_iff := fun _ _ => Iff.rfl
  lock := fun p => p ()
  lock_iff := fun _ => Iff.rfl
  eqI := fun a b => a == b
  eqI_eq := fun _ _ => rfl
  ltI := fun a b => decide (a < b)
  ltI_eq := fun _ _ => rfl
  leI := fun a b => decide (a ≤ b)
  leI_eq := fun _ _ => rfl
  eqS := fun a b => a.toList == b.toList
  eqS_eq := fun _ _ => rfl
  ltS := fun a b => Op.bytesLess a.toList b.toList
  ltS_eq := fun _ _ => rfl
  lenI := fun l => l.length
  lenI_eq := fun _ => rfl
  szI := fun s => s.size
  szI_eq := fun _ => rfl

/-- The contract out of the executor. -/
theorem Trip.intro {P : Program} {ti : Types} (dr : Mach → Nat → Draw) (hti : TIok P ti) (h1 : TIone ti) (hdr : ∀ C : Cx, C.P = P → DrawOK C (dr C.M C.nt)) {f : FuncId} {fn : Func} {c : Code} (hf : P.funcs[f]? = some fn) (hb : fn.body = some c)
    (hname : (fn.name == "runtime.NumGoroutine") = false) {args : List V1} {pre post new : List AObj} {res : AV} (hargs : args.length ≤ fn.ntmps)
    (hx : ∀ M : Mach, M.P = P → exec M ti fn.ntmps (dr M fn.ntmps) c ⟨slotsOf args 0, extsOf pre 0, 0⟩ fun e σ => match e with
      | .exit _ => False
      | .normal => Fin' ti fn.results.toList σ res post new
      | .ret => Fin' ti fn.results.toList σ res post new) : Trip P f args pre res post new := by
  refine ⟨⟨fn, c, hf, hb, hname⟩, ?_⟩
  intro w X g vals hX RH hg hsz hargs'
  let C : Cx := ⟨Mach.of P, fn.ntmps, w, zone g (heapOf pre), X, g⟩
  have hh : getH (extsOf pre 0) = heapOf pre := by
    funext i
    cases i with
    | ext j => have := extsOf_ext pre 0 j; rw [Nat.zero_add] at this; exact this
    | loc n =>
      cases hc : getH (extsOf pre 0) (.loc n) with
      | none => rfl
      | some o => obtain ⟨j, e, _⟩ := extsOf_get pre 0 _ o hc; simp at e
  have R0 : RelS C (fun n => 0 ≤ n) (getS (slotsOf args 0)) (getH (extsOf pre 0)) g { tmps := vals ++ Array.replicate (fn.ntmps - vals.size) undef, defers := [] } w := by
    rw [hh]
    refine ⟨by simp [C]; omega, rfl, fun t => ?_, RH, Frame'.refl _ _, fun _ => rfl, fun n o b hn => by simp [heapOf] at hn, fun j ob b o hj hz => ⟨_, _, hj, hz⟩, hX, fun n _ => ⟨hg n, rfl⟩⟩
    rcases slotsOf_get args 0 t with h | ⟨x, _, h2, h3⟩
    · rw [h]; trivial
    · rw [h3]
      simp only [Nat.sub_zero] at h2
      have hlt : t < vals.size := by rw [hsz]; exact (List.getElem?_eq_some_iff.1 h2).1
      have : (vals ++ Array.replicate (fn.ntmps - vals.size) undef).getD t undef = vals[t] := by
        simp [Array.getElem?_append, hlt]
      show RelV1 w _ g _ x ((vals ++ Array.replicate (fn.ntmps - vals.size) undef).getD t undef)
      rw [this]
      exact hargs' t x _ h2 (by simp [hlt])
  refine calls_of_wp hf hb (wp_mono (exec_sound (C := C) hti h1 (hdr C rfl) c _ _ _ w (hx (Mach.of P) rfl) ⟨g, R0⟩) ?_)
  have fin : ∀ (σ : St) (a' : Act) (w' : World), Fin' ti fn.results.toList σ res post new → RelSt C σ a' w' →
      a'.defers = [] ∧ ∃ v, (results fn a'.tmps).run P w' = .ok v w' ∧ ∃ v' g', Ending.returned v = .returned v' ∧ CallPost w X g pre res post new v' w' g' := by
    rintro σ a' w' hfin ⟨g2, R2⟩
    obtain ⟨xs, vs, ⟨nm, hnd, hres, hpost, hnewo⟩, hrun, hlen, hrel⟩ := withRes_sound (C := C) hti h1 R2 _ _ hfin
    refine ⟨R2.defers, _, results_run (C := C) hrun, _, fun i => g2 (renN nm σ.next i), rfl, ?_⟩
    have hz : ∀ b o, zor (zone (fun i => g2 (renN nm σ.next i)) (heapOf2 post new)) X b o → zor (zone g2 (getH σ.heap)) X b o := by
      rintro b o (⟨i, ob, hi, h1⟩ | hx)
      · cases i with
        | ext j => exact .inl ⟨.ext j, _, by simpa using postOK_get hpost hi, zone1_ren.2 h1⟩
        | loc k =>
          obtain ⟨n, hn, ho⟩ := newOK_get hnewo hi
          refine .inl ⟨.loc n, _, ho, zone1_ren.2 ?_⟩
          simpa [renN, hn] using h1
      · exact .inr hx
    have live : ∀ i o, heapOf2 post new i = some o → getH σ.heap (renN nm σ.next i) = some (o.ren (renN nm σ.next)) := by
      intro i o hi
      cases i with
      | ext j => have := postOK_get hpost hi; rw [Nat.zero_add] at this; exact this
      | loc k =>
        obtain ⟨n, hn, ho⟩ := newOK_get hnewo hi
        simpa [renN, hn] using ho
    have ht : ∀ i n sz e, heapOf2 post new i = some (.tok n sz e) → getH σ.heap (renN nm σ.next i) = some (.tok n sz e) := fun i n sz e hi => live i _ hi
    have hN := R2.free σ.next (Nat.le_refl _)
    refine ⟨⟨fun i o hi => ?_, fun i j oi oj b hi hj bi bj => ?_, fun i oi b o hi bi => R2.heap.apart _ _ b o (live i oi hi) bi⟩, ?_, R2.frame, fun j => R2.ext j, fun k b hb => ?_, fun k hk => ?_⟩
    · exact RelObj.pull (r := renN nm σ.next) hz (fun _ => rfl) ht (R2.heap.objs _ _ (live i o hi))
    · have e := R2.heap.sep _ _ _ _ b (live i oi hi) (live j oj hj) bi bj
      cases i with
      | ext i =>
        cases j with
        | ext j => simpa [renN] using e
        | loc k =>
          obtain ⟨n, hn, _⟩ := newOK_get hnewo hj
          simp [renN, hn] at e
      | loc k =>
        obtain ⟨n, hn, _⟩ := newOK_get hnewo hi
        cases j with
        | ext j => simp [renN, hn] at e
        | loc k' =>
          obtain ⟨n', hn', _⟩ := newOK_get hnewo hj
          simp only [renN, hn, hn', Id.loc.injEq] at e
          subst e
          rw [(List.getElem?_inj (List.getElem?_eq_some_iff.1 hn).1 hnd).1 (hn.trans hn'.symm)]
    · refine RelAV.pull (r := renN nm σ.next) (g := g2) (h := getH σ.heap) hz (fun _ => rfl) ht ?_
      rw [← hres]
      have other : xs.length ≠ 1 → RelAV w' (zor (zone g2 (getH σ.heap)) X) g2 (getH σ.heap) (.t xs) (.tuple vs.toArray) := fun _ =>
        ⟨vs.toArray, rfl, by simpa using hlen, fun j x v hx hv => hrel j x v hx (by simpa using hv)⟩
      match xs, vs, hlen, hrel, other with
      | [x], [v], _, hrel, _ => exact hrel 0 x v rfl rfl
      | [], [], _, _, other => exact other (by simp)
      | x :: y :: xs, v :: u :: vs, hl, _, other =>
        have : ¬ (v :: u :: vs).toArray.size = 1 := by simp
        simp only [dif_neg this]
        exact other (by simp)
    · revert hb
      show blk (g2 (renN nm σ.next (.loc k))) = some b → _
      cases hn : nm[k]? with
      | none => simp only [renN, hn]; rw [hN.1]; simp [undef, blk]
      | some n =>
        simp only [renN, hn]
        intro hb
        have hlt : k < new.length := by rw [← newOK_len hnewo]; exact (List.getElem?_eq_some_iff.1 hn).1
        obtain ⟨n', hn', ho⟩ := newOK_get (j := k) (o := new[k]) hnewo (by simp [hlt])
        rw [hn] at hn'
        obtain rfl : n = n' := by simpa using hn'
        exact R2.own n _ b ho hb
    · show g2 (renN nm σ.next (.loc k)) = undef
      have : nm[k]? = none := by simp [newOK_len hnewo]; omega
      simp only [renN, this]
      exact hN.1
  intro e a' w' hq
  cases e with
  | normal => obtain ⟨σ, hf', hr⟩ := hq; exact fin σ a' w' hf' hr
  | ret => obtain ⟨σ, hf', hr⟩ := hq; exact fin σ a' w' hf' hr
  | exit id => obtain ⟨σ, hf', hr⟩ := hq; exact hf'.elim
  | goto l => exact hq.elim
  | panic ch => exact hq.elim
  | outgrown => exact hq.elim
end Go.AM

/- The abstract machine, part L: tables of types. No condition. -/
namespace Go.AM
open Go Go.RowKit

def zrelB : CV → Value → Bool
  | .d (.int k n), .int k' m => decide (k = k') && decide (n = m)
  | .d (.bool b), .bool b' => b == b'
  | .d (.str s), .string s' => s.data.toList.isEmpty && s'.data.toList.isEmpty
  | .nils _ _, .slice none 0 0 => true
  | .nilp, .pointer none => true
  | .nilf, .nilFunc => true
  | .nilm, .map none => true
  | _, _ => false
def zrels : List CV → List Value → Bool
  | [], [] => true
  | c :: cs, v :: vs => zrelB c v && zrels cs vs
  | _, _ => false

def Good (P : Program) (t : TypeId) (x : TI) : Prop :=
  P.underlying t = some x.desc ∧ (P.info? t).map (fun i => (i.size, i.bytes, i.zero)) = some (x.size, x.bytes, some x.zero) ∧
  (zrels x.zc x.zero.cells.toList && (Nat.beq x.zc.length x.size && (rowD x.desc || Nat.beq x.size 1))) = true

def allGood (P : Program) : List (Nat × TI) → Prop
  | [] => True
  | p :: l => Good P p.1 p.2 ∧ allGood P l
def allGoods (P : Program) : List (List (Nat × TI)) → Prop
  | [] => True
  | p :: l => allGood P p ∧ allGoods P l

def assoc : List (Nat × TI) → Nat → Option TI
  | [], _ => none
  | (k, x) :: l, t => match Nat.beq k t with
    | true => some x
    | false => assoc l t
def nth {α : Type} : List (List α) → Nat → List α
  | [], _ => []
  | x :: l, n => match n with
    | 0 => x
    | n + 1 => nth l n
def tabOf (l : List (List (Nat × TI))) : Types := fun t => assoc (nth l (t / 16)) t

theorem zrelB_ok {c : CV} {v : Value} (h : zrelB c v = true) : ZRel c v := by
  unfold zrelB at h
  split at h
  · simp at h; exact h
  · simpa [ZRel] using h
  · simp only [Bool.and_eq_true, List.isEmpty_iff] at h
    have e : ∀ s : ByteArray, s.data.toList = [] → s = ByteArray.empty := by
      intro s hs
      apply ByteArray.ext
      apply Array.ext'
      rw [hs]; rfl
    rw [e _ h.1, e _ h.2]; rfl
  · trivial
  · trivial
  · trivial
  · trivial
  · simp at h
theorem zrels_ok : ∀ {cs : List CV} {vs : List Value}, zrels cs vs = true → vs.length = cs.length ∧ ∀ (j : Nat) c u, cs[j]? = some c → vs[j]? = some u → ZRel c u
  | [], [], _ => ⟨rfl, by simp⟩
  | c :: cs, v :: vs, h => by
    simp only [zrels, Bool.and_eq_true] at h
    obtain ⟨h1, h2⟩ := zrels_ok h.2
    refine ⟨by simp [h1], fun j c' u hc hu => ?_⟩
    match j with
    | 0 => simp at hc hu; subst hc; subst hu; exact zrelB_ok h.1
    | j + 1 => simp at hc hu; exact h2 j c' u hc hu
  | [], _ :: _, h => by simp [zrels] at h
  | _ :: _, [], h => by simp [zrels] at h

theorem assoc_good {P : Program} : ∀ {l : List (Nat × TI)} {t : Nat} {x : TI}, allGood P l → assoc l t = some x → Good P t x
  | [], t, x, _, h => by simp [assoc] at h
  | (k, y) :: l, t, x, hg, h => by
    unfold assoc at h
    split at h
    · rename_i hb
      simp at h
      subst h
      have := Nat.eq_of_beq_eq_true hb
      subst this
      exact hg.1
    · exact assoc_good hg.2 h
theorem nth_good {P : Program} : ∀ {l : List (List (Nat × TI))} {n : Nat}, allGoods P l → allGood P (nth l n)
  | [], _, _ => trivial
  | x :: l, 0, h => h.1
  | x :: l, n + 1, h => nth_good (l := l) (n := n) h.2
theorem tabOf_good {P : Program} {l : List (List (Nat × TI))} (h : allGoods P l) {t : Nat} {x : TI} (hx : tabOf l t = some x) : Good P t x := assoc_good (nth_good h) hx

theorem tabOf_ok {P : Program} {l : List (List (Nat × TI))} (h : allGoods P l) : TIok P (tabOf l) := by
  intro t x hx
  obtain ⟨h1, h2, h3⟩ := tabOf_good h hx
  refine ⟨h1, ?_⟩
  simp only [Option.map_eq_some_iff] at h2
  obtain ⟨i, hi, he⟩ := h2
  simp only [Prod.mk.injEq] at he
  simp only [Bool.and_eq_true, Nat.beq_eq] at h3
  obtain ⟨z1, z2⟩ := zrels_ok h3.1
  refine ⟨i, hi, he.1, he.2.1, he.2.2, ?_, h3.2.1, fun j c u hc hu => z2 j c u hc (by simpa using hu)⟩
  rw [← h3.2.1, ← z1]
  simp
theorem tabOf_one {P : Program} {l : List (List (Nat × TI))} (h : allGoods P l) : TIone (tabOf l) := by
  intro t x hx hr
  obtain ⟨_, _, h3⟩ := tabOf_good h hx
  simp only [Bool.and_eq_true, Bool.or_eq_true, Nat.beq_eq] at h3
  rcases h3.2.2 with h4 | h4
  · rw [hr] at h4; simp at h4
  · exact h4
end Go.AM

/- The abstract machine, part M: a region that draws its order: one run in the order of the text serves, where operations that touch one thing are ordered. No condition. -/
namespace Go.AM
open Go Go.RowKit

/-! ### Which operations are ahead of which -/
def maskOf (acc : List Nat) : List Edge → Nat
  | [] => 0
  | e :: r => match Region.binds .any e with
    | true => Nat.lor (Nat.lor (2 ^ e.on) (acc.getD e.on 0)) (maskOf acc r)
    | false => maskOf acc r
def masks : List Oper → List Nat → List Nat
  | [], acc => acc
  | o :: r, acc => masks r (acc ++ [maskOf acc o.after.toList])

inductive Ahead (ops : List Oper) : Nat → Nat → Prop where
  | edge {i j : Nat} {o : Oper} {e : Edge} (hj : ops[j]? = some o) (he : e ∈ o.after.toList) (hb : Region.binds .any e = true) (hi : e.on = i) : Ahead ops i j
  | trans {i j k : Nat} (h1 : Ahead ops i j) (h2 : Ahead ops j k) : Ahead ops i k

theorem maskOf_bit {ops : List Oper} {acc : List Nat} {j : Nat} {o : Oper} (hj : ops[j]? = some o) (hacc : ∀ k i, (acc.getD k 0).testBit i = true → Ahead ops i k) :
    ∀ (l : List Edge), (∀ e ∈ l, e ∈ o.after.toList) → ∀ i, (maskOf acc l).testBit i = true → Ahead ops i j
  | [], _, i, h => by simp [maskOf] at h
  | e :: r, hl, i, h => by
    have ih := maskOf_bit hj hacc r (fun e he => hl e (List.mem_cons_of_mem _ he)) i
    unfold maskOf at h
    split at h
    · rename_i hb
      rw [show ∀ a b : Nat, Nat.lor a b = a ||| b from fun _ _ => rfl, show ∀ a b : Nat, Nat.lor a b = a ||| b from fun _ _ => rfl] at h
      simp only [Nat.testBit_or, Bool.or_eq_true, Nat.testBit_two_pow, decide_eq_true_eq] at h
      rcases h with (h | h) | h
      · exact .edge hj (hl e (by simp)) hb h
      · exact .trans (hacc _ i h) (.edge hj (hl e (by simp)) hb rfl)
      · exact ih h
    · exact ih h

theorem masks_bit {ops : List Oper} : ∀ (l : List Oper) (acc : List Nat), ops.drop acc.length = l → (∀ k i, (acc.getD k 0).testBit i = true → Ahead ops i k) →
    ∀ k i, ((masks l acc).getD k 0).testBit i = true → Ahead ops i k
  | [], acc, _, hacc, k, i, h => hacc k i h
  | o :: r, acc, hl, hacc, k, i, h => by
    have hj : ops[acc.length]? = some o := by
      have := congrArg (fun l => l[0]?) hl
      simpa using this
    refine masks_bit r (acc ++ [maskOf acc o.after.toList]) ?_ ?_ k i h
    · have := congrArg List.tail hl
      simpa using this
    · intro k i hk
      by_cases h1 : k < acc.length
      · refine hacc k i ?_
        simpa [List.getD, List.getElem?_append_left h1] using hk
      · by_cases h2 : k = acc.length
        · subst h2
          refine maskOf_bit hj hacc o.after.toList (fun e he => he) i ?_
          simpa [List.getD] using hk
        · have : (acc ++ [maskOf acc o.after.toList])[k]? = none := by simp; omega
          simp [List.getD, this] at hk

/-! ### What touches what -/
def tmpsOf : List Operand → List Nat
  | [] => []
  | .tmp t :: r => t :: tmpsOf r
  | _ :: r => tmpsOf r
def readsT (ops : Array Oper) (o : Oper) : List Nat :=
  tmpsOf o.op.operands.toList ++ (match o.guard with
    | some (j, _) => ((ops[j]?).bind (·.dst)).toList
    | none => [])
def meet (a b : List Nat) : Bool := a.any fun x => b.any fun y => Nat.beq x y
def meetI (a b : List Id) : Bool := a.any fun x => b.any fun y => Id.beq x y
def slotConf (ops : Array Oper) (a b : Oper) : Bool :=
  meet a.dst.toList (readsT ops b) || meet a.dst.toList b.dst.toList || meet (readsT ops a) b.dst.toList
abbrev Fp := List Id × List Id
def idConf (a b : Fp) : Bool := meetI a.2 b.1 || meetI a.2 b.2 || meetI a.1 b.2
def pairsOK (ops : Array Oper) (ms : List Nat) (l : List (Nat × Oper × Fp)) : Bool :=
  l.all fun x => l.all fun y => !(Nat.blt x.1 y.1) || !(slotConf ops x.2.1 y.2.1 || idConf x.2.2 y.2.2) || (ms.getD y.1 0).testBit x.1
def backOK : List Oper → Nat → Bool
  | [], _ => true
  | o :: r, i => o.after.toList.all (fun e => !(Region.binds .any e) || Nat.blt e.on i) && backOK r (i + 1)
def number : List Oper → List Fp → Nat → List (Nat × Oper × Fp)
  | o :: r, f :: fs, i => (i, o, f) :: number r fs (i + 1)
  | _, _, _ => []
def drawB (ops : Array Oper) (fps : List Fp) : Bool :=
  Nat.beq fps.length ops.size && (backOK ops.toList 0 && pairsOK ops (masks ops.toList []) (number ops.toList fps 0))

/-! ### The run -/
def drawOps (M : Mach) (ti : Types) (nt : Nat) (ops : Array Oper) (base : Nat) : List Oper → Nat → St → List Fp → (St → List Fp → Prop) → Prop
  | [], i, σ, fps, K => K ⟨σ.slots, σ.heap, base + 8 * i⟩ fps
  | o :: r, i, σ, fps, K => guarded ops o σ
      (fun σ1 => storeOK o <| dstOK nt o.dst <| opOut M ti o (base + 8 * i) (getS σ1.slots) (getH σ1.heap) fun out =>
        drawOps M ti nt ops base r (i + 1) ⟨putS σ1.slots o.dst out.val, setW σ1.heap out.wr, σ1.next⟩ (fps ++ [(out.rd, out.wr.map (·.1))]) K)
      (fun σ1 => dstOK nt o.dst (drawOps M ti nt ops base r (i + 1) ⟨putS σ1.slots o.dst (.t []), σ1.heap, σ1.next⟩ (fps ++ [([], [])]) K))

def execDraw (ti : Types) (M : Mach) (nt : Nat) (ops : Array Oper) (σ : St) (K : St → Prop) : Prop :=
  drawOps M ti nt ops σ.next ops.toList 0 σ [] fun σ' fps => M.lock (fun _ => drawB ops fps = true) ∧ K σ'

/-! ### Why it serves -/
structure Ent where
  o : Oper
  run : Bool
  val : AV
  rd : List Id
  wr : List (Id × AObj)

def guardIs (ops : Array Oper) (e : Ent) (s : Slots) : Prop :=
  match e.o.guard with
  | none => e.run = true
  | some (j, want) => ∃ d, (ops[j]?).bind (·.dst) = some d ∧ (s d = .v (.d (.bool (if e.run then want else !want))) ∨ (e.run = false ∧ s d = .t []))

def LexOK (C : Cx) (ops : Array Oper) (base : Nat) : List Ent → Nat → Slots → Heap → Prop
  | [], _, _, _ => True
  | e :: r, i, s, h => ops[i]? = some e.o ∧ (∀ d, e.o.dst = some d → d < C.nt) ∧ guardIs ops e s ∧ (e.run = true → OKop C e.o (base + 8 * i) s h ⟨e.val, e.rd, e.wr⟩) ∧
      (e.run = false → e.val = .t [] ∧ e.wr = [] ∧ e.rd = []) ∧ LexOK C ops base r (i + 1) (updS s e.o.dst e.val) (updW h e.wr)

def endS : List Ent → Slots → Slots
  | [], s => s
  | e :: r, s => endS r (updS s e.o.dst e.val)
def endH : List Ent → Heap → Heap
  | [], h => h
  | e :: r, h => endH r (updW h e.wr)

section
variable {C : Cx} {ti : Types}

theorem drawOps_ents (hti : TIok C.P ti) (h1 : TIone ti) {ops : Array Oper} {base : Nat} {K : St → List Fp → Prop} : ∀ (l : List Oper) (i : Nat) (σ : St) (fps : List Fp),
    ops.toList.drop i = l → drawOps C.M ti C.nt ops base l i σ fps K →
    ∃ (es : List Ent) (σ' : St), es.map (·.o) = l ∧ LexOK C ops base es i (getS σ.slots) (getH σ.heap) ∧ getS σ'.slots = endS es (getS σ.slots) ∧ getH σ'.heap = endH es (getH σ.heap) ∧
      σ'.next = base + 8 * (i + l.length) ∧ K σ' (fps ++ es.map fun e => (e.rd, e.wr.map (·.1)))
  | [], i, σ, fps, _, hk => ⟨[], ⟨σ.slots, σ.heap, base + 8 * i⟩, rfl, trivial, rfl, rfl, by simp, by simpa using (show K ⟨σ.slots, σ.heap, base + 8 * i⟩ fps from hk)⟩
  | o :: r, i, σ, fps, hl, hk => by
    have hi : ops[i]? = some o := by
      have := congrArg (fun l => l[0]?) hl
      simpa using this
    have hr : ops.toList.drop (i + 1) = r := by
      have := congrArg List.tail hl
      simpa using this
    have run : ∀ (g : guardIs ops ⟨o, true, .u, [], []⟩ (getS σ.slots)), (storeOK o <| dstOK C.nt o.dst <| opOut C.M ti o (base + 8 * i) (getS σ.slots) (getH σ.heap) fun out =>
        drawOps C.M ti C.nt ops base r (i + 1) ⟨putS σ.slots o.dst out.val, setW σ.heap out.wr, σ.next⟩ (fps ++ [(out.rd, out.wr.map (·.1))]) K) →
        ∃ (es : List Ent) (σ' : St), es.map (·.o) = o :: r ∧ LexOK C ops base es i (getS σ.slots) (getH σ.heap) ∧ getS σ'.slots = endS es (getS σ.slots) ∧ getH σ'.heap = endH es (getH σ.heap) ∧
          σ'.next = base + 8 * (i + (o :: r).length) ∧ K σ' (fps ++ es.map fun e => (e.rd, e.wr.map (·.1))) := by
      intro g hk
      obtain ⟨hst, hk⟩ := storeOK_iff hk
      obtain ⟨hd, hk⟩ := dstOK_iff.1 hk
      obtain ⟨out, hk, hok⟩ := opOut_sound hti h1 hst hk
      obtain ⟨es, σ', e1, e2, e3, e4, e5, e6⟩ := drawOps_ents hti h1 r (i + 1) _ _ hr hk
      rw [getS_putS] at e2 e3
      rw [getH_setW] at e2 e4
      refine ⟨⟨o, true, out.val, out.rd, out.wr⟩ :: es, σ', by simp [e1], ⟨hi, hd, g, fun _ => hok, fun e => by simp at e, e2⟩, e3, e4, by rw [e5]; simp; omega, ?_⟩
      simpa using e6
    have skip : ∀ (g : guardIs ops ⟨o, false, .t [], [], []⟩ (getS σ.slots)), (dstOK C.nt o.dst (drawOps C.M ti C.nt ops base r (i + 1) ⟨putS σ.slots o.dst (.t []), σ.heap, σ.next⟩ (fps ++ [([], [])]) K)) →
        ∃ (es : List Ent) (σ' : St), es.map (·.o) = o :: r ∧ LexOK C ops base es i (getS σ.slots) (getH σ.heap) ∧ getS σ'.slots = endS es (getS σ.slots) ∧ getH σ'.heap = endH es (getH σ.heap) ∧
          σ'.next = base + 8 * (i + (o :: r).length) ∧ K σ' (fps ++ es.map fun e => (e.rd, e.wr.map (·.1))) := by
      intro g hk
      obtain ⟨hd, hk⟩ := dstOK_iff.1 hk
      obtain ⟨es, σ', e1, e2, e3, e4, e5, e6⟩ := drawOps_ents hti h1 r (i + 1) _ _ hr hk
      rw [getS_putS] at e2 e3
      refine ⟨⟨o, false, .t [], [], []⟩ :: es, σ', by simp [e1], ⟨hi, hd, g, fun e => by simp at e, fun _ => ⟨rfl, rfl, rfl⟩, e2⟩, e3, e4, by rw [e5]; simp; omega, ?_⟩
      simpa using e6
    have hk' : guarded ops o σ _ _ := hk
    unfold guarded at hk'
    split at hk'
    · rename_i hg
      exact run (by simp [guardIs, hg]) hk'
    · rename_i j want hg
      split at hk'
      · exact hk'.elim
      · rename_i d hd
        split at hk'
        · rename_i c hc
          cases want <;> cases c
          · exact run (by simp only [guardIs, hg]; exact ⟨d, hd, .inl hc⟩) hk'
          · exact skip (by simp only [guardIs, hg]; exact ⟨d, hd, .inl hc⟩) hk'
          · exact skip (by simp only [guardIs, hg]; exact ⟨d, hd, .inl hc⟩) hk'
          · exact run (by simp only [guardIs, hg]; exact ⟨d, hd, .inl hc⟩) hk'
        · rename_i hc
          exact skip (by simp only [guardIs, hg]; exact ⟨d, hd, .inr ⟨trivial, hc⟩⟩) hk'
        · exact hk'.elim

/-! #### The state when the operations of a set S have been carried out -/
def setS (S : Nat → Bool) : List Ent → Nat → Slots → Slots
  | [], _, s => s
  | e :: r, i, s => setS S r (i + 1) (if S i then updS s e.o.dst e.val else s)
def setHp (S : Nat → Bool) : List Ent → Nat → Heap → Heap
  | [], _, h => h
  | e :: r, i, h => setHp S r (i + 1) (if S i then updW h e.wr else h)

theorem updS_at {s s' : Slots} {d : Option Tmp} {v : AV} {t : Nat} (h : d ≠ some t → s t = s' t) : updS s d v t = updS s' d v t := by
  cases d with
  | none => exact h (by simp)
  | some d =>
    simp only [updS]
    by_cases ht : t = d
    · simp [ht]
    · simp only [if_neg ht]; exact h (by simp; exact fun e => ht e.symm)
theorem updS_off {s : Slots} {d : Option Tmp} {v : AV} {t : Nat} (h : d ≠ some t) : updS s d v t = s t := by
  cases d with
  | none => rfl
  | some d =>
    simp only [updS]
    rw [if_neg]
    exact fun e => h (by rw [e])
theorem updW_at {h h' : Heap} {i : Id} : ∀ {wr : List (Id × AObj)}, (i ∉ wr.map (·.1) → h i = h' i) → updW h wr i = updW h' wr i := by
  intro wr
  induction wr generalizing h h' with
  | nil => intro hh; exact hh (by simp)
  | cons x wr ih =>
    intro hh
    refine ih fun hn => ?_
    simp only [updO]
    by_cases hi : i = x.1
    · simp [hi]
    · simp only [if_neg hi]
      exact hh (by simp [hi]; simpa using hn)

/-- Two sets that agree on all who write a slot leave the same there. -/
theorem setS_agree {S S' : Nat → Bool} {t : Nat} : ∀ (es : List Ent) (i : Nat) (s s' : Slots), s t = s' t → (∀ k e, es[k]? = some e → e.o.dst = some t → S (i + k) = S' (i + k)) →
    setS S es i s t = setS S' es i s' t
  | [], i, s, s', h, _ => h
  | e :: r, i, s, s', h, hw => by
    refine setS_agree r (i + 1) _ _ ?_ (fun k e' hk hd => by have := hw (k + 1) e' (by simpa using hk) hd; rw [show i + 1 + k = i + (k + 1) from by omega]; exact this)
    by_cases hd : e.o.dst = some t
    · have := hw 0 e rfl hd
      simp only [Nat.add_zero] at this
      rw [this]
      cases S' i
      · exact h
      · exact updS_at (fun _ => h)
    · cases S i <;> cases S' i <;> simp [updS_off hd, h]
theorem setHp_agree {S S' : Nat → Bool} {x : Id} : ∀ (es : List Ent) (i : Nat) (h h' : Heap), h x = h' x → (∀ k e, es[k]? = some e → x ∈ e.wr.map (·.1) → S (i + k) = S' (i + k)) →
    setHp S es i h x = setHp S' es i h' x
  | [], i, h, h', hh, _ => hh
  | e :: r, i, h, h', hh, hw => by
    refine setHp_agree r (i + 1) _ _ ?_ (fun k e' hk hd => by have := hw (k + 1) e' (by simpa using hk) hd; rw [show i + 1 + k = i + (k + 1) from by omega]; exact this)
    by_cases hd : x ∈ e.wr.map (·.1)
    · have := hw 0 e rfl hd
      simp only [Nat.add_zero] at this
      rw [this]
      cases S' i
      · exact hh
      · exact updW_at (fun _ => hh)
    · have e1 : updW h e.wr x = h x := updW_notin hd
      have e2 : updW h' e.wr x = h' x := updW_notin hd
      cases S i <;> cases S' i <;> simp [e1, e2, hh]

/-- One more is carried out, behind whom nobody of the set writes the same: as if it came last. -/
theorem setS_add {S S' : Nat → Bool} {t : Nat} {n : Nat} {en : Ent} : ∀ (es : List Ent) (i : Nat) (s : Slots), es[n]? = some en → S (i + n) = false → S' (i + n) = true → (∀ k, k ≠ i + n → S' k = S k) →
    (en.o.dst = some t → ∀ k e, es[k]? = some e → e.o.dst = some t → n < k → S (i + k) = false) → setS S' es i s t = updS (setS S es i s) en.o.dst en.val t
  | [], i, s, hn, _, _, _, _ => by simp at hn
  | e :: r, i, s, hn, h0, h1, hS, hb => by
    cases n with
    | zero =>
      simp at hn
      subst hn
      simp only [Nat.add_zero] at h0 h1
      show setS S' r (i + 1) (if S' i then updS s e.o.dst e.val else s) t = updS (setS S r (i + 1) (if S i then updS s e.o.dst e.val else s)) e.o.dst e.val t
      rw [h0, h1]
      simp only [if_true, Bool.false_eq_true, if_false]
      have same : ∀ s', setS S' r (i + 1) s' t = setS S r (i + 1) s' t := fun s' => setS_agree r (i + 1) s' s' rfl (fun k e' _ _ => hS _ (by omega))
      rw [same]
      by_cases hd : e.o.dst = some t
      · have none : ∀ s' : Slots, setS S r (i + 1) s' t = s' t := by
          intro s'
          have z : ∀ (l : List Ent) (m : Nat) (s' : Slots), (∀ k e, l[k]? = some e → e.o.dst = some t → S (m + k) = false) → setS S l m s' t = s' t := by
            intro l
            induction l with
            | nil => intro m s' _; rfl
            | cons e l ih =>
              intro m s' hz
              show setS S l (m + 1) (if S m then updS s' e.o.dst e.val else s') t = _
              rw [ih (m + 1) _ (fun k e' hk hd => by have := hz (k + 1) e' (by simpa using hk) hd; rw [show m + 1 + k = m + (k + 1) from by omega]; exact this)]
              by_cases hd : e.o.dst = some t
              · have := hz 0 e rfl hd
                simp only [Nat.add_zero] at this
                simp [this]
              · split
                · exact updS_off hd
                · rfl
          exact z r (i + 1) s' (fun k e' hk hd' => by
            have := hb hd (k + 1) e' (by simpa using hk) hd' (by omega)
            rw [show i + 1 + k = i + (k + 1) from by omega]; exact this)
        rw [none, hd]
        simp [updS]
      · rw [updS_off hd]
        exact setS_agree r (i + 1) _ _ (updS_off hd) (fun _ _ _ _ => rfl)
    | succ n =>
      have e1 : S' i = S i := hS i (by omega)
      show setS S' r (i + 1) (if S' i then updS s e.o.dst e.val else s) t = _
      rw [e1]
      refine setS_add r (i + 1) _ (by simpa using hn) (by rw [show i + 1 + n = i + (n + 1) from by omega]; exact h0) (by rw [show i + 1 + n = i + (n + 1) from by omega]; exact h1)
        (fun k hk => hS k (by omega)) (fun hd k e' hk hd' hlt => ?_)
      have := hb hd (k + 1) e' (by simpa using hk) hd' (by omega)
      rw [show i + 1 + k = i + (k + 1) from by omega]; exact this
theorem setHp_add {S S' : Nat → Bool} {x : Id} {n : Nat} {en : Ent} : ∀ (es : List Ent) (i : Nat) (s : Heap), es[n]? = some en → S (i + n) = false → S' (i + n) = true → (∀ k, k ≠ i + n → S' k = S k) →
    (x ∈ en.wr.map (·.1) → ∀ k e, es[k]? = some e → x ∈ e.wr.map (·.1) → n < k → S (i + k) = false) → setHp S' es i s x = updW (setHp S es i s) en.wr x
  | [], i, s, hn, _, _, _, _ => by simp at hn
  | e :: r, i, s, hn, h0, h1, hS, hb => by
    cases n with
    | zero =>
      simp at hn
      subst hn
      simp only [Nat.add_zero] at h0 h1
      show setHp S' r (i + 1) (if S' i then updW s e.wr else s) x = updW (setHp S r (i + 1) (if S i then updW s e.wr else s)) e.wr x
      rw [h0, h1]
      simp only [if_true, Bool.false_eq_true, if_false]
      have same : ∀ s', setHp S' r (i + 1) s' x = setHp S r (i + 1) s' x := fun s' => setHp_agree r (i + 1) s' s' rfl (fun k e' _ _ => hS _ (by omega))
      rw [same]
      by_cases hd : x ∈ e.wr.map (·.1)
      · have none : ∀ s' : Heap, setHp S r (i + 1) s' x = s' x := by
          intro s'
          have z : ∀ (l : List Ent) (m : Nat) (s' : Heap), (∀ k e, l[k]? = some e → x ∈ e.wr.map (·.1) → S (m + k) = false) → setHp S l m s' x = s' x := by
            intro l
            induction l with
            | nil => intro m s' _; rfl
            | cons e l ih =>
              intro m s' hz
              show setHp S l (m + 1) (if S m then updW s' e.wr else s') x = _
              rw [ih (m + 1) _ (fun k e' hk hd => by have := hz (k + 1) e' (by simpa using hk) hd; rw [show m + 1 + k = m + (k + 1) from by omega]; exact this)]
              by_cases hd : x ∈ e.wr.map (·.1)
              · have := hz 0 e rfl hd
                simp only [Nat.add_zero] at this
                simp [this]
              · split
                · exact updW_notin hd
                · rfl
          exact z r (i + 1) s' (fun k e' hk hd' => by
            have := hb hd (k + 1) e' (by simpa using hk) hd' (by omega)
            rw [show i + 1 + k = i + (k + 1) from by omega]; exact this)
        rw [none]
        exact updW_at (fun hn => absurd hd hn)
      · rw [updW_notin hd]
        exact setHp_agree r (i + 1) _ _ (updW_notin hd) (fun _ _ _ _ => rfl)
    | succ n =>
      have e1 : S' i = S i := hS i (by omega)
      show setHp S' r (i + 1) (if S' i then updW s e.wr else s) x = _
      rw [e1]
      refine setHp_add r (i + 1) _ (by simpa using hn) (by rw [show i + 1 + n = i + (n + 1) from by omega]; exact h0) (by rw [show i + 1 + n = i + (n + 1) from by omega]; exact h1)
        (fun k hk => hS k (by omega)) (fun hd k e' hk hd' hlt => ?_)
      have := hb hd (k + 1) e' (by simpa using hk) hd' (by omega)
      rw [show i + 1 + k = i + (k + 1) from by omega]; exact this

end
end Go.AM

/- The abstract machine, part N: a region that draws its order, the theorem. No condition. -/
namespace Go.AM
open Go Go.RowKit

section
variable {C : Cx} {ti : Types}

theorem setS_none {S : Nat → Bool} : ∀ (es : List Ent) (i : Nat) (s : Slots), (∀ k, i ≤ k → S k = false) → setS S es i s = s
  | [], _, _, _ => rfl
  | e :: r, i, s, h => by
    show setS S r (i + 1) (if S i then _ else s) = s
    rw [h i (Nat.le_refl _)]
    exact setS_none r (i + 1) s (fun k hk => h k (by omega))
theorem setHp_none {S : Nat → Bool} : ∀ (es : List Ent) (i : Nat) (s : Heap), (∀ k, i ≤ k → S k = false) → setHp S es i s = s
  | [], _, _, _ => rfl
  | e :: r, i, s, h => by
    show setHp S r (i + 1) (if S i then _ else s) = s
    rw [h i (Nat.le_refl _)]
    exact setHp_none r (i + 1) s (fun k hk => h k (by omega))
theorem setS_all {S : Nat → Bool} : ∀ (es : List Ent) (i : Nat) (s : Slots), (∀ k, k < es.length → S (i + k) = true) → setS S es i s = endS es s
  | [], _, _, _ => rfl
  | e :: r, i, s, h => by
    show setS S r (i + 1) (if S i then _ else s) = endS r _
    rw [show S i = true from h 0 (by simp)]
    exact setS_all r (i + 1) _ (fun k hk => by have := h (k + 1) (by simp; omega); rw [show i + 1 + k = i + (k + 1) from by omega]; exact this)
theorem setHp_all {S : Nat → Bool} : ∀ (es : List Ent) (i : Nat) (s : Heap), (∀ k, k < es.length → S (i + k) = true) → setHp S es i s = endH es s
  | [], _, _, _ => rfl
  | e :: r, i, s, h => by
    show setHp S r (i + 1) (if S i then _ else s) = endH r _
    rw [show S i = true from h 0 (by simp)]
    exact setHp_all r (i + 1) _ (fun k hk => by have := h (k + 1) (by simp; omega); rw [show i + 1 + k = i + (k + 1) from by omega]; exact this)

def EntOK (C : Cx) (ops : Array Oper) (base : Nat) (e : Ent) (i : Nat) (s : Slots) (h : Heap) : Prop :=
  ops[i]? = some e.o ∧ (∀ d, e.o.dst = some d → d < C.nt) ∧ guardIs ops e s ∧ (e.run = true → OKop C e.o (base + 8 * i) s h ⟨e.val, e.rd, e.wr⟩) ∧
      (e.run = false → e.val = .t [] ∧ e.wr = [] ∧ e.rd = [])

theorem lexAt {ops : Array Oper} {base : Nat} (es : List Ent) : ∀ (m n : Nat) (s : Slots) (h : Heap) (e : Ent), LexOK C ops base es m s h → es[n]? = some e →
    EntOK C ops base e (m + n) (setS (fun k => decide (k < m + n)) es m s) (setHp (fun k => decide (k < m + n)) es m h) := by
  induction es with
  | nil => intro m n s h e _ hn; simp at hn
  | cons x r ih =>
    intro m n s h e hl hn
    cases n with
    | zero =>
      simp at hn
      subst hn
      have e1 : setS (fun k => decide (k < m + 0)) (x :: r) m s = s := setS_none _ _ _ (fun k hk => by simp; omega)
      have e2 : setHp (fun k => decide (k < m + 0)) (x :: r) m h = h := setHp_none _ _ _ (fun k hk => by simp; omega)
      rw [e1, e2]
      exact ⟨hl.1, hl.2.1, hl.2.2.1, hl.2.2.2.1, hl.2.2.2.2.1⟩
    | succ n =>
      have := ih (m + 1) n _ _ e hl.2.2.2.2.2 (by simpa using hn)
      rw [show m + 1 + n = m + (n + 1) from by omega] at this
      have e1 : setS (fun k => decide (k < m + (n + 1))) (x :: r) m s = setS (fun k => decide (k < m + (n + 1))) r (m + 1) (updS s x.o.dst x.val) := by
        show setS _ r (m + 1) (if decide (m < m + (n + 1)) then _ else _) = _
        rw [if_pos (by simp)]
      have e2 : setHp (fun k => decide (k < m + (n + 1))) (x :: r) m h = setHp (fun k => decide (k < m + (n + 1))) r (m + 1) (updW h x.wr) := by
        show setHp _ r (m + 1) (if decide (m < m + (n + 1)) then _ else _) = _
        rw [if_pos (by simp)]
      rw [e1, e2]
      exact this

theorem RelS.drew {F : Nat → Prop} {s : Slots} {h : Heap} {g : Ghost} {a : Act} {w : World} (R : RelS C F s h g a w) : RelS C F s h g a { w with drawn := w.drawn + 1 } := by
  have E : Evo w (zor (zone g h) C.X) g h { w with drawn := w.drawn + 1 } (zor (zone g h) C.X) g h :=
    ⟨fun b o u hu hz => ⟨hu, hz⟩, fun _ _ _ => rfl, fun _ _ _ => rfl, fun _ hi => hi, fun i n sz e _ hn => ⟨n, Nat.le_refl _, hn, fun _ => rfl⟩⟩
  refine R.step (fun _ => False) E ⟨rfl, rfl, rfl, Nat.le_refl _, fun _ _ _ => rfl, fun _ _ _ hu _ => hu⟩ (fun _ _ => ⟨rfl, rfl⟩) (fun _ _ _ _ _ _ => rfl) (fun _ _ h => h.elim) (fun _ _ _ h => h.elim)
    (fun _ _ _ _ _ h => h.elim) (fun _ h => h.elim) R.free

theorem filter_one {p p' : Nat → Bool} {i : Nat} : ∀ {l : List Nat}, l.Nodup → i ∈ l → p i = true → p' i = false → (∀ k, k ≠ i → p' k = p k) → (l.filter p').length + 1 = (l.filter p).length
  | x :: l, hn, hi, h1, h0, hs => by
    have hn' := List.nodup_cons.1 hn
    by_cases hx : x = i
    · subst hx
      have : l.filter p' = l.filter p := List.filter_congr fun k hk => hs k (fun e => hn'.1 (e ▸ hk))
      simp [h1, h0, this]
    · have hil : i ∈ l := (List.mem_cons.1 hi).resolve_left (fun e => hx e.symm)
      have ih := filter_one hn'.2 hil h1 h0 hs
      have := hs x hx
      simp only [List.filter_cons, this]
      split <;> simp [ih]

theorem meet_iff {a b : List Nat} {x : Nat} (ha : x ∈ a) (hb : x ∈ b) : meet a b = true := by
  simp only [meet, List.any_eq_true]
  exact ⟨x, ha, x, hb, by simp⟩
theorem meetI_iff {a b : List Id} {x : Id} (ha : x ∈ a) (hb : x ∈ b) : meetI a b = true := by
  simp only [meetI, List.any_eq_true]
  exact ⟨x, ha, x, hb, Id.beq_iff.2 rfl⟩
theorem tmpsOf_mem {t : Nat} : ∀ {l : List Operand}, Operand.tmp t ∈ l → t ∈ tmpsOf l
  | .tmp x :: l, h => by
    rcases List.mem_cons.1 h with h | h
    · simp at h; subst h; simp [tmpsOf]
    · simp [tmpsOf, tmpsOf_mem h]
  | .const v :: l, h => by simp [tmpsOf, tmpsOf_mem ((List.mem_cons.1 h).resolve_left (by simp))]
  | .global v :: l, h => by simp [tmpsOf, tmpsOf_mem ((List.mem_cons.1 h).resolve_left (by simp))]
  | .func v :: l, h => by simp [tmpsOf, tmpsOf_mem ((List.mem_cons.1 h).resolve_left (by simp))]

theorem number_get (l : List Oper) : ∀ (fs : List Fp) (i n : Nat) (o : Oper) (f : Fp), l[n]? = some o → fs[n]? = some f → (i + n, o, f) ∈ number l fs i := by
  induction l with
  | nil => intro fs i n o f h1 _; simp at h1
  | cons x l ih =>
    intro fs i n o f h1 h2
    cases fs with
    | nil => simp at h2
    | cons y fs =>
      cases n with
      | zero => simp at h1 h2; subst h1; subst h2; simp [number]
      | succ n =>
        simp at h1 h2
        have := ih fs (i + 1) n o f h1 h2
        rw [show i + 1 + n = i + (n + 1) from by omega] at this
        simp [number, this]
theorem backOK_get (l : List Oper) : ∀ (i n : Nat) (o : Oper) (e : Edge), backOK l i = true → l[n]? = some o → e ∈ o.after.toList → Region.binds .any e = true → e.on < i + n := by
  induction l with
  | nil => intro i n o e _ h1 _ _; simp at h1
  | cons x l ih =>
    intro i n o e h h1 he hb
    simp only [backOK, Bool.and_eq_true, List.all_eq_true] at h
    cases n with
    | zero =>
      simp at h1
      subst h1
      have := h.1 e he
      simpa [hb] using this
    | succ n =>
      simp at h1
      have := ih (i + 1) n o e h.2 h1 he hb
      omega

theorem draw_ok (hti : TIok C.P ti) (h1 : TIone ti) (hm : C.P.follows .mixedOrders = true) : DrawOK C (execDraw ti C.M C.nt) := by
  intro id ops σ K Q a w hQ hk R
  obtain ⟨es, σ', e1, hlex, e3, e4, e5, hlock, hK⟩ := drawOps_ents hti h1 ops.toList 0 σ [] rfl hk
  have hB := (C.M.lock_iff _).1 hlock
  simp only [List.nil_append] at hB
  simp only [drawB, Bool.and_eq_true, Nat.beq_eq] at hB
  obtain ⟨hlen, hback, hpairs⟩ := hB
  have hlen : es.length = ops.size := by simpa using congrArg List.length e1
  have hes : ∀ (n : Nat) e, es[n]? = some e → ops.toList[n]? = some e.o := by
    intro n e he
    rw [← e1]; simp [he]
  have ahead : ∀ (i j : Nat) ei ej, es[i]? = some ei → es[j]? = some ej → i < j → (slotConf ops ei.o ej.o || idConf (ei.rd, ei.wr.map (·.1)) (ej.rd, ej.wr.map (·.1))) = true → Ahead ops.toList i j := by
    intro i j ei ej hi hj hlt hc
    have m1 := number_get ops.toList (es.map fun e => (e.rd, e.wr.map (·.1))) 0 i _ _ (hes i ei hi) (by simp [hi]; rfl)
    have m2 := number_get ops.toList (es.map fun e => (e.rd, e.wr.map (·.1))) 0 j _ _ (hes j ej hj) (by simp [hj]; rfl)
    simp only [pairsOK, List.all_eq_true] at hpairs
    have := hpairs _ m1 _ m2
    simp only [Nat.zero_add] at this
    have hb : Nat.blt i j = true := by simpa using hlt
    rw [hb, hc] at this
    simp only [Bool.not_true, Bool.false_or] at this
    exact masks_bit ops.toList [] rfl (by simp [List.getD]) j i this
  let s0 := getS σ.slots
  let h0 := getH σ.heap
  let base := σ.next
  refine wp_region_any hm ?_
  let Sof : Array Bool → Nat → Bool := fun listed k => listed.getD k false
  have main : ∀ (fuel : Nat) (listed : Array Bool) (a : Act) (w : World), listed.size = ops.size →
      ((List.range ops.size).filter (fun k => !Sof listed k)).length = fuel →
      (∀ i j, Ahead ops.toList i j → Sof listed j = true → Sof listed i = true) →
      Rel C (fun n => base ≤ n ∧ ∀ i, Sof listed i = true → ¬ (base + 8 * i ≤ n ∧ n < base + 8 * i + 8)) (setS (Sof listed) es 0 s0) (setHp (Sof listed) es 0 h0) a w →
      wpAny C.P .any ops Q fuel listed a w := by
    intro fuel
    induction fuel with
    | zero =>
      intro listed a w hsz hcnt hcl R
      have hall : ∀ k, k < ops.size → Sof listed k = true := by
        intro k hk
        have := List.eq_nil_of_length_eq_zero hcnt
        cases hs : Sof listed k with
        | true => rfl
        | false =>
          have : k ∈ (List.range ops.size).filter (fun k => !Sof listed k) := by simp [hk, hs]
          rw [List.eq_nil_of_length_eq_zero hcnt] at this
          simp at this
      refine ⟨?_, ?_⟩
      · cases hr : Region.ready .any ops listed with
        | nil => rfl
        | cons j l =>
          have hj : j ∈ Region.ready .any ops listed := by rw [hr]; simp
          obtain ⟨h2, o, ho, _⟩ := mem_ready.1 hj
          have hlt := (Array.getElem?_eq_some_iff.1 ho).1
          have := hall j hlt
          simp only [Sof] at this
          have hjl : j < listed.size := by omega
          simp [hjl] at this h2
          rw [this] at h2
          simp at h2
      · refine hQ σ' a w hK ?_
        have : RelSt C σ' a w ↔ Rel C (fun n => σ'.next ≤ n) (getS σ'.slots) (getH σ'.heap) a w := Iff.rfl
        rw [this, e3, e4, e5]
        have z1 : setS (Sof listed) es 0 s0 = endS es s0 := setS_all es 0 s0 (fun k hk => by rw [Nat.zero_add]; exact hall k (by omega))
        have z2 : setHp (Sof listed) es 0 h0 = endH es h0 := setHp_all es 0 h0 (fun k hk => by rw [Nat.zero_add]; exact hall k (by omega))
        rw [z1, z2] at R
        refine R.free_mono (fun n hn => ?_)
        simp only [Nat.zero_add, Array.length_toList] at hn
        refine ⟨by simp only [base]; omega, fun i hi => ?_⟩
        have : i < ops.size := by
          simp only [Sof] at hi
          have hil : i < listed.size := by
            rcases Nat.lt_or_ge i listed.size with h | h
            · exact h
            · simp [Array.getElem?_eq_none h] at hi
          omega
        simp only [base]
        omega
    | succ fuel ih =>
      intro listed a w hsz hcnt hcl R
      have hstep : ∀ i, i ∈ Region.ready .any ops listed → wpOp C.P ops Q i (wpAny C.P .any ops Q fuel (listed.setIfInBounds i true)) a w := by
        intro i hi
        obtain ⟨hi0, o, ho, hedges⟩ := mem_ready.1 hi
        have hlt : i < ops.size := (Array.getElem?_eq_some_iff.1 ho).1
        have hil : i < listed.size := by omega
        have hS0 : Sof listed i = false := by
          simp [hil] at hi0
          simp [Sof, hil, hi0]
        have hS1 : Sof (listed.setIfInBounds i true) i = true := by simp [Sof, hil]
        have hSo : ∀ k, k ≠ i → Sof (listed.setIfInBounds i true) k = Sof listed k := by
          intro k hk
          simp [Sof, Array.getElem?_setIfInBounds_ne (Ne.symm hk)]
        obtain ⟨en, hen⟩ : ∃ en, es[i]? = some en := ⟨es[i], by simp [hlen, hlt]⟩
        have hEnt := lexAt es 0 i s0 h0 en hlex hen
        rw [Nat.zero_add] at hEnt
        obtain ⟨ho', hd, hg, hrun, hskip⟩ := hEnt
        rw [ho] at ho'
        obtain rfl : o = en.o := by simpa using ho'
        -- who writes what i reads or writes
        have order : ∀ k e, es[k]? = some e → k ≠ i → (k < i → (slotConf ops e.o en.o || idConf (e.rd, e.wr.map (·.1)) (en.rd, en.wr.map (·.1))) = true) →
            (i < k → (slotConf ops en.o e.o || idConf (en.rd, en.wr.map (·.1)) (e.rd, e.wr.map (·.1))) = true) → Sof listed k = decide (k < i) := by
          intro k e he hne c1 c2
          by_cases hki : k < i
          · have ah := ahead k i e en he hen hki (c1 hki)
            have : Sof listed k = true := by
              have gen : ∀ x y, Ahead ops.toList x y → y = i → Sof listed x = true := by
                intro x y hxy
                induction hxy with
                | edge hj hee hb hei =>
                  intro hy
                  subst hy
                  rw [← hei]
                  have := hes _ en hen
                  rw [hj] at this
                  simp at this
                  subst this
                  exact hedges _ (by simpa using hee) hb
                | trans p q ihp ihq =>
                  intro hy
                  exact hcl _ _ p (ihq hy)
              exact gen k i ah rfl
            simp [this, hki]
          · have hik : i < k := by omega
            have ah := ahead i k en e hen he hik (c2 hik)
            have : Sof listed k = false := by
              cases hs : Sof listed k with
              | false => rfl
              | true => have := hcl i k ah hs; rw [hS0] at this; simp at this
            simp [this, hki]
        have slotAgree : ∀ t, t ∈ readsT ops en.o → setS (Sof listed) es 0 s0 t = setS (fun k => decide (k < i)) es 0 s0 t := by
          intro t ht
          refine setS_agree es 0 s0 s0 rfl (fun k e he hdst => ?_)
          rw [Nat.zero_add]
          by_cases hki : k = i
          · subst hki; simp [hS0]
          · refine order k e he hki (fun _ => ?_) (fun _ => ?_)
            · simp [slotConf, meet_iff (x := t) (a := e.o.dst.toList) (b := readsT ops en.o) (by simp [hdst]) ht]
            · simp [slotConf, meet_iff (x := t) (a := readsT ops en.o) (b := e.o.dst.toList) ht (by simp [hdst])]
        have idAgree : ∀ x, x ∈ en.rd → setHp (Sof listed) es 0 h0 x = setHp (fun k => decide (k < i)) es 0 h0 x := by
          intro x hx
          refine setHp_agree es 0 h0 h0 rfl (fun k e he hw => ?_)
          rw [Nat.zero_add]
          by_cases hki : k = i
          · subst hki; simp [hS0]
          · refine order k e he hki (fun _ => ?_) (fun _ => ?_)
            · simp [idConf, meetI_iff (x := x) (a := e.wr.map (·.1)) (b := en.rd) hw hx]
            · simp [idConf, meetI_iff (x := x) (a := en.rd) (b := e.wr.map (·.1)) hx hw]
        have cl' : ∀ x y, Ahead ops.toList x y → Sof (listed.setIfInBounds i true) y = true → Sof (listed.setIfInBounds i true) x = true := by
          intro x y hxy hy
          by_cases hx : x = i
          · rw [hx]; exact hS1
          · rw [hSo x hx]
            by_cases hyi : y = i
            · subst hyi
              have gen : ∀ x y', Ahead ops.toList x y' → y' = y → Sof listed x = true := by
                intro x y' hxy
                induction hxy with
                | edge hj hee hb hei =>
                  intro hy
                  subst hy
                  rw [← hei]
                  have := hes _ en hen
                  rw [hj] at this
                  simp at this
                  subst this
                  exact hedges _ (by simpa using hee) hb
                | trans p q ihp ihq =>
                  intro hy
                  exact hcl _ _ p (ihq hy)
              exact gen x y hxy rfl
            · rw [hSo y hyi] at hy
              exact hcl x y hxy hy
        have cnt' : ((List.range ops.size).filter (fun k => !Sof (listed.setIfInBounds i true) k)).length = fuel := by
          have := filter_one (p := fun k => !Sof listed k) (p' := fun k => !Sof (listed.setIfInBounds i true) k) (i := i) (l := List.range ops.size) List.nodup_range (by simp [hlt]) (by simp [hS0]) (by simp [hS1])
            (fun k hk => by simp [hSo k hk])
          omega
        have addS : setS (Sof (listed.setIfInBounds i true)) es 0 s0 = updS (setS (Sof listed) es 0 s0) en.o.dst en.val := by
          funext t
          refine setS_add es 0 s0 hen (by simpa using hS0) (by simpa using hS1) (fun k hk => hSo k (by omega)) (fun hdst k e he hdst' hik => ?_)
          rw [Nat.zero_add]
          have := order k e he (by omega) (fun h => absurd h (by omega)) (fun _ => by simp [slotConf, meet_iff (x := t) (a := en.o.dst.toList) (b := e.o.dst.toList) (by simp [hdst]) (by simp [hdst'])])
          rw [this]
          simp; omega
        have addH : setHp (Sof (listed.setIfInBounds i true)) es 0 h0 = updW (setHp (Sof listed) es 0 h0) en.wr := by
          funext x
          refine setHp_add es 0 h0 hen (by simpa using hS0) (by simpa using hS1) (fun k hk => hSo k (by omega)) (fun hw k e he hw' hik => ?_)
          rw [Nat.zero_add]
          have := order k e he (by omega) (fun h => absurd h (by omega)) (fun _ => by simp [idConf, meetI_iff (x := x) (a := en.wr.map (·.1)) (b := e.wr.map (·.1)) hw hw'])
          rw [this]
          simp; omega
        have next : ∀ a' w', Rel C (fun n => (base ≤ n ∧ ∀ i, Sof listed i = true → ¬ (base + 8 * i ≤ n ∧ n < base + 8 * i + 8)) ∧ ¬ (base + 8 * i ≤ n ∧ n < base + 8 * i + 8))
            (updS (setS (Sof listed) es 0 s0) en.o.dst en.val) (updW (setHp (Sof listed) es 0 h0) en.wr) a' w' → wpAny C.P .any ops Q fuel (listed.setIfInBounds i true) a' w' := by
          intro a' w' R'
          refine ih _ a' w' (by simp [hsz]) cnt' cl' ?_
          rw [addS, addH]
          refine R'.free_mono (fun n hn => ⟨⟨hn.1, fun j hj => ?_⟩, hn.2 i hS1⟩)
          by_cases hji : j = i
          · subst hji; exact hn.2 j hS1
          · exact hn.2 j (by rw [hSo j hji]; exact hj)
        have hw : Region.wanted en.o (yielded ops a.tmps) = en.run := by
          unfold guardIs at hg
          split at hg
          · rename_i hgn
            simp [Region.wanted, hgn, hg]
          · rename_i j want hgs
            obtain ⟨d, hdj, hsd⟩ := hg
            have hmem : d ∈ readsT ops en.o := by simp [readsT, hgs, hdj]
            rw [← slotAgree d hmem] at hsd
            rcases hsd with hsd | ⟨hrf, hsd⟩
            rotate_left
            · have hy : yielded ops a.tmps j = none := by
                obtain ⟨g, R⟩ := R
                have := R.slots d
                rw [hsd] at this
                obtain ⟨vs, hv, _⟩ := this
                exact yields_none' hdj ⟨vs, hv⟩
              simp [Region.wanted, hgs, hy, hrf]
            have hy : yielded ops a.tmps j = some (if en.run then want else !want) := by
              obtain ⟨g, R⟩ := R
              have := R.slots d
              rw [hsd] at this
              have hv := relB this
              unfold yielded
              rw [hdj]
              have : a.tmps[d]? = some (.bool (if en.run then want else !want)) := by
                rw [Array.getD_eq_getD_getElem?] at hv
                cases h : a.tmps[d]? with
                | none => rw [h] at hv; simp [undef] at hv
                | some v => rw [h] at hv; simpa using hv
              simp [this]
            simp only [Region.wanted, hgs, hy]
            cases en.run <;> cases want <;> rfl
        unfold wpOp
        rw [ho]
        simp only []
        cases hr : en.run with
        | true =>
          rw [if_pos (by rw [hw, hr])]
          refine .inl (Oper.wp_mono next ?_)
          refine hrun hr _ _ _ a w Q R (fun t ht => slotAgree t (by simp [readsT, tmpsOf_mem ht])) idAgree (fun k hk => ⟨by omega, fun j hj => ?_⟩) hd
          by_cases hji : j = i
          · subst hji; rw [hS0] at hj; simp at hj
          · omega
        | false =>
          rw [if_neg (by rw [hw, hr]; simp)]
          obtain ⟨z1, z2, z3⟩ := hskip hr
          refine next _ w ?_
          rw [z1, z2]
          obtain ⟨g, R⟩ := R
          refine ⟨g, (R.put hd (v := .t []) ⟨#[], rfl, rfl, by simp⟩).free_mono (fun n hn => hn.1)⟩
      refine ⟨fun hnil => ?_, hstep⟩
      -- not all are listed: the least of those is ready
      exfalso
      have hex : ∃ k, k < ops.size ∧ Sof listed k = false := by
        have : (List.range ops.size).filter (fun k => !Sof listed k) ≠ [] := by intro e; rw [e] at hcnt; simp at hcnt
        obtain ⟨k, hk⟩ := List.exists_mem_of_ne_nil _ this
        simp at hk
        exact ⟨k, hk.1, hk.2⟩
      obtain ⟨k, ⟨hk1, hk2⟩, hmin⟩ := least hex
      have : k ∈ Region.ready .any ops listed := by
        refine mem_ready.2 ⟨?_, ops[k], by simp [hk1], fun e he hb => ?_⟩
        · have hkl : k < listed.size := by omega
          simp only [Sof] at hk2
          simp [hkl] at hk2 ⊢
          exact hk2
        · have hlt : e.on < 0 + k := backOK_get ops.toList 0 k ops[k] e hback (by simp [hk1]) (by simpa using he) hb
          cases hs : Sof listed e.on with
          | true => exact hs
          | false => have := hmin e.on ⟨by omega, hs⟩; omega
      rw [hnil] at this
      simp at this
  refine main ops.size (Array.replicate ops.size false) a _ (by simp) ?_ ?_ ?_
  · have : (List.range ops.size).filter (fun k => !Sof (Array.replicate ops.size false) k) = List.range ops.size := by
      refine List.filter_eq_self.2 fun k hk => ?_
      simp only [Sof, Array.getD_eq_getD_getElem?, Array.getElem?_replicate]
      split <;> rfl
    rw [this]; simp
  · intro i j _ hj
    exfalso
    revert hj
    simp only [Sof, Array.getD_eq_getD_getElem?, Array.getElem?_replicate]
    split <;> simp
  · have hz : ∀ k, Sof (Array.replicate ops.size false) k = false := by intro k; simp only [Sof, Array.getD_eq_getD_getElem?, Array.getElem?_replicate]; split <;> rfl
    rw [setS_none es 0 s0 (fun k _ => hz k), setHp_none es 0 h0 (fun k _ => hz k)]
    obtain ⟨g, R⟩ := R
    exact ⟨g, R.drew.free_mono (fun n hn => hn.1)⟩
end
end Go.AM

/- The abstract machine, part KB: nil taken as a growable list (ahead of a loop). No condition. -/
namespace Go.AM
open Go Go.RowKit

theorem RelS.reslot {C : Cx} {F : Nat → Prop} {s : Slots} {h : Heap} {g : Ghost} {a : Act} {w : World} (R : RelS C F s h g a w) (t : Nat) (v : AV) (hr : RelAV w (zor (zone g h) C.X) g h v (a.tmps.getD t undef)) :
    RelS C F (updS s (some t) v) h g a w := by
  refine { R with slots := fun t' => ?_ }
  simp only [updS]
  split
  · subst_vars; exact hr
  · exact R.slots t'

theorem RelS.tok0 {C : Cx} {F : Nat → Prop} {s : Slots} {h : Heap} {g : Ghost} {a : Act} {w : World} (R : RelS C F s h g a w) {n : Nat} (hf : F n) (ag : Bool) {sz : Nat} (hsz : 0 < sz) (e : TypeId) :
    RelS C (fun k => F k ∧ k ≠ n) s (updO h (.loc n) (.tok 0 sz e)) (updG g (.loc n) (.slice none 0 0)) a w ∧
      RelC w (zor (zone (updG g (.loc n) (.slice none 0 0)) (updO h (.loc n) (.tok 0 sz e))) C.X) (updG g (.loc n) (.slice none 0 0)) (updO h (.loc n) (.tok 0 sz e)) (.lst (.loc n) ag sz []) (.slice none 0 0) :=
  R.owned (out := []) (zs := []) hf ⟨rfl, rfl, rfl, Nat.le_refl _, fun _ _ _ => rfl⟩ hsz (World.ownsRow_nil w _ e sz) (by simp) (by simp)

/-- A slot's nil, as a growable list. -/
def tokSlot (t : Nat) (ag : Bool) (sz : Nat) (e : TypeId) (σ : St) : St :=
  ⟨(t, .v (.c (.lst (.loc σ.next) ag sz []))) :: σ.slots, setH σ.heap (.loc σ.next) (.tok 0 sz e), σ.next + 8⟩
theorem weak_tokSlot {t : Nat} {ag : Bool} {sz : Nat} {e : TypeId} {σ : St} (hsz : Nat.blt 0 sz = true) (ht : getS σ.slots t = .v (.c (.nils ag sz))) : Weak σ (tokSlot t ag sz e σ) := by
  rintro C a w ⟨g, R⟩
  have hv := R.slots t
  rw [ht] at hv
  have hv : a.tmps.getD t undef = .slice none 0 0 := hv
  obtain ⟨R', hl⟩ := R.tok0 (n := σ.next) (Nat.le_refl _) ag (sz := sz) (by simp [Nat.blt] at hsz; omega) e
  have R2 := (R'.reslot t (.v (.c (.lst (.loc σ.next) ag sz []))) (by rw [hv]; exact hl)).free_mono (F' := fun n => σ.next + 8 ≤ n) (fun n hn => ⟨by omega, by omega⟩)
  refine ⟨updG g (.loc σ.next) (.slice none 0 0), ?_⟩
  simp only [tokSlot, getS_cons, getH_setH]
  exact R2

def setNth {α : Type} : List α → Nat → α → List α
  | [], _, _ => []
  | x :: r, n, y => match n with
    | 0 => y :: r
    | m + 1 => x :: setNth r m y
theorem setNth_eq {α : Type} : ∀ (l : List α) (n : Nat) (y : α), setNth l n y = l.set n y
  | [], _, _ => rfl
  | _ :: _, 0, _ => rfl
  | x :: r, n + 1, y => by simp [setNth, setNth_eq r n y]
/-- A cell's nil, as a growable list. -/
def tokCell (i : Id) (j : Nat) (ag : Bool) (sz : Nat) (e : TypeId) (σ : St) : St :=
  match getH σ.heap i with
  | some (.cells cs) => ⟨σ.slots, setH (setH σ.heap (.loc σ.next) (.tok 0 sz e)) i (.cells (setNth cs j (.lst (.loc σ.next) ag sz []))), σ.next + 8⟩
  | _ => σ
theorem weak_tokCell {i : Id} {j : Nat} {ag : Bool} {sz : Nat} {e : TypeId} {σ : St} {cs : List CV} (hsz : Nat.blt 0 sz = true) (hi : getH σ.heap i = some (.cells cs)) (hj : cs[j]? = some (.nils ag sz)) : Weak σ (tokCell i j ag sz e σ) := by
  rintro C a w ⟨g, R⟩
  obtain ⟨R', hl⟩ := R.tok0 (n := σ.next) (Nat.le_refl _) ag (sz := sz) (by simp [Nat.blt] at hsz; omega) e
  have hne : i ≠ .loc σ.next := by
    rintro rfl
    have := (R.free σ.next (Nat.le_refl _)).2
    rw [this] at hi; cases hi
  have hi' : updO (getH σ.heap) (.loc σ.next) (.tok 0 sz e) i = some (.cells cs) := by simp [updO, hne, hi]
  obtain ⟨b, c, et, hb, hh, hsz2, hr⟩ := R'.heap.objs i _ hi'
  have R2 := R'.store (cs' := cs.set j (.lst (.loc σ.next) ag sz [])) hi' hb hh (c' := c) (by simp [hsz2]) (fun k x u hx hu => by
    by_cases hk : k = j
    · subst hk
      have hlt : k < cs.length := (List.getElem?_eq_some_iff.1 hj).1
      rw [List.getElem?_set_self hlt] at hx
      cases hx
      have := hr k _ u hj hu
      rw [show u = _ from this]
      exact hl
    · rw [List.getElem?_set_ne (by omega)] at hx
      exact hr k x u hx hu)
  have hw : w.setRow b c = w := setRow_self w b c _ _ hh
  rw [hw] at R2
  have R3 := R2.free_mono (F' := fun n => σ.next + 8 ≤ n) (fun n hn => ⟨by omega, by omega⟩)
  refine ⟨updG g (.loc σ.next) (.slice none 0 0), ?_⟩
  simp only [tokCell, hi, getH_setH, setNth_eq]
  exact R3


/-- What is done ahead of a loop. -/
inductive TokReq where
  | slot (t : Nat) (ag : Bool) (sz : Nat) (e : TypeId)
  | cell (i : Id) (j : Nat) (ag : Bool) (sz : Nat) (e : TypeId)
def isNils (ag : Bool) (sz : Nat) : CV → Bool
  | .nils a s => (a == ag) && Nat.beq s sz
  | _ => false
def isNilsA (ag : Bool) (sz : Nat) : AV → Bool
  | .v (.c c) => isNils ag sz c
  | _ => false
def nthC : List CV → Nat → CV
  | [], _ => .un
  | x :: r, n => match n with
    | 0 => x
    | m + 1 => nthC r m
def tokAll (K : St → Prop) : List TokReq → St → Prop
  | [], σ => K σ
  | .slot t ag sz e :: r, σ => req (Nat.blt 0 sz) <| req (isNilsA ag sz (getS σ.slots t)) <| tokAll K r (tokSlot t ag sz e σ)
  | .cell i j ag sz e :: r, σ => req (Nat.blt 0 sz) <| (match getH σ.heap i with
    | some (.cells cs) => req (isNils ag sz (nthC cs j)) <| tokAll K r (tokCell i j ag sz e σ)
    | _ => False)
theorem isNils_eq {ag : Bool} {sz : Nat} {c : CV} (h : isNils ag sz c = true) : c = .nils ag sz := by
  cases c <;> simp [isNils] at h
  obtain ⟨rfl, h⟩ := h
  rw [h]
theorem nthC_get : ∀ {cs : List CV} {j : Nat} {ag : Bool} {sz : Nat}, isNils ag sz (nthC cs j) = true → cs[j]? = some (.nils ag sz)
  | [], j, ag, sz, h => by simp [nthC, isNils] at h
  | x :: r, 0, ag, sz, h => by simpa using isNils_eq (by simpa [nthC] using h)
  | x :: r, j + 1, ag, sz, h => by simpa using nthC_get (cs := r) (j := j) (by simpa [nthC] using h)
theorem tokAll_weak {K : St → Prop} : ∀ {l : List TokReq} {σ : St}, tokAll K l σ → ∃ σ', (∀ C a w, RelSt C σ a w → RelSt C σ' a w) ∧ K σ'
  | [], σ, h => ⟨σ, fun _ _ _ r => r, h⟩
  | .slot t ag sz e :: r, σ, h => by
    obtain ⟨h1, h⟩ := req_iff.1 h
    obtain ⟨h2, h⟩ := req_iff.1 h
    obtain ⟨σ', h3, h4⟩ := tokAll_weak h
    have ht : getS σ.slots t = .v (.c (.nils ag sz)) := by
      revert h2
      cases getS σ.slots t with
      | v x => cases x with
        | c c => intro h2; rw [isNils_eq h2]
        | _ => intro h2; simp [isNilsA] at h2
      | _ => intro h2; simp [isNilsA] at h2
    exact ⟨σ', fun C a w r => h3 C a w (weak_tokSlot h1 ht C a w r), h4⟩
  | .cell i j ag sz e :: r, σ, h => by
    obtain ⟨h1, h⟩ := req_iff.1 h
    split at h
    · rename_i cs hi
      obtain ⟨h2, h⟩ := req_iff.1 h
      obtain ⟨σ', h3, h4⟩ := tokAll_weak h
      exact ⟨σ', fun C a w r => h3 C a w (weak_tokCell h1 hi (nthC_get h2) C a w r), h4⟩
    · exact h.elim

theorem Weak.trans {a b c : St} (h1 : Weak a b) (h2 : Weak b c) : Weak a c := fun C x w r => h2 C x w (h1 C x w r)
theorem Weak.refl (a : St) : Weak a a := fun _ _ _ r => r
end Go.AM

/- The abstract machine, part O: the words of a proof over it. No condition. -/
namespace Go.AM
open Go Go.RowKit

/-- A function's contract out of its body's run. -/
theorem Trip.of {P : Program} {ti : Types} (hti : TIok P ti) (h1 : TIone ti) (hm : P.follows .mixedOrders = true) {f : FuncId} {fn : Func} {c : Code} (hf : P.funcs[f]? = some fn) (hb : fn.body = some c)
    (hname : (fn.name == "runtime.NumGoroutine") = false) {args : List V1} {pre post new : List AObj} {res : AV} {nt : Nat} (hnt : fn.ntmps = nt) (hargs : Nat.ble args.length nt = true) {rs : List ResultVar} (hrs : fn.results.toList = rs)
    (hx : ∀ M : Mach, M.P = P → exec M ti nt (execDraw ti M nt) c ⟨slotsOf args 0, extsOf pre 0, 0⟩ fun e σ => match e with
      | .exit _ => False
      | .normal => Fin' ti rs σ res post new
      | .ret => Fin' ti rs σ res post new) : Trip P f args pre res post new := by
  subst hnt
  subst hrs
  refine Trip.intro (fun M nt => execDraw ti M nt) hti h1 (fun C hC => ?_) hf hb hname (Nat.le_of_ble_eq_true hargs) hx
  have hti' : TIok C.P ti := by rw [hC]; exact hti
  have hm' : C.P.follows .mixedOrders = true := by rw [hC]; exact hm
  exact draw_ok hti' h1 hm'

section
variable {M : Mach} {A : Bool → Prop}
theorem splitI {a b : Int} (h1 : a = b → A true) (h0 : a ≠ b → A false) : M.split (M.eqI a b) A := by
  rw [M.split_iff, M.eqI_eq]
  by_cases h : a = b
  · rw [beq_iff_eq.2 h]; exact h1 h
  · rw [beq_eq_false_iff_ne.2 h]; exact h0 h
theorem splitI_t {a b : Int} (h : a = b) (h1 : A true) : M.split (M.eqI a b) A := splitI (fun _ => h1) (fun e => absurd h e)
theorem splitI_f {a b : Int} (h : a ≠ b) (h0 : A false) : M.split (M.eqI a b) A := splitI (fun e => absurd e h) (fun _ => h0)
theorem splitL {a b : Int} (h1 : a < b → A true) (h0 : b ≤ a → A false) : M.split (M.ltI a b) A := by
  rw [M.split_iff, M.ltI_eq]
  by_cases h : a < b
  · rw [decide_eq_true h]; exact h1 h
  · rw [decide_eq_false h]; exact h0 (by omega)
theorem splitL_t {a b : Int} (h : a < b) (h1 : A true) : M.split (M.ltI a b) A := splitL (fun _ => h1) (fun e => by omega)
theorem splitL_f {a b : Int} (h : ¬ a < b) (h0 : A false) : M.split (M.ltI a b) A := splitL (fun e => absurd e h) (fun _ => h0)
theorem splitLe {a b : Int} (h1 : a ≤ b → A true) (h0 : b < a → A false) : M.split (M.leI a b) A := by
  rw [M.split_iff, M.leI_eq]
  by_cases h : a ≤ b
  · rw [decide_eq_true h]; exact h1 h
  · rw [decide_eq_false h]; exact h0 (by omega)
theorem splitLe_t {a b : Int} (h : a ≤ b) (h1 : A true) : M.split (M.leI a b) A := splitLe (fun _ => h1) (fun e => by omega)
theorem splitLe_f {a b : Int} (h : ¬ a ≤ b) (h0 : A false) : M.split (M.leI a b) A := splitLe (fun e => absurd e h) (fun _ => h0)
theorem splitS {a b : ByteArray} (h1 : (a.toList == b.toList) = true → A true) (h0 : (a.toList == b.toList) = false → A false) : M.split (M.eqS a b) A := by
  rw [M.split_iff, M.eqS_eq]
  cases h : (a.toList == b.toList)
  · exact h0 h
  · exact h1 h
theorem splitT {a b : ByteArray} (h1 : Op.bytesLess a.toList b.toList = true → A true) (h0 : Op.bytesLess a.toList b.toList = false → A false) : M.split (M.ltS a b) A := by
  rw [M.split_iff, M.ltS_eq]
  cases h : Op.bytesLess a.toList b.toList
  · exact h0 h
  · exact h1 h
end

section
variable {M : Mach} {f : FuncId} {args : List V1} {fresh : Nat} {h : Heap} {k : Out → Prop} {targs : List V1} {res : AV}
/-- A call of a function that neither asks nor leaves an object. -/
theorem call_pure {P : Program} (hP : M.P = P) (ht : Trip P f targs [] res [] []) (he : args = targs.map (V1.ren (renM [] fresh))) (hk : k ⟨res.ren (renM [] fresh), [], []⟩) :
    M.lock fun _ => outCall M.P f args fresh h k :=
  (M.lock_iff _).2 ⟨[], targs, [], res, [], [], hP ▸ ht, he, rfl, List.nodup_nil, by simp, trivial, by simp, hk⟩

def preOK (h : Heap) (r : Id → Id) : List Id → List AObj → Prop
  | [], [] => True
  | i :: m, o :: pre => h i = some (o.ren r) ∧ preOK h r m pre
  | _, _ => False
theorem preOK_get {r : Id → Id} : ∀ {m : List Id} {pre : List AObj}, preOK h r m pre → m.length = pre.length ∧ ∀ (j : Nat) i o, m[j]? = some i → pre[j]? = some o → h i = some (o.ren r)
  | [], [], _ => ⟨rfl, by simp⟩
  | i :: m, o :: pre, hp => by
    obtain ⟨h1, h2⟩ := preOK_get hp.2
    refine ⟨by simp [h1], fun j i' o' hi ho => ?_⟩
    match j with
    | 0 => simp at hi ho; subst hi; subst ho; exact hp.1
    | j + 1 => simp at hi ho; exact h2 j i' o' hi ho
  | [], _ :: _, hp => hp.elim
  | _ :: _, [], hp => hp.elim
/-- A call by its contract, over the objects m. -/
theorem call_with {P : Program} (hP : M.P = P) (m : List Id) {pre post new : List AObj} (ht : Trip P f targs pre res post new) (he : args = targs.map (V1.ren (renM m fresh))) (hm : m.Nodup)
    (hpre : preOK h (renM m fresh) m pre) (hkd : allKinds pre post) (hn : new.length ≤ 7) (hk : k ⟨res.ren (renM m fresh), m, wrM m (renM m fresh) post ++ wrNew fresh (renM m fresh) 0 new⟩) :
    M.lock fun _ => outCall M.P f args fresh h k :=
  (M.lock_iff _).2 ⟨m, targs, pre, res, post, new, hP ▸ ht, he, (preOK_get hpre).1, hm, (preOK_get hpre).2, hkd, hn, hk⟩
end

theorem drawn {M : Mach} {p : Unit → Prop} {K : Prop} (hd : p ()) (hk : K) : M.lock p ∧ K := ⟨(M.lock_iff _).2 hd, hk⟩

/-- A loop: S t is the state at the head of the round that t describes, I t what holds there, m t falls. -/
theorem loop_inv {M : Mach} {ex : St → (AExit → St → Prop) → Prop} {σ : St} {K : AExit → St → Prop} (ks : List Nat) (is : List Id) (nx : Nat) {T : Type} (S : T → St) (I : T → Prop) (m : T → Nat) (t0 : T)
    (hI : I t0) (h0 : keep ks is nx σ (· = S t0))
    (hr : ∀ t, I t → ex (S t) fun e σ2 => match e with
      | .normal => ∃ n' σ3, n' < m t ∧ Weak σ2 σ3 ∧ ∃ t', I t' ∧ n' = m t' ∧ σ3 = S t'
      | .exit id => K (.exit id) σ2
      | .ret => K .ret σ2) : M.lock fun _ => loopP ex σ K ∨ ∃ n, unrollP ex K n σ := by
  refine (M.lock_iff _).2 <| .inl ⟨fun n σ => ∃ t, I t ∧ n = m t ∧ σ = S t, m t0, ?_, ?_⟩
  · obtain ⟨σ', hw, e⟩ := keep_weak h0
    exact ⟨σ', hw, t0, hI, rfl, e⟩
  · rintro n σ1 ⟨t, h1, rfl, rfl⟩
    exact hr t h1

/-- The same, some nils taken as growable lists first. -/
theorem loop_invT {M : Mach} {ex : St → (AExit → St → Prop) → Prop} {σ : St} {K : AExit → St → Prop} (tr : List TokReq) (ks : List Nat) (is : List Id) (nx : Nat) {T : Type} (S : T → St) (I : T → Prop) (m : T → Nat) (t0 : T)
    (hI : I t0) (h0 : tokAll (fun σ => keep ks is nx σ (· = S t0)) tr σ)
    (hr : ∀ t, I t → ex (S t) fun e σ2 => match e with
      | .normal => ∃ n' σ3, n' < m t ∧ Weak σ2 σ3 ∧ ∃ t', I t' ∧ n' = m t' ∧ σ3 = S t'
      | .exit id => K (.exit id) σ2
      | .ret => K .ret σ2) : M.lock fun _ => loopP ex σ K ∨ ∃ n, unrollP ex K n σ := by
  refine (M.lock_iff _).2 <| .inl ⟨fun n σ => ∃ t, I t ∧ n = m t ∧ σ = S t, m t0, ?_, ?_⟩
  · obtain ⟨σ1, hw1, h1⟩ := tokAll_weak h0
    obtain ⟨σ', hw, e⟩ := keep_weak h1
    exact ⟨σ', Weak.trans hw1 hw, t0, hI, rfl, e⟩
  · rintro n σ1 ⟨t, h1, rfl, rfl⟩
    exact hr t h1

theorem loop_unroll {M : Mach} {ex : St → (AExit → St → Prop) → Prop} {σ : St} {K : AExit → St → Prop} (n : Nat) (h : unrollP ex K n σ) : M.lock fun _ => loopP ex σ K ∨ ∃ n, unrollP ex K n σ := (M.lock_iff _).2 <| .inr ⟨n, h⟩

theorem loop_next {T : Type} {m : T → Nat} {I : T → Prop} {S : T → St} {σ2 : St} {k : Nat} (t' : T) (ks : List Nat) (is : List Id) (nx : Nat) (hI : I t') (hm : m t' < k) (hk : keep ks is nx σ2 (· = S t')) :
    ∃ n' σ3, n' < k ∧ Weak σ2 σ3 ∧ ∃ t', I t' ∧ n' = m t' ∧ σ3 = S t' := by
  obtain ⟨σ', hw, e⟩ := keep_weak hk
  exact ⟨m t', σ', hm, hw, t', hI, rfl, e⟩

theorem wrap_i64 {x z : Int} (h : -9223372036854775808 ≤ x ∧ x ≤ 9223372036854775807) (hz : z = x) : IntKind.i64.wrap x = z := by
  rw [hz]; exact IntWalk.i64_in x h

theorem idx {L : List D} {i : Int} {p : D → Prop} (h0 : 0 ≤ i) (h : i.toNat < L.length) (k : ∀ r, L[i.toNat]? = some r → p r) : ∃ r, 0 ≤ i ∧ L[i.toNat]? = some r ∧ p r :=
  ⟨L[i.toNat], h0, List.getElem?_eq_getElem h, k _ (List.getElem?_eq_getElem h)⟩

/-- A list's length as a whole number, with no cast in sight (cbv unfolds casts, in the context too). -/
theorem lenN (L : List D) : ∃ N : Int, 0 ≤ N ∧ L.length = N.toNat := ⟨L.length, by omega, by omega⟩
section
variable {M : Mach} {L L' : List D} {N i : Int} (hN : 0 ≤ N ∧ L.length = N.toNat)
include hN
theorem lenI_N : M.lenI L = N := by rw [M.lenI_eq]; omega
theorem lt_len (h : i < M.lenI L) : i < N := lenI_N (M := M) hN ▸ h
theorem le_len (h : M.lenI L ≤ i) : N ≤ i := lenI_N (M := M) hN ▸ h
theorem gt_len (h : M.lenI L < i) : N < i := lenI_N (M := M) hN ▸ h
theorem ge_len (h : i ≤ M.lenI L) : i ≤ N := lenI_N (M := M) hN ▸ h
theorem eq_len (h : M.lenI L = i) : N = i := lenI_N (M := M) hN ▸ h
theorem ne_len (h : M.lenI L ≠ i) : N ≠ i := lenI_N (M := M) hN ▸ h
end
theorem len_eq {M : Mach} {L L' : List D} (h : M.lenI L = M.lenI L') : L.length = L'.length := by rw [M.lenI_eq, M.lenI_eq] at h; exact Int.ofNat.inj h
theorem len_ne {M : Mach} {L L' : List D} (h : M.lenI L ≠ M.lenI L') : L.length ≠ L'.length := by rw [M.lenI_eq, M.lenI_eq] at h; omega

end Go.AM

/- The abstract machine, part Q: the join: what a statement hands in (typed data, 'DataW.trod') is deep data of the same shape. No condition. -/
namespace Go.AM
open Go Go.RowKit

def tiAllOf (ti : Types) : List Field → Bool
  | [] => true
  | f :: r => match ti f.type with
    | some _ => tiAllOf ti r
    | none => false

/-- The cells of a datum of type t. -/
inductive Shape (ti : Types) : TypeId → List D → Prop where
  | bool {t x} (b : Bool) (h : ti t = some x) (hd : x.desc = .bool) : Shape ti t [.bool b]
  | int {t x k} (n : Int) (h : ti t = some x) (hd : x.desc = .int k) (hw : (Lit.int k n).wf = true) : Shape ti t [.int k n]
  | str {t x} (s : ByteArray) (h : ti t = some x) (hd : x.desc = .string) (hs : s.size ≤ maxLen) : Shape ti t [.str s]
  | slice {t x e y} (rows : List D) (h : ti t = some x) (hd : x.desc = .slice e) (he : ti e = some y) (hl : rows.length ≤ maxLen)
      (hf : ∀ r ∈ rows, r.fits (rowD y.desc) y.size) (hr : ∀ r ∈ rows, Shape ti e r.cells) : Shape ti t [.list (rowD y.desc) y.size rows]
  | struct {t x fs} (ds : List D) (h : ti t = some x) (hd : x.desc = .struct fs) (hl : ds.length = x.size) (hg : ∀ c ∈ ds, c.isAgg = false)
      (hr : ∀ f ∈ fs.toList, ∀ y, ti f.type = some y → Shape ti f.type ((ds.drop f.offset).take y.size)) : Shape ti t ds

/-- Fields that lie one behind the other. -/
def chain (ti : Types) : Nat → List Field → Option Nat
  | off, [] => some off
  | off, f :: r => if f.offset = off then match ti f.type with
      | some y => chain ti (off + y.size) r
      | none => none
    else none
theorem chain_le {ti : Types} : ∀ {fs : List Field} {off tot : Nat}, chain ti off fs = some tot → off ≤ tot ∧ ∀ f ∈ fs, off ≤ f.offset ∧ ∃ y, ti f.type = some y
  | [], off, tot, h => by simp [chain] at h; subst h; exact ⟨Nat.le_refl _, by simp⟩
  | f :: fs, off, tot, h => by
    unfold chain at h
    split at h
    · rename_i ho
      split at h
      · rename_i y hy
        obtain ⟨h1, h2⟩ := chain_le h
        refine ⟨by omega, fun f' hf' => ?_⟩
        rcases List.mem_cons.1 hf' with rfl | hf'
        · exact ⟨by omega, y, hy⟩
        · exact ⟨by have := (h2 f' hf').1; omega, (h2 f' hf').2⟩
      · simp at h
    · simp at h

/-- Types that are plain data: truths, whole numbers, texts, lists and structs of such. -/
def plainB (ti : Types) (T : List TypeId) : Bool :=
  T.all fun t => match ti t with
    | some x => match x.desc with
      | .bool | .int _ | .string => x.size == 1
      | .slice e => T.contains e && (x.size == 1) && (match ti e with
        | some y => decide (0 < y.size) && (rowD y.desc || y.size == 1)
        | none => false)
      | .struct fs => (chain ti 0 fs.toList == some x.size) && fs.toList.all fun f => T.contains f.type
      | _ => false
    | none => false

/-- Lists, place by place. -/
theorem choose_list {Q : Nat → D → Prop} : ∀ n, (∀ i, i < n → ∃ r, Q i r) → ∃ l : List D, l.length = n ∧ ∀ i r, l[i]? = some r → Q i r
  | 0, _ => ⟨[], rfl, by simp⟩
  | n + 1, h => by
    obtain ⟨l, h1, h2⟩ := choose_list n (fun i hi => h i (by omega))
    obtain ⟨r, hr⟩ := h n (by omega)
    refine ⟨l ++ [r], by simp [h1], fun i r' hi => ?_⟩
    by_cases hl : i < l.length
    · rw [List.getElem?_append_left hl] at hi; exact h2 i r' hi
    · rw [List.getElem?_append_right (by omega)] at hi
      have hin : i = n := by
        by_cases he : i = n
        · exact he
        · rw [List.getElem?_eq_none (by simp; omega)] at hi; simp at hi
      subst hin
      rw [h1] at hi
      simp at hi
      subst hi
      exact hr

/-- The cells cs are the data ds. -/
def RelDs (w : World) (Z : Zone) (ds : List D) (cs : List Value) : Prop :=
  ds.length = cs.length ∧ (∀ c ∈ ds, c.isAgg = false) ∧ ∀ (j : Nat) c u, ds[j]? = some c → cs[j]? = some u → RelD w Z c u

theorem relDs_one {w : World} {Z : Zone} {c : D} {u : Value} (hc : c.isAgg = false) (h : RelD w Z c u) : RelDs w Z [c] [u] :=
  ⟨rfl, by simpa using hc, fun j c' u' h1 h2 => by
    match j with
    | 0 => simp at h1 h2; subst h1; subst h2; exact h
    | j + 1 => simp at h1⟩

theorem conv_fields {w : World} {Z : Zone} {ti : Types} {cs : List Value} : ∀ (fs : List Field) (off tot : Nat), chain ti off fs = some tot → tot ≤ cs.length →
    (∀ f ∈ fs, ∀ y, ti f.type = some y → ∃ ds, Shape ti f.type ds ∧ RelDs w Z ds ((cs.drop f.offset).take y.size)) →
    ∃ ds, RelDs w Z ds ((cs.drop off).take (tot - off)) ∧ ∀ f ∈ fs, ∀ y, ti f.type = some y → Shape ti f.type ((ds.drop (f.offset - off)).take y.size)
  | [], off, tot, h, _, _ => by
    simp [chain] at h
    subst h
    exact ⟨[], ⟨by simp, by simp, by simp⟩, by simp⟩
  | f :: fs, off, tot, h, hl, hx => by
    unfold chain at h
    split at h
    · rename_i ho
      split at h
      · rename_i y hy
        obtain ⟨hle, hoff⟩ := chain_le h
        obtain ⟨ds', ⟨a1, a2, a3⟩, hs'⟩ := conv_fields fs _ tot h hl (fun f' hf' => hx f' (List.mem_cons_of_mem _ hf'))
        obtain ⟨p, hp, b1, b2, b3⟩ := hx f (by simp) y hy
        rw [ho] at b1 b3
        have hpl : p.length = y.size := by rw [b1]; simp; omega
        refine ⟨p ++ ds', ⟨?_, ?_, ?_⟩, fun f' hf' y' hy' => ?_⟩
        · simp at a1 ⊢; omega
        · intro c hc
          rcases List.mem_append.1 hc with hc | hc
          · exact b2 c hc
          · exact a2 c hc
        · intro j c u hc hu
          rw [List.getElem?_take] at hu
          split at hu
          · rename_i hj
            rw [List.getElem?_drop] at hu
            by_cases hjp : j < p.length
            · rw [List.getElem?_append_left hjp] at hc
              refine b3 j c u hc ?_
              rw [List.getElem?_take, if_pos (by omega), List.getElem?_drop]; exact hu
            · rw [List.getElem?_append_right (by omega)] at hc
              refine a3 (j - p.length) c u hc ?_
              rw [List.getElem?_take, if_pos (by omega), List.getElem?_drop, ← hu]
              congr 1
              omega
          · simp at hu
        · rcases List.mem_cons.1 hf' with rfl | hf'
          · rw [hy] at hy'
            obtain rfl : y = y' := by simpa using hy'
            rw [ho, Nat.sub_self, List.drop_zero, List.take_append_of_le_length (by omega), List.take_of_length_le (by omega)]
            exact hp
          · have h1 := (hoff f' hf').1
            have := hs' f' hf' y' hy'
            rw [List.drop_append, List.drop_of_length_le (by omega), List.nil_append]
            rw [show f'.offset - off - p.length = f'.offset - (off + y.size) from by omega]
            exact this
      · simp at h
    · simp at h

theorem cellsOf_ti {P : Program} {ti : Types} (hti : TIok P ti) {t : TypeId} {x : TI} (h : ti t = some x) : P.cellsOf t = x.size := by
  obtain ⟨_, i, h1, h2, _⟩ := hti t x h
  simp [Program.cellsOf, h1, h2]

/-- What is handed in is deep data. -/
theorem conv {H : Type} {enc : TypeId × Value → H} {P : Program} {ti : Types} (hti : TIok P ti) {T : List TypeId} (hT : plainB ti T = true) {w : World} {base : Nat} {spare : Nat → Bool} {held : Bool} {Z : Zone} (hZ : ∀ b o, ¬ Z b o) :
    ∀ (fuel : Nat) (t : TypeId) (cs : List Value) (d : DataW H) (ps : List MemPlace), t ∈ T → DataW.trod enc P w base spare held fuel t cs = some (d, ps) → ∃ ds, Shape ti t ds ∧ RelDs w Z ds cs
  | 0, t, cs, d, ps, _, h => by simp [DataW.trod] at h
  | fuel + 1, t, cs, d, ps, ht, h => by
    have hp := hT
    unfold plainB at hp
    have hp := List.all_eq_true.1 hp t ht
    split at hp
    · rename_i x hx
      have hu := (hti t x hx).1
      have hcs := cellsOf_ti hti hx
      split at hp
      · rename_i hd
        rw [hd] at hu
        unfold DataW.trod at h
        simp only [hu] at h
        split at h <;> simp_all
        exact ⟨_, .bool _ hx hd, relDs_one rfl (.bool _)⟩
      · rename_i k hd
        rw [hd] at hu
        unfold DataW.trod at h
        simp only [hu] at h
        split at h <;> simp_all
        obtain ⟨⟨rfl, hw⟩, _⟩ := h
        exact ⟨_, .int _ hx hd hw, relDs_one rfl (.int _ _)⟩
      · rename_i hd
        rw [hd] at hu
        unfold DataW.trod at h
        simp only [hu] at h
        split at h <;> simp_all
        exact ⟨_, .str _ hx hd h.1, relDs_one rfl (.str _)⟩
      · rename_i e hd
        rw [hd] at hu
        simp only [Bool.and_eq_true] at hp
        obtain ⟨⟨he, _⟩, hp⟩ := hp
        have he : e ∈ T := by simpa using he
        split at hp
        · rename_i y hy
          simp only [Bool.and_eq_true, decide_eq_true_eq] at hp
          have hey := cellsOf_ti hti hy
          unfold DataW.trod at h
          simp only [hu] at h
          split at h <;> rename_i hq <;> try cases hq
          · exact ⟨_, .slice [] hx hd hy (by simp) (by simp) (by simp), relDs_one rfl (relD_nil _ _)⟩
          · rename_i a len cap
            rw [hey] at h
            split at h
            · rename_i hg
              obtain ⟨elems, he1, _⟩ := Option.bind_eq_some_iff.1 h
              have hel : elems.length = len := by simpa using mapM_some_length he1
              have each : ∀ i, i < len → ∃ cs' ds, (w.cells? base (a.add (i * y.size)) y.size) = some cs' ∧ Shape ti e ds ∧ RelDs w Z ds cs' := by
                intro i hi
                have h1 := mapM_some_get he1 i i (by simp [hi])
                rw [List.getElem?_eq_getElem (by omega : i < elems.length)] at h1
                obtain ⟨cs', h2, h3⟩ := Option.bind_eq_some_iff.1 h1
                obtain ⟨ds, h4, h5⟩ := conv hti hT hZ fuel e cs' _ _ he h3
                exact ⟨cs', ds, h2, h4, h5⟩
              have hspot : 0 < len → a.spot = none := by
                intro hl
                obtain ⟨cs', _, h2, _⟩ := each 0 hl
                obtain ⟨_, h3, h4⟩ := World.cells?_some h2
                have h5 := h4 0 hp.1
                rw [List.getElem?_eq_getElem (by omega)] at h5
                simp only [Nat.zero_mul, Addr.add, if_true] at h5
                unfold World.cell? at h5
                split at h5
                · split at h5
                  · cases h5
                  · rename_i hs; simpa using hs
                · cases h5
              obtain ⟨rows, hrl, hrows⟩ := choose_list (Q := fun i r => r.fits (rowD y.desc) y.size ∧ Shape ti e r.cells ∧ ∀ (j : Nat) c, r.cells[j]? = some c →
                  ∃ u, w.cell? ⟨a.block, a.off + (i * y.size + j), none⟩ = some u ∧ RelD w Z c u) len (fun i hi => by
                obtain ⟨cs', ds, h2, h3, h4⟩ := each i hi
                obtain ⟨_, h5, h6⟩ := World.cells?_some h2
                have hdl : ds.length = y.size := h4.1.trans h5
                obtain ⟨r, hr1, hr2⟩ : ∃ r : D, r.cells = ds ∧ r.isAgg = rowD y.desc := by
                  cases hrw : rowD y.desc with
                  | true => exact ⟨.agg ds, rfl, rfl⟩
                  | false =>
                    rw [hrw] at hp
                    have : y.size = 1 := by simpa using hp.2
                    obtain ⟨c, rfl⟩ := List.length_eq_one_iff.1 (hdl.trans this)
                    have hc := h4.2.1 c (by simp)
                    exact ⟨c, by cases c <;> first | rfl | simp [D.isAgg] at hc, hc⟩
                refine ⟨r, ⟨hr2, by rw [hr1, hdl], by rw [hr1]; exact h4.2.1⟩, by rw [hr1]; exact h3, fun j c hc => ?_⟩
                rw [hr1] at hc
                have hj : j < y.size := by rw [← hdl]; exact (List.getElem?_eq_some_iff.1 hc).1
                have h7 := h6 j hj
                have ha : (a.add (i * y.size)).add j = ⟨a.block, a.off + (i * y.size + j), none⟩ := by
                  have := hspot (by omega)
                  obtain ⟨ab, ao, asp⟩ := a
                  simp only at this
                  subst this
                  unfold Addr.add
                  split <;> split <;> simp_all <;> omega
                rw [ha, List.getElem?_eq_getElem (by omega : j < cs'.length)] at h7
                exact ⟨_, h7, h4.2.2 j c _ hc (List.getElem?_eq_getElem (by omega : j < cs'.length))⟩)
              refine ⟨_, .slice rows hx hd hy (by omega) (fun r hr => ?_) (fun r hr => ?_), relDs_one rfl ?_⟩
              · obtain ⟨i, hi⟩ := List.mem_iff_getElem?.1 hr
                exact (hrows i r hi).1
              · obtain ⟨i, hi⟩ := List.mem_iff_getElem?.1 hr
                exact (hrows i r hi).2.1
              · rw [← hrl]
                refine .list _ _ rows (some a) cap a.block a.off (fun i j => (w.cell? ⟨a.block, a.off + (i * y.size + j), none⟩).getD undef) (by omega) hg.2.2 (fun r hr => ?_) (fun hne => ?_) (fun i r j c hr hc => ?_) (fun i r j c hr hc => ?_)
                · obtain ⟨i, hi⟩ := List.mem_iff_getElem?.1 hr
                  exact (hrows i r hi).1
                · have := hspot (by rw [← hrl]; exact List.length_pos_iff.2 hne)
                  obtain ⟨ab, ao, asp⟩ := a
                  simp only at this
                  rw [this]
                · obtain ⟨u, hu1, _⟩ := (hrows i r hr).2.2 j c hc
                  rw [hu1]
                  exact ⟨rfl, hZ _ _⟩
                · obtain ⟨u, hu1, hu2⟩ := (hrows i r hr).2.2 j c hc
                  rw [hu1]
                  exact hu2
            · cases h
          · cases h
        · simp at hp
      · rename_i fs hd
        rw [hd] at hu
        simp only [Bool.and_eq_true, beq_iff_eq] at hp
        obtain ⟨hch, hfs⟩ := hp
        unfold DataW.trod at h
        simp only [hu] at h
        split at h <;> rename_i hq <;> try cases hq
        · obtain ⟨xs, hxs, _⟩ := Option.map_eq_some_iff.1 h
          obtain ⟨ds, h1, h2⟩ := conv_fields (w := w) (Z := Z) (cs := cs) fs.toList 0 x.size hch (by omega) (fun f hf y hy => by
            obtain ⟨i, hi⟩ := List.mem_iff_getElem?.1 hf
            have h3 := mapM_some_get hxs i f hi
            have hil : i < xs.length := by rw [mapM_some_length hxs]; exact (List.getElem?_eq_some_iff.1 hi).1
            rw [List.getElem?_eq_getElem hil, cellsOf_ti hti hy] at h3
            have hfT : f.type ∈ T := by simpa using List.all_eq_true.1 hfs f hf
            exact conv hti hT hZ fuel f.type _ _ _ hfT h3)
          rw [List.drop_zero, Nat.sub_zero, List.take_of_length_le (by omega)] at h1
          exact ⟨ds, .struct ds hx hd (by rw [h1.1]; omega) h1.2.1 (fun f hf y hy => by simpa using h2 f hf y hy), h1⟩
        · cases h
      · simp at hp
    · simp at hp

end Go.AM

/- The abstract machine, part S: lists, place by place. No condition. -/
namespace Go.AM
open Go

/-- R is whether two lists are as long, and r holds at each place. -/
structure AllR (L L' : List D) (r : Nat → Bool) (R : Bool) : Prop where
  len : L.length ≠ L'.length → R = false
  bad : ∀ i, i < L.length → i < L'.length → r i = false → R = false
  good : L.length = L'.length → (∀ i, i < L.length → r i = true) → R = true

theorem AllR.of (L L' : List D) (r : Nat → Bool) : AllR L L' r (decide (L.length = L'.length ∧ ∀ i, i < L.length → r i = true)) where
  len h := by simp [h]
  bad i h1 h2 h := by
    rw [decide_eq_false_iff_not]
    rintro ⟨_, h3⟩
    rw [h3 i h1] at h
    cases h
  good h1 h2 := by rw [decide_eq_true_iff]; exact ⟨h1, h2⟩

/-- What holds up to i, and at i, holds up to i + 1 (whole numbers as counters). -/
theorem upto_next {r : Nat → Bool} {i i' : Int} (h0 : 0 ≤ i) (hi : i' = i + 1) (hj : ∀ j : Nat, j < i.toNat → r j = true) (hb : r i.toNat = true) : ∀ j : Nat, j < i'.toNat → r j = true := by
  intro j h
  by_cases h' : j < i.toNat
  · exact hj j h'
  · have : j = i.toNat := by omega
    rw [this]; exact hb

/-- Struct rows of n cells. -/
def RowsOf (n : Nat) (L : List D) : Prop := ∀ (i : Nat) x, L[i]? = some x → ∃ cs : List D, x = .agg cs ∧ cs.length = n

section
variable {ti : Types} {t e : TypeId} {x y : TI} {ds : List D} {fs : Array Field} {k : IntKind}
theorem Shape.bool_inv (h : Shape ti t ds) (hx : ti t = some x) (hd : x.desc = .bool) : ∃ b, ds = [.bool b] := by
  cases h <;> simp_all
theorem Shape.int_inv (h : Shape ti t ds) (hx : ti t = some x) (hd : x.desc = .int k) : ∃ n, ds = [.int k n] ∧ (Lit.int k n).wf = true := by
  cases h <;> simp_all
theorem Shape.str_inv (h : Shape ti t ds) (hx : ti t = some x) (hd : x.desc = .string) : ∃ s, ds = [.str s] ∧ s.size ≤ maxLen := by
  cases h <;> simp_all
theorem Shape.slice_inv (h : Shape ti t ds) (hx : ti t = some x) (hd : x.desc = .slice e) (hy : ti e = some y) :
    ∃ rows, ds = [.list (rowD y.desc) y.size rows] ∧ rows.length ≤ maxLen ∧ (∀ r ∈ rows, r.fits (rowD y.desc) y.size) ∧ ∀ r ∈ rows, Shape ti e r.cells := by
  cases h with
  | slice rows h1 h2 h3 h4 h5 h6 =>
    rw [hx] at h1
    obtain rfl := Option.some.inj h1
    rw [hd] at h2
    obtain rfl := TypeDesc.slice.inj h2
    rw [hy] at h3
    obtain rfl := Option.some.inj h3
    exact ⟨rows, rfl, h4, h5, h6⟩
  | _ => simp_all
theorem Shape.struct_inv (h : Shape ti t ds) (hx : ti t = some x) (hd : x.desc = .struct fs) :
    ds.length = x.size ∧ (∀ c ∈ ds, c.isAgg = false) ∧ ∀ f ∈ fs.toList, ∀ y, ti f.type = some y → Shape ti f.type ((ds.drop f.offset).take y.size) := by
  cases h with
  | struct ds h1 h2 h3 h4 h5 =>
    rw [hx] at h1
    obtain rfl := Option.some.inj h1
    rw [hd] at h2
    obtain rfl := TypeDesc.struct.inj h2
    exact ⟨h3, h4, h5⟩
  | _ => simp_all
theorem agg_of_fits {r : D} {n : Nat} (h : r.fits true n) : ∃ cs, r = .agg cs ∧ cs.length = n := by
  obtain ⟨h1, h2, _⟩ := h
  cases r <;> simp [D.isAgg] at h1
  exact ⟨_, rfl, h2⟩
end

open Classical in
/-- Are two lists the same, place by place. -/
theorem AllR.same (L L' : List D) : AllR L L' (fun i => decide (L[i]? = L'[i]?)) (decide (L = L')) where
  len h := by rw [decide_eq_false_iff_not]; rintro rfl; exact h rfl
  bad i h1 h2 h := by
    rw [decide_eq_false_iff_not] at h ⊢
    rintro rfl; exact h rfl
  good h1 h2 := by
    rw [decide_eq_true_iff]
    refine List.ext_getElem? fun i => ?_
    by_cases hi : i < L.length
    · exact of_decide_eq_true (h2 i hi)
    · rw [List.getElem?_eq_none (by omega), List.getElem?_eq_none (by omega)]

def tyD (ti : Types) (t : TypeId) : TI :=
  match ti t with
  | some x => x
  | none => ⟨.bool, 0, 0, .bool false, []⟩

theorem len3 {l : List D} (h : l.length = 3) : ∃ a b c, l = [a, b, c] := by
  match l, h with
  | [a, b, c], _ => exact ⟨a, b, c, rfl⟩
theorem bytes_eq {a b : ByteArray} : (a.toList == b.toList) = true ↔ a = b := by
  constructor
  · intro h
    have h := beq_iff_eq.1 h
    rw [ByteArray.toList_eq, ByteArray.toList_eq] at h
    exact ByteArray.ext (Array.ext' h)
  · rintro rfl; simp
theorem toList_inj {a b : ByteArray} : a.toList = b.toList ↔ a = b := by rw [← bytes_eq, beq_iff_eq]
theorem bytes_ne {a b : ByteArray} : (a.toList == b.toList) = false ↔ a ≠ b := by
  rw [← Bool.not_eq_true, bytes_eq]
/-- Rows of texts. -/
def StrRows (L : List D) : Prop := ∀ (i : Nat) x, L[i]? = some x → ∃ s, x = .str s
theorem str_of_fits {ti : Types} {t : TypeId} {x : TI} {r : D} {n : Nat} (hf : r.fits false n) (h : Shape ti t r.cells) (hx : ti t = some x) (hd : x.desc = .string) : ∃ s, r = .str s := by
  obtain ⟨s, hs, _⟩ := h.str_inv hx hd
  cases r with
  | agg cs => cases hf.1
  | _ => simp_all [D.cells]
end Go.AM
