/- Rows of bytes that the call owns, whose block may bear a mark behind its last cell (what '[]byte(s)' makes), and what is appended to them. -/
import Derived.Test.YteppilognoigjaaDoorPS
import Derived.ArgAppend
import Derived.Maps.AppendAt
import Derived.Laws.IdiomStrings
import Derived.Deep.RegionLaw
namespace Go.Proofs.YteppilognoigjaaDoor.LQ
open Go.RowKit Go.Proofs.YteppilognoigjaaDoorW.PrintWords Go.Proofs.YteppilognoigjaaDoorW.PrintLast Go.Proofs.YteppilognoigjaaDoorW.PrintMore Go.Proofs.YteppilognoigjaaDoor.PQueryForms Go.Proofs.YteppilognoigjaaDoor.QK
set_option linter.unusedVariables false
set_option linter.unusedSimpArgs false

theorem c8_length (l : List Int) : (c8 l).length = l.length := List.length_map _
theorem c8_one (l : List Int) : ∀ u ∈ c8 l, u.oneCell' = true := by
  intro u hu
  obtain ⟨x, _, rfl⟩ := List.mem_map.1 hu
  rfl
/-- A slice value whose cells are these bytes, in a block of its own from base on. -/
def Own8 (e : TypeId) (base : Nat) (w : World) (v : Value) (l : List Int) : Prop :=
  (v = .slice none 0 0 ∧ l = []) ∨ ∃ g cap cur fz, v = .slice (some ⟨g, 0, none⟩) l.length cap ∧ base ≤ g ∧ w.heap[g]? = some (.cells cur e fz) ∧ (fz = (0, 0) ∨ cur.size ≤ fz.1) ∧ l.length ≤ cap ∧ cap ≤ maxLen ∧ cur.size = cap ∧ cur.toList.take l.length = c8 l
/-- A slice value that reads as these bytes. -/
def Row8 (e : TypeId) (base : Nat) (w : World) (own : Option Nat) (u : Value) (p : List Int) : Prop :=
  ∃ A c, u = .slice A p.length c ∧ (p = [] ∨ ∃ g cur fz, A = some ⟨g, 0, none⟩ ∧ base ≤ g ∧ some g ≠ own ∧ w.heap[g]? = some (.cells cur e fz) ∧ cur.toList.take p.length = c8 p)
section
variable {e : TypeId} {base : Nat} {w w' : World} {v u : Value} {l p : List Int} {own : Option Nat}
theorem Own8.row (h : Own8 e base w v l) (hne : v.ownBlock = none ∨ v.ownBlock ≠ own) : Row8 e base w own v l := by
  rcases h with ⟨rfl, rfl⟩ | ⟨g, cap, cur, fz, rfl, hb, hg, _, _, _, _, ht⟩
  · exact ⟨none, 0, rfl, .inl rfl⟩
  · exact ⟨_, _, rfl, .inr ⟨g, cur, fz, rfl, hb, by simpa [Value.ownBlock] using hne, hg, ht⟩⟩
theorem Own8.nil : Own8 e base w (.slice none 0 0) [] := .inl ⟨rfl, rfl⟩
theorem Own8.lt (h : Own8 e base w v l) : ∀ k, v.ownBlock = some k → base ≤ k ∧ k < w.heap.size := by
  intro k hk
  rcases h with ⟨rfl, _⟩ | ⟨g, cap, cur, fz, rfl, hb, hg, _⟩
  · simp [Value.ownBlock] at hk
  · simp [Value.ownBlock] at hk
    subst hk
    exact ⟨hb, (Array.getElem?_eq_some_iff.1 hg).1⟩
theorem Own8.of_heap (h : Own8 e base w v l) (hk : ∀ k, v.ownBlock = some k → w'.heap[k]? = w.heap[k]?) : Own8 e base w' v l := by
  rcases h with h0 | ⟨g, cap, cur, fz, rfl, hb, hg, r⟩
  · exact .inl h0
  · exact .inr ⟨g, cap, cur, fz, rfl, hb, (hk g rfl).trans hg, r⟩
theorem Own8.kept {row : Option Nat} (h : Own8 e base w v l) (hg : w.grownBy w' row) (hne : v.ownBlock = none ∨ v.ownBlock ≠ row) : Own8 e base w' v l :=
  h.of_heap fun k hk => hg.block k (h.lt k hk).2 (by rcases hne with e | e <;> rw [hk] at e <;> simp_all)
theorem Own8.below {B : Nat} (h : Own8 e base w v l) (hb : Below B w w') (hB : w.heap.size ≤ B) : Own8 e base w' v l :=
  h.of_heap fun k hk => hb.block k (by have := (h.lt k hk).2; omega)
theorem Own8.low {base' : Nat} (h : Own8 e base w v l) (hb : base' ≤ base) : Own8 e base' w v l := by
  rcases h with h0 | ⟨g, cap, cur, fz, hv, hg, r⟩
  · exact .inl h0
  · exact .inr ⟨g, cap, cur, fz, hv, by omega, r⟩
theorem Own8.of_row {n : Nat} (h : w.ownsRow base e 1 v n (c8 l)) : Own8 e base w v l := by
  have hl : l.length = n := by have := h.1; rw [c8_length, Nat.mul_one] at this; exact this
  subst hl
  rcases h.2 with ⟨hv, h0⟩ | ⟨g, cap, cur, hv, hb, hg, hn, hc, hs, ht⟩
  · exact .inl ⟨hv, List.eq_nil_of_length_eq_zero h0⟩
  · exact .inr ⟨g, cap, cur, (0, 0), hv, hb, hg, .inl rfl, hn, hc, by rw [hs, Nat.mul_one], by rw [Nat.mul_one] at ht; exact ht⟩
theorem Row8.of_heap (h : Row8 e base w own u p) (hk : ∀ g, (p ≠ [] ∧ u.ownBlock = some g) → w'.heap[g]? = w.heap[g]?) : Row8 e base w' own u p := by
  obtain ⟨A, c, rfl, h⟩ := h
  refine ⟨A, c, rfl, ?_⟩
  rcases h with h0 | ⟨g, cur, fz, rfl, hb, hne, hg, ht⟩
  · exact .inl h0
  · by_cases h0 : p = []
    · exact .inl h0
    · exact .inr ⟨g, cur, fz, rfl, hb, hne, (hk g ⟨h0, rfl⟩).trans hg, ht⟩
theorem Row8.lt (h : Row8 e base w own u p) (g : Nat) (hp : p ≠ []) (hu : u.ownBlock = some g) : base ≤ g ∧ g < w.heap.size ∧ some g ≠ own ∧ ∃ cur fz, w.heap[g]? = some (.cells cur e fz) := by
  obtain ⟨A, c, rfl, h⟩ := h
  rcases h with h0 | ⟨g', cur, fz, rfl, hb, hne, hg, _⟩
  · exact absurd h0 hp
  · simp [Value.ownBlock] at hu
    subst hu
    exact ⟨hb, (Array.getElem?_eq_some_iff.1 hg).1, hne, cur, fz, hg⟩
theorem Row8.below {B : Nat} (h : Row8 e base w own u p) (hb : Below B w w') (hB : w.heap.size ≤ B) : Row8 e base w' own u p :=
  h.of_heap fun g hg => hb.block g (by have := (h.lt g hg.1 hg.2).2.1; omega)
theorem Row8.kept (h : Row8 e base w own u p) (hg : w.grownBy w' own) : Row8 e base w' own u p :=
  h.of_heap fun g hu => hg.block g (h.lt g hu.1 hu.2).2.1 (h.lt g hu.1 hu.2).2.2.1
/-- A row of another kind is written. -/
theorem Row8.far {row : Option Nat} (h : Row8 e base w own u p) (hg : w.grownBy w' row) (hr : ∀ g, row = some g → ∃ c t fz, w.heap[g]? = some (.cells c t fz) ∧ t ≠ e) : Row8 e base w' own u p :=
  h.of_heap fun g hu => by
    obtain ⟨_, hlt, _, cur, fz, hc⟩ := h.lt g hu.1 hu.2
    refine hg.block g hlt fun he => ?_
    obtain ⟨c, t, fz', hc', ht⟩ := hr g he.symm
    rw [hc] at hc'
    simp only [Option.some.injEq, Obj.cells.injEq] at hc'
    exact ht hc'.2.1.symm
/-- Another row is the one that is owned. -/
theorem Row8.other {own' : Option Nat} (h : Row8 e base w own u p) (ho : ∀ g, own' = some g → own = some g ∨ w.heap.size ≤ g) : Row8 e base w own' u p := by
  obtain ⟨A, c, rfl, h⟩ := h
  refine ⟨A, c, rfl, ?_⟩
  rcases h with h0 | ⟨g, cur, fz, rfl, hb, hne, hg, ht⟩
  · exact .inl h0
  · refine .inr ⟨g, cur, fz, rfl, hb, fun he => ?_, hg, ht⟩
    rcases ho g he.symm with h1 | h1
    · exact hne h1.symm
    · have := (Array.getElem?_eq_some_iff.1 hg).1; omega
theorem Row8.low {base' : Nat} (h : Row8 e base w own u p) (hb : base' ≤ base) : Row8 e base' w own u p := by
  obtain ⟨A, c, rfl, h⟩ := h
  refine ⟨A, c, rfl, ?_⟩
  rcases h with h0 | ⟨g, cur, fz, h1, h2, r⟩
  · exact .inl h0
  · exact .inr ⟨g, cur, fz, h1, by omega, r⟩
/-- Its cells. -/
theorem Row8.cells (h : Row8 e base w own u p) : ∃ A c, u = .slice A p.length c ∧ (0 < p.length → ∃ g, A = some ⟨g, 0, none⟩ ∧ ∀ j x, p[j]? = some x → w.cell? ⟨g, j, none⟩ = some (.int .u8 x)) := by
  obtain ⟨A, c, rfl, h⟩ := h
  refine ⟨A, c, rfl, fun hp => ?_⟩
  rcases h with rfl | ⟨g, cur, fz, rfl, _, _, hg, ht⟩
  · simp at hp
  · refine ⟨g, rfl, fun j x hj => ?_⟩
    have hjl := (List.getElem?_eq_some_iff.1 hj).1
    have h1 : (c8 p)[j]? = some (.int .u8 x) := by rw [List.getElem?_map, hj]; rfl
    rw [← ht, List.getElem?_take, if_pos hjl] at h1
    rw [World.cell?, hg]
    simpa using h1
end

/-- Cells are stored ahead of the mark. -/
theorem run_storeCells_atG (P : Program) (g o : Nat) (t : TypeId) (fz : Nat × Nat) : ∀ (vs : List Value) (i : Nat) (cur : Array Value) (w : World), w.heap[g]? = some (.cells cur t fz) → (fz = (0, 0) ∨ cur.size ≤ fz.1) → o + i + vs.length ≤ cur.size → (∀ v ∈ vs, v.oneCell' = true) →
    (storeCells ⟨g, o, none⟩ vs i).run P w = .ok () (w.setRow g (cur.toList.take (o + i) ++ vs ++ cur.toList.drop (o + i + vs.length)).toArray)
  | [], i, cur, w, hg, _, _, _ => by
    simp only [storeCells, List.append_nil, List.length_nil, Nat.add_zero, List.take_append_drop, Array.toArray_toList]
    rw [setRow_self w g cur t fz hg]
    rfl
  | v :: rest, i, cur, w, hg, hfz, hl, h1 => by
    have hi : o + i < cur.size := by simp at hl; omega
    have hadd : (⟨g, o, none⟩ : Addr).add i = ⟨g, o + i, none⟩ := by unfold Addr.add; split <;> simp_all
    have hcell : w.cell? ⟨g, o + i, none⟩ = some cur[o + i] := by simp [World.cell?, hg, hi]
    have hfro : w.frozen? ⟨g, o + i, none⟩ = false := by
      obtain ⟨lo, hi'⟩ := fz
      simp only [World.frozen?, hg, Bool.and_eq_false_iff, decide_eq_false_iff_not]
      rcases hfz with h0 | h0
      · simp only [Prod.mk.injEq] at h0
        right
        omega
      · simp only at h0
        left
        omega
    have hst : (store ((⟨g, o, none⟩ : Addr).add i) v).run P w = .ok () (w.setRow g (cur.setIfInBounds (o + i) v)) := by
      rw [hadd, run_store P w _ v _ (h1 v (by simp)), hcell]
      simp [hfro, setCell_eq_setRow w g (o + i) cur t fz v hg]
    have ih := run_storeCells_atG P g o t fz rest (i + 1) (cur.setIfInBounds (o + i) v) (w.setRow g (cur.setIfInBounds (o + i) v)) (setRow_heap w g cur _ t _ hg) (by simpa using hfz) (by simp at hl ⊢; omega) (fun x hx => h1 x (by simp [hx]))
    simp only [storeCells, Sem.run_bind, hst, Result.andThen_ok, ih, setRow_setRow]
    congr 3
    have e := list_seg_step cur.toList (o + i) v rest (by simp at hl ⊢; omega)
    simpa [Array.toList_setIfInBounds, Nat.add_assoc] using e
section
variable {P : Program} (w : World)
theorem run_append_roomG (t ty e : TypeId) (i : TypeInfo) (ht : P.underlying t = some (.slice e)) (hi : P.info? e = some i) (hs1 : i.size = 1)
    (g sLen sCap : Nat) (cur : Array Value) (fz : Nat × Nat) (hg : w.heap[g]? = some (.cells cur e fz)) (hfz : fz = (0, 0) ∨ cur.size ≤ fz.1)
    (a : Addr) (m c : Nat) (news : List Value) (hl : news.length = m) (hnews : ∀ j u, news[j]? = some u → w.cell? (a.add j) = some u) (h1 : ∀ u ∈ news, u.oneCell' = true)
    (hroom : sLen + m ≤ sCap) (hfit : sLen + news.length ≤ cur.size) :
    (Builtin.append_ #[t, t] ty #[.slice (some ⟨g, 0, none⟩) sLen sCap, .slice (some a) m c]).run P w =
      .ok (.slice (some ⟨g, 0, none⟩) (sLen + m) sCap) (w.setRow g (cur.toList.take sLen ++ news ++ cur.toList.drop (sLen + news.length)).toArray) := by
  have hf := run_firstCells_some (P := P) w 1 m a m c news (by rw [hl, Nat.mul_one]) hnews
  have hst := run_storeCells_atG P g sLen e fz news 0 cur w hg hfz (by simpa using hfit) h1
  simp only [Nat.add_zero] at hst
  simp [Builtin.append_, run_underlying ht, sizeOf, typeInfo, hi, hs1, Builtin.lenOf, hroom, hf, Addr.add_lit, hst]
theorem run_append8 (base base' : Nat) (t ty e : TypeId) (i : TypeInfo) (ht : P.underlying t = some (.slice e)) (hi : P.info? e = some i) (hz : i.zero = some (.int .u8 0)) (hsize : i.size = 1) (hby : i.bytes = 1)
    (v : Value) (l : List Int) (hown : Own8 e base w v l) (own : Option Nat) (u : Value) (p : List Int) (hr : Row8 e base' w own u p)
    (hbytes : l.length + p.length ≤ 140737488355328) (hbase : base ≤ w.heap.size) :
    ∃ v' w', (Builtin.append_ #[t, t] ty #[v, u]).run P w = .ok v' w' ∧ Own8 e base w' v' (l ++ p) ∧ w.grownBy w' v.ownBlock ∧ (v'.ownBlock = v.ownBlock ∨ v'.ownBlock = some w.heap.size) := by
  obtain ⟨A, c, rfl, hA⟩ := hr.cells
  by_cases hp : p = []
  · subst hp
    have hsame : (Builtin.append_ #[t, t] ty #[v, .slice A 0 c]).run P w = .ok v w := by
      have hf : (Builtin.firstCells 1 0 (.slice A 0 c)).run P w = .ok #[] w := by
        cases A with
        | none => simp [Builtin.firstCells]
        | some ad => exact run_firstCells_some (P := P) w 1 0 ad 0 c [] (by simp) (by simp)
      rcases hown with ⟨rfl, rfl⟩ | ⟨g, cap, cur, fz, rfl, hb, hg, hfz, hn, hc, hs, htk⟩
      · simp [Builtin.append_, run_underlying ht, sizeOf, typeInfo, hi, hsize, Builtin.lenOf, hf]
      · simp [Builtin.append_, run_underlying ht, sizeOf, typeInfo, hi, hsize, Builtin.lenOf, hn, hf, storeCells]
    refine ⟨v, w, hsame, by rw [List.append_nil]; exact hown, World.grownBy.refl w _, .inl rfl⟩
  · have hpl : 0 < p.length := List.length_pos_iff.2 hp
    obtain ⟨g2, rfl, hc2⟩ := hA hpl
    have hnews : ∀ j x, (c8 p)[j]? = some x → w.cell? ((⟨g2, 0, none⟩ : Addr).add j) = some x := by
      intro j x hj
      rw [List.getElem?_map] at hj
      obtain ⟨y, hy, rfl⟩ := Option.map_eq_some_iff.1 hj
      have := hc2 j y hy
      rw [Addr.add_lit]
      simpa using this
    have h63 : l.length + p.length ≤ maxLen := by unfold maxLen; omega
    rcases hown with ⟨rfl, rfl⟩ | ⟨g, cap, cur, fz, rfl, hb, hg, hfz, hn, hc, hs, htk⟩
    · obtain ⟨v', w', h1, h2, h3, _, h5⟩ := run_append_own_at (P := P) w base t ty e i (.int .u8 0) 1 1 ht hi hz hsize hby rfl (by decide) (.slice none 0 0) 0 [] (World.ownsRow_nil w base e 1) ⟨g2, 0, none⟩ p.length c (c8 p) (by rw [c8_length, Nat.mul_one]) hnews (c8_one p) (by simpa using h63) (by simpa using hbytes) hbase
      refine ⟨v', w', h1, ?_, h3, h5⟩
      rw [List.nil_append] at h2 ⊢
      exact Own8.of_row h2
    · by_cases hroom : l.length + p.length ≤ cap
      · have hrun := run_append_roomG (P := P) w t ty e i ht hi hsize g l.length cap cur fz hg hfz ⟨g2, 0, none⟩ p.length c (c8 p) (c8_length p) hnews (c8_one p) hroom (by rw [c8_length]; omega)
        refine ⟨_, _, hrun, .inr ⟨g, cap, _, fz, by rw [List.length_append], hb, setRow_heap w g cur _ e _ hg, ?_, by rw [List.length_append]; exact hroom, hc, ?_, ?_⟩, ⟨rfl, rfl, rfl, by simp, fun k _ hk => setRow_other w g k _ (fun e => hk (by simp [Value.ownBlock, e]))⟩, .inl rfl⟩
        · rcases hfz with h | h
          · exact .inl h
          · right
            simp only [List.size_toArray, List.length_append, List.length_take, List.length_drop, Array.length_toList, c8_length]
            omega
        · simp only [List.size_toArray, List.length_append, List.length_take, List.length_drop, Array.length_toList, c8_length]
          omega
        · rw [htk, List.length_append, c8_append]
          have e1 : (c8 l ++ c8 p).length = l.length + p.length := by rw [List.length_append, c8_length, c8_length]
          rw [← e1]
          exact List.take_left
      · have holds : ∀ j x, (c8 l)[j]? = some x → w.cell? ((⟨g, 0, none⟩ : Addr).add j) = some x := by
          intro j x hj
          have hjl := (List.getElem?_eq_some_iff.1 hj).1
          rw [c8_length] at hjl
          rw [← htk, List.getElem?_take, if_pos hjl] at hj
          rw [Addr.add_lit, World.cell?, hg]
          simpa using hj
        have hrun := run_append_grow (P := P) w t ty e i (.int .u8 0) ht hi hz ⟨g, 0, none⟩ l.length cap (c8 l) (by rw [c8_length, hsize, Nat.mul_one]) holds ⟨g2, 0, none⟩ p.length c (c8 p) (by rw [c8_length, hsize, Nat.mul_one]) hnews (by omega) (by omega) (by rw [hby]; exact growslice_fits (by omega) (by omega))
        have hge := grownCap_ge w (l.length + p.length) cap e
        have hcm := grownCap_le_maxLen w (l.length + p.length) cap e h63
        refine ⟨_, _, hrun, .inr ⟨w.heap.size, _, _, (0, 0), by rw [List.length_append], hbase, heap_alloc_new w.drew _, .inl rfl, by rw [List.length_append]; exact hge, hcm, ?_, ?_⟩, ⟨rfl, rfl, rfl, by simp, fun k hk _ => heap_alloc_old w.drew _ hk⟩, .inr rfl⟩
        · have hz1 : (Value.int IntKind.u8 0).cells.size = 1 := rfl
          simp only [Array.size_append, List.size_toArray, size_zeroCells, hz1, c8_length]
          omega
        · rw [List.length_append, c8_append]
          have e1 : (c8 l ++ c8 p).length = l.length + p.length := by rw [List.length_append, c8_length, c8_length]
          simp only [Array.toList_append]
          rw [← e1]
          exact List.take_left
theorem wp_append8 {o : Oper} {a : Act} {K : Act → World → Prop} {Q : Exit → Act → World → Prop} (s x : Operand) (t : TypeId)
    (ho : o.op = .call { callee := .builtin .append, args := #[s, x], argTypes := #[t, t] }) (base base' : Nat) (e : TypeId) (i : TypeInfo)
    (ht : P.underlying t = some (.slice e)) (hi : P.info? e = some i) (hz : i.zero = some (.int .u8 0)) (hsize : i.size = 1) (hby : i.bytes = 1)
    (v : Value) (l : List Int) (hs : a.eval s = v) (hown : Own8 e base w v l) (own : Option Nat) (u : Value) (p : List Int) (hx : a.eval x = u) (hr : Row8 e base' w own u p)
    (hbytes : l.length + p.length ≤ 140737488355328) (hbase : base ≤ w.heap.size)
    (h : ∀ v' w', Own8 e base w' v' (l ++ p) → w.grownBy w' v.ownBlock → (v'.ownBlock = v.ownBlock ∨ v'.ownBlock = some w.heap.size) → K (a.put o.dst v') w') : o.wp P a w K Q := by
  obtain ⟨v', w', hrun, h2, h3, h4⟩ := run_append8 (P := P) w base base' t o.type e i ht hi hz hsize hby v l hown own u p hr hbytes hbase
  unfold Oper.wp execOp
  simp only [ho, resolve, invoke, builtin, Sem.run_bind, Sem.run_pure, Result.andThen_ok, List.map_toArray, List.map_cons, List.map_nil, hs, hx, hrun]
  exact h v' w' h2 h3 h4
theorem wpList_append8 {ops : Array Oper} {rest : List Oper} {o : Oper} {a : Act} {Q : Exit → Act → World → Prop} (hgd : o.guard = none) (s x : Operand) (t : TypeId)
    (ho : o.op = .call { callee := .builtin .append, args := #[s, x], argTypes := #[t, t] }) (base base' : Nat) (e : TypeId) (i : TypeInfo)
    (ht : P.underlying t = some (.slice e)) (hi : P.info? e = some i) (hz : i.zero = some (.int .u8 0)) (hsize : i.size = 1) (hby : i.bytes = 1)
    (v : Value) (l : List Int) (hs : a.eval s = v) (hown : Own8 e base w v l) (own : Option Nat) (u : Value) (p : List Int) (hx : a.eval x = u) (hr : Row8 e base' w own u p)
    (hbytes : l.length + p.length ≤ 140737488355328) (hbase : base ≤ w.heap.size)
    (h : ∀ v' w', Own8 e base w' v' (l ++ p) → w.grownBy w' v.ownBlock → (v'.ownBlock = v.ownBlock ∨ v'.ownBlock = some w.heap.size) → wpList P ops Q rest (a.put o.dst v') w') : wpList P ops Q (o :: rest) a w :=
  wpList_plain hgd fun _ hK => wp_append8 w s x t ho base base' e i ht hi hz hsize hby v l hs hown own u p hx hr hbytes hbase fun v' w' h2 h3 h4 => hK _ _ (h v' w' h2 h3 h4)
theorem step_append8 {ops : Array Oper} {o : Oper} {a : Act} {K : Act → World → Prop} {Q : Exit → Act → World → Prop} {E : Prop} (hgd : o.guard = none) (s x : Operand) (t : TypeId)
    (ho : o.op = .call { callee := .builtin .append, args := #[s, x], argTypes := #[t, t] }) (base base' : Nat) (e : TypeId) (i : TypeInfo)
    (ht : P.underlying t = some (.slice e)) (hi : P.info? e = some i) (hz : i.zero = some (.int .u8 0)) (hsize : i.size = 1) (hby : i.bytes = 1)
    (v : Value) (l : List Int) (hs : a.eval s = v) (hown : Own8 e base w v l) (own : Option Nat) (u : Value) (p : List Int) (hx : a.eval x = u) (hr : Row8 e base' w own u p)
    (hbytes : l.length + p.length ≤ 140737488355328) (hbase : base ≤ w.heap.size)
    (h : ∀ v' w', Own8 e base w' v' (l ++ p) → w.grownBy w' v.ownBlock → (v'.ownBlock = v.ownBlock ∨ v'.ownBlock = some w.heap.size) → K (a.put o.dst v') w') :
    if Region.wanted o (yielded ops a.tmps) = true then Oper.wp P o a w K Q else E := by
  have hw : Region.wanted o (yielded ops a.tmps) = true := by simp [Region.wanted, hgd]
  rw [if_pos hw]
  exact wp_append8 w s x t ho base base' e i ht hi hz hsize hby v l hs hown own u p hx hr hbytes hbase h
end

/-- What '[]byte(s)' makes. -/
theorem own8_bytes (w : World) (e : TypeId) (s : ByteArray) (base : Nat) (hb : base ≤ w.heap.size) (hs : s.size ≤ maxLen) : Own8 e base (Lib.bytesWorld w e s) (.slice (some ⟨w.heap.size, 0, none⟩) s.size (grownCap w s.size 0 e)) (bytesOf s) := by
  have hge := grownCap_ge w s.size 0 e
  have hcm := grownCap_le_maxLen w s.size 0 e hs
  have hl : (bytesOf s).length = s.size := bytesOf_length s
  refine .inr ⟨w.heap.size, _, _, _, by rw [hl], hb, Lib.bytesWorld_at_new w e s, .inr (Nat.le_refl _), by rw [hl]; exact hge, hcm, ?_, ?_⟩
  · unfold Lib.bytesCells
    simp only [Array.size_append, Array.size_map, Array.size_replicate]
    have : s.data.size = s.size := rfl
    omega
  · rw [hl]
    unfold Lib.bytesCells
    simp only [Array.toList_append, Array.toList_map]
    have e1 : (s.data.toList.map fun b => Value.int .u8 (b.toNat : Int)).length = s.size := by rw [List.length_map, Array.length_toList]; rfl
    rw [← e1, List.take_left]
    unfold c8 bytesOf
    rw [List.map_map]
    rfl
theorem bytesWorld_grown (w : World) (e : TypeId) (s : ByteArray) (row : Option Nat) : w.grownBy (Lib.bytesWorld w e s) row :=
  ⟨rfl, rfl, rfl, by rw [Lib.bytesWorld_size]; omega, fun k hk _ => Lib.bytesWorld_at_old w e s k hk⟩
end Go.Proofs.YteppilognoigjaaDoor.LQ
