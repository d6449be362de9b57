/- A row of rows of bytes that the call owns: the parts of the reference's write. -/
import Derived.Test.YteppilognoigjaaDoorQC
namespace Go.Proofs.YteppilognoigjaaDoor.LQ
open Go.RowKit Go.Proofs.YteppilognoigjaaDoorW.PrintWords Go.Proofs.YteppilognoigjaaDoorW.PrintLast Go.Proofs.YteppilognoigjaaDoorW.PrintMore Go.Proofs.YteppilognoigjaaDoor.PQueryForms Go.Proofs.YteppilognoigjaaDoor.QK
set_option linter.unusedVariables false
set_option linter.unusedSimpArgs false

/-- A row of rows of bytes. -/
def PartsAt (base : Nat) (own : Option Nat) (w : World) (v : Value) (ps : List (List Int)) : Prop :=
  ∃ us, w.ownsRow base 43 1 v ps.length us ∧ ∀ (j : Nat) (p : List Int), ps[j]? = some p → ∃ u, us[j]? = some u ∧ Row8 5 base w own u p
section
variable {base : Nat} {own : Option Nat} {w w' : World} {v : Value} {ps : List (List Int)}
theorem PartsAt.nil (base : Nat) (own : Option Nat) (w : World) : PartsAt base own w (.slice none 0 0) [] := ⟨[], World.ownsRow_nil w base _ 1, fun j p h => by simp at h⟩
theorem ownsRow_below {B base size n : Nat} {e : TypeId} {v : Value} {xs : List Value} (h : w.ownsRow base e size v n xs) (hb : Below B w w') (hB : w.heap.size ≤ B) : w'.ownsRow base e size v n xs := by
  refine ⟨h.1, ?_⟩
  rcases h.2 with h0 | ⟨g, cap, cur, hv, hbg, hg, r⟩
  · exact .inl h0
  · exact .inr ⟨g, cap, cur, hv, hbg, (hb.block g (by have := (Array.getElem?_eq_some_iff.1 hg).1; omega)).trans hg, r⟩
theorem PartsAt.below {B : Nat} (h : PartsAt base own w v ps) (hb : Below B w w') (hB : w.heap.size ≤ B) : PartsAt base own w' v ps := by
  obtain ⟨us, ho, hr⟩ := h
  refine ⟨us, ownsRow_below ho hb hB, fun j p hj => ?_⟩
  obtain ⟨u, hu, hR⟩ := hr j p hj
  exact ⟨u, hu, hR.below hb hB⟩
theorem PartsAt.block (h : PartsAt base own w v ps) : ∀ g, v.ownBlock = some g → g < w.heap.size ∧ ∃ c fz, w.heap[g]? = some (.cells c 43 fz) := by
  intro g hg
  obtain ⟨us, ho, _⟩ := h
  rcases ho.2 with ⟨rfl, _⟩ | ⟨g', cap, cur, rfl, _, hh, _⟩
  · simp [Value.ownBlock] at hg
  · simp [Value.ownBlock] at hg
    subst hg
    exact ⟨(Array.getElem?_eq_some_iff.1 hh).1, cur, _, hh⟩
theorem PartsAt.low (h : PartsAt base own w v ps) : ∀ g, v.ownBlock = some g → base ≤ g := by
  intro g hg
  obtain ⟨us, ho, _⟩ := h
  exact (ho.lt g hg).1
/-- The bytes' row is written on; where it lies then. -/
theorem PartsAt.kept {own' : Option Nat} (h : PartsAt base own w v ps) (hg : w.grownBy w' own) (ht : ∀ g, own = some g → ∃ c fz, w.heap[g]? = some (.cells c 5 fz)) (ho : own' = own ∨ own' = some w.heap.size) : PartsAt base own' w' v ps := by
  obtain ⟨us, hrow, hr⟩ := h
  refine ⟨us, hrow.kept hg ?_, fun j p hj => ?_⟩
  · rcases hrow.2 with ⟨rfl, _⟩ | ⟨g, cap, cur, rfl, _, hh, _⟩
    · exact .inl rfl
    · right
      intro he
      obtain ⟨c, fz, hc⟩ := ht g (by rw [← he]; rfl)
      rw [hh] at hc
      simp only [Option.some.injEq, Obj.cells.injEq] at hc
      exact absurd hc.2.1 (by decide)
  · obtain ⟨u, hu, hR⟩ := hr j p hj
    refine ⟨u, hu, ?_⟩
    have h1 : Row8 5 base w own' u p := hR.other fun g he => by
      rcases ho with e | e
      · left; rw [← e, he]
      · right; rw [e] at he; simp at he; omega
    obtain ⟨A, c, rfl, hA⟩ := hR
    refine h1.of_heap fun g hu => ?_
    obtain ⟨_, hlt, hne, _⟩ := (show Row8 5 base w own _ p from ⟨A, c, rfl, hA⟩).lt g hu.1 hu.2
    exact hg.block g hlt hne
theorem Own8.block {e : TypeId} {l : List Int} (h : Own8 e base w v l) : ∀ g, v.ownBlock = some g → ∃ c fz, w.heap[g]? = some (.cells c e fz) := by
  intro k hk
  rcases h with ⟨rfl, _⟩ | ⟨g, cap, cur, fz, rfl, hb, hg, _⟩
  · simp [Value.ownBlock] at hk
  · simp [Value.ownBlock] at hk
    subst hk
    exact ⟨cur, fz, hg⟩
/-- A row of rows is written: a row of bytes stays. -/
theorem Own8.far {l : List Int} {row : Option Nat} (h : Own8 5 base w v l) (hg : w.grownBy w' row) (hr : ∀ g, row = some g → ∃ c fz, w.heap[g]? = some (.cells c 43 fz)) : Own8 5 base w' v l := by
  refine h.kept hg ?_
  cases hv : v.ownBlock with
  | none => exact .inl rfl
  | some g =>
    right
    intro he
    obtain ⟨c, fz, hc⟩ := h.block g hv
    obtain ⟨c', fz', hc'⟩ := hr g he.symm
    rw [hc] at hc'
    simp only [Option.some.injEq, Obj.cells.injEq] at hc'
    exact absurd hc'.2.1 (by decide)
/-- What it is. -/
theorem PartsAt.form (h : PartsAt base own w v ps) : ∃ A c, v = .slice A ps.length c ∧ ∀ (j : Nat) (p : List Int), ps[j]? = some p → ∃ g, A = some ⟨g, 0, none⟩ ∧ ∃ u, w.cell? ⟨g, j, none⟩ = some u ∧ Row8 5 base w own u p := by
  obtain ⟨us, ho, hr⟩ := h
  rcases ho.2 with ⟨rfl, h0⟩ | ⟨g, cap, cur, rfl, _, hh, hn, _, hs, ht⟩
  · refine ⟨none, 0, by rw [h0], fun j p hj => ?_⟩
    have := (List.getElem?_eq_some_iff.1 hj).1
    omega
  · refine ⟨_, cap, rfl, fun j p hj => ⟨g, rfl, ?_⟩⟩
    obtain ⟨u, hu, hR⟩ := hr j p hj
    refine ⟨u, ?_, hR⟩
    have hjl := (List.getElem?_eq_some_iff.1 hj).1
    rw [Nat.mul_one] at ht
    rw [← ht, List.getElem?_take, if_pos hjl] at hu
    rw [World.cell?, hh]
    simpa using hu
end
theorem PartsAt.at_ {base : Nat} {own : Option Nat} {w : World} {A : Option Addr} {n c : Nat} {ps : List (List Int)} (h : PartsAt base own w (.slice A n c) ps) {i : Int} (h0 : 0 ≤ i) (h1 : i < ps.length) : ∃ g Au cu, A = some ⟨g, 0, none⟩ ∧ w.cell? ⟨g, i.toNat, none⟩ = some (.slice Au (ps.getD i.toNat []).length cu) ∧ Row8 5 base w own (.slice Au (ps.getD i.toNat []).length cu) (ps.getD i.toNat []) := by
  obtain ⟨A', c', he, hf⟩ := h.form
  injection he with e1 e2 e3
  subst e1
  have hl : i.toNat < ps.length := by omega
  have hg : ps.getD i.toNat [] = ps[i.toNat] := by rw [List.getD_eq_getElem?_getD, List.getElem?_eq_getElem hl]; rfl
  obtain ⟨g, hA, u, hu, hR⟩ := hf i.toNat _ (List.getElem?_eq_getElem hl)
  rw [hg]
  obtain ⟨Au, cu, rfl, hr⟩ := hR
  exact ⟨g, Au, cu, hA, hu, Au, cu, rfl, hr⟩
section
variable {P : Program} (w : World)
theorem run_append_parts (base : Nat) (own : Option Nat) (t ty : TypeId) (i : TypeInfo) (ht : P.underlying t = some (.slice 43)) (hi : P.info? 43 = some i) (hz : i.zero = some (.slice none 0 0)) (hsize : i.size = 1) (hby : i.bytes = 24)
    (v : Value) (ps : List (List Int)) (hP : PartsAt base own w v ps) (ad : Addr) (c : Nat) (us : List Value) (qs : List (List Int)) (hul : us.length = qs.length)
    (hcells : ∀ j u, us[j]? = some u → w.cell? (ad.add j) = some u) (hrows : ∀ (j : Nat) (q : List Int), qs[j]? = some q → ∃ u, us[j]? = some u ∧ Row8 5 base w own u q)
    (hbytes : (ps.length + qs.length) * 24 ≤ 140737488355328) (hbase : base ≤ w.heap.size) :
    ∃ v' w', (Builtin.append_ #[t, t] ty #[v, .slice (some ad) us.length c]).run P w = .ok v' w' ∧ PartsAt base own w' v' (ps ++ qs) ∧ w.grownBy w' v.ownBlock ∧ (v'.ownBlock = v.ownBlock ∨ v'.ownBlock = some w.heap.size) := by
  have hbl := hP.block
  obtain ⟨us0, ho, hr⟩ := hP
  have h1 : ∀ u ∈ us, u.oneCell' = true := by
    intro u hu
    obtain ⟨j, hj⟩ := List.getElem?_of_mem hu
    have hjl := (List.getElem?_eq_some_iff.1 hj).1
    obtain ⟨u', hu', A, c', rfl, _⟩ := hrows j _ (List.getElem?_eq_getElem (by omega))
    rw [hj] at hu'
    obtain rfl := Option.some.inj hu'
    rfl
  obtain ⟨v', w', hrun, h2, h3, _, h5⟩ := run_append_own_at (P := P) w base t ty 43 i (.slice none 0 0) 1 24 ht hi hz hsize hby rfl (by decide) v ps.length us0 ho ad us.length c us (by rw [Nat.mul_one]) hcells h1 (by unfold maxLen; omega) (by rw [hul]; exact hbytes) hbase
  refine ⟨v', w', hrun, ⟨us0 ++ us, by rw [List.length_append, ← hul]; exact h2, fun j p hj => ?_⟩, h3, h5⟩
  have hl0 : us0.length = ps.length := by have := ho.1; rw [Nat.mul_one] at this; exact this
  have far : ∀ {u p}, Row8 5 base w own u p → Row8 5 base w' own u p := fun hR => hR.far h3 fun g hg => by
    obtain ⟨_, c, fz, hc⟩ := hbl g hg
    exact ⟨c, _, fz, hc, by decide⟩
  rcases Nat.lt_or_ge j ps.length with hlt | hge
  · rw [List.getElem?_append_left hlt] at hj
    obtain ⟨u, hu, hR⟩ := hr j p hj
    exact ⟨u, by rw [List.getElem?_append_left (by omega)]; exact hu, far hR⟩
  · rw [List.getElem?_append_right hge] at hj
    obtain ⟨u, hu, hR⟩ := hrows _ p hj
    exact ⟨u, by rw [List.getElem?_append_right (by omega), hl0]; exact hu, far hR⟩
theorem wp_append_parts {o : Oper} {a : Act} {K : Act → World → Prop} {Q : Exit → Act → World → Prop} (s x : Operand) (t : TypeId)
    (ho : o.op = .call { callee := .builtin .append, args := #[s, x], argTypes := #[t, t] }) (base : Nat) (own : Option Nat) (i : TypeInfo) (ht : P.underlying t = some (.slice 43)) (hi : P.info? 43 = some i) (hz : i.zero = some (.slice none 0 0)) (hsize : i.size = 1) (hby : i.bytes = 24)
    (v : Value) (ps : List (List Int)) (hs : a.eval s = v) (hP : PartsAt base own w v ps) (ad : Addr) (c : Nat) (us : List Value) (qs : List (List Int)) (hul : us.length = qs.length) (hx : a.eval x = .slice (some ad) us.length c)
    (hcells : ∀ j u, us[j]? = some u → w.cell? (ad.add j) = some u) (hrows : ∀ (j : Nat) (q : List Int), qs[j]? = some q → ∃ u, us[j]? = some u ∧ Row8 5 base w own u q)
    (hbytes : (ps.length + qs.length) * 24 ≤ 140737488355328) (hbase : base ≤ w.heap.size)
    (h : ∀ v' w', PartsAt base own w' v' (ps ++ qs) → w.grownBy w' v.ownBlock → (v'.ownBlock = v.ownBlock ∨ v'.ownBlock = some w.heap.size) → K (a.put o.dst v') w') : o.wp P a w K Q := by
  obtain ⟨v', w', hrun, h2, h3, h4⟩ := run_append_parts (P := P) w base own t o.type i ht hi hz hsize hby v ps hP ad c us qs hul hcells hrows hbytes hbase
  unfold Oper.wp execOp
  simp only [ho, resolve, invoke, builtin, Sem.run_bind, Sem.run_pure, Result.andThen_ok, List.map_toArray, List.map_cons, List.map_nil, hs, hx, hrun]
  exact h v' w' h2 h3 h4
theorem wpList_append_parts {ops : Array Oper} {rest : List Oper} {o : Oper} {a : Act} {Q : Exit → Act → World → Prop} (hgd : o.guard = none) (s x : Operand) (t : TypeId)
    (ho : o.op = .call { callee := .builtin .append, args := #[s, x], argTypes := #[t, t] }) (base : Nat) (own : Option Nat) (i : TypeInfo) (ht : P.underlying t = some (.slice 43)) (hi : P.info? 43 = some i) (hz : i.zero = some (.slice none 0 0)) (hsize : i.size = 1) (hby : i.bytes = 24)
    (v : Value) (ps : List (List Int)) (hs : a.eval s = v) (hP : PartsAt base own w v ps) (ad : Addr) (c : Nat) (us : List Value) (qs : List (List Int)) (hul : us.length = qs.length) (hx : a.eval x = .slice (some ad) us.length c)
    (hcells : ∀ j u, us[j]? = some u → w.cell? (ad.add j) = some u) (hrows : ∀ (j : Nat) (q : List Int), qs[j]? = some q → ∃ u, us[j]? = some u ∧ Row8 5 base w own u q)
    (hbytes : (ps.length + qs.length) * 24 ≤ 140737488355328) (hbase : base ≤ w.heap.size)
    (h : ∀ v' w', PartsAt base own w' v' (ps ++ qs) → w.grownBy w' v.ownBlock → (v'.ownBlock = v.ownBlock ∨ v'.ownBlock = some w.heap.size) → wpList P ops Q rest (a.put o.dst v') w') : wpList P ops Q (o :: rest) a w :=
  wpList_plain hgd fun _ hK => wp_append_parts w s x t ho base own i ht hi hz hsize hby v ps hs hP ad c us qs hul hx hcells hrows hbytes hbase fun v' w' h2 h3 h4 => hK _ _ (h v' w' h2 h3 h4)
theorem step_append_parts {ops : Array Oper} {o : Oper} {a : Act} {K : Act → World → Prop} {Q : Exit → Act → World → Prop} {E : Prop} (hgd : o.guard = none) (s x : Operand) (t : TypeId)
    (ho : o.op = .call { callee := .builtin .append, args := #[s, x], argTypes := #[t, t] }) (base : Nat) (own : Option Nat) (i : TypeInfo) (ht : P.underlying t = some (.slice 43)) (hi : P.info? 43 = some i) (hz : i.zero = some (.slice none 0 0)) (hsize : i.size = 1) (hby : i.bytes = 24)
    (v : Value) (ps : List (List Int)) (hs : a.eval s = v) (hP : PartsAt base own w v ps) (ad : Addr) (c : Nat) (us : List Value) (qs : List (List Int)) (hul : us.length = qs.length) (hx : a.eval x = .slice (some ad) us.length c)
    (hcells : ∀ j u, us[j]? = some u → w.cell? (ad.add j) = some u) (hrows : ∀ (j : Nat) (q : List Int), qs[j]? = some q → ∃ u, us[j]? = some u ∧ Row8 5 base w own u q)
    (hbytes : (ps.length + qs.length) * 24 ≤ 140737488355328) (hbase : base ≤ w.heap.size)
    (h : ∀ v' w', PartsAt base own w' v' (ps ++ qs) → w.grownBy w' v.ownBlock → (v'.ownBlock = v.ownBlock ∨ v'.ownBlock = some w.heap.size) → K (a.put o.dst v') w') :
    if Region.wanted o (yielded ops a.tmps) = true then Oper.wp P o a w K Q else E := by
  have hw : Region.wanted o (yielded ops a.tmps) = true := by simp [Region.wanted, hgd]
  rw [if_pos hw]
  exact wp_append_parts w s x t ho base own i ht hi hz hsize hby v ps hs hP ad c us qs hul hx hcells hrows hbytes hbase h
end
/-- The literal has just been laid. -/
theorem step_parts_new {P : Program} (V : World) {ops : Array Oper} {o : Oper} {a : Act} {K : Act → World → Prop} {Q : Exit → Act → World → Prop} {E : Prop} (us : List Value) (hgd : o.guard = none) (s x : Operand) (t : TypeId)
    (ho : o.op = .call { callee := .builtin .append, args := #[s, x], argTypes := #[t, t] }) (base : Nat) (own : Option Nat) (i : TypeInfo) (ht : P.underlying t = some (.slice 43)) (hi : P.info? 43 = some i) (hz : i.zero = some (.slice none 0 0)) (hsize : i.size = 1) (hby : i.bytes = 24)
    (v : Value) (ps : List (List Int)) (hs : a.eval s = v) (hP : PartsAt base own V v ps) (c : Nat) (qs : List (List Int)) (hul : us.length = qs.length) (hx : a.eval x = .slice (some ⟨V.heap.size, 0, none⟩) us.length c)
    (hrows : ∀ (j : Nat) (q : List Int), qs[j]? = some q → ∃ u, us[j]? = some u ∧ Row8 5 base V own u q)
    (hbytes : (ps.length + qs.length) * 24 ≤ 140737488355328) (hbase : base ≤ V.heap.size)
    (h : ∀ v' w', PartsAt base own w' v' (ps ++ qs) → (V.alloc (.cells us.toArray 43)).grownBy w' v.ownBlock → (v'.ownBlock = v.ownBlock ∨ v'.ownBlock = some (V.heap.size + 1)) → K (a.put o.dst v') w') :
    if Region.wanted o (yielded ops a.tmps) = true then Oper.wp P o a (V.alloc (.cells us.toArray 43)) K Q else E := by
  have hb : Below V.heap.size V (V.alloc (.cells us.toArray 43)) := below_alloc (Below.refl _ _) _
  refine step_append_parts (P := P) _ hgd s x t ho base own i ht hi hz hsize hby v ps hs (hP.below hb (Nat.le_refl _)) ⟨V.heap.size, 0, none⟩ c us qs hul hx (World.news_of_block (blk_new V _)) (fun j q hj => ?_) hbytes (by rw [World.size_alloc]; omega) (fun v' w' h1 h2 h3 => h v' w' h1 h2 (by rw [World.size_alloc] at h3; exact h3))
  obtain ⟨u, hu, hR⟩ := hrows j q hj
  exact ⟨u, hu, hR.below hb (Nat.le_refl _)⟩
theorem wpList_parts_new {P : Program} (V : World) {ops : Array Oper} {rest : List Oper} {o : Oper} {a : Act} {Q : Exit → Act → World → Prop} (us : List Value) (hgd : o.guard = none) (s x : Operand) (t : TypeId)
    (ho : o.op = .call { callee := .builtin .append, args := #[s, x], argTypes := #[t, t] }) (base : Nat) (own : Option Nat) (i : TypeInfo) (ht : P.underlying t = some (.slice 43)) (hi : P.info? 43 = some i) (hz : i.zero = some (.slice none 0 0)) (hsize : i.size = 1) (hby : i.bytes = 24)
    (v : Value) (ps : List (List Int)) (hs : a.eval s = v) (hP : PartsAt base own V v ps) (c : Nat) (qs : List (List Int)) (hul : us.length = qs.length) (hx : a.eval x = .slice (some ⟨V.heap.size, 0, none⟩) us.length c)
    (hrows : ∀ (j : Nat) (q : List Int), qs[j]? = some q → ∃ u, us[j]? = some u ∧ Row8 5 base V own u q)
    (hbytes : (ps.length + qs.length) * 24 ≤ 140737488355328) (hbase : base ≤ V.heap.size)
    (h : ∀ v' w', PartsAt base own w' v' (ps ++ qs) → (V.alloc (.cells us.toArray 43)).grownBy w' v.ownBlock → (v'.ownBlock = v.ownBlock ∨ v'.ownBlock = some (V.heap.size + 1)) → wpList P ops Q rest (a.put o.dst v') w') : wpList P ops Q (o :: rest) a (V.alloc (.cells us.toArray 43)) := by
  have hb : Below V.heap.size V (V.alloc (.cells us.toArray 43)) := below_alloc (Below.refl _ _) _
  refine wpList_append_parts (P := P) _ hgd s x t ho base own i ht hi hz hsize hby v ps hs (hP.below hb (Nat.le_refl _)) ⟨V.heap.size, 0, none⟩ c us qs hul hx (World.news_of_block (blk_new V _)) (fun j q hj => ?_) hbytes (by rw [World.size_alloc]; omega) (fun v' w' h1 h2 h3 => h v' w' h1 h2 (by rw [World.size_alloc] at h3; exact h3))
  obtain ⟨u, hu, hR⟩ := hrows j q hj
  exact ⟨u, hu, hR.below hb (Nat.le_refl _)⟩
theorem own8_al {e : TypeId} {base : Nat} {V : World} {v : Value} {l : List Int} (h : Own8 e base V v l) (o : Obj) : Own8 e base (V.alloc o) v l := h.below (below_alloc (Below.refl _ _) o) (Nat.le_refl _)
theorem own8_by {e e' : TypeId} {base : Nat} {V : World} {v : Value} {l : List Int} (h : Own8 e base V v l) (s : ByteArray) : Own8 e base (Lib.bytesWorld V e' s) v l := h.below (bytes_below (Below.refl _ _) (Nat.le_refl _) e' s) (Nat.le_refl _)
theorem own8_dr {e : TypeId} {base : Nat} {V : World} {v : Value} {l : List Int} (h : Own8 e base V v l) : Own8 e base V.drew v l := h
/-- A row that was made behind W1 is not b's. -/
theorem own8_row1 {e : TypeId} {base0 : Nat} {W1 V : World} {v vb : Value} {l lb : List Int} (h : Own8 e W1.heap.size V v l) (hb : Own8 e base0 W1 vb lb) : Row8 e W1.heap.size V vb.ownBlock v l := by
  refine h.row ?_
  cases hv : v.ownBlock with
  | none => exact .inl rfl
  | some g =>
    right
    intro he
    have h1 := (h.lt g hv).1
    have h2 := (hb.lt g he.symm).2
    omega
theorem row8_lit (V : World) (e : TypeId) (p : List Int) (c : Nat) (cs : Array Value) (hc : cs.toList = c8 p) : Row8 e V.heap.size (V.alloc (.cells cs e)) none (.slice (some ⟨V.heap.size, 0, none⟩) p.length c) p := by
  refine ⟨_, c, rfl, .inr ⟨V.heap.size, cs, (0, 0), rfl, Nat.le_refl _, by simp, blk_new V _, ?_⟩⟩
  rw [hc, List.take_of_length_le (by rw [c8_length]; omega)]
/-- Rows, one behind the other. -/
theorem rows1 {base : Nat} {own : Option Nat} {w : World} {a : Value} {p : List Int} (h : Row8 5 base w own a p) : ∀ (j : Nat) (q : List Int), [p][j]? = some q → ∃ u, [a][j]? = some u ∧ Row8 5 base w own u q
  | 0, q, hj => by simp at hj; subst hj; exact ⟨a, rfl, h⟩
  | j + 1, q, hj => by simp at hj
theorem rows2 {base : Nat} {own : Option Nat} {w : World} {a b : Value} {p p2 : List Int} (h : Row8 5 base w own a p) (h2 : Row8 5 base w own b p2) : ∀ (j : Nat) (q : List Int), [p, p2][j]? = some q → ∃ u, [a, b][j]? = some u ∧ Row8 5 base w own u q
  | 0, q, hj => by simp at hj; subst hj; exact ⟨a, rfl, h⟩
  | j + 1, q, hj => rows1 h2 j q (by simpa using hj)
theorem rows3 {base : Nat} {own : Option Nat} {w : World} {a b c : Value} {p p2 p3 : List Int} (h : Row8 5 base w own a p) (h2 : Row8 5 base w own b p2) (h3 : Row8 5 base w own c p3) : ∀ (j : Nat) (q : List Int), [p, p2, p3][j]? = some q → ∃ u, [a, b, c][j]? = some u ∧ Row8 5 base w own u q
  | 0, q, hj => by simp at hj; subst hj; exact ⟨a, rfl, h⟩
  | j + 1, q, hj => rows2 h2 h3 j q (by simpa using hj)
end Go.Proofs.YteppilognoigjaaDoor.LQ
