/- Rows with a mark behind them: kinds for what is handed in with a mark behind each list. Plain words over the print's kinds. -/
import Derived.Test.YteppilognoigjaaDoorWMore
import Derived.Test.YteppilognoigjaaDoorWLast
import Derived.ChangeArms
import Derived.Deep.Slices
import Derived.SizedLaws
namespace Go.Proofs.YteppilognoigjaaDoor.QK
open Go.RowKit Go.Proofs.YteppilognoigjaaDoorW.PrintWords Go.Proofs.YteppilognoigjaaDoorW.PrintLast Go.Proofs.YteppilognoigjaaDoorW.PrintMore
set_option linter.unusedVariables false
set_option linter.unusedSimpArgs false

/-- An element, or the mark (its cells: mc). -/
def optK {α : Type} (d : Kd α) (mc : List Value) (h1 : ∀ u ∈ mc, u.oneCell' = true) : Kd (Option α) where
  sz := d.sz
  E := d.E
  K := fun w x cs => match x with | some y => d.K w y cs | none => cs = mc ∧ mc.length = d.sz
  M := fun w base ok x cs => match x with | some y => d.M w base ok y cs | none => cs = mc ∧ mc.length = d.sz
  K_len := by
    rintro w (_ | y) cs h
    · rw [h.1, h.2]
    · exact d.K_len h
  K_one := by
    rintro w (_ | y) cs h u hu
    · rw [h.1] at hu; exact h1 u hu
    · exact d.K_one h u hu
  K_below := by
    rintro w w1 (_ | y) cs hb h
    · exact h
    · exact d.K_below hb h
  K_of_M := by
    rintro w base ok (_ | y) cs h
    · exact h
    · exact d.K_of_M h
  M_mono := by
    rintro w base ok ok' (_ | y) cs hok h
    · exact h
    · exact d.M_mono hok h
  M_bound := by
    rintro w base ok (_ | y) cs h
    · exact h
    · exact d.M_bound h
  M_move := by
    rintro w w1 base ok (_ | y) cs hm h
    · exact h
    · exact d.M_move hm h
  M_lower := by
    rintro w base base' ok (_ | y) cs hb h
    · exact h
    · exact d.M_lower hb h

/-- A slice with a mark behind it. -/
def lentK {α : Type} (e : Nat) (d : Kd α) (mc : List Value) (h1 : ∀ u ∈ mc, u.oneCell' = true) : Kd (List α) where
  sz := 1
  E := e :: d.E
  K := fun w xs cs => ∃ A c, cs = [.slice A xs.length c] ∧ xs.length + 1 ≤ c ∧ (optK d mc h1).C w A (xs.length + 1) (xs.map some ++ [none])
  M := fun w base ok xs cs => ∃ A c, cs = [.slice A xs.length c] ∧ xs.length + 1 ≤ c ∧ (optK d mc h1).R e w base ok (.slice A (xs.length + 1) c) (xs.map some ++ [none])
  K_len := by
    rintro w x cs ⟨A, c, rfl, _⟩
    rfl
  K_one := by
    rintro w x cs ⟨A, c, rfl, _⟩ u hu
    rw [List.mem_singleton.1 hu]
    rfl
  K_below := by
    rintro w w1 x cs hb ⟨A, c, rfl, hl, hr⟩
    exact ⟨A, c, rfl, hl, Kd.C_below hr hb⟩
  K_of_M := by
    rintro w base ok x cs ⟨A, c, rfl, hl, h⟩
    obtain ⟨A', c', he, hl', hr⟩ := Kd.R_reads h
    injection he with e1 e2 e3
    subst e1
    refine ⟨A, c, rfl, hl, ?_⟩
    simpa using hr
  M_mono := by
    rintro w base ok ok' x cs hok ⟨A, c, rfl, hl, h⟩
    exact ⟨A, c, rfl, hl, Kd.R_mono h hok⟩
  M_bound := by
    rintro w base ok x cs ⟨A, c, rfl, hl, h⟩
    exact ⟨A, c, rfl, hl, Kd.R_bound h⟩
  M_move := by
    rintro w w1 base ok x cs hm ⟨A, c, rfl, hl, h⟩
    exact ⟨A, c, rfl, hl, Kd.R_move h hm⟩
  M_lower := by
    rintro w base base' ok x cs hb ⟨A, c, rfl, hl, h⟩
    exact ⟨A, c, rfl, hl, Kd.R_lower h hb⟩

theorem mono_opt {α β : Type} {G : Kd α → Kd β} (mc : List Value) (h1 : ∀ u ∈ mc, u.oneCell' = true) (hG : Kd.Mono G) : Kd.Mono (fun d => optK (G d) mc h1) := by
  refine ⟨fun d d' hs => hG.sz d d' hs, ?_, ?_⟩
  · rintro d d' hs h w (_ | y) cs hk
    · exact ⟨hk.1, by rw [hk.2]; exact hG.sz d d' hs⟩
    · exact hG.K d d' hs h _ _ _ hk
  · rintro d d' hs h w base ok (_ | y) cs hk
    · exact ⟨hk.1, by rw [hk.2]; exact hG.sz d d' hs⟩
    · exact hG.M d d' hs h _ _ _ _ _ hk
theorem mono_lent {α β : Type} (e : Nat) {G : Kd α → Kd β} (mc : List Value) (h1 : ∀ u ∈ mc, u.oneCell' = true) (hG : Kd.Mono G) : Kd.Mono (fun d => lentK e (G d) mc h1) := by
  refine ⟨fun _ _ _ => rfl, ?_, ?_⟩
  · rintro d d' hs h w x cs ⟨A, c, rfl, hl, hr⟩
    exact ⟨A, c, rfl, hl, Kd.C_imp ((mono_opt mc h1 hG).sz d d' hs) ((mono_opt mc h1 hG).K d d' hs h) hr⟩
  · rintro d d' hs h w base ok x cs ⟨A, c, rfl, hl, hr⟩
    exact ⟨A, c, rfl, hl, Kd.R_imp ((mono_opt mc h1 hG).sz d d' hs) ((mono_opt mc h1 hG).M d d' hs h) hr⟩
theorem sub_lent {α β : Type} {E : List Nat} (e : Nat) {G : Kd α → Kd β} (mc : List Value) (h1 : ∀ u ∈ mc, u.oneCell' = true) (he : e ∈ E) (hG : Kd.Sub G E) : Kd.Sub (fun d => lentK e (G d) mc h1) E := fun d h q hq => by
  rcases List.mem_cons.1 hq with rfl | hq
  · exact he
  · exact hG d h q hq

section
variable {α : Type} {d : Kd α} {mc : List Value} {h1 : ∀ u ∈ mc, u.oneCell' = true} {w : World} {A : Option Addr} {xs : List α}
/-- What stands ahead of the mark. -/
theorem C_init (h : (optK d mc h1).C w A (xs.length + 1) (xs.map some ++ [none])) : d.C w A xs.length xs := by
  refine ⟨rfl, by have := h.2.1; omega, fun hp => ?_⟩
  obtain ⟨ad, e, hc⟩ := h.2.2 (by omega)
  refine ⟨ad, e, fun j p hj => ?_⟩
  obtain ⟨c, hl, hk, hcell⟩ := hc j (some p) (by
    have hjl := (List.getElem?_eq_some_iff.1 hj).1
    rw [List.getElem?_append_left (by simpa using hjl), List.getElem?_map, hj]
    rfl)
  exact ⟨c, hl, hk, hcell⟩
/-- The mark's cells. -/
theorem C_mark (h : (optK d mc h1).C w A (xs.length + 1) (xs.map some ++ [none])) : ∃ ad, A = some ad ∧ ∀ i u, mc[i]? = some u → w.cell? (ad.add (xs.length * d.sz + i)) = some u := by
  obtain ⟨ad, e, hc⟩ := h.2.2 (by omega)
  obtain ⟨c, hl, hk, hcell⟩ := hc xs.length none (by simp)
  have hk' : c = mc ∧ mc.length = d.sz := hk
  obtain ⟨rfl, _⟩ := hk'
  exact ⟨ad, e, hcell⟩
end

/-- A row of one kind told as a row of another: element by element. -/
theorem reps_to {α β : Type} {R : α → List Value → Prop} {R' : β → List Value → Prop} {size : Nat} {xs : List α} {ys : List β} {cs : List Value} (h : Reps R size xs cs) (hl : ys.length = xs.length)
    (hR : ∀ (j : Nat) x y c, xs[j]? = some x → ys[j]? = some y → R x c → R' y c) : Reps R' size ys cs := by
  refine ⟨by rw [h.1, hl], fun j y hj => ?_⟩
  have hjl : j < xs.length := by have := (List.getElem?_eq_some_iff.1 hj).1; omega
  have hx : xs[j]? = some xs[j] := List.getElem?_eq_getElem hjl
  exact hR j _ y _ hx hj (h.2 j _ hx)
/-- Numbers behind which a number stands as a mark. -/
theorem R_marked {e : Nat} {w : World} {base : Nat} {ok : Nat → Prop} {v : Value} {l : List Int} {m : Int} {k : IntKind} (h : (Kd.int k).R e w base ok v (l ++ [m])) (h1 : ∀ u ∈ [Value.int k m], u.oneCell' = true) :
    (optK (Kd.int k) [.int k m] h1).R e w base ok v (l.map some ++ [none]) := by
  obtain ⟨h0, inner, ho, hr⟩ := h
  have e1 : (l.map some ++ [none]).length = (l ++ [m]).length := by simp
  refine ⟨h0, inner, by rw [e1]; exact ho, reps_to hr e1 ?_⟩
  intro j x y c hx hy hc
  have hc' : c = [.int k x] := hc
  subst hc'
  rcases Nat.lt_or_ge j l.length with hj | hj
  · rw [List.getElem?_append_left hj] at hx
    rw [List.getElem?_append_left (by simpa using hj), List.getElem?_map, hx] at hy
    have : y = some x := by simpa using hy.symm
    subst this
    rfl
  · have hj' : j = l.length := by
      have := (List.getElem?_eq_some_iff.1 hx).1
      simp at this
      omega
    subst hj'
    have e2 : m = x := by simpa using hx
    have e3 : none = y := by simpa using hy
    subst e2; subst e3
    exact ⟨rfl, rfl⟩
/-- A made row that ends with a mark: its last element is cut off, its cells stay. -/
theorem R_cut {α : Type} {d : Kd α} {mc : List Value} {h1 : ∀ u ∈ mc, u.oneCell' = true} {e : Nat} {w : World} {base : Nat} {ok : Nat → Prop} {A : Option Addr} {n c : Nat} {xs : List (Option α)} (h : (optK d mc h1).R e w base ok (.slice A n c) xs) : n = xs.length ∧ xs.length ≤ c := by
  obtain ⟨A', c', he, hl, _⟩ := Kd.R_reads h
  injection he with e1 e2 e3
  exact ⟨e2, by omega⟩

/-! ### what comes in is read -/
section
variable {H : Type} (enc : TypeId × Value → H) (P : Program)
/-- Whatever is read at type t is of kind d, and Ok. -/
def Opens {α : Type} (w : World) (t : TypeId) (fuel : Nat) (d : Kd α) (Ok : α → Prop) : Prop :=
  ∀ cs x ps, DataW.trod enc P w 0 (fun _ => true) true fuel t cs = some (x, ps) → (∀ n ∈ x.weights P t, n ≤ reachBytes) → ∃ a, d.K w a cs ∧ Ok a
theorem opens_int (w : World) (t : TypeId) (fuel : Nat) {k : IntKind} (ht : P.underlying t = some (.int k)) : Opens enc P w t fuel (Kd.int k) (fun a => (Lit.int k a).wf = true) := by
  intro cs x ps h _
  obtain ⟨n, rfl, _, hn⟩ := DataW.trod_int ht h
  exact ⟨n, rfl, hn⟩
theorem opens_bool (w : World) (t : TypeId) (fuel : Nat) (ht : P.underlying t = some .bool) : Opens enc P w t fuel Kd.bool (fun _ => True) := by
  intro cs x ps h _
  obtain ⟨b, rfl, _⟩ := DataW.trod_bool ht h
  exact ⟨b, rfl, trivial⟩
theorem opens_string (w : World) (t : TypeId) (fuel : Nat) (ht : P.underlying t = some .string) : Opens enc P w t fuel Kd.string (fun s => s.size ≤ 140737488351232) := by
  intro cs x ps h hw
  obtain ⟨s, rfl, hx, _⟩ := DataW.trod_string ht h
  simp only [Prod.mk.injEq] at hx
  obtain ⟨rfl, _⟩ := hx
  refine ⟨s, rfl, ?_⟩
  have := hw s.data.toList.length (by simp [DataW.weights])
  rw [Array.length_toList] at this
  exact this
theorem weightsAll_mem {e : TypeId} : ∀ {ds : List (DataW H)} {j : Nat} {x : DataW H}, ds[j]? = some x → ∀ n ∈ x.weights P e, n ∈ DataW.weightsAll P e ds
  | d :: ds, 0, x, h, n, hn => by
    simp only [List.getElem?_cons_zero, Option.some.injEq] at h
    subst h
    simp only [DataW.weightsAll, List.mem_append]
    exact .inl hn
  | d :: ds, j + 1, x, h, n, hn => by
    simp only [List.getElem?_cons_succ] at h
    simp only [DataW.weightsAll, List.mem_append]
    exact .inr (weightsAll_mem h n hn)
  | [], _, _, h, _, _ => by simp at h
/-- A slice: each element read at less fuel. -/
theorem opens_slice {α : Type} (w : World) (t e : TypeId) (fuel : Nat) (ht : P.underlying t = some (.slice e)) {d : Kd α} {Ok : α → Prop} {B : Nat} (hB : P.bytesOf e = B) (hz : P.cellsOf e = d.sz)
    (hd : ∀ f, f < fuel → Opens enc P w e f d Ok) : Opens enc P w t fuel (Kd.slice e d) (fun l => l.length * B ≤ 140737488351232 ∧ ∀ a ∈ l, Ok a) := by
  intro cs x ps h hw
  rcases DataW.trod_slice ht h with ⟨rfl, hx⟩ | ⟨a, len, cap, elems, rest, n, rfl, rfl, hx, _, hlc, hm, hlen, hel, _, _⟩
  · exact ⟨[], ⟨none, 0, rfl, by simp, ⟨rfl, by simp, fun hp => absurd hp (by simp)⟩⟩, by simp, by simp⟩
  · simp only [Prod.mk.injEq] at hx
    obtain ⟨rfl, _⟩ := hx
    have key : ∀ j, j < len → ∃ (y : α) (c : List Value), w.cells? 0 (a.add (j * P.cellsOf e)) (P.cellsOf e) = some c ∧ d.K w y c ∧ Ok y := by
      intro j hj
      have h1 := hel j hj
      have h2 : elems[j]? = some (elems[j]'(by omega)) := List.getElem?_eq_getElem (by omega)
      rw [h2] at h1
      obtain ⟨c, hc, hr⟩ := Option.bind_eq_some_iff.1 h1
      obtain ⟨y, hy, hok⟩ := hd n (by omega) c _ _ hr (fun q hq => hw q (by
        rw [DataW.weights, ht]
        refine List.mem_cons_of_mem _ (List.mem_append_left _ (weightsAll_mem P (j := j) ?_ q hq))
        rw [List.getElem?_map, h2]
        rfl))
      exact ⟨y, c, hc, hy, hok⟩
    obtain ⟨ys, hys⟩ : ∃ ys : List α, ys.length = len ∧ ∀ j y, ys[j]? = some y → ∃ c, w.cells? 0 (a.add (j * P.cellsOf e)) (P.cellsOf e) = some c ∧ d.K w y c ∧ Ok y := by
      clear hel hw hlc h
      have : ∀ m, m ≤ len → ∃ ys : List α, ys.length = m ∧ ∀ j y, ys[j]? = some y → ∃ c, w.cells? 0 (a.add (j * P.cellsOf e)) (P.cellsOf e) = some c ∧ d.K w y c ∧ Ok y := by
        intro m
        induction m with
        | zero => intro _; exact ⟨[], rfl, fun j y h => by simp at h⟩
        | succ m ih =>
          intro hm
          obtain ⟨ys, hl, hys⟩ := ih (by omega)
          obtain ⟨y, c, hy⟩ := key m (by omega)
          refine ⟨ys ++ [y], by simp [hl], fun j z hz => ?_⟩
          rcases Nat.lt_or_ge j ys.length with hj | hj
          · rw [List.getElem?_append_left hj] at hz
            exact hys j z hz
          · have : j = m := by
              have := (List.getElem?_eq_some_iff.1 hz).1
              simp at this
              omega
            subst this
            have e1 : y = z := by rw [← hl] at hz; simpa using hz
            subst e1
            exact ⟨c, hy⟩
      exact this len (Nat.le_refl _)
    obtain ⟨hyl, hys⟩ := hys
    refine ⟨ys, ⟨some a, cap, by rw [hyl], by omega, ⟨rfl, by rw [hyl]; unfold maxLen at hm; omega, fun _ => ⟨a, rfl, fun j p hj => ?_⟩⟩⟩, ?_, ?_⟩
    · obtain ⟨c, hc, hk, _⟩ := hys j p hj
      obtain ⟨_, hcl, hat⟩ := World.cells?_some hc
      refine ⟨c, d.K_len hk, hk, fun i u hu => ?_⟩
      have hi : i < P.cellsOf e := by
        have := (List.getElem?_eq_some_iff.1 hu).1
        rw [hcl] at this
        exact this
      have h3 := hat i hi
      rw [hu] at h3
      rw [← hz, ← Deep.add_add]
      exact h3
    · have := hw _ (by rw [DataW.weights, ht]; exact List.mem_cons_self)
      simp only [List.length_map, hlen, hB] at this
      rw [hyl]
      exact Nat.le_trans (Nat.mul_le_mul_right _ (by omega)) this
    · intro y hy
      obtain ⟨j, hj⟩ := List.getElem?_of_mem hy
      obtain ⟨c, _, _, hok⟩ := hys j y hj
      exact hok
end
end Go.Proofs.YteppilognoigjaaDoor.QK
