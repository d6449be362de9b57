/- Whether what was handed in stands as it did, marks and all. -/
import Derived.Test.YteppilognoigjaaDoorLW
import Derived.Test.YteppilognoigjaaDoorPK
import Derived.StillTailTactics
namespace Go.Proofs.YteppilognoigjaaDoor.LQ
open Go.RowKit Go.Proofs.YteppilognoigjaaDoorW.PrintWords Go.Proofs.YteppilognoigjaaDoorW.PrintLast Go.Proofs.YteppilognoigjaaDoorW.PrintMore Go.Proofs.YteppilognoigjaaDoor.PQueryForms Go.Proofs.YteppilognoigjaaDoor.QK
attribute [local go_sem] max2_int min2_int max_two min_two max_three min_three max_four min_four
set_option linter.unusedVariables false
set_option linter.unusedSimpArgs false

theorem int64s_l0 (l : List Int) (hn : l.length ≤ 9223372036854775807) (d : Nat) : ∀ (k : Nat) (i : Int), 0 ≤ i → i ≤ l.length → (l.length : Int) - i = d → d < k → lecternkit_Int64s.l0 k l l i = some true := by
  induction d with
  | zero =>
    intro k i h0 h1 hd hk
    obtain ⟨k, rfl⟩ : ∃ m, k = m + 1 := ⟨k - 1, by omega⟩
    simp only [lecternkit_Int64s.l0]; rw [if_neg (by omega)]
  | succ d ih =>
    intro k i h0 h1 hd hk
    obtain ⟨k, rfl⟩ : ∃ m, k = m + 1 := ⟨k - 1, by omega⟩
    have hw : wrap64 (i + 1) = i + 1 := by unfold wrap64; omega
    simp only [lecternkit_Int64s.l0]; rw [if_pos (by omega), if_pos h0, if_pos (by omega), if_pos trivial, hw]
    exact ih k (i + 1) (by omega) (by omega) (by omega) (by omega)
theorem int64s_same (l : List Int) (hn : l.length ≤ 9223372036854775807) {k : Nat} (hk : l.length + 1 ≤ k) : lecternkit_Int64s.f k l l = some true := by
  unfold lecternkit_Int64s.f
  rw [if_pos rfl]
  exact int64s_l0 l hn l.length _ 0 (by omega) (by omega) (by omega) (by omega)

set_option maxHeartbeats 8000000 in
set_option maxRecDepth 100000 in
theorem keptI_calls (A0 : Option Addr) (c0 : Nat) (l : List Int) (A1 : Option Addr) (c1 : Nat) (w : World) (hr0 : oI.C w A0 (l.length + 1) (l.map some ++ [none])) (hc0 : l.length + 1 ≤ c0)
    (hr1 : Kd.C (Kd.int .i64) w A1 l.length l) (hc1 : l.length ≤ c1) :
    Calls Tryd.prog 29 #[.slice A0 l.length c0, .slice A1 l.length c1] w fun e w' => e = .returned (.bool true) ∧ Drawn0 w w' := by
  have HL := hr0.2.1
  obtain ⟨ad, e1, hx⟩ := C_mark hr0
  have hx0 : w.cell? (ad.add l.length) = some (.int .i64 (-7171)) := by
    have := hx 0 _ rfl
    simpa [Kd.int, Kd.scalar] using this
  clear hx
  have HR0 := Aside0.mk (C_init hr0)
  have HC0 := Aside0.mk (show l.length ≤ c0 by omega)
  have HC0' := Aside0.mk hc0
  have HR1 := Aside0.mk hr1
  have HC1 := Aside0.mk hc1
  clear hr0 hc0 hr1 hc1
  have A3 := Aside0.mk (int64s_same l (by omega) (Nat.le_refl _))
  have hcut : ∀ W : World, (Instr.slice 22 (.slice A0 l.length c0) none (some (.int .i64 ((l.length : Int) + 1))) none).run Tryd.prog W = .ok (.slice A0 (l.length + 1) c0) W := by
    intro W
    obtain ⟨i09, hi09, _, hsz9, _⟩ := info_parts info2
    have hel : Tryd.prog.elem 22 = 2 := by simp [Program.elem, Tryd.underlying22]
    have ha : (A0.map fun x => x.add 0) = A0 := by cases A0 <;> simp [Addr.add]
    rw [run_slice_h W 22 A0 l.length c0 (by rw [hel]; exact Tryd.underlying22) .i64 ((l.length : Int) + 1) (by omega) (by have := HC0'.out; omega), hel]
    simp [sizeOf, typeInfo, hi09, sliced, Result.andThen, ha]
  subst e1
  go_enter Tryd.func29, Tryd.ntmps29
  go_wp2_with (go_at_call 30; refine (lecternkit_Int64s.calls (l.length + 1) _ _ l _ _ l true _ HR0.out HC0.out HR1.out HC1.out A3.out).mono ?_; rintro e w' ⟨rfl, ⟨nd, rfl⟩⟩)
  go_ret
  exact ⟨by first | rfl | (simp; done) | (simp [*]; done), by repeat (first | exact Drawn0.refl _ | apply Drawn0.step)⟩

/-! ### a query is the same as itself -/
theorem wrap_up {i : Int} {n : Nat} (h0 : 0 ≤ i) (h : i < n) (hn : n ≤ 9223372036854775807) : wrap64 (i + 1) = i + 1 := by unfold wrap64; omega
theorem Good.len9 {n : Nat} {x : S25} (h : Good n x) : x.f9.length * 152 ≤ 140737488351232 := by
  cases n with
  | zero => exact h.elim
  | succ n => exact h.2.2.2.2.2.2.2.2.2.1
theorem rd_mem {l : List S25} {i : Int} (h0 : 0 ≤ i) (h : i < l.length) : rd_T25 l i ∈ l := by
  unfold rd_T25
  rw [List.getD_eq_getElem?_getD, List.getElem?_eq_getElem (show i.toNat < l.length by omega)]
  exact List.getElem_mem _
abbrev qF (k : Nat) (x y : S25) : Option Bool := lecternkit_Query.f k x.f0 x.f1 x.f2 x.f3 x.f4 x.f5 x.f6 x.f7 x.f8 x.f9 y.f0 y.f1 y.f2 y.f3 y.f4 y.f5 y.f6 y.f7 y.f8 y.f9
abbrev qL (k : Nat) (i : Int) (x y : S25) : Option Bool := lecternkit_Query.l0 k i x.f0 x.f1 x.f2 x.f3 x.f4 x.f5 x.f6 x.f7 x.f8 x.f9 y.f0 y.f1 y.f2 y.f3 y.f4 y.f5 y.f6 y.f7 y.f8 y.f9
theorem qL_same (x : S25) (hl : x.f9.length ≤ 9223372036854775807) (K : Nat) (hK : ∀ y ∈ x.f9, ∀ k, K ≤ k → qF k y y = some true) (d : Nat) : ∀ (k : Nat) (i : Int), 0 ≤ i → (x.f9.length : Int) - i = d → K + d + 1 ≤ k → qL k i x x = some true := by
  induction d with
  | zero =>
    intro k i h0 hd hk
    obtain ⟨k, rfl⟩ : ∃ m, k = m + 1 := ⟨k - 1, by omega⟩
    unfold qL
    simp only [lecternkit_Query.l0]; rw [if_neg (by omega)]
  | succ d ih =>
    intro k i h0 hd hk
    obtain ⟨k, rfl⟩ : ∃ m, k = m + 1 := ⟨k - 1, by omega⟩
    unfold qL
    simp only [lecternkit_Query.l0]
    rw [if_pos (by omega), if_pos h0, if_pos (by omega), wrap_up h0 (by omega) hl]
    have := hK (rd_T25 x.f9 i) (rd_mem h0 (by omega)) k (by omega)
    unfold qF at this
    rw [this]
    simp only [Option.bind_some, if_true]
    exact ih k (i + 1) (by omega) (by omega) (by omega)
theorem exists_rounds {α : Type} (l : List α) (P : α → Nat → Prop) (h : ∀ y ∈ l, ∃ K, ∀ k, K ≤ k → P y k) : ∃ K, ∀ y ∈ l, ∀ k, K ≤ k → P y k := by
  induction l with
  | nil => exact ⟨0, fun y hy => by cases hy⟩
  | cons a l ih =>
    obtain ⟨K1, h1⟩ := ih fun y hy => h y (List.mem_cons_of_mem _ hy)
    obtain ⟨K2, h2⟩ := h a List.mem_cons_self
    refine ⟨max K1 K2, fun y hy k hk => ?_⟩
    rcases List.mem_cons.1 hy with rfl | hy
    · exact h2 k (by omega)
    · exact h1 y hy k (by omega)
theorem qF_same : ∀ (n : Nat) (x : S25), Good n x → ∃ K, ∀ k, K ≤ k → qF k x x = some true := by
  intro n
  induction n with
  | zero => intro x h; exact h.elim
  | succ n ih =>
    intro x hg
    obtain ⟨_, _, _, _, _, ⟨h5, _⟩, ⟨h6, _⟩, _, _, h9, hk⟩ := hg
    obtain ⟨K, hK⟩ := exists_rounds x.f9 (fun y k => qF k y y = some true) fun y hy => ih y (hk y hy)
    refine ⟨K + x.f9.length + x.f5.length + x.f6.length + 4, fun k hk => ?_⟩
    obtain ⟨k, rfl⟩ : ∃ m, k = m + 2 := ⟨k - 2, by omega⟩
    unfold qF
    simp only [lecternkit_Query.f]
    rw [if_pos trivial, if_pos trivial, if_pos trivial, if_pos trivial, if_pos trivial, int64s_same x.f5 (by omega) (by omega)]
    simp only [Option.bind_some, if_true]
    rw [int64s_same x.f6 (by omega) (by omega)]
    simp only [Option.bind_some, if_true, bne_self_eq_false]
    simp only [lecternkit_Query.j0]
    rw [if_neg (by decide)]
    exact qL_same x (by omega) K hK x.f9.length k 0 (by omega) (by omega) (by omega)
end Go.Proofs.YteppilognoigjaaDoor.LQ
