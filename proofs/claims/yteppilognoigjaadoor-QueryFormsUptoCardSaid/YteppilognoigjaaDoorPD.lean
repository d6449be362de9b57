/- The plain law of Depth: both printed functions answer depthN. -/
import Derived.Test.YteppilognoigjaaDoorFA
namespace Go.Proofs.YteppilognoigjaaDoor.LQ
open Go.RowKit Go.Proofs.YteppilognoigjaaDoorW.PrintWords Go.Proofs.YteppilognoigjaaDoorW.PrintLast Go.Proofs.YteppilognoigjaaDoorW.PrintMore Go.Proofs.YteppilognoigjaaDoor.PQueryForms Go.Proofs.YteppilognoigjaaDoor.QK
set_option linter.unusedVariables false
set_option linter.unusedSimpArgs false

def depthN : Nat → S25 → Int
  | 0, _ => 0
  | n + 1, x => wrap64 (x.f9.foldl (fun m k => mx m (depthN n k)) 0 + 1)
abbrev dP (k : Nat) (x : S25) := query_Depth.f k x.f0 x.f1 x.f2 x.f3 x.f4 x.f5 x.f6 x.f7 x.f8 x.f9
abbrev dR (k : Nat) (x : S25) := lecternref18_Depth.f k x.f0 x.f1 x.f2 x.f3 x.f4 x.f5 x.f6 x.f7 x.f8 x.f9
theorem dP_l (l : List S25) (hn : l.length ≤ 9223372036854775806) (g : S25 → Int) (K : Nat) (hK : ∀ y ∈ l, ∀ k, K ≤ k → dP k y = some (g y)) : ∀ (m k : Nat) (i a : Int), 0 ≤ i → i + m = l.length → K + m + 1 ≤ k →
    query_Depth.l0 k a l (l.length : Int) i = some (wrap64 ((l.drop i.toNat).foldl (fun m k => mx m (g k)) a + 1))
  | 0, k, i, a, h0, hm, hk => by
    obtain ⟨k, rfl⟩ : ∃ j, k = j + 1 := ⟨k - 1, by omega⟩
    rw [query_Depth.l0, if_neg (by omega), List.drop_eq_nil_of_le (by omega)]
    rfl
  | m + 1, k, i, a, h0, hm, hk => by
    obtain ⟨k, rfl⟩ : ∃ j, k = j + 1 := ⟨k - 1, by omega⟩
    have h1 : i < (l.length : Int) := by omega
    have hw : wrap64 (i + 1) = i + 1 := by unfold wrap64; omega
    have hy := hK (rd_T25 l i) (rd_mem h0 h1) k (by omega)
    unfold dP at hy
    have ih := dP_l l hn g K hK m k (i + 1) (mx a (g (rd_T25 l i))) (by omega) (by omega) (by omega)
    rw [query_Depth.l0, if_pos h1, if_pos h0, if_pos h1, hy, Option.bind_some, hw, ih, drop_rd h0 h1, List.foldl_cons]
theorem dP_f : ∀ (n : Nat) (x : S25), Good n x → ∃ K, ∀ k, K ≤ k → dP k x = some (depthN n x) := by
  intro n
  induction n with
  | zero => intro x h; exact h.elim
  | succ n ih =>
    intro x hg
    obtain ⟨_, _, _, _, _, _, _, _, _, h9, hk⟩ := hg
    obtain ⟨K, hK⟩ := exists_rounds x.f9 (fun y k => ∀ k', k ≤ k' → dP k' y = some (depthN n y)) fun y hy => by
      obtain ⟨K, hK⟩ := ih y (hk y hy)
      exact ⟨K, fun k hk k' hk' => hK k' (by omega)⟩
    refine ⟨K + x.f9.length + 20, fun k hk => ?_⟩
    obtain ⟨k, rfl⟩ : ∃ m, k = m + 1 := ⟨k - 1, by omega⟩
    unfold dP
    rw [query_Depth.f, dP_l x.f9 (by omega) (depthN n) K (fun y hy k' hk' => hK y hy K (Nat.le_refl _) k' hk') x.f9.length k 0 0 (by decide) (by omega) (by omega)]
    rfl
theorem dR_l (x : S25) (hn : x.f9.length ≤ 9223372036854775806) (g : S25 → Int) (K : Nat) (hK : ∀ y ∈ x.f9, ∀ k, K ≤ k → dR k y = some (g y)) : ∀ (m k : Nat) (i a : Int), 0 ≤ i → i + m = x.f9.length → K + m + 1 ≤ k →
    lecternref18_Depth.l0 k a i x.f0 x.f1 x.f2 x.f3 x.f4 x.f5 x.f6 x.f7 x.f8 x.f9 = some (wrap64 ((x.f9.drop i.toNat).foldl (fun m k => mx m (g k)) a + 1))
  | 0, k, i, a, h0, hm, hk => by
    obtain ⟨k, rfl⟩ : ∃ j, k = j + 1 := ⟨k - 1, by omega⟩
    rw [lecternref18_Depth.l0, if_neg (by omega), List.drop_eq_nil_of_le (by omega)]
    rfl
  | m + 1, k, i, a, h0, hm, hk => by
    obtain ⟨k, rfl⟩ : ∃ j, k = j + 1 := ⟨k - 1, by omega⟩
    have h1 : i < (x.f9.length : Int) := by omega
    have hw : wrap64 (i + 1) = i + 1 := by unfold wrap64; omega
    have hy := hK (rd_T25 x.f9 i) (rd_mem h0 h1) k (by omega)
    unfold dR at hy
    have ih := dR_l x hn g K hK m k (i + 1) (mx a (g (rd_T25 x.f9 i))) (by omega) (by omega) (by omega)
    rw [lecternref18_Depth.l0, if_pos h1, if_pos h0, hy, Option.bind_some, hw, drop_rd h0 h1, List.foldl_cons, ← ih]
    unfold mx
    by_cases c : g (rd_T25 x.f9 i) > a
    · rw [if_pos c, if_pos c]
    · rw [if_neg c, if_neg c]
theorem dR_f : ∀ (n : Nat) (x : S25), Good n x → ∃ K, ∀ k, K ≤ k → dR k x = some (depthN n x) := by
  intro n
  induction n with
  | zero => intro x h; exact h.elim
  | succ n ih =>
    intro x hg
    obtain ⟨_, _, _, _, _, _, _, _, _, h9, hk⟩ := hg
    obtain ⟨K, hK⟩ := exists_rounds x.f9 (fun y k => ∀ k', k ≤ k' → dR k' y = some (depthN n y)) fun y hy => by
      obtain ⟨K, hK⟩ := ih y (hk y hy)
      exact ⟨K, fun k hk k' hk' => hK k' (by omega)⟩
    refine ⟨K + x.f9.length + 20, fun k hk => ?_⟩
    obtain ⟨k, rfl⟩ : ∃ m, k = m + 1 := ⟨k - 1, by omega⟩
    unfold dR
    rw [lecternref18_Depth.f, dR_l x (by omega) (depthN n) K (fun y hy k' hk' => hK y hy K (Nat.le_refl _) k' hk') x.f9.length k 0 0 (by decide) (by omega) (by omega)]
    rfl
end Go.Proofs.YteppilognoigjaaDoor.LQ
