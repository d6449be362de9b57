/- Two queries are the same part by part: the plain law, and the document's side. -/
import Derived.Test.YteppilognoigjaaLY
import Derived.Test.YteppilognoigjaaPRewriteComparesx1
import Derived.Test.YteppilognoigjaaPRewriteComparesx2
namespace Go.Proofs.Yteppilognoigjaa.LQ
open Go.RowKit Go.Proofs.YteppilognoigjaaW.PrintWords Go.Proofs.YteppilognoigjaaW.PrintLast Go.Proofs.YteppilognoigjaaW.PrintMore Go.Proofs.Yteppilognoigjaa.PRewriteCompares Go.Proofs.Yteppilognoigjaa.QK
set_option linter.unusedVariables false
set_option linter.unusedSimpArgs false

def sameL (f : S25 → S25 → Bool) : List S25 → List S25 → Bool
  | [], [] => true
  | a :: l, b :: m => f a b && sameL f l m
  | _, _ => false
/-- The same part by part (queries nested at most n deep). -/
def sameS : Nat → S25 → S25 → Bool
  | 0, _, _ => false
  | n + 1, x, y => decide (x.f0 = y.f0) && (decide (x.f1 = y.f1) && (decide (x.f2.toList = y.f2.toList) && (decide (x.f3.toList = y.f3.toList) && (decide (x.f4.toList = y.f4.toList) && (decide (x.f5 = y.f5) && (decide (x.f6 = y.f6) && (decide (x.f7 = y.f7) && (decide (x.f8 = y.f8) && sameL (sameS n) x.f9 y.f9))))))))
theorem sameL_self (f : S25 → S25 → Bool) (l : List S25) (h : ∀ y ∈ l, f y y = true) : sameL f l l = true := by
  induction l with
  | nil => rfl
  | cons a l ih => rw [sameL, h a List.mem_cons_self, ih fun y hy => h y (List.mem_cons_of_mem _ hy)]; rfl
theorem sameS_self : ∀ n x, Good n x → sameS n x x = true := by
  intro n
  induction n with
  | zero => intro x h; exact h.elim
  | succ n ih =>
    intro x hg
    obtain ⟨_, _, _, _, _, _, _, _, _, _, hk⟩ := hg
    simp only [sameS, decide_true, Bool.true_and]
    exact sameL_self _ _ fun y hy => ih y (hk y hy)
theorem sameL_len (f : S25 → S25 → Bool) : ∀ (l m : List S25), l.length ≠ m.length → sameL f l m = false
  | [], [], h => absurd rfl h
  | [], _ :: _, _ => rfl
  | _ :: _, [], _ => rfl
  | a :: l, b :: m, h => by rw [sameL, sameL_len f l m (by simpa using h), Bool.and_false]

theorem drop_rdI (l : List Int) (i : Int) (h0 : 0 ≤ i) (h : i < l.length) : l.drop i.toNat = rd l i :: l.drop (i + 1).toNat := by
  have e : (i + 1).toNat = i.toNat + 1 := by omega
  have hl : i.toNat < l.length := by omega
  rw [e, List.drop_eq_getElem_cons hl]
  unfold rd
  rw [List.getD_eq_getElem?_getD, List.getElem?_eq_getElem hl]
  rfl
theorem drop_rdQ (l : List S25) (i : Int) (h0 : 0 ≤ i) (h : i < l.length) : l.drop i.toNat = rd_T25 l i :: l.drop (i + 1).toNat := by
  have e : (i + 1).toNat = i.toNat + 1 := by omega
  have hl : i.toNat < l.length := by omega
  rw [e, List.drop_eq_getElem_cons hl]
  unfold rd_T25
  rw [List.getD_eq_getElem?_getD, List.getElem?_eq_getElem hl]
  rfl
theorem nums_l0 (l m : List Int) (he : l.length = m.length) (hn : l.length ≤ 9223372036854775807) (d : Nat) : ∀ (k : Nat) (i : Int), 0 ≤ i → (l.length : Int) - i = d → d < k → lecternref19_numbers.l0 k l m i = some (decide (l.drop i.toNat = m.drop i.toNat)) := by
  induction d with
  | zero =>
    intro k i h0 hd hk
    obtain ⟨k, rfl⟩ : ∃ m, k = m + 1 := ⟨k - 1, by omega⟩
    simp only [lecternref19_numbers.l0]
    rw [if_neg (by omega), List.drop_of_length_le (by omega), List.drop_of_length_le (by omega)]
    rfl
  | succ d ih =>
    intro k i h0 hd hk
    obtain ⟨k, rfl⟩ : ∃ m, k = m + 1 := ⟨k - 1, by omega⟩
    simp only [lecternref19_numbers.l0]
    rw [if_pos (by omega), if_pos h0, if_pos (by omega), wrap_up h0 (show i < (l.length : Int) by omega) hn, drop_rdI l i h0 (by omega), drop_rdI m i h0 (by omega)]
    by_cases h : rd l i = rd m i
    · rw [if_pos h, ih k (i + 1) (by omega) (by omega) (by omega), h]
      simp
    · rw [if_neg h]
      simp [h]
theorem nums_eq (l m : List Int) (hn : l.length ≤ 9223372036854775807) {k : Nat} (hk : l.length + 1 ≤ k) : lecternref19_numbers.f k l m = some (decide (l = m)) := by
  unfold lecternref19_numbers.f
  by_cases h : (l.length : Int) = m.length
  · rw [if_pos h, nums_l0 l m (by omega) hn l.length k 0 (by omega) (by omega) (by omega)]
    simp
  · rw [if_neg h]
    have : ¬ l = m := fun e => h (by rw [e])
    simp [this]
theorem equal_l0 (l m : List Int) (he : l.length = m.length) (hn : l.length ≤ 9223372036854775807) (d : Nat) : ∀ (k : Nat) (i : Int), 0 ≤ i → (l.length : Int) - i = d → d < k → slices_Equal_int64_int64.l0 k l m (l.length : Int) i = some (decide (l.drop i.toNat = m.drop i.toNat)) := by
  induction d with
  | zero =>
    intro k i h0 hd hk
    obtain ⟨k, rfl⟩ : ∃ m, k = m + 1 := ⟨k - 1, by omega⟩
    simp only [slices_Equal_int64_int64.l0]
    rw [if_neg (by omega), List.drop_of_length_le (by omega), List.drop_of_length_le (by omega)]
    rfl
  | succ d ih =>
    intro k i h0 hd hk
    obtain ⟨k, rfl⟩ : ∃ m, k = m + 1 := ⟨k - 1, by omega⟩
    simp only [slices_Equal_int64_int64.l0]
    rw [if_pos (by omega), if_pos h0, if_pos (by omega), if_pos (by omega), wrap_up h0 (show i < (l.length : Int) by omega) hn, drop_rdI l i h0 (by omega), drop_rdI m i h0 (by omega)]
    by_cases h : rd l i = rd m i
    · rw [if_pos h, ih k (i + 1) (by omega) (by omega) (by omega), h]
      simp
    · rw [if_neg h]
      simp [h]
theorem equal_eq (l m : List Int) (hn : l.length ≤ 9223372036854775807) : slices_Equal_int64_int64.f (l.length + 1) l m = some (decide (l = m)) := by
  unfold slices_Equal_int64_int64.f
  by_cases h : (l.length : Int) = m.length
  · rw [if_pos h, equal_l0 l m (by omega) hn l.length _ 0 (by omega) (by omega) (by omega)]
    simp
  · rw [if_neg h]
    have : ¬ l = m := fun e => h (by rw [e])
    simp [this]

abbrev sF (k : Nat) (x y : S25) : Option Bool := lecternref19_Same.f k x.f0 x.f1 x.f2 x.f3 x.f4 x.f5 x.f6 x.f7 x.f8 x.f9 y.f0 y.f1 y.f2 y.f3 y.f4 y.f5 y.f6 y.f7 y.f8 y.f9
abbrev sL0 (k : Nat) (i : Int) (x y : S25) : Option Bool := lecternref19_Same.l0 k i x.f0 x.f1 x.f2 x.f3 x.f4 x.f5 x.f6 x.f7 x.f8 x.f9 y.f0 y.f1 y.f2 y.f3 y.f4 y.f5 y.f6 y.f7 y.f8 y.f9
theorem sL0_eq (n : Nat) (x y : S25) (he : x.f9.length = y.f9.length) (hl : x.f9.length ≤ 9223372036854775807) (K : Nat) (hK : ∀ a ∈ x.f9, ∀ b ∈ y.f9, ∀ k, K ≤ k → sF k a b = some (sameS n a b)) (d : Nat) :
    ∀ (k : Nat) (i : Int), 0 ≤ i → (x.f9.length : Int) - i = d → K + d + 1 ≤ k → sL0 k i x y = some (sameL (sameS n) (x.f9.drop i.toNat) (y.f9.drop i.toNat)) := by
  induction d with
  | zero =>
    intro k i h0 hd hk
    obtain ⟨k, rfl⟩ : ∃ m, k = m + 1 := ⟨k - 1, by omega⟩
    unfold sL0
    simp only [lecternref19_Same.l0]
    rw [if_neg (by omega), List.drop_of_length_le (by omega), List.drop_of_length_le (by omega)]
    rfl
  | succ d ih =>
    intro k i h0 hd hk
    obtain ⟨k, rfl⟩ : ∃ m, k = m + 1 := ⟨k - 1, by omega⟩
    have h1 := hK _ (rd_mem (l := x.f9) h0 (by omega)) _ (rd_mem (l := y.f9) h0 (by omega)) k (by omega)
    have h2 := ih k (i + 1) (by omega) (by omega) (by omega)
    unfold sF at h1
    unfold sL0 at h2 ⊢
    simp only [lecternref19_Same.l0]
    rw [if_pos (by omega), if_pos h0, if_pos (by omega), wrap_up h0 (show i < (x.f9.length : Int) by omega) hl, h1, drop_rdQ x.f9 i h0 (by omega), drop_rdQ y.f9 i h0 (by omega), h2]
    simp only [Option.bind_some, sameL]
    cases sameS n (rd_T25 x.f9 i) (rd_T25 y.f9 i) <;> simp
theorem ref_same : ∀ (n : Nat) (x y : S25), Good n x → Good n y → ∃ K, ∀ k, K ≤ k → sF k x y = some (sameS n x y) := by
  intro n
  induction n with
  | zero => intro x y h; exact h.elim
  | succ n ih =>
    intro x y hx hy
    obtain ⟨_, _, _, _, _, ⟨h5, _⟩, ⟨h6, _⟩, _, _, h9, hkx⟩ := hx
    obtain ⟨_, _, _, _, _, _, _, _, _, _, hky⟩ := hy
    obtain ⟨K, hK⟩ := exists_rounds x.f9 (fun a k => ∀ b ∈ y.f9, sF k a b = some (sameS n a b)) fun a ha => by
      obtain ⟨K, hK⟩ := exists_rounds y.f9 (fun b k => sF k a b = some (sameS n a b)) fun b hb => ih a b (hkx a ha) (hky b hb)
      exact ⟨K, fun k hk b hb => hK b hb k hk⟩
    refine ⟨K + x.f9.length + x.f5.length + x.f6.length + 4, fun k hk => ?_⟩
    obtain ⟨k, rfl⟩ : ∃ m, k = m + 2 := ⟨k - 2, by omega⟩
    have hF : ∀ b, lecternref19_Same.j0 (k + 1) b x.f0 x.f1 x.f2 x.f3 x.f4 x.f5 x.f6 x.f7 x.f8 x.f9 y.f0 y.f1 y.f2 y.f3 y.f4 y.f5 y.f6 y.f7 y.f8 y.f9 = if b = true then some false else sL0 k 0 x y := fun b => rfl
    unfold sF
    simp only [lecternref19_Same.f, sameS, hF]
    by_cases c0 : x.f0 = y.f0
    · by_cases c1 : x.f1 = y.f1
      · by_cases c2 : x.f2.toList = y.f2.toList
        · by_cases c3 : x.f3.toList = y.f3.toList
          · by_cases c4 : x.f4.toList = y.f4.toList
            · by_cases c7 : x.f7 = y.f7
              · by_cases c8 : x.f8 = y.f8
                · by_cases c9 : (x.f9.length : Int) = y.f9.length
                  · rw [if_pos c0, if_pos c1, if_pos c2, if_pos c3, if_pos c4, if_pos c7, if_pos c8, if_pos c9, nums_eq x.f5 y.f5 (by omega) (by omega)]
                    simp only [c0, c1, c2, c3, c4, c7, c8, decide_true, Bool.true_and, Option.bind_some]
                    by_cases c5 : x.f5 = y.f5
                    · rw [decide_eq_true c5, if_pos rfl, nums_eq x.f6 y.f6 (by omega) (by omega)]
                      simp only [Option.bind_some]
                      by_cases c6 : x.f6 = y.f6
                      · rw [decide_eq_true c6, if_neg (by decide), sL0_eq n x y (by omega) (by omega) K (fun a ha b hb k hk => hK a ha k hk b hb) x.f9.length k 0 (by omega) (by omega) (by omega)]
                        simp
                      · rw [decide_eq_false c6, if_pos (by decide)]; simp
                    · rw [decide_eq_false c5, if_neg (by decide)]; simp
                  · have hl := sameL_len (sameS n) x.f9 y.f9 (by omega)
                    rw [if_pos c0, if_pos c1, if_pos c2, if_pos c3, if_pos c4, if_pos c7, if_pos c8, if_neg c9, hl]; simp
                · rw [if_pos c0, if_pos c1, if_pos c2, if_pos c3, if_pos c4, if_pos c7, if_neg c8]; simp [c8]
              · rw [if_pos c0, if_pos c1, if_pos c2, if_pos c3, if_pos c4, if_neg c7]; simp [c7]
            · rw [if_pos c0, if_pos c1, if_pos c2, if_pos c3, if_neg c4]; simp [c4]
          · rw [if_pos c0, if_pos c1, if_pos c2, if_neg c3]; simp [c3]
        · rw [if_pos c0, if_pos c1, if_neg c2]; simp [c2]
      · rw [if_pos c0, if_neg c1]; simp [c1]
    · rw [if_neg c0]; simp [c0]
end Go.Proofs.Yteppilognoigjaa.LQ
