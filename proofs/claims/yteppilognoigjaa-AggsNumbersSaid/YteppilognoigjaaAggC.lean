import Derived.Test.YteppilognoigjaaAggB
namespace Go.Proofs.Yteppilognoigjaa.AggA
open Go.RowKit Go.Proofs.YteppilognoigjaaW.PrintWords Go.Proofs.YteppilognoigjaaW.PrintLast Go.Proofs.YteppilognoigjaaW.PrintMore Go.Proofs.Yteppilognoigjaa.PAggsNumbers
set_option linter.unusedVariables false

/-! ### the plain law -/
def tot : List Int → Int
  | [] => 0
  | x :: l => x + tot l
theorem tot_append (l m : List Int) : tot (l ++ m) = tot l + tot m := by
  induction l with
  | nil => simp [tot]
  | cons x l ih => simp only [List.cons_append, tot, ih]; omega
def InR (l : List Int) : Prop := ∀ x ∈ l, -9223372036854775808 ≤ x ∧ x ≤ 9223372036854775807
theorem tot_bound (l : List Int) (h : InR l) : -9223372036854775808 * (l.length : Int) ≤ tot l ∧ tot l ≤ 9223372036854775807 * l.length := by
  induction l with
  | nil => simp [tot]
  | cons x l ih =>
    have h1 := ih fun y hy => h y (List.mem_cons_of_mem _ hy)
    have h2 := h x List.mem_cons_self
    simp only [tot, List.length_cons]; omega
theorem tot_pos (l : List Int) (h : ∀ x ∈ l, 0 < x) : 0 ≤ tot l := by
  induction l with
  | nil => simp [tot]
  | cons x l ih =>
    have h1 := ih fun y hy => h y (List.mem_cons_of_mem _ hy)
    have h2 := h x List.mem_cons_self
    simp only [tot]; omega
theorem tot_neg (l : List Int) (h : ∀ x ∈ l, x < 0) : tot l ≤ 0 := by
  induction l with
  | nil => simp [tot]
  | cons x l ih =>
    have h1 := ih fun y hy => h y (List.mem_cons_of_mem _ hy)
    have h2 := h x List.mem_cons_self
    simp only [tot]; omega
def pos (l : List Int) : List Int := l.filter fun x => decide (0 < x)
def neg (l : List Int) : List Int := l.filter fun x => decide (x < 0)
theorem tot_parts (l : List Int) : tot (pos l) + tot (neg l) = tot l := by
  induction l with
  | nil => simp [pos, neg, tot]
  | cons x l ih =>
    unfold pos neg at ih ⊢
    simp only [List.filter_cons]
    by_cases h1 : 0 < x
    · have h2 : ¬ x < 0 := by omega
      simp only [h1, h2, decide_true, decide_false, if_true, tot]
      simp only [Bool.false_eq_true, if_false]
      omega
    · by_cases h2 : x < 0
      · simp only [h1, h2, decide_true, decide_false, if_true, tot, Bool.false_eq_true, if_false]; omega
      · have : x = 0 := by omega
        simp only [h1, h2, decide_false, tot, Bool.false_eq_true, if_false]; omega
def clamp (t : Int) : Int × Bool := if 9223372036854775807 < t then (9223372036854775807, true) else if t < -9223372036854775808 then (-9223372036854775808, true) else (t, false)

theorem drop_rd (l : List Int) (i : Int) (h0 : 0 ≤ i) (h : i < l.length) : l.drop i.toNat = rd l i :: l.drop (i + 1).toNat := by
  have e : (i + 1).toNat = i.toNat + 1 := by omega
  have hl : i.toNat < l.length := by omega
  rw [e, List.drop_eq_getElem_cons hl]
  unfold rd
  rw [List.getD_eq_getElem?_getD, List.getElem?_eq_getElem hl]
  rfl
theorem ref_l0 (l : List Int) (hn : l.length < 17592186044415) (k : Nat) (d : Nat) : ∀ (i : Int) (up dn : List Int), 0 ≤ i → i + d = l.length → up.length + d < 17592186044416 → dn.length + d < 17592186044416 →
    lecternref23_Sum.l0 (d + (k + 1)) l up dn i = lecternref23_Sum.l1 k (up ++ pos (l.drop i.toNat)) (dn ++ neg (l.drop i.toNat)) 0 := by
  induction d with
  | zero =>
    intro i up dn h0 h1 h2 h3
    have e : l.drop i.toNat = [] := List.drop_of_length_le (by omega)
    rw [e, Nat.zero_add]
    simp only [lecternref23_Sum.l0]
    rw [if_neg (by omega)]
    simp [pos, neg]
  | succ d ih =>
    intro i up dn h0 h1 h2 h3
    have hw : wrap64 (i + 1) = i + 1 := by unfold wrap64; omega
    have e := drop_rd l i h0 (by omega)
    rw [show d + 1 + (k + 1) = (d + (k + 1)) + 1 by omega, e]
    generalize d + (k + 1) = K at ih ⊢
    simp only [lecternref23_Sum.l0]
    rw [if_pos (by omega), if_pos h0, hw]
    unfold pos neg
    simp only [List.filter_cons]
    by_cases c1 : rd l i > 0
    · have c2 : ¬ rd l i < 0 := by omega
      have c1' : 0 < rd l i := c1
      rw [if_pos c1, if_pos (by omega)]
      simp only [Option.bind_some, c1', c2, decide_true, decide_false, if_true, if_false, Bool.false_eq_true]
      rw [ih (i + 1) (up ++ [rd l i]) dn (by omega) (by omega) (by simp; omega) (by omega)]
      unfold pos neg
      rw [List.append_assoc, List.singleton_append]
    · rw [if_neg c1]
      have c1' : ¬ 0 < rd l i := c1
      by_cases c2 : rd l i < 0
      · simp only [c1', c2, decide_true, decide_false, if_true, if_false, Bool.false_eq_true]
        rw [if_pos (by omega), ih (i + 1) up (dn ++ [rd l i]) (by omega) (by omega) (by omega) (by simp; omega)]
        unfold pos neg
        rw [List.append_assoc, List.singleton_append]
      · simp only [c1', c2, decide_false, if_false, Bool.false_eq_true]
        exact ih (i + 1) up dn (by omega) (by omega) (by omega) (by omega)

theorem last_rd (l : List Int) (x : Int) : rd (l ++ [x]) (((l ++ [x]).length : Int) - 1) = x := by
  unfold rd
  simp
theorem last_take (l : List Int) (x : Int) : (l ++ [x]).take (((l ++ [x]).length : Int) - 1).toNat = l := by
  have : (((l ++ [x]).length : Int) - 1).toNat = l.length := by simp
  rw [this]; simp
theorem snoc_of (l : List Int) (h : 0 < l.length) : ∃ m x, l = m ++ [x] := by
  have hne : l ≠ [] := by intro e; simp [e] at h
  exact ⟨l.dropLast, l.getLast hne, (List.dropLast_concat_getLast hne).symm⟩
theorem ref_l1 (m : Nat) : ∀ (up dn : List Int) (s : Int) (k : Nat), up.length + dn.length = m → up.length < 17592186044416 → dn.length < 17592186044416 → (∀ x ∈ up, 0 < x) → (∀ x ∈ dn, x < 0) → InR up → InR dn → -9223372036854775808 ≤ s → s ≤ 9223372036854775807 → 3 * m + 3 ≤ k →
    lecternref23_Sum.l1 k up dn s = some (clamp (s + tot up + tot dn)) := by
  induction m with
  | zero =>
    intro up dn s k hm hu hd h1 h2 h3 h4 h5 h6 hk
    obtain rfl : up = [] := List.eq_nil_of_length_eq_zero (by omega)
    obtain rfl : dn = [] := List.eq_nil_of_length_eq_zero (by omega)
    obtain ⟨k, rfl⟩ : ∃ j, k = j + 2 := ⟨k - 2, by omega⟩
    simp only [lecternref23_Sum.l1, lecternref23_Sum.j2]
    simp [tot, clamp]
    rw [if_neg (by omega), if_neg (by omega)]
  | succ m ih =>
    intro up dn s k hm hu hd h1 h2 h3 h4 h5 h6 hk
    obtain ⟨k, rfl⟩ : ∃ j, k = j + 3 := ⟨k - 3, by omega⟩
    -- the two ways
    have wayUp : 0 < up.length → (dn = [] ∨ s ≤ 0) → lecternref23_Sum.j3 (k + 1) up dn s true = some (clamp (s + tot up + tot dn)) := by
      intro hl hor
      obtain ⟨u, x, rfl⟩ := snoc_of up hl
      have hx := h1 x (by simp)
      have hxr := h3 x (by simp)
      have hlu : (u ++ [x]).length = u.length + 1 := by simp
      have hw : wrap64 (((u ++ [x]).length : Int) - 1) = ((u ++ [x]).length : Int) - 1 := by rw [hlu]; unfold wrap64; omega
      have hw2 : wrap64 (9223372036854775807 - x) = 9223372036854775807 - x := by unfold wrap64; omega
      simp only [lecternref23_Sum.j3]
      rw [if_pos trivial, hw, if_pos (by omega), if_pos (by omega), if_pos (by omega), last_rd, last_take, hw2]
      have ht : tot (u ++ [x]) = tot u + x := by rw [tot_append]; simp [tot]
      have htu := tot_pos u fun y hy => h1 y (by simp [hy])
      by_cases c : s > 9223372036854775807 - x
      · rw [if_pos c]
        rcases hor with rfl | hs
        · rw [ht]; unfold clamp; rw [if_pos (by simp [tot]; omega)]
        · omega
      · rw [if_neg c]
        have hw3 : wrap64 (s + x) = s + x := by unfold wrap64; omega
        rw [hw3, ih u dn (s + x) k (by omega) (by omega) hd (fun y hy => h1 y (by simp [hy])) h2 (fun y hy => h3 y (by simp [hy])) h4 (by omega) (by omega) (by omega), ht]
        congr 2; omega
    have wayDn : 0 < dn.length → (up = [] ∨ 0 < s) → lecternref23_Sum.j3 (k + 1) up dn s false = some (clamp (s + tot up + tot dn)) := by
      intro hl hor
      obtain ⟨u, x, rfl⟩ := snoc_of dn hl
      have hx := h2 x (by simp)
      have hxr := h4 x (by simp)
      have hlu : (u ++ [x]).length = u.length + 1 := by simp
      have hw : wrap64 (((u ++ [x]).length : Int) - 1) = ((u ++ [x]).length : Int) - 1 := by rw [hlu]; unfold wrap64; omega
      have hw2 : wrap64 (-9223372036854775808 - x) = -9223372036854775808 - x := by unfold wrap64; omega
      simp only [lecternref23_Sum.j3]
      rw [if_neg (by decide), hw, if_pos (by omega), if_pos (by omega), if_pos (by omega), last_rd, last_take, hw2]
      have ht : tot (u ++ [x]) = tot u + x := by rw [tot_append]; simp [tot]
      have htu := tot_neg u fun y hy => h2 y (by simp [hy])
      by_cases c : s < -9223372036854775808 - x
      · rw [if_pos c]
        rcases hor with rfl | hs
        · rw [ht]; unfold clamp; rw [if_neg (by simp [tot]; omega), if_pos (by simp [tot]; omega)]
        · omega
      · rw [if_neg c]
        have hw3 : wrap64 (s + x) = s + x := by unfold wrap64; omega
        rw [hw3, ih up u (s + x) k (by omega) hu (by omega) h1 (fun y hy => h2 y (by simp [hy])) h3 (fun y hy => h4 y (by simp [hy])) (by omega) (by omega) (by omega), ht]
        congr 2; omega
    by_cases hul : 0 < up.length
    · simp only [lecternref23_Sum.l1]
      rw [if_pos (by omega)]
      simp only [lecternref23_Sum.j2]
      rw [if_pos trivial]
      by_cases hdl : dn.length = 0
      · rw [if_pos (by omega)]
        exact wayUp hul (.inl (List.eq_nil_of_length_eq_zero hdl))
      · rw [if_neg (by omega), if_pos (by omega)]
        by_cases hs : s ≤ 0
        · rw [decide_eq_true hs]; exact wayUp hul (.inr hs)
        · rw [decide_eq_false hs]; exact wayDn (by omega) (.inr (by omega))
    · have hdl : 0 < dn.length := by omega
      simp only [lecternref23_Sum.l1]
      rw [if_neg (by omega), decide_eq_true (by omega)]
      simp only [lecternref23_Sum.j2]
      rw [if_pos trivial, if_neg (by omega), if_neg (by omega)]
      exact wayDn hdl (.inl (List.eq_nil_of_length_eq_zero (by omega)))

theorem foldl_acc (l : List Int) (h : InR l) : ∀ s : Int × Int, 0 ≤ s.1 → s.1 < 18446744073709551616 → 0 ≤ s.2 → s.2 < 18446744073709551616 →
    ∃ q : Int, (l.foldl astep s).1 * 18446744073709551616 + (l.foldl astep s).2 = s.1 * 18446744073709551616 + s.2 + tot l + q * 340282366920938463463374607431768211456 ∧
      0 ≤ (l.foldl astep s).1 ∧ (l.foldl astep s).1 < 18446744073709551616 ∧ 0 ≤ (l.foldl astep s).2 ∧ (l.foldl astep s).2 < 18446744073709551616 := by
  induction l with
  | nil => intro s h1 h2 h3 h4; exact ⟨0, by simp [tot], h1, h2, h3, h4⟩
  | cons v l ih =>
    intro s h1 h2 h3 h4
    have hv := h v List.mem_cons_self
    obtain ⟨a, b⟩ := s
    simp only at h1 h2 h3 h4
    have e1 := uw_eq v
    have e2 := uw_eq (v / 9223372036854775808)
    obtain ⟨q, hq, r⟩ := ih (fun y hy => h y (List.mem_cons_of_mem _ hy)) (astep (a, b) v) (by simp only [astep]; omega) (by simp only [astep]; omega) (by simp only [astep]; omega) (by simp only [astep]; omega)
    simp only [List.foldl_cons]
    have key : ∃ q' : Int, (astep (a, b) v).1 * 18446744073709551616 + (astep (a, b) v).2 = a * 18446744073709551616 + b + v + q' * 340282366920938463463374607431768211456 := by
      simp only [astep]
      rw [e1, e2]
      refine ⟨(if v < 0 then 1 else 0) - (a + v / 9223372036854775808 % 18446744073709551616 + (b + v % 18446744073709551616) / 18446744073709551616) / 18446744073709551616, ?_⟩
      split <;> omega
    obtain ⟨q', hq'⟩ := key
    refine ⟨q + q', ?_, r⟩
    rw [hq, hq']
    simp only [tot]
    omega
theorem tells_acc (l : List Int) (h : InR l) (hn : l.length < 17592186044416) : tells (acc l) = clamp (tot l) := by
  obtain ⟨q, hq, r1, r2, r3, r4⟩ := foldl_acc l h (0, 0) (by decide) (by decide) (by decide) (by decide)
  obtain ⟨b1, b2⟩ := tot_bound l h
  unfold acc
  generalize l.foldl astep (0, 0) = p at *
  obtain ⟨hi, lo⟩ := p
  simp only at hq r1 r2 r3 r4
  generalize tot l = t at *
  have b1' : -162259276829213363391578010288128 ≤ t := by omega
  have b2' : t ≤ 162259276829213363391578010288128 := by omega
  clear b1 b2
  have hq01 : q = 0 ∧ 0 ≤ t ∨ q = 1 ∧ t < 0 := by omega
  unfold clamp
  rcases hq01 with ⟨rfl, ht⟩ | ⟨rfl, ht⟩
  · by_cases c : 9223372036854775807 < t
    · rw [if_pos c, tells_3 hi lo r1 (by omega) (by omega)]
    · rw [if_neg c, if_neg (by omega), tells_1 hi lo (by omega) (by omega)]
      congr 1; omega
  · rw [if_neg (by omega)]
    by_cases c : t < -9223372036854775808
    · rw [if_pos c, tells_4 hi lo (by omega) (by omega)]
    · rw [if_neg c, tells_2 hi lo (by omega) (by omega) r4]
      congr 1; omega
theorem ref_sum (l : List Int) (h : InR l) (hn : l.length < 17592186044415) : ∃ k, lecternref23_Sum.f k l = some (tells (acc l)) := by
  refine ⟨l.length + (3 * l.length + 3 + 1), ?_⟩
  unfold lecternref23_Sum.f
  rw [ref_l0 l hn (3 * l.length + 3) l.length 0 [] [] (by omega) (by omega) (by simp; omega) (by simp; omega)]
  simp only [Int.toNat_zero, List.drop_zero, List.nil_append]
  have lp : (pos l).length + (neg l).length ≤ l.length := by
    unfold pos neg
    clear h hn
    induction l with
    | nil => simp
    | cons x l ih =>
      simp only [List.filter_cons]
      by_cases h1 : 0 < x
      · have h2 : ¬ x < 0 := by omega
        simp only [h1, h2, decide_true, decide_false, if_true, Bool.false_eq_true, if_false, List.length_cons]; omega
      · by_cases h2 : x < 0 <;> simp only [h1, h2, decide_true, decide_false, if_true, Bool.false_eq_true, if_false, List.length_cons] <;> omega
  rw [ref_l1 _ (pos l) (neg l) 0 _ rfl (by omega) (by omega) (fun x hx => by have := (List.mem_filter.1 hx).2; simpa using this) (fun x hx => by have := (List.mem_filter.1 hx).2; simpa using this)
    (fun x hx => h x (List.mem_filter.1 hx).1) (fun x hx => h x (List.mem_filter.1 hx).1) (by decide) (by decide) (by omega)]
  rw [tells_acc l h (by omega), show 0 + tot (pos l) + tot (neg l) = tot l by have := tot_parts l; omega]
end Go.Proofs.Yteppilognoigjaa.AggA
