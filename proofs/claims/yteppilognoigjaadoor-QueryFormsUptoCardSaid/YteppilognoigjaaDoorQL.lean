/- Plain: how long a query's text is at the most. -/
import Derived.Test.YteppilognoigjaaDoorPS
namespace Go.Proofs.YteppilognoigjaaDoor.LQ
open Go.RowKit Go.Proofs.YteppilognoigjaaDoorW.PrintWords Go.Proofs.YteppilognoigjaaDoorW.PrintLast Go.Proofs.YteppilognoigjaaDoorW.PrintMore Go.Proofs.YteppilognoigjaaDoor.PQueryForms Go.Proofs.YteppilognoigjaaDoor.QK
set_option linter.unusedVariables false
set_option linter.unusedSimpArgs false

/-- How much a query holds. -/
def bkN : Nat → S25 → Nat
  | 0, _ => 0
  | n + 1, x => 10 + x.f2.size + x.f3.size + x.f4.size + x.f5.length + x.f6.length + x.f9.length + (x.f9.map (bkN n)).sum
theorem dec_len : ∀ (k u : Nat), u < 10 ^ (k + 1) → (Lib.decDigits u).length ≤ k + 1
  | 0, u, h => by
    rw [Lib.decDigits, dif_pos (by simpa using h)]
    simp
  | k + 1, u, h => by
    rw [Lib.decDigits]
    by_cases c : u < 10
    · rw [dif_pos c]; simp
    · rw [dif_neg c]
      have := dec_len k (u / 10) (by rw [Nat.pow_succ] at h; omega)
      simp only [List.length_append, List.length_singleton]
      omega
theorem decS_len (v : Int) (h : (Lit.int .i64 v).wf = true) : (decS v).length ≤ 20 := by
  obtain ⟨h0, h1⟩ := wf64 h
  unfold decS
  rw [List.length_map]
  unfold Lib.itoa
  by_cases c : v < 0
  · rw [if_pos c]
    have := dec_len 18 v.natAbs (by omega)
    simp only [List.length_cons]
    omega
  · rw [if_neg c]
    have := dec_len 18 v.toNat (by omega)
    omega
theorem flat_le {α : Type} (f : α → List Int) (k : Nat) : ∀ (l : List α), (∀ a ∈ l, (f a).length ≤ k) → (l.flatMap f).length ≤ k * l.length
  | [], _ => by simp
  | a :: l, h => by
    have h1 := h a List.mem_cons_self
    have h2 := flat_le f k l (fun b hb => h b (List.mem_cons_of_mem _ hb))
    simp only [List.flatMap_cons, List.length_append, List.length_cons, Nat.mul_add]
    omega
theorem nums_len (l : List Int) (h : ∀ v ∈ l, (Lit.int .i64 v).wf = true) : (numsS l).length ≤ 21 * l.length := by
  cases l with
  | nil => simp [numsS]
  | cons v r =>
    have h1 := decS_len v (h v List.mem_cons_self)
    have h2 := flat_le (fun x => 32 :: decS x) 21 r (fun x hx => by have := decS_len x (h x (List.mem_cons_of_mem _ hx)); simp only [List.length_cons]; omega)
    simp only [numsS, List.length_append, List.length_cons, Nat.mul_add]
    omega
theorem quoted_len (s : ByteArray) : (quotedS s).length ≤ 4 * s.size + 2 := by
  have h := flat_le qb 4 (bytesOf s) (fun c _ => by unfold qb; (repeat' split) <;> simp)
  rw [bytesOf_length] at h
  unfold quotedS
  simp only [List.length_append, List.length_singleton]
  omega
theorem sep_len : ∀ (l : List (List Int)), (sepS l).length ≤ (l.map (fun p => p.length + 2)).sum
  | [] => by simp [sepS]
  | p :: r => by
    have h : ∀ (r : List (List Int)), (r.flatMap fun q => [44, 32] ++ q).length ≤ (r.map (fun p => p.length + 2)).sum := by
      intro r
      induction r with
      | nil => simp
      | cons q r ih => simp only [List.flatMap_cons, List.length_append, List.map_cons, List.sum_cons, List.length_cons, List.length_nil]; omega
    have h := h r
    simp only [sepS, List.length_append, List.map_cons, List.sum_cons]
    omega
theorem word_len (k : Int) : (wordS k).size ≤ 7 := by
  have key : ∀ (l : List ByteArray), (∀ s ∈ l, s.size ≤ 7) → ∀ i, (l.getD i ⟨#[]⟩).size ≤ 7 := by
    intro l h i
    rw [List.getD_eq_getElem?_getD]
    cases e : l[i]? with
    | none => decide
    | some s => exact h s (List.mem_of_getElem? e)
  exact key wordT (by decide) k.toNat
theorem op_len (k : Int) : (opW k).size ≤ 7 := by
  have key : ∀ (l : List ByteArray), (∀ s ∈ l, s.size ≤ 7) → ∀ i, (l.getD i ⟨#[]⟩).size ≤ 7 := by
    intro l h i
    rw [List.getD_eq_getElem?_getD]
    cases e : l[i]? with
    | none => decide
    | some s => exact h s (List.mem_of_getElem? e)
  exact key opT (by decide) k.toNat
theorem text_len : ∀ (n : Nat) (x : S25), Good n x → (textN n x).length ≤ 64 * bkN n x
  | 0, x, h => h.elim
  | n + 1, x, hg => by
    obtain ⟨g0, g1, g2, g3, g4, g5, g6, g7, g8, g9, gk⟩ := hg
    have hw := word_len x.f0
    have ho := op_len x.f8
    have h2 : (bytesOf x.f2).length = x.f2.size := bytesOf_length _
    have h3 := quoted_len x.f3
    have h4 := quoted_len x.f4
    have h5 := nums_len x.f5 g5.2
    have h6 := nums_len x.f6 g6.2
    have h7 := nums_len [x.f7] (by intro v hv; simp at hv; subst hv; exact g7)
    have hp : ((partsS x).map (fun p => p.length + 2)).sum ≤ 64 * (x.f2.size + x.f3.size + x.f4.size + x.f5.length + x.f6.length) + 100 := by
      unfold partsS
      (repeat' split) <;> simp only [List.map_cons, List.map_nil, List.sum_cons, List.sum_nil, bytesOf_length] at * <;> simp at h7 <;> omega
    have hkid : ∀ (l : List S25), (∀ k ∈ l, Good n k) → ((l.map fun k => markS k.f1 ++ textN n k).map (fun p => p.length + 2)).sum ≤ 64 * (l.length + (l.map (bkN n)).sum) := by
      intro l
      induction l with
      | nil => intro _; simp
      | cons k l ih =>
        intro h
        have h1 := ih (fun b hb => h b (List.mem_cons_of_mem _ hb))
        have h2 := text_len n k (h k List.mem_cons_self)
        have h3 : (markS k.f1).length ≤ 1 := by unfold markS; split <;> simp
        simp only [List.map_cons, List.sum_cons, List.length_append, List.length_cons]
        omega
    have hk := hkid x.f9 gk
    have hs := sep_len (partsS x ++ x.f9.map fun k => markS k.f1 ++ textN n k)
    rw [List.map_append, List.sum_append] at hs
    have hwl : (bytesOf (wordS x.f0)).length ≤ 7 := by rw [bytesOf_length]; exact hw
    unfold textN bkN
    split
    · simp only [List.append_nil]
      omega
    · simp only [List.length_append, List.length_singleton]
      omega
end Go.Proofs.YteppilognoigjaaDoor.LQ
