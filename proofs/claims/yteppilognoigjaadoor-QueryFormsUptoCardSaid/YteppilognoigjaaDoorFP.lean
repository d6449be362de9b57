/- Plain: what own asks, kind by kind. -/
import Derived.Test.YteppilognoigjaaDoorFD
namespace Go.Proofs.YteppilognoigjaaDoor.LQ
open Go.RowKit Go.Proofs.YteppilognoigjaaDoorW.PrintWords Go.Proofs.YteppilognoigjaaDoorW.PrintLast Go.Proofs.YteppilognoigjaaDoorW.PrintMore Go.Proofs.YteppilognoigjaaDoor.PQueryForms Go.Proofs.YteppilognoigjaaDoor.QK
set_option linter.unusedVariables false
set_option linter.unusedSimpArgs false

theorem noS_empty : noS ⟨#[]⟩ = true := by unfold noS ByteArray.toList; rw [ByteArray.toList.loop]; rfl
theorem name_of_no {s : ByteArray} (h : noS s = true) : nameS s = false := by
  have h0 : s.toList = [] := by unfold noS at h; simpa using h
  have h1 : s.size = 0 := by
    have := congrArg List.length h0
    rw [ByteArray.toList_eq, Array.length_toList] at this
    exact this
  unfold nameS
  simp [h1]
section
variable {x : S25} {u : Int} (ho : occS x u = true)
include ho
theorem own_k12 (k : x.f0 = 1 ∨ x.f0 = 2) : ownS x u = emptyC x.f2 x.f3 x.f4 x.f5.length x.f6.length x.f7 x.f8 x.f9.length := by
  have hn := @name_of_no x.f2
  have e : ownS x u = ((false == nameS x.f2) && noS x.f2 && (noS x.f3 && noS x.f4) && (x.f5.length == 0 && x.f6.length == 0) && (decide (0 ≤ x.f7) && decide (x.f7 ≤ 1048576) && x.f7 == 0) && x.f8 == 0 && x.f9.length == 0) := by
    rcases k with k | k <;> simp [ownS, ho, kindS, nameOK, textsS, listsS, boostS, opS, kidsS, fieldS, wordsS, k]
  rw [e, emptyC]
  generalize nameS x.f2 = N at *
  generalize noS x.f2 = M at *
  by_cases h7 : x.f7 = 0
  · cases M
    · simp
    · have : N = false := hn rfl
      simp [this, h7, Bool.and_assoc]
  · have h7' : (x.f7 == 0) = false := by simpa using h7
    simp [h7']
theorem own_k345 (k : x.f0 = 3 ∨ x.f0 = 4 ∨ x.f0 = 5) : ownS x u = (true && (nameS x.f2 && emptyC ⟨#[]⟩ ⟨#[]⟩ x.f4 x.f5.length x.f6.length x.f7 x.f8 x.f9.length)) := by
  have e : ownS x u = (nameS x.f2 && noS x.f4 && (x.f5.length == 0 && x.f6.length == 0) && (decide (0 ≤ x.f7) && decide (x.f7 ≤ 1048576) && x.f7 == 0) && x.f8 == 0 && x.f9.length == 0) := by
    rcases k with k | k | k <;> simp [ownS, ho, kindS, nameOK, textsS, listsS, boostS, opS, kidsS, fieldS, wordsS, k]
  rw [e, emptyC, noS_empty]
  by_cases h7 : x.f7 = 0
  · simp [h7, Bool.and_assoc]
  · have h7' : (x.f7 == 0) = false := by simpa using h7
    simp [h7']
theorem own_k6 (k : x.f0 = 6) : ownS x u = (true && (nameS x.f2 && emptyC ⟨#[]⟩ ⟨#[]⟩ ⟨#[]⟩ x.f5.length x.f6.length x.f7 x.f8 x.f9.length)) := by
  have e : ownS x u = (nameS x.f2 && (x.f5.length == 0 && x.f6.length == 0) && (decide (0 ≤ x.f7) && decide (x.f7 ≤ 1048576) && x.f7 == 0) && x.f8 == 0 && x.f9.length == 0) := by
    simp [ownS, ho, kindS, nameOK, textsS, listsS, boostS, opS, kidsS, fieldS, wordsS, k]
  rw [e, emptyC, noS_empty]
  by_cases h7 : x.f7 = 0
  · simp [h7, Bool.and_assoc]
  · have h7' : (x.f7 == 0) = false := by simpa using h7
    simp [h7']
theorem own_k7 (k : x.f0 = 7) : ownS x u = ((decide (1 ≤ x.f5.length) && decide (x.f5.length ≤ 4) && x.f6.length == x.f5.length) && (nameS x.f2 && emptyC ⟨#[]⟩ x.f3 x.f4 0 0 x.f7 x.f8 x.f9.length)) := by
  have e : ownS x u = (nameS x.f2 && (noS x.f3 && noS x.f4) && (decide (1 ≤ x.f5.length) && decide (x.f5.length ≤ 4) && x.f6.length == x.f5.length) && (decide (0 ≤ x.f7) && decide (x.f7 ≤ 1048576) && x.f7 == 0) && x.f8 == 0 && x.f9.length == 0) := by
    simp [ownS, ho, kindS, nameOK, textsS, listsS, boostS, opS, kidsS, fieldS, wordsS, k]
  rw [e, emptyC, noS_empty]
  generalize (decide (1 ≤ x.f5.length) && decide (x.f5.length ≤ 4) && x.f6.length == x.f5.length) = L
  by_cases h7 : x.f7 = 0
  · simp [h7]
    cases L <;> simp [Bool.and_assoc]
  · have h7' : (x.f7 == 0) = false := by simpa using h7
    simp [h7']
theorem own_k8 (k : x.f0 = 8) : ownS x u = emptyC x.f2 x.f3 x.f4 x.f5.length x.f6.length x.f7 x.f8 0 := by
  have hn := @name_of_no x.f2
  have e : ownS x u = ((false == nameS x.f2) && noS x.f2 && (noS x.f3 && noS x.f4) && (x.f5.length == 0 && x.f6.length == 0) && (decide (0 ≤ x.f7) && decide (x.f7 ≤ 1048576) && x.f7 == 0) && x.f8 == 0) := by
    simp [ownS, ho, kindS, nameOK, textsS, listsS, boostS, opS, kidsS, fieldS, wordsS, k]
  rw [e, emptyC]
  generalize nameS x.f2 = N at *
  generalize noS x.f2 = M at *
  by_cases h7 : x.f7 = 0
  · cases M
    · simp
    · have : N = false := hn rfl
      simp [this, h7, Bool.and_assoc]
  · have h7' : (x.f7 == 0) = false := by simpa using h7
    simp [h7']
theorem own_k9 (k : x.f0 = 9) : ownS x u = (emptyC x.f2 x.f3 x.f4 x.f5.length x.f6.length 0 x.f8 0 && decide (0 ≤ x.f7) && decide (x.f7 ≤ 1048576) && x.f9.length == 1) := by
  have hn := @name_of_no x.f2
  have e : ownS x u = ((false == nameS x.f2) && noS x.f2 && (noS x.f3 && noS x.f4) && (x.f5.length == 0 && x.f6.length == 0) && (decide (0 ≤ x.f7) && decide (x.f7 ≤ 1048576)) && x.f8 == 0 && x.f9.length == 1) := by
    simp [ownS, ho, kindS, nameOK, textsS, listsS, boostS, opS, kidsS, fieldS, wordsS, k]
  rw [e, emptyC]
  generalize nameS x.f2 = N at *
  generalize noS x.f2 = M at *
  generalize (decide (0 ≤ x.f7)) = a
  generalize (decide (x.f7 ≤ 1048576)) = b
  cases M
  · simp
  · have : N = false := hn rfl
    simp [this]
    cases a <;> cases b <;> simp [Bool.and_assoc]
theorem own_k10 (k : x.f0 = 10) : ownS x u = ((decide (1 ≤ x.f8) && decide (x.f8 ≤ 3) && x.f5.length == 1 && x.f9.length == 1) && (nameS x.f2 && emptyC ⟨#[]⟩ x.f3 x.f4 0 x.f6.length x.f7 0 0)) := by
  have e : ownS x u = (nameS x.f2 && (noS x.f3 && noS x.f4) && (x.f5.length == 1 && x.f6.length == 0) && (decide (0 ≤ x.f7) && decide (x.f7 ≤ 1048576) && x.f7 == 0) && (decide (1 ≤ x.f8) && decide (x.f8 ≤ 3)) && x.f9.length == 1) := by
    simp [ownS, ho, kindS, nameOK, textsS, listsS, boostS, opS, kidsS, fieldS, wordsS, k]
  rw [e, emptyC, noS_empty]
  generalize (decide (1 ≤ x.f8)) = a
  generalize (decide (x.f8 ≤ 3)) = b
  generalize (x.f5.length == 1) = c
  generalize (x.f9.length == 1) = d
  by_cases h7 : x.f7 = 0
  · simp [h7]
    cases a <;> cases b <;> cases c <;> cases d <;> simp [Bool.and_assoc]
  · have h7' : (x.f7 == 0) = false := by simpa using h7
    simp [h7']
end
theorem own_no {x : S25} {u : Int} (k : ¬ (1 ≤ x.f0 ∧ x.f0 ≤ 10)) : ownS x u = false := by
  have : kindS x = false := by unfold kindS; rw [Bool.eq_false_iff]; simp only [ne_eq, Bool.and_eq_true, decide_eq_true_eq]; exact k
  simp [ownS, this]

/-! ### a box beside, the taken texts -/
theorem noStrs_R {R : Nat} : ∀ (l : List Nat) {cs : Array Value} {w : World}, w.heap[R]? = some (.cells cs 25 (0, 0)) → (l.foldl (noStr R) w).heap[R]? = some (.cells (l.foldl (fun c o => c.setIfInBounds o (.string ⟨#[]⟩)) cs) 25 (0, 0))
  | [], cs, w, h => h
  | o :: l, cs, w, h => noStrs_R l (noStr_blk h o)
theorem noStrs_B {R k : Nat} (hk : k ≠ R) : ∀ (l : List Nat) (w : World), (l.foldl (noStr R) w).heap[k]? = w.heap[k]?
  | [], w => rfl
  | o :: l, w => (noStrs_B hk l _).trans (Below.heap_setCell w ⟨R, o, none⟩ _ k hk)
theorem noStrs_below {R : Nat} {w : World} (hR : w.heap.size ≤ R) : ∀ (l : List Nat) {W : World}, Below w.heap.size w W → Below w.heap.size w (l.foldl (noStr R) W)
  | [], W, h => h
  | o :: l, W, h => noStrs_below hR l (below_set h hR)
theorem noStrs_size {R : Nat} : ∀ (l : List Nat) (w : World), (l.foldl (noStr R) w).heap.size = w.heap.size
  | [], w => rfl
  | o :: l, w => (noStrs_size l _).trans (World.size_setCell _ _ _)
end Go.Proofs.YteppilognoigjaaDoor.LQ
