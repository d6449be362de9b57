/- The plain side of a query's being formed and of its depth: what the reference's printed functions answer. -/
import Derived.Test.YteppilognoigjaaDoorLX
namespace Go.Proofs.YteppilognoigjaaDoor.LQ
open Go.RowKit Go.Proofs.YteppilognoigjaaDoorW.PrintWords Go.Proofs.YteppilognoigjaaDoorW.PrintLast Go.Proofs.YteppilognoigjaaDoorW.PrintMore Go.Proofs.YteppilognoigjaaDoor.PQueryForms Go.Proofs.YteppilognoigjaaDoor.QK
set_option linter.unusedVariables false
set_option linter.unusedSimpArgs false

/-! ### names -/
/-- May this byte stand at this place of a name? -/
def nameB (i c : Int) : Bool := (decide (97 ≤ c) && decide (c ≤ 122)) || c == 95 || (decide (0 < i) && decide (48 ≤ c) && decide (c ≤ 57))
/-- So many bytes from a place on. -/
def nameR : Nat → ByteArray → Int → Bool
  | 0, _, _ => true
  | m + 1, s, i => nameB i (bt s i) && nameR m s (i + 1)
def nameS (s : ByteArray) : Bool := nameR s.size s 0 && (decide (1 ≤ s.size) && decide (s.size ≤ 24))
theorem name_l (s : ByteArray) (hs : s.size ≤ 9223372036854775807) : ∀ (m k : Nat) (i : Int), 0 ≤ i → i + m = s.size → lecternref08_Name.l0 (k + m + 1) s i = some (nameR m s i && (decide (1 ≤ s.size) && decide (s.size ≤ 24)))
  | 0, k, i, h0, hm => by
    have h1 : ¬ i < (s.size : Int) := by omega
    simp only [lecternref08_Name.l0, if_neg h1, nameR, Bool.true_and]
    by_cases c : (s.size : Int) > 0
    · rw [if_pos c]
      have c1 : 1 ≤ s.size := by omega
      by_cases c2 : s.size ≤ 24
      · have c3 : (s.size : Int) ≤ 24 := by omega
        simp [c1, c2, c3]
      · have c3 : ¬ (s.size : Int) ≤ 24 := by omega
        simp [c1, c2, c3]
    · rw [if_neg c]
      have c1 : ¬ 1 ≤ s.size := by omega
      simp [c1]
  | m + 1, k, i, h0, hm => by
    have h1 : i < (s.size : Int) := by omega
    have hw : wrap64 (i + 1) = i + 1 := by unfold wrap64; omega
    have ih := name_l s hs m k (i + 1) (by omega) (by omega)
    rw [show k + (m + 1) + 1 = (k + m + 1) + 1 by omega]
    rw [lecternref08_Name.l0]
    simp only [if_pos h1, if_pos h0, hw, ih, nameR]
    generalize nameR m s (i + 1) = N
    generalize (decide (1 ≤ s.size) && decide (s.size ≤ 24)) = M
    obtain ⟨b0, b1⟩ := bt_range s i
    generalize bt s i = c at *
    have e : nameB i c = (if 97 ≤ c ∧ c ≤ 122 ∨ c = 95 ∨ 0 < i ∧ 48 ≤ c ∧ c ≤ 57 then true else false) := by
      unfold nameB
      by_cases q1 : 97 ≤ c <;> by_cases q2 : c ≤ 122 <;> by_cases q3 : c = 95 <;> by_cases q4 : 0 < i <;> by_cases q5 : 48 ≤ c <;> by_cases q6 : c ≤ 57 <;> simp [q1, q2, q3, q4, q5, q6]
    rw [e]
    repeat' split
    all_goals first
      | rfl
      | (exfalso; omega)
      | simp
theorem name_f (s : ByteArray) (hs : s.size ≤ 9223372036854775807) (k : Nat) (hk : s.size + 1 ≤ k) : lecternref08_Name.f k s = some (nameS s) := by
  obtain ⟨j, rfl⟩ : ∃ j, k = j + s.size + 1 := ⟨k - s.size - 1, by omega⟩
  exact name_l s hs s.size j 0 (by decide) (by omega)

/-! ### a part's own fields -/
def wordsS (k : Int) : Bool := k == 3 || k == 4 || k == 5 || k == 6
def fieldS (k : Int) : Bool := wordsS k || k == 7 || k == 10
def occS (x : S25) (u : Int) : Bool := if u = 8 then decide (1 ≤ x.f1) && decide (x.f1 ≤ 4) else x.f1 == 0
def listsS (x : S25) : Bool :=
  if x.f0 = 7 then decide (1 ≤ x.f5.length) && decide (x.f5.length ≤ 4) && x.f6.length == x.f5.length
  else if x.f0 = 10 then x.f5.length == 1 && x.f6.length == 0
  else x.f5.length == 0 && x.f6.length == 0
def noS (s : ByteArray) : Bool := s.toList.isEmpty
def kindS (x : S25) : Bool := decide (1 ≤ x.f0) && decide (x.f0 ≤ 10)
def nameOK (x : S25) : Bool := (fieldS x.f0 == nameS x.f2) && (fieldS x.f0 || noS x.f2)
def textsS (x : S25) : Bool := (wordsS x.f0 || noS x.f3) && (x.f0 == 6 || noS x.f4)
def boostS (x : S25) : Bool := decide (0 ≤ x.f7) && decide (x.f7 ≤ 1048576) && (x.f0 == 9 || x.f7 == 0)
def opS (x : S25) : Bool := if x.f0 = 10 then decide (1 ≤ x.f8) && decide (x.f8 ≤ 3) else x.f8 == 0
def kidsS (x : S25) : Bool := if x.f0 = 9 ∨ x.f0 = 10 then x.f9.length == 1 else x.f0 == 8 || x.f9.length == 0
def ownS (x : S25) (u : Int) : Bool := occS x u && kindS x && nameOK x && textsS x && listsS x && boostS x && opS x && kidsS x

/-! ### formed -/
def formedN : Nat → S25 → Int → Bool
  | 0, _, _ => false
  | n + 1, x, u => ownS x u && x.f9.all fun k => formedN n k x.f0
theorem drop_rd {l : List S25} {i : Int} (h0 : 0 ≤ i) (h : i < l.length) : l.drop i.toNat = rd_T25 l i :: l.drop (i + 1).toNat := by
  have hl : i.toNat < l.length := by omega
  rw [List.drop_eq_getElem_cons hl, show (i + 1).toNat = i.toNat + 1 by omega]
  unfold rd_T25
  rw [List.getD_eq_getElem?_getD, List.getElem?_eq_getElem hl]
  rfl
end Go.Proofs.YteppilognoigjaaDoor.LQ
