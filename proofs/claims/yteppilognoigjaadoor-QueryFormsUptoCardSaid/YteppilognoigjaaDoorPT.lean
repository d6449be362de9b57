/- The plain side of a query's text: numbers, quoted texts, parts; what the reference's printed functions answer. -/
import Derived.Test.YteppilognoigjaaDoorFA
import Derived.Lib.ItoaNum
namespace Go.Proofs.YteppilognoigjaaDoor.LQ
open Go.RowKit Go.Proofs.YteppilognoigjaaDoorW.PrintWords Go.Proofs.YteppilognoigjaaDoorW.PrintLast Go.Proofs.YteppilognoigjaaDoorW.PrintMore Go.Proofs.YteppilognoigjaaDoor.PQueryForms Go.Proofs.YteppilognoigjaaDoor.QK
set_option linter.unusedVariables false
set_option linter.unusedSimpArgs false

/-- A string of these bytes. -/
def mkS (l : List UInt8) : ByteArray := ⟨l.toArray⟩
theorem mkS_size (l : List UInt8) : (mkS l).size = l.length := by unfold mkS; simp [ByteArray.size]
theorem mkS_cons (c : UInt8) (l : List UInt8) : (⟨#[c]⟩ : ByteArray) ++ mkS l = mkS (c :: l) := by
  apply ByteArray.ext
  simp [mkS, ByteArray.data_append]
theorem strOf_one (c : Int) : strOfNums [c] = ⟨#[UInt8.ofNat c.toNat]⟩ := by
  unfold strOfNums
  simp
theorem digit_eq (u : Nat) : (IntKind.u64.wrap (48 + Int.tmod (u : Int) 10)) % 256 = ((48 + u % 10 : Nat) : Int) := by
  have h : Int.tmod (u : Int) 10 = ((u % 10 : Nat) : Int) := by
    rw [Int.tmod_eq_emod_of_nonneg (by omega)]; omega
  rw [h]
  unfold IntKind.wrap
  simp [IntKind.signed, IntKind.bits]
  omega
theorem tenth_eq (u : Nat) (hu : u < 18446744073709551616) : IntKind.u64.wrap (Int.tdiv (u : Int) 10) = ((u / 10 : Nat) : Int) := by
  have h : Int.tdiv (u : Int) 10 = ((u / 10 : Nat) : Int) := by
    rw [Int.tdiv_eq_ediv_of_nonneg (by omega)]; omega
  rw [h]
  unfold IntKind.wrap
  simp [IntKind.signed, IntKind.bits]
  omega
/-- The digits of a number that is not 0 ahead of some. -/
def digs (u : Nat) (l : List UInt8) : List UInt8 := if u = 0 then l else Lib.decDigits u ++ l
theorem digs_step (u : Nat) (h : 0 < u) (l : List UInt8) : digs (u / 10) (UInt8.ofNat (48 + u % 10) :: l) = digs u l := by
  unfold digs
  rw [if_neg (show ¬ u = 0 by omega)]
  by_cases c : u < 10
  · rw [if_pos (by omega), Lib.decDigits, dif_pos c, Nat.mod_eq_of_lt c]; rfl
  · rw [if_neg (by omega)]
    conv => rhs; rw [Lib.decDigits, dif_neg c]
    simp
theorem text_fin (v : Int) (l : List UInt8) (hl : l.length ≤ 100) : (if v < 0 then (if 1 + (mkS l).size ≤ 9223372036854775807 then (some ((⟨#[45]⟩ : ByteArray) ++ mkS l, (0 : Int))) else none) else some (mkS l, 0)) = some (mkS (if v < 0 then 45 :: l else l), 0) := by
  rw [mkS_size]
  by_cases c : v < 0
  · rw [if_pos c, if_pos c, if_pos (by omega), mkS_cons]
  · rw [if_neg c, if_neg c]
theorem text_l (v : Int) : ∀ (n u : Nat), u < 10 ^ n → u < 18446744073709551616 → ∀ (l : List UInt8) (j : Int) (k : Nat), 1 ≤ j → j + n ≤ 100 → l.length + n ≤ 100 → 2 * n + 2 ≤ k →
    lecternref07_Text.l0 k v 0 (u : Int) (mkS l) j = some (mkS (if v < 0 then 45 :: digs u l else digs u l), 0)
  | 0, u, hu, hu', l, j, k, h1, hj, hl, hk => by
    have : u = 0 := by simpa using hu
    subst this
    obtain ⟨k, rfl⟩ : ∃ m, k = m + 2 := ⟨k - 2, by omega⟩
    rw [lecternref07_Text.l0, if_neg (by omega), lecternref07_Text.j3, if_neg (by simp), text_fin v l (by omega)]
    rfl
  | n + 1, u, hu, hu', l, j, k, h1, hj, hl, hk => by
    obtain ⟨k, rfl⟩ : ∃ m, k = m + 2 := ⟨k - 2, by omega⟩
    by_cases c : u = 0
    · subst c
      rw [lecternref07_Text.l0, if_neg (by omega), lecternref07_Text.j3, if_neg (by simp), text_fin v l (by omega)]
      rfl
    · have hw : wrap64 (j + 1) = j + 1 := by unfold wrap64; omega
      have ih := text_l v n (u / 10) (by rw [Nat.pow_succ] at hu; omega) (by omega) (UInt8.ofNat (48 + u % 10) :: l) (j + 1) k (by omega) (by omega) (by simp; omega) (by omega)
      have hd : decide ((u : Int) > 0) = true := by simp; omega
      rw [lecternref07_Text.l0, if_neg (by omega), lecternref07_Text.j3, if_pos hd, if_neg (by omega), Option.bind_some, digit_eq, tenth_eq u hu', strOf_one, if_pos (by rw [mkS_size]; show 1 + _ ≤ _; omega), mkS_cons, hw, Int.toNat_natCast, ih, digs_step u (by omega)]
theorem text_f (v : Int) (h0 : -9223372036854775808 ≤ v) (h1 : v ≤ 9223372036854775807) (k : Nat) (hk : 50 ≤ k) : lecternref07_Text.f k v 0 = some (mkS (Lib.itoa v), 0) := by
  obtain ⟨k, rfl⟩ : ∃ m, k = m + 4 := ⟨k - 4, by omega⟩
  obtain ⟨u, hu, hu1, hu2⟩ : ∃ u : Nat, u = v.natAbs ∧ u < 18446744073709551616 ∧ u < 10 ^ 20 := ⟨_, rfl, by omega, by omega⟩
  have hz : (⟨#[]⟩ : ByteArray) = mkS [] := rfl
  have key : lecternref07_Text.l0 (k + 2) v 0 (u : Int) ⟨#[]⟩ 0 = some (mkS (Lib.itoa v), 0) := by
    have hd : (if v < 0 then (45 :: digs (u / 10) [UInt8.ofNat (48 + u % 10)] : List UInt8) else digs (u / 10) [UInt8.ofNat (48 + u % 10)]) = Lib.itoa v := by
      have e : digs (u / 10) [UInt8.ofNat (48 + u % 10)] = Lib.decDigits u := by
        by_cases c : u = 0
        · subst c; rw [Lib.decDigits]; rfl
        · rw [digs_step u (by omega) []]; unfold digs; rw [if_neg c]; simp
      rw [e, hu]
      unfold Lib.itoa
      by_cases c : v < 0
      · rw [if_pos c, if_pos c]
      · rw [if_neg c, if_neg c]; congr 1; omega
    have ih := text_l v 20 (u / 10) (by omega) (by omega) [UInt8.ofNat (48 + u % 10)] 1 k (by omega) (by omega) (by simp) (by omega)
    rw [lecternref07_Text.l0, if_pos (by omega), lecternref07_Text.j3, if_pos rfl, if_pos rfl, if_neg (by omega)]
    rw [Option.bind_some, digit_eq, tenth_eq u hu1, strOf_one, hz, if_pos (by rw [mkS_size]; show 1 + 0 ≤ _; omega), mkS_cons, Int.toNat_natCast]
    rw [show wrap64 (0 + 1) = 1 by unfold wrap64; omega, ih, hd]
  have hw0 : ∀ x : Int, IntKind.u64.wrap x = x % 18446744073709551616 := by intro x; unfold IntKind.wrap; simp [IntKind.signed, IntKind.bits]
  rw [lecternref07_Text.f, if_neg (by omega), show decide ((0 : Int) > 9) = false by decide, lecternref07_Text.j0, if_neg (by simp)]
  by_cases c : v < 0
  · rw [if_pos c, lecternref07_Text.j1]
    have e : IntKind.u64.wrap (-(IntKind.u64.wrap v)) = (u : Int) := by rw [hw0, hw0]; omega
    rw [e]; exact key
  · rw [if_neg c, lecternref07_Text.j1]
    have e : IntKind.u64.wrap v = (u : Int) := by rw [hw0]; omega
    rw [e]; exact key

/-! ### numbers -/
/-- A number's digits, as numbers. -/
def decS (v : Int) : List Int := (Lib.itoa v).map fun b => (b.toNat : Int)
theorem bytes_mkS (l : List UInt8) : bytesOf (mkS l) = l.map fun b => (b.toNat : Int) := by unfold bytesOf mkS; simp
def numsS (l : List Int) : List Int := match l with
  | [] => []
  | v :: r => decS v ++ r.flatMap fun x => 32 :: decS x
theorem numsS_snoc (l : List Int) (v : Int) : numsS (l ++ [v]) = numsS l ++ (if l = [] then decS v else 32 :: decS v) := by
  cases l with
  | nil => simp [numsS]
  | cons a r => simp [numsS]
theorem take_rdI (l : List Int) (x : Int) (h0 : 0 ≤ x) (h : x < l.length) : l.take (x + 1).toNat = l.take x.toNat ++ [rd l x] := by
  have e : (x + 1).toNat = x.toNat + 1 := by omega
  have hl : x.toNat < l.length := by omega
  rw [e, List.take_succ_eq_append_getElem hl]
  unfold rd
  rw [List.getD_eq_getElem?_getD, List.getElem?_eq_getElem hl]
  rfl
theorem rd_memI {l : List Int} {i : Int} (h0 : 0 ≤ i) (h : i < l.length) : rd l i ∈ l := by
  have hl : i.toNat < l.length := by omega
  unfold rd
  rw [List.getD_eq_getElem?_getD, List.getElem?_eq_getElem hl]
  exact List.getElem_mem _
theorem wf64 {v : Int} (h : (Lit.int .i64 v).wf = true) : -9223372036854775808 ≤ v ∧ v ≤ 9223372036854775807 := by
  have e1 : IntKind.i64.min = -9223372036854775808 := by decide
  have e2 : IntKind.i64.max = 9223372036854775807 := by decide
  simp only [Lit.wf, Bool.and_eq_true, decide_eq_true_eq] at h
  omega
theorem nums_len_take (l : List Int) : ∀ n, (numsS (l.take n)).length ≤ (numsS l).length := by
  intro n
  cases l with
  | nil => simp [numsS]
  | cons a r =>
    cases n with
    | zero => simp [numsS]
    | succ n =>
      simp only [List.take_succ_cons, numsS, List.length_append]
      have : ((r.take n).flatMap fun x => 32 :: decS x).length ≤ (r.flatMap fun x => 32 :: decS x).length := by
        conv => rhs; rw [← List.take_append_drop n r, List.flatMap_append, List.length_append]
        omega
      omega
theorem nums_l (l : List Int) (hw : ∀ v ∈ l, (Lit.int .i64 v).wf = true) (hlen : (numsS l).length < 140737488355328) (hl : l.length ≤ 9223372036854775806) : ∀ (m k : Nat) (i : Int), 0 ≤ i → i + m = l.length → 51 + m ≤ k →
    lecternref18_numbers.l0 k l (numsS (l.take i.toNat)) i = some (numsS l)
  | 0, k, i, h0, hm, hk => by
    obtain ⟨k, rfl⟩ : ∃ j, k = j + 1 := ⟨k - 1, by omega⟩
    rw [lecternref18_numbers.l0, if_neg (by omega), List.take_of_length_le (by omega)]
  | m + 1, k, i, h0, hm, hk => by
    obtain ⟨k, rfl⟩ : ∃ j, k = j + 1 := ⟨k - 1, by omega⟩
    have h1 : i < (l.length : Int) := by omega
    have hwr : wrap64 (i + 1) = i + 1 := by unfold wrap64; omega
    have ih := nums_l l hw hlen hl m k (i + 1) (by omega) (by omega) (by omega)
    obtain ⟨b0, b1⟩ := wf64 (hw _ (rd_memI h0 h1))
    have hb : bytesOf (mkS (Lib.itoa (rd l i))) = decS (rd l i) := bytes_mkS _
    have hbl : (mkS (Lib.itoa (rd l i))).size = (decS (rd l i)).length := by rw [mkS_size]; simp [decS]
    have hsn := numsS_snoc (l.take i.toNat) (rd l i)
    rw [← take_rdI l i h0 h1] at hsn
    have hle := nums_len_take l (i + 1).toNat
    rw [hsn, List.length_append] at hle
    rw [hsn] at ih
    rw [lecternref18_numbers.l0, if_pos h1]
    by_cases c : i > 0
    · have hne : ¬ l.take i.toNat = [] := by
        intro e
        have := congrArg List.length e
        rw [List.length_take] at this
        simp only [List.length_nil] at this
        omega
      rw [if_neg hne] at ih hle
      simp only [List.length_cons] at hle
      rw [if_pos c, if_pos (by omega), Option.bind_some, if_pos h0, text_f _ b0 b1 k (by omega), Option.bind_some, if_pos (by simp only [List.length_append, List.length_singleton, hbl]; omega), hb, hwr]
      rw [List.append_assoc]
      exact ih
    · have e0 : i = 0 := by omega
      subst e0
      have hne : l.take (0 : Int).toNat = [] := by simp
      rw [if_pos hne] at ih hle
      rw [if_neg c, if_pos h0, text_f _ b0 b1 k (by omega), Option.bind_some, if_pos (by rw [hbl]; omega), hb, hwr]
      exact ih
theorem nums_f (l : List Int) (hw : ∀ v ∈ l, (Lit.int .i64 v).wf = true) (hlen : (numsS l).length < 140737488355328) (hl : l.length ≤ 9223372036854775806) (k : Nat) (hk : 51 + l.length ≤ k) : lecternref18_numbers.f k l = some (numsS l) := by
  have h := nums_l l hw hlen hl l.length k 0 (by decide) (by omega) hk
  have e : numsS (l.take (0 : Int).toNat) = [] := by simp [numsS]
  rw [e] at h
  exact h

/-! ### quoted texts -/
def hexS : ByteArray := ⟨#[48, 49, 50, 51, 52, 53, 54, 55, 56, 57, 65, 66, 67, 68, 69, 70]⟩
def qb (c : Int) : List Int := if c = 34 ∨ c = 92 then [92, c] else if 32 ≤ c ∧ c < 127 then [c] else [92, 120, bt hexS (c / 16), bt hexS (c % 16)]
def quotedS (s : ByteArray) : List Int := [34] ++ (bytesOf s).flatMap qb ++ [34]
theorem quoted_l (s : ByteArray) (hs : s.size ≤ 9223372036854775806) (hlen : (quotedS s).length < 140737488355328) : ∀ (m k : Nat) (i : Int), 0 ≤ i → i + m = s.size → 2 * m + 2 ≤ k →
    lecternref18_quoted.l0 k s hexS ([34] ++ ((bytesOf s).take i.toNat).flatMap qb) i = some (quotedS s)
  | 0, k, i, h0, hm, hk => by
    obtain ⟨k, rfl⟩ : ∃ j, k = j + 1 := ⟨k - 1, by omega⟩
    have hb := bytesOf_length s
    rw [lecternref18_quoted.l0, if_neg (by omega), List.take_of_length_le (by omega), if_pos (by unfold quotedS at hlen; simp only [List.length_append] at hlen ⊢; omega)]
    rfl
  | m + 1, k, i, h0, hm, hk => by
    obtain ⟨k, rfl⟩ : ∃ j, k = j + 2 := ⟨k - 2, by omega⟩
    have hb := bytesOf_length s
    have h1 : i < (s.size : Int) := by omega
    have hwr : wrap64 (i + 1) = i + 1 := by unfold wrap64; omega
    have ih := quoted_l s hs hlen m k (i + 1) (by omega) (by omega) (by omega)
    have ht := take_rdI (bytesOf s) i h0 (by omega)
    rw [ht, rd_bytesOf, List.flatMap_append] at ih
    have hle : ([34] ++ ((bytesOf s).take i.toNat).flatMap qb).length + (qb (bt s i)).length < 140737488355328 := by
      unfold quotedS at hlen
      have e : (bytesOf s).flatMap qb = ((bytesOf s).take i.toNat ++ [bt s i]).flatMap qb ++ ((bytesOf s).drop (i + 1).toNat).flatMap qb := by
        rw [← rd_bytesOf, ← ht, ← List.flatMap_append, List.take_append_drop]
      rw [e, List.flatMap_append] at hlen
      simp only [List.length_append, List.flatMap_cons, List.flatMap_nil, List.append_nil] at hlen ⊢
      omega
    simp only [List.flatMap_cons, List.flatMap_nil, List.append_nil, ← List.append_assoc] at ih
    obtain ⟨r0, r1⟩ := bt_range s i
    rw [lecternref18_quoted.l0, if_pos h1, if_pos h0]
    generalize bt s i = c at *
    generalize [34] ++ ((bytesOf s).take i.toNat).flatMap qb = acc at *
    have hx : (hexS.size : Int) = 16 := rfl
    have e1 : Int.tdiv c 16 % 256 = c / 16 := by rw [Int.tdiv_eq_ediv_of_nonneg r0]; omega
    have e2 : Int.tmod c 16 = c % 16 := Int.tmod_eq_emod_of_nonneg r0
    have hj : ∀ b : Bool, b = decide (c = 34 ∨ c = 92) → lecternref18_quoted.j1 (k + 1) s hexS acc i c b = some (quotedS s) := by
      intro b hbb
      rw [lecternref18_quoted.j1, e1, e2, hwr]
      by_cases q : c = 34 ∨ c = 92
      · have : b = true := by rw [hbb]; simpa using q
        have hq : qb c = [92, c] := by unfold qb; rw [if_pos q]
        rw [hq] at ih hle
        rw [if_pos this, Option.bind_some, if_pos hle]
        exact ih
      · have : ¬ b = true := by rw [hbb]; simpa using q
        rw [if_neg this]
        by_cases q2 : 32 ≤ c ∧ c < 127
        · have hq : qb c = [c] := by unfold qb; rw [if_neg q, if_pos q2]
          rw [hq] at ih hle
          rw [if_pos q2.1, if_pos q2.2, if_pos (by simp at hle; omega)]
          exact ih
        · have hq : qb c = [92, 120, bt hexS (c / 16), bt hexS (c % 16)] := by unfold qb; rw [if_neg q, if_neg q2]
          rw [hq] at ih hle
          have g : (if 0 ≤ c / 16 then (if c / 16 < (hexS.size : Int) then (if 0 ≤ c % 16 then (if c % 16 < (hexS.size : Int) then ((some ([92, 120, bt hexS (c / 16), bt hexS (c % 16)] : List Int)).bind fun y => (if acc.length + y.length < 140737488355328 then (lecternref18_quoted.l0 k s hexS (acc ++ y) (i + 1)) else none)) else none) else none) else none) else none) = some (quotedS s) := by
            rw [hx, if_pos (by omega), if_pos (by omega), if_pos (by omega), if_pos (by omega), Option.bind_some, if_pos hle]
            exact ih
          by_cases q3 : 32 ≤ c
          · rw [if_pos q3, if_neg (by omega)]
            exact g
          · rw [if_neg q3]
            exact g
    by_cases q : c = 34
    · rw [if_pos q]; exact hj true (by simp [q])
    · rw [if_neg q]
      exact hj _ (by rw [Bool.eq_iff_iff]; simp [q])
theorem quoted_f (s : ByteArray) (hs : s.size ≤ 9223372036854775806) (hlen : (quotedS s).length < 140737488355328) (k : Nat) (hk : 2 * s.size + 2 ≤ k) : lecternref18_quoted.f k s = some (quotedS s) := by
  have h := quoted_l s hs hlen s.size k 0 (by decide) (by omega) hk
  have e : ([34] ++ ((bytesOf s).take (0 : Int).toNat).flatMap qb : List Int) = [34] := by simp
  rw [e] at h
  exact h
end Go.Proofs.YteppilognoigjaaDoor.LQ
