import Derived.Test.YteppilognoigjaaPAggsNumbersx1
import Derived.Laws.Externs
namespace Go.Proofs.Yteppilognoigjaa.AggA
open Go.RowKit Go.Proofs.YteppilognoigjaaW.PrintWords Go.Proofs.YteppilognoigjaaW.PrintLast Go.Proofs.YteppilognoigjaaW.PrintMore Go.Proofs.Yteppilognoigjaa.PAggsNumbers
attribute [local go_sem] max2_int min2_int max_two min_two max_three min_three max_four min_four
set_option linter.unusedVariables false
set_option linter.unusedSimpArgs false

theorem add64 (x y c : Int) (hx : 0 ≤ x) (hy : 0 ≤ y) (hc0 : 0 ≤ c) (hc : c ≤ 1) (w : World) : (callFunc 19 #[.int .u64 x, .int .u64 y, .int .u64 c]).run Try.prog w =
    .ok (.value (.tuple #[.int .u64 ((x + y + c) % 18446744073709551616), .int .u64 ((x + y + c) / 18446744073709551616)])) w := by
  rw [run_callFunc_extern Try.func19 (by kernel_rfl) (by kernel_rfl) (by kernel_rfl) (e := add64Entry) (by kernel_rfl), run_add64 x y c hx hy hc0 hc]
  rfl
theorem add64_0 (x y : Int) (hx : 0 ≤ x) (hy : 0 ≤ y) (w : World) : (callFunc 19 #[.int .u64 x, .int .u64 y, .int .u64 0]).run Try.prog w =
    .ok (.value (.tuple #[.int .u64 ((x + y) % 18446744073709551616), .int .u64 ((x + y) / 18446744073709551616)])) w := by
  simpa using add64 x y 0 hx hy (Int.le_refl 0) (by decide) w

/-- The two's complement of a number in 64 bits. -/
def uw (v : Int) : Int := IntKind.u64.wrap v
theorem uw_eq (v : Int) : uw v = v % 18446744073709551616 := by unfold uw IntKind.wrap; simp [IntKind.signed, IntKind.bits]
def astep (s : Int × Int) (v : Int) : Int × Int :=
  ((s.1 + uw (v / 9223372036854775808) + (s.2 + uw v) / 18446744073709551616) % 18446744073709551616, (s.2 + uw v) % 18446744073709551616)
def acc (l : List Int) : Int × Int := l.foldl astep (0, 0)
/-- What the sum's two words tell. -/
def tells (s : Int × Int) : Int × Bool :=
  if s.1 = 0 ∧ s.2 < 9223372036854775808 then (s.2, false)
  else if s.1 = 18446744073709551615 ∧ 9223372036854775808 ≤ s.2 then (s.2 - 18446744073709551616, false)
  else if s.1 < 9223372036854775808 then (9223372036854775807, true) else (-9223372036854775808, true)
def SumIs (r : Int × Bool) (w : World) (e : Ending) (w' : World) : Prop := e = .returned (.tuple #[.int .i64 r.1, .bool r.2]) ∧ w' = w
theorem acc_snoc (l : List Int) (v : Int) : acc (l ++ [v]) = astep (acc l) v := by unfold acc; rw [List.foldl_append]; rfl
theorem take_rd (l : List Int) (x : Int) (h0 : 0 ≤ x) (h : x < l.length) : l.take (x + 1).toNat = l.take x.toNat ++ [rd l x] := by
  have e : (x + 1).toNat = x.toNat + 1 := by omega
  have hl : x.toNat < l.length := by omega
  rw [e, List.take_succ_eq_append_getElem hl]
  unfold rd
  rw [List.getD_eq_getElem?_getD, List.getElem?_eq_getElem hl]
  rfl
theorem w64_of (lo : Int) (h0 : 9223372036854775808 ≤ lo) (h1 : lo < 18446744073709551616) : wrap64 lo = lo - 18446744073709551616 := by unfold wrap64; omega

theorem tells_1 (hi lo : Int) (h : hi = 0) (h' : lo < 9223372036854775808) : tells (hi, lo) = (lo, false) := by unfold tells; rw [if_pos ⟨h, h'⟩]
theorem tells_2 (hi lo : Int) (h : hi = 18446744073709551615) (h' : 9223372036854775808 ≤ lo) (h2 : lo < 18446744073709551616) : tells (hi, lo) = (lo - 18446744073709551616, false) := by
  unfold tells; rw [if_neg (by simp only; omega), if_pos ⟨h, h'⟩]
theorem tells_3 (hi lo : Int) (h0 : 0 ≤ hi) (h : hi < 9223372036854775808) (h' : ¬ hi = 0 ∨ 9223372036854775808 ≤ lo) : tells (hi, lo) = (9223372036854775807, true) := by
  unfold tells; rw [if_neg (by simp only; omega), if_neg (by simp only; omega), if_pos h]
theorem tells_4 (hi lo : Int) (h : 9223372036854775808 ≤ hi) (h' : ¬ hi = 18446744073709551615 ∨ lo < 9223372036854775808) : tells (hi, lo) = (-9223372036854775808, true) := by
  unfold tells; rw [if_neg (by simp only; omega), if_neg (by simp only; omega), if_neg (by simp only; omega)]

set_option maxHeartbeats 8000000 in
set_option maxRecDepth 100000 in
theorem sum_calls (A0 : Option Addr) (c0 : Nat) (l0 : List Int) (w : World) (hr0 : Kd.C (Kd.int .i64) w A0 l0.length l0) :
    Calls Try.prog 10 #[.slice A0 l0.length c0] w (SumIs (tells (acc l0)) w) := by
  have HR0 := Aside0.mk hr0
  have HL := hr0.2.1
  clear hr0
  go_enter Try.func10, Try.ntmps10
  go_wp2
  go_loopg [4, 5, 12] l0.length (fun kq v4 v5 v12 w' => ∃ (hi lo x : Int), v4 = .int .u64 hi ∧ v5 = .int .u64 lo ∧ v12 = .int .i64 x ∧ 0 ≤ hi ∧ 0 ≤ lo ∧ 0 ≤ x ∧ x ≤ l0.length ∧ Aside0 (hi < 18446744073709551616 ∧ lo < 18446744073709551616) ∧ Aside0 (kq + x = l0.length) ∧ Aside0 (acc (l0.take x.toNat) = (hi, lo)) ∧ w' = w)
  case atStart => exact ⟨0, 0, 0, rfl, rfl, rfl, by decide, by decide, by decide, by omega, ⟨by decide, by decide⟩, ⟨by omega⟩, ⟨rfl⟩, rfl⟩
  case round =>
    obtain ⟨hi, lo, x, rfl, rfl, rfl, h0, h1, h2, h3, hlt, hk, hacc, rfl⟩ := hrel
    by_cases c : x < l0.length
    · obtain ⟨ad, e1, hx⟩ := Kd.at_int HR0.out x h2 c
      subst e1
      have k1 : 0 ≤ IntKind.u64.wrap (rd l0 x) := by have := uw_eq (rd l0 x); unfold uw at this; omega
      have k2 : 0 ≤ IntKind.u64.wrap (rd l0 x / 9223372036854775808) := by have := uw_eq (rd l0 x / 9223372036854775808); unfold uw at this; omega
      have k1' : IntKind.u64.wrap (rd l0 x) < 18446744073709551616 := by have := uw_eq (rd l0 x); unfold uw at this; omega
      have k3 : 0 ≤ (lo + IntKind.u64.wrap (rd l0 x)) / 18446744073709551616 := by omega
      have k4 : (lo + IntKind.u64.wrap (rd l0 x)) / 18446744073709551616 ≤ 1 := by have := hlt.out.2; omega
      clear k1'
      go_wp2_with (first | simp only [add64_0 lo (IntKind.u64.wrap (rd l0 x)) h1 k1] | simp only [add64 hi (IntKind.u64.wrap (rd l0 x / 9223372036854775808)) ((lo + IntKind.u64.wrap (rd l0 x)) / 18446744073709551616) h0 k2 k3 k4])
      obtain ⟨k, rfl⟩ : ∃ m, gk = m + 1 := ⟨gk - 1, by have := hk.out; omega⟩
      go_roundg k
      case measure => omega
      case rel => 
        refine ⟨_, _, _, rfl, rfl, rfl, by omega, by omega, by omega, by omega, ⟨by omega, by omega⟩, ⟨by have := hk.out; omega⟩, ⟨?_⟩, rfl⟩
        rw [take_rd l0 x h2 c, acc_snoc, hacc.out]
        rfl
    · have hl : l0.take x.toNat = l0 := List.take_of_length_le (by omega)
      have ha := hacc.out
      rw [hl] at ha
      have HA := Aside0.mk ha
      clear ha hl hacc
      have hb := hlt.out
      obtain ⟨hb1, hb2⟩ := hb
      go_wp2
      all_goals go_ret2
      all_goals refine ⟨?_, rfl⟩
      all_goals rw [HA.out]
      all_goals first
        | rw [tells_1 hi lo (by omega) (by omega)]
        | rw [tells_2 hi lo (by omega) (by omega) (by omega), ← w64_of lo (by omega) (by omega)]
        | rw [tells_3 hi lo (by omega) (by omega) (by omega)]
        | rw [tells_4 hi lo (by omega) (by omega)]
      all_goals rfl

/-- Handed in in memory of its own, with the mark behind. -/
def LentI (l : List Int) (w : World) (e : Ending) (w' : World) : Prop :=
  ∃ A c, e = .returned (.slice A l.length c) ∧ l.length + 1 ≤ c ∧ Kd.R (Kd.int .i64) 2 w' w.heap.size (fun _ => True) (.slice A (l.length + 1) c) (l ++ [-7171]) ∧ Below w.heap.size w w'
set_option maxHeartbeats 8000000 in
set_option maxRecDepth 100000 in
theorem lent_calls (A0 : Option Addr) (c0 : Nat) (l0 : List Int) (w : World) (hr0 : Kd.C (Kd.int .i64) w A0 l0.length l0) (hn : l0.length + 1 < 17592186044416) :
    Calls Try.prog 9 #[.slice A0 l0.length c0] w (LentI l0 w) := by
  have HR0 := Aside0.mk hr0
  clear hr0
  have HN := Aside0.mk hn
  clear hn
  have HB := Aside0.mk (Below.refl w.heap.size w)
  go_enter Try.func9, Try.ntmps9
  go_wp2_with (first | ((with_reducible refine gate_builtin (b := .append) (xs := #[.tmp 4, .tmp 5]) rfl ?_); at_builtin; refine Kd.R_append_rows (Kd.int .i64) (w0 := w) w.heap.size rfl (.tmp 4) (.tmp 5) 22 2 (.int .i64 0) 8 rfl Try.underlying22 info2 rfl (by decide) (by omega) (.slice none 0 0) ([] : List Int) l0 _ _ _ (fun _ => True) (fun _ => False) rfl rfl ?aO ?aR (fun _ _ h => h) (fun _ h => h.elim) ?aF ?aB ?aS ?aL ?_; (case aR => repeat (first | exact HR0.out | (with_reducible refine Kd.C_alloc ?_ _) | (with_reducible refine Kd.C_drewN ?_ _) | (with_reducible refine Kd.C_drew ?_))); (case aB => exact (by repeat (first | (with_reducible first | exact HB.out | apply below_alloc | apply pw_below_drewN | apply below_drew1) | exact HB.out))); (case aF => exact (fun _ _ => trivial)); (case aO => exact ((Kd.R_nil _ _ _ _ (fun _ => True)))); (case aS => exact (below_size (by repeat (first | (with_reducible first | exact HB.out | apply below_alloc | apply pw_below_drewN | apply below_drew1) | exact HB.out)))); (case aL => have := HN.out; simp; omega); intro v102 w6 ho hb hg hat; rw [List.nil_append] at ho; have n0_ := Aside0.mk (hb); have n1_ := Aside0.mk (ho); clear HB; have HB := n0_; have HO103 := n1_; clear n0_ n1_; clear ho hb hg hat) | ((with_reducible refine gate_builtin (b := .append) (xs := #[.tmp 7, .tmp 8]) rfl ?_); at_builtin; refine Kd.R_append (Kd.int .i64) (w0 := w) w.heap.size rfl (.tmp 7) (.tmp 8) 22 2 (.int .i64 0) 8 rfl Try.underlying22 info2 rfl (by decide) (by omega) v102 l0 (-7171) [.int .i64 (-7171)] (fun _ => True) (fun _ => False) rfl rfl ?aP (fun _ hk => hk.elim) ?aF ?aO ?aB ?aS ?aL ?_; (case aP => exact rfl); (case aB => exact (by repeat (first | (with_reducible first | exact HB.out | apply below_alloc | apply pw_below_drewN | apply below_drew1) | exact HB.out))); (case aF => exact (fun _ _ => trivial)); (case aO => exact (by (with_reducible repeat (first | apply Kd.R_alloc | apply Kd.R_drewN | apply Kd.R_drew)); exact HO103.out)); (case aS => exact (below_size (by repeat (first | (with_reducible first | exact HB.out | apply below_alloc | apply pw_below_drewN | apply below_drew1) | exact HB.out)))); (case aL => have := HN.out; omega); intro v105 w7 ho hb hg hat; have n0_ := Aside0.mk (hb); have n1_ := Aside0.mk (ho); clear HB; clear HO103; have HB := n0_; have HO106 := n1_; clear n0_ n1_; clear ho hb hg hat; obtain ⟨Ao8, co8, eo8, hle8, _⟩ := Kd.R_reads HO106.out; subst eo8; obtain ⟨i09, hi09, _, hsz9, _⟩ := info_parts info2; rw [List.length_append, List.length_singleton] at hle8; have hle := Aside0.mk hle8; clear hle8; have hcut9 := cut_to (P := Try.prog) 22 2 .i64 Try.underlying22 hi09 Ao8 (l0.length + 1) co8 (l0.length : Int) (by omega) (by omega) hle.out; rw [Int.toNat_natCast] at hcut9; clear hi09 hsz9))
  go_ret
  have h1 := HO106.out
  have h2 := hle.out
  rw [List.length_append, List.length_singleton] at h1
  exact ⟨_, _, rfl, h2, h1, HB.out⟩
end Go.Proofs.Yteppilognoigjaa.AggA
