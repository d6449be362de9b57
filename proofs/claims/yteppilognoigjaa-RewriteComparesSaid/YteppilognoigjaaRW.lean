/- The walks of rewrite.Same and of what it asks. -/
import Derived.Test.YteppilognoigjaaRS
namespace Go.Proofs.Yteppilognoigjaa.LQ
open Go.RowKit Go.Proofs.YteppilognoigjaaW.PrintWords Go.Proofs.YteppilognoigjaaW.PrintLast Go.Proofs.YteppilognoigjaaW.PrintMore Go.Proofs.Yteppilognoigjaa.PRewriteCompares Go.Proofs.Yteppilognoigjaa.QK
attribute [local go_sem] max2_int min2_int max_two min_two max_three min_three max_four min_four
set_option linter.unusedVariables false
set_option linter.unusedSimpArgs false

/-- What rewrite.Same promises of queries nested at most n deep. -/
def SameAt (n : Nat) : Prop := ∀ (x y : S25), Good n x → Good n y → ∀ (A5 : Option Addr) (c5 : Nat) (A6 : Option Addr) (c6 : Nat) (A9 : Option Addr) (c9 : Nat) (B5 : Option Addr) (d5 : Nat) (B6 : Option Addr) (d6 : Nat) (B9 : Option Addr) (d9 : Nat) (w : World),
    x.f5.length ≤ c5 → Kd.C (Kd.int .i64) w A5 x.f5.length x.f5 → x.f6.length ≤ c6 → Kd.C (Kd.int .i64) w A6 x.f6.length x.f6 → x.f9.length ≤ c9 → Kd.C k25 w A9 x.f9.length x.f9 →
    y.f5.length ≤ d5 → Kd.C (Kd.int .i64) w B5 y.f5.length y.f5 → y.f6.length ≤ d6 → Kd.C (Kd.int .i64) w B6 y.f6.length y.f6 → y.f9.length ≤ d9 → Kd.C k25 w B9 y.f9.length y.f9 →
    Calls Try.prog 6 #[.agg #[.int .i64 x.f0, .int .i64 x.f1, .string x.f2, .string x.f3, .string x.f4, .slice A5 x.f5.length c5, .slice A6 x.f6.length c6, .int .i64 x.f7, .int .i64 x.f8, .slice A9 x.f9.length c9], .agg #[.int .i64 y.f0, .int .i64 y.f1, .string y.f2, .string y.f3, .string y.f4, .slice B5 y.f5.length d5, .slice B6 y.f6.length d6, .int .i64 y.f7, .int .i64 y.f8, .slice B9 y.f9.length d9]] w fun e w' => e = .returned (.bool (sameS n x y)) ∧ Below w.heap.size w w'

set_option maxHeartbeats 8000000 in
set_option maxRecDepth 100000 in
theorem equalFunc_calls (n : Nat) (hS : SameAt n) (xs ys : List S25) (hx : ∀ a ∈ xs, Good n a) (hy : ∀ a ∈ ys, Good n a) (A : Option Addr) (c : Nat) (B : Option Addr) (d : Nat) (w : World) (hA : Kd.C k25 w A xs.length xs) (hB : Kd.C k25 w B ys.length ys) :
    Calls Try.prog 16 #[.slice A xs.length c, .slice B ys.length d, .func (.func 6) #[] #[]] w fun e w' => e = .returned (.bool (sameL (sameS n) xs ys)) ∧ Below w.heap.size w w' := by
  have HS := Aside0.mk hS
  have HX := Aside0.mk hx
  have HY := Aside0.mk hy
  have HRA := Aside0.mk hA
  have HRB := Aside0.mk hB
  have HL := hA.2.1
  clear hS hx hy hA hB
  have hu25 := Try.underlying25
  by_cases he : xs.length = ys.length
  · have c0 : ((xs.length : Int) != (ys.length : Int)) = false := by simp [he]
    have c0' : (xs.length != ys.length) = false := by simp [he]
    have HE := Aside0.mk he
    clear he
    have hi : Aside0 (sameL (sameS n) xs ys = sameL (sameS n) (xs.drop (0 : Int).toNat) (ys.drop (0 : Int).toNat)) := ⟨rfl⟩
    go_enter Try.func16, Try.ntmps16
    go_wp2_with fail
    go_loopg [17] xs.length (fun kq v17 wr => ∃ i : Int, v17 = .int .i64 i ∧ 0 ≤ i ∧ i ≤ xs.length ∧ Aside0 (kq + i = xs.length) ∧ Aside0 (sameL (sameS n) xs ys = sameL (sameS n) (xs.drop i.toNat) (ys.drop i.toNat)) ∧ Aside0 (Below w.heap.size w wr))
    case atStart => exact ⟨0, rfl, by decide, by omega, ⟨by omega⟩, hi, ⟨Below.refl _ _⟩⟩
    case round =>
      clear hi c0 c0'
      obtain ⟨i, rfl, h0, h1, hk, hq, HB⟩ := hrel
      by_cases cc : i < xs.length
      · have cc' : i < ys.length := by have := HE.out; omega
        obtain ⟨ad, E5, e5, E6, e6, E9, e9, ea, g0, g1, g2, g3, g4, g5, g6, g7, g8, g9, m5, r5, m6, r6, m9, r9⟩ := at_T25 (Kd.C_below HRA.out HB.out) i h0 cc
        obtain ⟨ad', K5, k5, K6, k6, K9, k9, ea', q0, q1, q2, q3, q4, q5, q6, q7, q8, q9, p5, s5, p6, s6, p9, s9⟩ := at_T25 (Kd.C_below HRB.out HB.out) i h0 cc'
        subst ea
        subst ea'
        have HI := Aside0.mk (fun W (hW : Below wr.heap.size wr W) => HS.out _ _ (HX.out _ (rd_mem h0 cc)) (HY.out _ (rd_mem h0 cc')) E5 e5 E6 e6 E9 e9 K5 k5 K6 k6 K9 k9 W m5 (Kd.C_below r5 hW) m6 (Kd.C_below r6 hW) m9 (Kd.C_below r9 hW) p5 (Kd.C_below s5 hW) p6 (Kd.C_below s6 hW) p9 (Kd.C_below s9 hW))
        clear p5 s5 p6 s6 p9 s9 m5 r5 m6 r6 m9 r9
        have hd := hq.out
        rw [drop_rdQ xs i h0 cc, drop_rdQ ys i h0 cc'] at hd
        simp only [sameL] at hd
        have HD := Aside0.mk hd
        clear hd hq
        have z0 := fun o => pw_cell_below (below_alloc (Below.refl wr.heap.size wr) o) q0
        have z1 := fun o => pw_cell_below (below_alloc (Below.refl wr.heap.size wr) o) q1
        have z2 := fun o => pw_cell_below (below_alloc (Below.refl wr.heap.size wr) o) q2
        have z3 := fun o => pw_cell_below (below_alloc (Below.refl wr.heap.size wr) o) q3
        have z4 := fun o => pw_cell_below (below_alloc (Below.refl wr.heap.size wr) o) q4
        have z5 := fun o => pw_cell_below (below_alloc (Below.refl wr.heap.size wr) o) q5
        have z6 := fun o => pw_cell_below (below_alloc (Below.refl wr.heap.size wr) o) q6
        have z7 := fun o => pw_cell_below (below_alloc (Below.refl wr.heap.size wr) o) q7
        have z8 := fun o => pw_cell_below (below_alloc (Below.refl wr.heap.size wr) o) q8
        have z9 := fun o => pw_cell_below (below_alloc (Below.refl wr.heap.size wr) o) q9
        clear q0 q1 q2 q3 q4 q5 q6 q7 q8 q9
        go_wp2_with fail
        refine (HI.out _ (below_alloc (below_alloc (Below.refl _ _) _) _)).mono ?_
        rintro e w2 ⟨rfl, hB2⟩
        have hBN := below_then (below_alloc (below_alloc (Below.refl wr.heap.size wr) _) _) (below_size (below_alloc (below_alloc (Below.refl wr.heap.size wr) _) _)) hB2
        have HBN := Aside0.mk (below_then HB.out HB.out.size hBN)
        clear hB2 hBN HI g0 g1 g2 g3 g4 g5 g6 g7 g8 g9 z0 z1 z2 z3 z4 z5 z6 z7 z8 z9
        obtain ⟨b, hb⟩ : ∃ b, b = sameS n (rd_T25 xs i) (rd_T25 ys i) := ⟨_, rfl⟩
        rw [← hb]
        have hd := HD.out
        rw [← hb] at hd
        clear hb HD
        cases b with
        | true =>
          rw [Bool.true_and] at hd
          have HD := Aside0.mk hd
          clear hd
          go_wp2_with fail
          obtain ⟨k, rfl⟩ : ∃ m, gk = m + 1 := ⟨gk - 1, by have := hk.out; omega⟩
          go_roundg k
          case measure => omega
          case rel => exact ⟨i + 1, by first | rfl | go_num, by omega, by omega, ⟨by have := hk.out; omega⟩, HD, HBN⟩
        | false =>
          rw [Bool.false_and] at hd
          have HD := Aside0.mk hd
          clear hd
          go_wp2_with fail
          go_ret
          exact ⟨by rw [HD.out]; rfl, HBN.out⟩
      · have hd := hq.out
        rw [List.drop_of_length_le (by omega), List.drop_of_length_le (by have := HE.out; omega)] at hd
        have HD := Aside0.mk hd
        clear hd hq
        go_wp2_with fail
        go_ret
        exact ⟨by rw [HD.out]; rfl, HB.out⟩
  · have c0 : ((xs.length : Int) != (ys.length : Int)) = true := by simp; omega
    have c0' : (xs.length != ys.length) = true := by simpa using he
    have HE := Aside0.mk (sameL_len (sameS n) xs ys he)
    clear he
    go_enter Try.func16, Try.ntmps16
    go_wp2_with fail
    go_ret
    exact ⟨by rw [HE.out]; rfl, Below.refl _ _⟩

set_option maxHeartbeats 8000000 in
set_option maxRecDepth 100000 in
theorem same_calls : ∀ n, SameAt n := by
  intro n
  induction n with
  | zero => intro x y h; exact h.elim
  | succ n ih =>
  intro x y hx hy A5 c5 A6 c6 A9 c9 B5 d5 B6 d6 B9 d9 w l5 g5 l6 g6 l9 g9 m5 h5 m6 h6 m9 h9
  have IH := Aside0.mk ih
  have HX := Aside0.mk hx
  have HY := Aside0.mk hy
  have LR5 := Aside0.mk g5
  have LR6 := Aside0.mk g6
  have LR9 := Aside0.mk g9
  have LC5 := Aside0.mk l5
  have LC6 := Aside0.mk l6
  have HR5 := Aside0.mk h5
  have HR6 := Aside0.mk h6
  have HR9 := Aside0.mk h9
  have HC5 := Aside0.mk m5
  have HC6 := Aside0.mk m6
  clear ih hx hy g5 g6 g9 l5 l6 l9 h5 h6 h9 m5 m6 m9
  have hu25 := Try.underlying25
  have HB := Aside0.mk (below_alloc (below_alloc (Below.refl w.heap.size w) (.cells #[.int .i64 x.f0, .int .i64 x.f1, .string x.f2, .string x.f3, .string x.f4, .slice A5 x.f5.length c5, .slice A6 x.f6.length c6, .int .i64 x.f7, .int .i64 x.f8, .slice A9 x.f9.length c9] 25)) (.cells #[.int .i64 y.f0, .int .i64 y.f1, .string y.f2, .string y.f3, .string y.f4, .slice B5 y.f5.length d5, .slice B6 y.f6.length d6, .int .i64 y.f7, .int .i64 y.f8, .slice B9 y.f9.length d9] 25))
  have hk0 : ((w.alloc (.cells #[.int .i64 x.f0, .int .i64 x.f1, .string x.f2, .string x.f3, .string x.f4, .slice A5 x.f5.length c5, .slice A6 x.f6.length c6, .int .i64 x.f7, .int .i64 x.f8, .slice A9 x.f9.length c9] 25)).alloc (.cells #[.int .i64 y.f0, .int .i64 y.f1, .string y.f2, .string y.f3, .string y.f4, .slice B5 y.f5.length d5, .slice B6 y.f6.length d6, .int .i64 y.f7, .int .i64 y.f8, .slice B9 y.f9.length d9] 25)).heap[w.heap.size]? = some (.cells #[.int .i64 x.f0, .int .i64 x.f1, .string x.f2, .string x.f3, .string x.f4, .slice A5 x.f5.length c5, .slice A6 x.f6.length c6, .int .i64 x.f7, .int .i64 x.f8, .slice A9 x.f9.length c9] 25 (0, 0)) := blk_alloc (blk_new _ _) _
  have hk1 : ((w.alloc (.cells #[.int .i64 x.f0, .int .i64 x.f1, .string x.f2, .string x.f3, .string x.f4, .slice A5 x.f5.length c5, .slice A6 x.f6.length c6, .int .i64 x.f7, .int .i64 x.f8, .slice A9 x.f9.length c9] 25)).alloc (.cells #[.int .i64 y.f0, .int .i64 y.f1, .string y.f2, .string y.f3, .string y.f4, .slice B5 y.f5.length d5, .slice B6 y.f6.length d6, .int .i64 y.f7, .int .i64 y.f8, .slice B9 y.f9.length d9] 25)).heap[w.heap.size + 1]? = some (.cells #[.int .i64 y.f0, .int .i64 y.f1, .string y.f2, .string y.f3, .string y.f4, .slice B5 y.f5.length d5, .slice B6 y.f6.length d6, .int .i64 y.f7, .int .i64 y.f8, .slice B9 y.f9.length d9] 25 (0, 0)) := by
    have := blk_new (w.alloc (.cells #[.int .i64 x.f0, .int .i64 x.f1, .string x.f2, .string x.f3, .string x.f4, .slice A5 x.f5.length c5, .slice A6 x.f6.length c6, .int .i64 x.f7, .int .i64 x.f8, .slice A9 x.f9.length c9] 25)) (.cells #[.int .i64 y.f0, .int .i64 y.f1, .string y.f2, .string y.f3, .string y.f4, .slice B5 y.f5.length d5, .slice B6 y.f6.length d6, .int .i64 y.f7, .int .i64 y.f8, .slice B9 y.f9.length d9] 25)
    rwa [World.size_alloc] at this
  have BK := Aside0.mk hk0
  have BR := Aside0.mk hk1
  clear hk0 hk1
  by_cases c0 : x.f0 = y.f0
  · have b0 : (x.f0 == y.f0) = true := beq_iff_eq.mpr c0
    have C0 := Aside0.mk c0
    clear c0
    by_cases c1 : x.f1 = y.f1
    · have b1 : (x.f1 == y.f1) = true := beq_iff_eq.mpr c1
      have C1 := Aside0.mk c1
      clear c1
      by_cases c2 : x.f2.toList = y.f2.toList
      · have b2 : (x.f2.toList == y.f2.toList) = true := beq_iff_eq.mpr c2
        have C2 := Aside0.mk c2
        clear c2
        by_cases c3 : x.f3.toList = y.f3.toList
        · have b3 : (x.f3.toList == y.f3.toList) = true := beq_iff_eq.mpr c3
          have C3 := Aside0.mk c3
          clear c3
          by_cases c4 : x.f4.toList = y.f4.toList
          · have b4 : (x.f4.toList == y.f4.toList) = true := beq_iff_eq.mpr c4
            have C4 := Aside0.mk c4
            clear c4
            by_cases c5 : x.f5 = y.f5
            · have e5 : slices_Equal_int64_int64.f (x.f5.length + 1) x.f5 y.f5 = some true := by rw [equal_eq x.f5 y.f5 LR5.out.2.1, decide_eq_true c5]
              have C5 := Aside0.mk c5
              have E5 := Aside0.mk e5
              clear c5 e5
              by_cases c6 : x.f6 = y.f6
              · have e6 : slices_Equal_int64_int64.f (x.f6.length + 1) x.f6 y.f6 = some true := by rw [equal_eq x.f6 y.f6 LR6.out.2.1, decide_eq_true c6]
                have C6 := Aside0.mk c6
                have E6 := Aside0.mk e6
                clear c6 e6
                by_cases c7 : x.f7 = y.f7
                · have b7 : (x.f7 == y.f7) = true := beq_iff_eq.mpr c7
                  have C7 := Aside0.mk c7
                  clear c7
                  by_cases c8 : x.f8 = y.f8
                  · have b8 : (x.f8 == y.f8) = true := beq_iff_eq.mpr c8
                    have C8 := Aside0.mk c8
                    clear c8
                    have hq := equalFunc_calls n IH.out x.f9 y.f9 HX.out.2.2.2.2.2.2.2.2.2.2 HY.out.2.2.2.2.2.2.2.2.2.2
                    have hsame : sameS (n + 1) x y = sameL (sameS n) x.f9 y.f9 := by
                      simp only [sameS, C0.out, C1.out, C2.out, C3.out, C4.out, C5.out, C6.out, C7.out, C8.out, decide_true, Bool.true_and]
                    rw [hsame]
                    clear hsame
                    generalize sameL (sameS n) x.f9 y.f9 = r at hq ⊢
                    have HQ := Aside0.mk hq
                    clear hq
                    go_enter Try.func6, Try.ntmps6
                    go_wp2_with fail
                    refine (slices_Equal_int64_int64.calls (x.f5.length + 1) A5 c5 x.f5 B5 d5 y.f5 true _ (Kd.C_below LR5.out HB.out) LC5.out (Kd.C_below HR5.out HB.out) HC5.out E5.out).mono ?_
                    rintro e w1 ⟨rfl, ⟨n1, rfl⟩⟩
                    go_wp2_with fail
                    refine (slices_Equal_int64_int64.calls (x.f6.length + 1) A6 c6 x.f6 B6 d6 y.f6 true _ (Kd.C_drewN (Kd.C_below LR6.out HB.out) _) LC6.out (Kd.C_drewN (Kd.C_below HR6.out HB.out) _) HC6.out E6.out).mono ?_
                    rintro e w1 ⟨rfl, ⟨n2, rfl⟩⟩
                    go_wp2_with fail
                    refine (HQ.out A9 c9 B9 d9 _ (Kd.C_drewN (Kd.C_below LR9.out HB.out) _) (Kd.C_drewN (Kd.C_below HR9.out HB.out) _)).mono ?_
                    rintro e w3 ⟨rfl, hB3⟩
                    have HB3 := Aside0.mk (below_then (pw_below_drewN HB.out (n1 + n2)) HB.out.size hB3)
                    clear hB3
                    cases r
                    all_goals
                      go_wp2_with fail
                      go_ret
                      exact ⟨rfl, HB3.out⟩
                  · have b8 : (x.f8 == y.f8) = false := beq_eq_false_iff_ne.mpr c8
                    have C8 := Aside0.mk c8
                    clear c8
                    go_enter Try.func6, Try.ntmps6
                    go_wp2_with fail
                    refine (slices_Equal_int64_int64.calls (x.f5.length + 1) A5 c5 x.f5 B5 d5 y.f5 true _ (Kd.C_below LR5.out HB.out) LC5.out (Kd.C_below HR5.out HB.out) HC5.out E5.out).mono ?_
                    rintro e w1 ⟨rfl, ⟨n1, rfl⟩⟩
                    go_wp2_with fail
                    refine (slices_Equal_int64_int64.calls (x.f6.length + 1) A6 c6 x.f6 B6 d6 y.f6 true _ (Kd.C_drewN (Kd.C_below LR6.out HB.out) _) LC6.out (Kd.C_drewN (Kd.C_below HR6.out HB.out) _) HC6.out E6.out).mono ?_
                    rintro e w1 ⟨rfl, ⟨n2, rfl⟩⟩
                    go_wp2_with fail
                    go_ret
                    exact ⟨by simp [sameS, C8.out], pw_below_drewN HB.out _⟩
                · have b7 : (x.f7 == y.f7) = false := beq_eq_false_iff_ne.mpr c7
                  have C7 := Aside0.mk c7
                  clear c7
                  go_enter Try.func6, Try.ntmps6
                  go_wp2_with fail
                  refine (slices_Equal_int64_int64.calls (x.f5.length + 1) A5 c5 x.f5 B5 d5 y.f5 true _ (Kd.C_below LR5.out HB.out) LC5.out (Kd.C_below HR5.out HB.out) HC5.out E5.out).mono ?_
                  rintro e w1 ⟨rfl, ⟨n1, rfl⟩⟩
                  go_wp2_with fail
                  refine (slices_Equal_int64_int64.calls (x.f6.length + 1) A6 c6 x.f6 B6 d6 y.f6 true _ (Kd.C_drewN (Kd.C_below LR6.out HB.out) _) LC6.out (Kd.C_drewN (Kd.C_below HR6.out HB.out) _) HC6.out E6.out).mono ?_
                  rintro e w1 ⟨rfl, ⟨n2, rfl⟩⟩
                  go_wp2_with fail
                  go_ret
                  exact ⟨by simp [sameS, C7.out], pw_below_drewN HB.out _⟩
              · have e6 : slices_Equal_int64_int64.f (x.f6.length + 1) x.f6 y.f6 = some false := by rw [equal_eq x.f6 y.f6 LR6.out.2.1, decide_eq_false c6]
                have C6 := Aside0.mk c6
                have E6 := Aside0.mk e6
                clear c6 e6
                go_enter Try.func6, Try.ntmps6
                go_wp2_with fail
                refine (slices_Equal_int64_int64.calls (x.f5.length + 1) A5 c5 x.f5 B5 d5 y.f5 true _ (Kd.C_below LR5.out HB.out) LC5.out (Kd.C_below HR5.out HB.out) HC5.out E5.out).mono ?_
                rintro e w1 ⟨rfl, ⟨n1, rfl⟩⟩
                go_wp2_with fail
                refine (slices_Equal_int64_int64.calls (x.f6.length + 1) A6 c6 x.f6 B6 d6 y.f6 false _ (Kd.C_drewN (Kd.C_below LR6.out HB.out) _) LC6.out (Kd.C_drewN (Kd.C_below HR6.out HB.out) _) HC6.out E6.out).mono ?_
                rintro e w1 ⟨rfl, ⟨n2, rfl⟩⟩
                go_wp2_with fail
                go_ret
                exact ⟨by simp [sameS, C6.out], pw_below_drewN HB.out _⟩
            · have e5 : slices_Equal_int64_int64.f (x.f5.length + 1) x.f5 y.f5 = some false := by rw [equal_eq x.f5 y.f5 LR5.out.2.1, decide_eq_false c5]
              have C5 := Aside0.mk c5
              have E5 := Aside0.mk e5
              clear c5 e5
              go_enter Try.func6, Try.ntmps6
              go_wp2_with fail
              refine (slices_Equal_int64_int64.calls (x.f5.length + 1) A5 c5 x.f5 B5 d5 y.f5 false _ (Kd.C_below LR5.out HB.out) LC5.out (Kd.C_below HR5.out HB.out) HC5.out E5.out).mono ?_
              rintro e w1 ⟨rfl, ⟨n1, rfl⟩⟩
              go_wp2_with fail
              go_ret
              exact ⟨by simp [sameS, C5.out], pw_below_drewN HB.out _⟩
          · have b4 : (x.f4.toList == y.f4.toList) = false := beq_eq_false_iff_ne.mpr c4
            have C4 := Aside0.mk c4
            clear c4
            go_enter Try.func6, Try.ntmps6
            go_wp2_with fail
            go_ret
            exact ⟨by simp [sameS, C4.out], HB.out⟩
        · have b3 : (x.f3.toList == y.f3.toList) = false := beq_eq_false_iff_ne.mpr c3
          have C3 := Aside0.mk c3
          clear c3
          go_enter Try.func6, Try.ntmps6
          go_wp2_with fail
          go_ret
          exact ⟨by simp [sameS, C3.out], HB.out⟩
      · have b2 : (x.f2.toList == y.f2.toList) = false := beq_eq_false_iff_ne.mpr c2
        have C2 := Aside0.mk c2
        clear c2
        go_enter Try.func6, Try.ntmps6
        go_wp2_with fail
        go_ret
        exact ⟨by simp [sameS, C2.out], HB.out⟩
    · have b1 : (x.f1 == y.f1) = false := beq_eq_false_iff_ne.mpr c1
      have C1 := Aside0.mk c1
      clear c1
      go_enter Try.func6, Try.ntmps6
      go_wp2_with fail
      go_ret
      exact ⟨by simp [sameS, C1.out], HB.out⟩
  · have b0 : (x.f0 == y.f0) = false := beq_eq_false_iff_ne.mpr c0
    have C0 := Aside0.mk c0
    clear c0
    go_enter Try.func6, Try.ntmps6
    go_wp2_with fail
    go_ret
    exact ⟨by simp [sameS, C0.out], HB.out⟩
end Go.Proofs.Yteppilognoigjaa.LQ
