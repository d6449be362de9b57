/- The walk of the program's own. -/
import Derived.Test.YteppilognoigjaaDoorFP
namespace Go.Proofs.YteppilognoigjaaDoor.LQ
open Go.RowKit Go.Proofs.YteppilognoigjaaDoorW.PrintWords Go.Proofs.YteppilognoigjaaDoorW.PrintLast Go.Proofs.YteppilognoigjaaDoorW.PrintMore Go.Proofs.YteppilognoigjaaDoor.PQueryForms Go.Proofs.YteppilognoigjaaDoor.QK
set_option linter.unusedVariables false
set_option linter.unusedSimpArgs false

theorem blk_below_ {w W : World} {g : Nat} {o : Obj} (h : w.heap[g]? = some o) (hB : Below w.heap.size w W) : W.heap[g]? = some o := blk_below h hB
set_option maxHeartbeats 8000000 in
set_option maxRecDepth 100000 in
theorem ownP_calls (x : S25) (A5 : Option Addr) (c5 : Nat) (A6 : Option Addr) (c6 : Nat) (A9 : Option Addr) (c9 : Nat) (u : Int) (w : World) (hs : x.f2.size ≤ 9223372036854775806) :
    Calls Tryd.prog 22 #[.agg #[.int .i64 x.f0, .int .i64 x.f1, .string x.f2, .string x.f3, .string x.f4, .slice A5 x.f5.length c5, .slice A6 x.f6.length c6, .int .i64 x.f7, .int .i64 x.f8, .slice A9 x.f9.length c9], .int .i64 u] w fun e w' => e = .returned (.bool (ownS x u)) ∧ Below w.heap.size w w' := by
  have hu25 := Tryd.underlying25
  have HN := Aside0.mk (nameP_calls x.f2 hs)
  obtain ⟨nm, hnm⟩ : ∃ b : Bool, b = nameS x.f2 := ⟨_, rfl⟩
  rw [← hnm] at HN
  have HM := Aside0.mk hnm
  clear hs hnm
  go_enter Tryd.func22, Tryd.ntmps22
  have hb0 : Below w.heap.size w (w.alloc (.cells #[.int .i64 x.f0, .int .i64 x.f1, .string x.f2, .string x.f3, .string x.f4, .slice A5 x.f5.length c5, .slice A6 x.f6.length c6, .int .i64 x.f7, .int .i64 x.f8, .slice A9 x.f9.length c9] 25)) := below_alloc (Below.refl _ _) _
  have hk0 : (w.alloc (.cells #[.int .i64 x.f0, .int .i64 x.f1, .string x.f2, .string x.f3, .string x.f4, .slice A5 x.f5.length c5, .slice A6 x.f6.length c6, .int .i64 x.f7, .int .i64 x.f8, .slice A9 x.f9.length c9] 25)).heap[w.heap.size]? = some (.cells #[.int .i64 x.f0, .int .i64 x.f1, .string x.f2, .string x.f3, .string x.f4, .slice A5 x.f5.length c5, .slice A6 x.f6.length c6, .int .i64 x.f7, .int .i64 x.f8, .slice A9 x.f9.length c9] 25 (0, 0)) := blk_new _ _
  go_upto_region 1 with (fail)
  have hz0 : (w.alloc (.cells #[.int .i64 x.f0, .int .i64 x.f1, .string x.f2, .string x.f3, .string x.f4, .slice A5 x.f5.length c5, .slice A6 x.f6.length c6, .int .i64 x.f7, .int .i64 x.f8, .slice A9 x.f9.length c9] 25)).heap.size = w.heap.size + 1 := by rw [World.size_alloc]
  generalize w.alloc (.cells #[.int .i64 x.f0, .int .i64 x.f1, .string x.f2, .string x.f3, .string x.f4, .slice A5 x.f5.length c5, .slice A6 x.f6.length c6, .int .i64 x.f7, .int .i64 x.f8, .slice A9 x.f9.length c9] 25) = W0 at *
  have f0 : W0.cell? ⟨w.heap.size, 0, none⟩ = some (.int .i64 x.f0) := (blk_cell hk0 0).trans rfl
  have f1 : W0.cell? ⟨w.heap.size, 1, none⟩ = some (.int .i64 x.f1) := (blk_cell hk0 1).trans rfl
  have f2 : W0.cell? ⟨w.heap.size, 2, none⟩ = some (.string x.f2) := (blk_cell hk0 2).trans rfl
  have f3 : W0.cell? ⟨w.heap.size, 3, none⟩ = some (.string x.f3) := (blk_cell hk0 3).trans rfl
  have f4 : W0.cell? ⟨w.heap.size, 4, none⟩ = some (.string x.f4) := (blk_cell hk0 4).trans rfl
  have f5 : W0.cell? ⟨w.heap.size, 5, none⟩ = some (.slice A5 x.f5.length c5) := (blk_cell hk0 5).trans rfl
  have f6 : W0.cell? ⟨w.heap.size, 6, none⟩ = some (.slice A6 x.f6.length c6) := (blk_cell hk0 6).trans rfl
  have f7 : W0.cell? ⟨w.heap.size, 7, none⟩ = some (.int .i64 x.f7) := (blk_cell hk0 7).trans rfl
  have f8 : W0.cell? ⟨w.heap.size, 8, none⟩ = some (.int .i64 x.f8) := (blk_cell hk0 8).trans rfl
  have f9 : W0.cell? ⟨w.heap.size, 9, none⟩ = some (.slice A9 x.f9.length c9) := (blk_cell hk0 9).trans rfl
  have HB := Aside0.mk hb0
  have BK0 := Aside0.mk hk0
  have HZ0 := Aside0.mk hz0
  clear hb0 hk0 hz0
  go_cut [0, 1, 28] (fun v0 v1 v28 wc => v1 = .int .i64 u ∧ v28 = .bool (!occS x u) ∧ W0 = wc)
  case first =>
    as_aux_lemma =>
      go_wp2_with fail
      all_goals go_meet
      all_goals refine ⟨?_, ?_, rfl⟩
      all_goals first | rfl | (simp [*]; done) | (refine congrArg Value.bool ?_; first | (simp [occS, bne, *]; done) | (simp [occS, bne, *]; omega) | (rw [Bool.eq_iff_iff]; simp [occS, bne, *]; omega))
  case rest =>
  obtain ⟨rfl, rfl, rfl⟩ := hcut
  cases hocc : occS x u
  · go_wp2_with fail
    go_ret
    exact ⟨by simp [ownS, hocc], HB.out⟩
  go_upto_region 7 with fail
  have hb1 : Below w.heap.size w (W0.alloc (.cells #[.int .i64 0, .int .i64 0, .string x.f2, .string x.f3, .string x.f4, .slice A5 x.f5.length c5, .slice A6 x.f6.length c6, .int .i64 x.f7, .int .i64 x.f8, .slice A9 x.f9.length c9] 25)) := below_alloc HB.out _
  have hk1 : (W0.alloc (.cells #[.int .i64 0, .int .i64 0, .string x.f2, .string x.f3, .string x.f4, .slice A5 x.f5.length c5, .slice A6 x.f6.length c6, .int .i64 x.f7, .int .i64 x.f8, .slice A9 x.f9.length c9] 25)).heap[w.heap.size]? = some (.cells #[.int .i64 x.f0, .int .i64 x.f1, .string x.f2, .string x.f3, .string x.f4, .slice A5 x.f5.length c5, .slice A6 x.f6.length c6, .int .i64 x.f7, .int .i64 x.f8, .slice A9 x.f9.length c9] 25 (0, 0)) := blk_alloc BK0.out _
  have hr1 : (W0.alloc (.cells #[.int .i64 0, .int .i64 0, .string x.f2, .string x.f3, .string x.f4, .slice A5 x.f5.length c5, .slice A6 x.f6.length c6, .int .i64 x.f7, .int .i64 x.f8, .slice A9 x.f9.length c9] 25)).heap[W0.heap.size]? = some (.cells #[.int .i64 0, .int .i64 0, .string x.f2, .string x.f3, .string x.f4, .slice A5 x.f5.length c5, .slice A6 x.f6.length c6, .int .i64 x.f7, .int .i64 x.f8, .slice A9 x.f9.length c9] 25 (0, 0)) := blk_new _ _
  have hz1 : (W0.alloc (.cells #[.int .i64 0, .int .i64 0, .string x.f2, .string x.f3, .string x.f4, .slice A5 x.f5.length c5, .slice A6 x.f6.length c6, .int .i64 x.f7, .int .i64 x.f8, .slice A9 x.f9.length c9] 25)).heap.size = w.heap.size + 2 := by rw [World.size_alloc, HZ0.out]
  generalize W0.alloc (.cells #[.int .i64 0, .int .i64 0, .string x.f2, .string x.f3, .string x.f4, .slice A5 x.f5.length c5, .slice A6 x.f6.length c6, .int .i64 x.f7, .int .i64 x.f8, .slice A9 x.f9.length c9] 25) = W1 at *
  have hR := HZ0.out
  clear f0 f1 f2 f3 f4 f5 f6 f7 f8 f9 HB BK0 HZ0
  generalize W0.heap.size = R at *
  have HB := Aside0.mk hb1
  have BK := Aside0.mk hk1
  have BR := Aside0.mk hr1
  have HZ := Aside0.mk hz1
  have HR := Aside0.mk hR
  have f0 : W1.cell? ⟨w.heap.size, 0, none⟩ = some (.int .i64 x.f0) := (blk_cell hk1 0).trans rfl
  clear hb1 hk1 hr1 hz1 hR
  go_upto_block 0 with fail
  go_cut [7, 29, 34] (fun v7 v29 v34 wc => ∃ (ok : Bool) (s2 s3 s4 : ByteArray) (n5 n6 : Nat) (i7 i8 : Int) (n9 : Nat) (P5 : Option Addr) (d5 : Nat) (P6 : Option Addr) (d6 : Nat) (P9 : Option Addr) (d9 : Nat), v7 = .bool ok ∧
    Aside0 (wc.heap[w.heap.size]? = some (.cells #[.int .i64 x.f0, .int .i64 x.f1, .string x.f2, .string x.f3, .string x.f4, .slice A5 x.f5.length c5, .slice A6 x.f6.length c6, .int .i64 x.f7, .int .i64 x.f8, .slice A9 x.f9.length c9] 25 (0, 0))) ∧
    Aside0 (wc.heap[R]? = some (.cells #[.int .i64 0, .int .i64 0, .string s2, .string s3, .string s4, .slice P5 n5 d5, .slice P6 n6 d6, .int .i64 i7, .int .i64 i8, .slice P9 n9 d9] 25 (0, 0))) ∧
    Aside0 (ownS x u = (ok && (nm && emptyC s2 s3 s4 n5 n6 i7 i8 n9))) ∧ Aside0 (Below w.heap.size w wc))
  case first =>
    have hRB : w.heap.size ≠ R := by have := HR.out; omega
    have hRw : w.heap.size ≤ R := by have := HR.out; omega
    have hRz : R < W1.heap.size := by have := HR.out; have := HZ.out; omega
    by_cases k12 : x.f0 = 1 ∨ x.f0 = 2
    · as_aux_lemma =>
        have E := Aside0.mk (own_k12 hocc k12)
        have r0 : W1.cell? ⟨R, 0, none⟩ = some (.int .i64 0) := (blk_cell BR.out 0).trans rfl
        have r1 : W1.cell? ⟨R, 1, none⟩ = some (.int .i64 0) := (blk_cell BR.out 1).trans rfl
        have r2 : W1.cell? ⟨R, 2, none⟩ = some (.string x.f2) := (blk_cell BR.out 2).trans rfl
        have r3 : W1.cell? ⟨R, 3, none⟩ = some (.string x.f3) := (blk_cell BR.out 3).trans rfl
        have r4 : W1.cell? ⟨R, 4, none⟩ = some (.string x.f4) := (blk_cell BR.out 4).trans rfl
        have r5 : W1.cell? ⟨R, 5, none⟩ = some (.slice A5 x.f5.length c5) := (blk_cell BR.out 5).trans rfl
        have r6 : W1.cell? ⟨R, 6, none⟩ = some (.slice A6 x.f6.length c6) := (blk_cell BR.out 6).trans rfl
        have r7 : W1.cell? ⟨R, 7, none⟩ = some (.int .i64 x.f7) := (blk_cell BR.out 7).trans rfl
        have r8 : W1.cell? ⟨R, 8, none⟩ = some (.int .i64 x.f8) := (blk_cell BR.out 8).trans rfl
        have r9 : W1.cell? ⟨R, 9, none⟩ = some (.slice A9 x.f9.length c9) := (blk_cell BR.out 9).trans rfl
        rcases k12 with k | k
        all_goals (go_wp2_with (go_at_call 36; refine (empty_calls 0 0 x.f2 x.f3 x.f4 x.f5.length x.f6.length x.f7 x.f8 x.f9.length A5 c5 A6 c6 A9 c9 W1).mono ?_; rintro e w2 ⟨rfl, hB2⟩; have HB2 := Aside0.mk (below_then HB.out HB.out.size hB2); clear hB2); go_ret; exact ⟨by rw [E.out]; rfl, HB2.out⟩)
    by_cases k345 : x.f0 = 3 ∨ x.f0 = 4 ∨ x.f0 = 5
    · as_aux_lemma =>
        have E := Aside0.mk (show ownS x u = (true && (nm && emptyC ⟨#[]⟩ ⟨#[]⟩ x.f4 x.f5.length x.f6.length x.f7 x.f8 x.f9.length)) by rw [HM.out]; exact own_k345 hocc k345)
        have hA : ∀ j o, ([3] : List Nat)[j]? = some o → (W1.alloc (.cells #[.pointer (some ⟨R, 3, none⟩)] 59)).cell? ⟨W1.heap.size, j, none⟩ = some (.pointer (some ⟨R, o, none⟩)) := by
          intro j o hj
          match j, hj with
          | 0, hj => simp at hj; subst hj; exact (blk_cell (blk_new _ _) 0).trans rfl
          | j + 1, hj => simp at hj
        have HA := Aside0.mk hA
        clear hA
        rcases k345 with k | k | k
        all_goals go_wp2_with fail
        all_goals refine (named_calls R #[.int .i64 0, .int .i64 0, .string x.f2, .string x.f3, .string x.f4, .slice A5 x.f5.length c5, .slice A6 x.f6.length c6, .int .i64 x.f7, .int .i64 x.f8, .slice A9 x.f9.length c9] [3] (some ⟨W1.heap.size, 0, none⟩) 1 _ (blk_alloc BR.out _) rfl (by decide) (by decide) (fun _ => ⟨W1.heap.size, rfl, by omega, HA.out⟩)).mono ?_
        all_goals rintro e w2 ⟨rfl, hw2⟩
        all_goals have bk2 : w2.heap[w.heap.size]? = some (.cells #[.int .i64 x.f0, .int .i64 x.f1, .string x.f2, .string x.f3, .string x.f4, .slice A5 x.f5.length c5, .slice A6 x.f6.length c6, .int .i64 x.f7, .int .i64 x.f8, .slice A9 x.f9.length c9] 25 (0, 0)) := by rw [hw2]; exact (noStrs_B hRB [2, 3] _).trans (blk_alloc BK.out _)
        all_goals have br2 : w2.heap[R]? = some (.cells #[.int .i64 0, .int .i64 0, .string ⟨#[]⟩, .string ⟨#[]⟩, .string x.f4, .slice A5 x.f5.length c5, .slice A6 x.f6.length c6, .int .i64 x.f7, .int .i64 x.f8, .slice A9 x.f9.length c9] 25 (0, 0)) := by rw [hw2]; exact noStrs_R [2, 3] (blk_alloc BR.out _)
        all_goals have hb2 : Below w.heap.size w w2 := by rw [hw2]; exact noStrs_below hRw [2, 3] (below_alloc HB.out _)
        all_goals have BK2 := Aside0.mk bk2
        all_goals have BR2 := Aside0.mk br2
        all_goals have HB2 := Aside0.mk hb2
        all_goals clear hw2 bk2 br2 hb2
        all_goals go_wp2_with fail
        all_goals go_meet
        all_goals exact ⟨true, ⟨#[]⟩, ⟨#[]⟩, x.f4, x.f5.length, x.f6.length, x.f7, x.f8, x.f9.length, A5, c5, A6, c6, A9, c9, rfl, BK2, BR2, E, HB2⟩
    by_cases k6 : x.f0 = 6
    · as_aux_lemma =>
        have E := Aside0.mk (show ownS x u = (true && (nm && emptyC ⟨#[]⟩ ⟨#[]⟩ ⟨#[]⟩ x.f5.length x.f6.length x.f7 x.f8 x.f9.length)) by rw [HM.out]; exact own_k6 hocc k6)
        have hA : ∀ j o, ([3, 4] : List Nat)[j]? = some o → (W1.alloc (.cells #[.pointer (some ⟨R, 3, none⟩), .pointer (some ⟨R, 4, none⟩)] 59)).cell? ⟨W1.heap.size, j, none⟩ = some (.pointer (some ⟨R, o, none⟩)) := by
          intro j o hj
          match j, hj with
          | 0, hj => simp at hj; subst hj; exact (blk_cell (blk_new _ _) 0).trans rfl
          | 1, hj => simp at hj; subst hj; exact (blk_cell (blk_new _ _) 1).trans rfl
          | j + 2, hj => simp at hj
        have HA := Aside0.mk hA
        clear hA
        all_goals go_wp2_with fail
        all_goals refine (named_calls R #[.int .i64 0, .int .i64 0, .string x.f2, .string x.f3, .string x.f4, .slice A5 x.f5.length c5, .slice A6 x.f6.length c6, .int .i64 x.f7, .int .i64 x.f8, .slice A9 x.f9.length c9] [3, 4] (some ⟨W1.heap.size, 0, none⟩) 2 _ (blk_alloc BR.out _) rfl (by decide) (by decide) (fun _ => ⟨W1.heap.size, rfl, by omega, HA.out⟩)).mono ?_
        all_goals rintro e w2 ⟨rfl, hw2⟩
        all_goals have bk2 : w2.heap[w.heap.size]? = some (.cells #[.int .i64 x.f0, .int .i64 x.f1, .string x.f2, .string x.f3, .string x.f4, .slice A5 x.f5.length c5, .slice A6 x.f6.length c6, .int .i64 x.f7, .int .i64 x.f8, .slice A9 x.f9.length c9] 25 (0, 0)) := by rw [hw2]; exact (noStrs_B hRB [2, 3, 4] _).trans (blk_alloc BK.out _)
        all_goals have br2 : w2.heap[R]? = some (.cells #[.int .i64 0, .int .i64 0, .string ⟨#[]⟩, .string ⟨#[]⟩, .string ⟨#[]⟩, .slice A5 x.f5.length c5, .slice A6 x.f6.length c6, .int .i64 x.f7, .int .i64 x.f8, .slice A9 x.f9.length c9] 25 (0, 0)) := by rw [hw2]; exact noStrs_R [2, 3, 4] (blk_alloc BR.out _)
        all_goals have hb2 : Below w.heap.size w w2 := by rw [hw2]; exact noStrs_below hRw [2, 3, 4] (below_alloc HB.out _)
        all_goals have BK2 := Aside0.mk bk2
        all_goals have BR2 := Aside0.mk br2
        all_goals have HB2 := Aside0.mk hb2
        all_goals clear hw2 bk2 br2 hb2
        all_goals go_wp2_with fail
        all_goals go_meet
        all_goals exact ⟨true, ⟨#[]⟩, ⟨#[]⟩, ⟨#[]⟩, x.f5.length, x.f6.length, x.f7, x.f8, x.f9.length, A5, c5, A6, c6, A9, c9, rfl, BK2, BR2, E, HB2⟩
    by_cases k7 : x.f0 = 7
    · as_aux_lemma =>
        have E := Aside0.mk (show ownS x u = ((decide (1 ≤ x.f5.length) && decide (x.f5.length ≤ 4) && x.f6.length == x.f5.length) && (nm && emptyC ⟨#[]⟩ x.f3 x.f4 0 0 x.f7 x.f8 x.f9.length)) by rw [HM.out]; exact own_k7 hocc k7)
        go_wp2_with fail
        refine (named_calls R #[.int .i64 0, .int .i64 0, .string x.f2, .string x.f3, .string x.f4, .slice A5 x.f5.length c5, .slice A6 x.f6.length c6, .int .i64 x.f7, .int .i64 x.f8, .slice A9 x.f9.length c9] [] none 0 W1 BR.out rfl (by decide) (by decide) (fun h => absurd h (by decide))).mono ?_
        rintro e w2 ⟨rfl, hw2⟩
        have bk2 : w2.heap[w.heap.size]? = some (.cells #[.int .i64 x.f0, .int .i64 x.f1, .string x.f2, .string x.f3, .string x.f4, .slice A5 x.f5.length c5, .slice A6 x.f6.length c6, .int .i64 x.f7, .int .i64 x.f8, .slice A9 x.f9.length c9] 25 (0, 0)) := by rw [hw2]; exact (noStrs_B hRB [2] _).trans BK.out
        have br2 : w2.heap[R]? = some (.cells #[.int .i64 0, .int .i64 0, .string ⟨#[]⟩, .string x.f3, .string x.f4, .slice A5 x.f5.length c5, .slice A6 x.f6.length c6, .int .i64 x.f7, .int .i64 x.f8, .slice A9 x.f9.length c9] 25 (0, 0)) := by rw [hw2]; exact noStrs_R [2] BR.out
        have hb2 : Below w.heap.size w w2 := by rw [hw2]; exact noStrs_below hRw [2] HB.out
        clear hw2
        have b5 : w2.cell? ⟨w.heap.size, 5, none⟩ = some (.slice A5 x.f5.length c5) := (blk_cell bk2 5).trans rfl
        have b6 : w2.cell? ⟨w.heap.size, 6, none⟩ = some (.slice A6 x.f6.length c6) := (blk_cell bk2 6).trans rfl
        have r5 : w2.cell? ⟨R, 5, none⟩ = some (.slice A5 x.f5.length c5) := (blk_cell br2 5).trans rfl
        have r6 : w2.cell? ⟨R, 6, none⟩ = some (.slice A6 x.f6.length c6) := (blk_cell br2 6).trans rfl
        have z5 : w2.frozen? ⟨R, 5, none⟩ = false := blk_frozen br2 5
        have z6 : w2.frozen? ⟨R, 6, none⟩ = false := blk_frozen br2 6
        have br3 : (w2.setCell ⟨R, 5, none⟩ (.slice none 0 0)).heap[R]? = some (.cells #[.int .i64 0, .int .i64 0, .string ⟨#[]⟩, .string x.f3, .string x.f4, .slice none 0 0, .slice A6 x.f6.length c6, .int .i64 x.f7, .int .i64 x.f8, .slice A9 x.f9.length c9] 25 (0, 0)) := blk_set br2 5 _
        have bk3 : (w2.setCell ⟨R, 5, none⟩ (.slice none 0 0)).heap[w.heap.size]? = some (.cells #[.int .i64 x.f0, .int .i64 x.f1, .string x.f2, .string x.f3, .string x.f4, .slice A5 x.f5.length c5, .slice A6 x.f6.length c6, .int .i64 x.f7, .int .i64 x.f8, .slice A9 x.f9.length c9] 25 (0, 0)) := blk_far bk2 (p := ⟨R, 5, none⟩) hRB _
        have hb3 : Below w.heap.size w (w2.setCell ⟨R, 5, none⟩ (.slice none 0 0)) := below_set hb2 hRw
        have br4 : ((w2.setCell ⟨R, 5, none⟩ (.slice none 0 0)).setCell ⟨R, 6, none⟩ (.slice none 0 0)).heap[R]? = some (.cells #[.int .i64 0, .int .i64 0, .string ⟨#[]⟩, .string x.f3, .string x.f4, .slice none 0 0, .slice none 0 0, .int .i64 x.f7, .int .i64 x.f8, .slice A9 x.f9.length c9] 25 (0, 0)) := blk_set br3 6 _
        have bk4 : ((w2.setCell ⟨R, 5, none⟩ (.slice none 0 0)).setCell ⟨R, 6, none⟩ (.slice none 0 0)).heap[w.heap.size]? = some (.cells #[.int .i64 x.f0, .int .i64 x.f1, .string x.f2, .string x.f3, .string x.f4, .slice A5 x.f5.length c5, .slice A6 x.f6.length c6, .int .i64 x.f7, .int .i64 x.f8, .slice A9 x.f9.length c9] 25 (0, 0)) := blk_far bk3 (p := ⟨R, 6, none⟩) hRB _
        have hb4 : Below w.heap.size w ((w2.setCell ⟨R, 5, none⟩ (.slice none 0 0)).setCell ⟨R, 6, none⟩ (.slice none 0 0)) := below_set hb3 hRw
        have BK2 := Aside0.mk bk4
        have BR2 := Aside0.mk br4
        have HB2 := Aside0.mk hb4
        clear bk2 br2 hb2 bk3 br3 hb3 bk4 br4 hb4
        go_wp2_with fail
        all_goals go_meet
        all_goals refine ⟨(decide (1 ≤ x.f5.length) && decide (x.f5.length ≤ 4) && x.f6.length == x.f5.length), ⟨#[]⟩, x.f3, x.f4, 0, 0, x.f7, x.f8, x.f9.length, none, 0, none, 0, A9, c9, ?_, BK2, BR2, E, HB2⟩
        all_goals (refine congrArg Value.bool ?_; rw [Bool.eq_iff_iff]; first | (simp [*]; done) | (simp [*]; omega))
    by_cases k10 : x.f0 = 10
    · as_aux_lemma =>
        have E := Aside0.mk (show ownS x u = ((decide (1 ≤ x.f8) && decide (x.f8 ≤ 3) && x.f5.length == 1 && x.f9.length == 1) && (nm && emptyC ⟨#[]⟩ x.f3 x.f4 0 x.f6.length x.f7 0 0)) by rw [HM.out]; exact own_k10 hocc k10)
        go_wp2_with fail
        refine (named_calls R #[.int .i64 0, .int .i64 0, .string x.f2, .string x.f3, .string x.f4, .slice A5 x.f5.length c5, .slice A6 x.f6.length c6, .int .i64 x.f7, .int .i64 x.f8, .slice A9 x.f9.length c9] [] none 0 W1 BR.out rfl (by decide) (by decide) (fun h => absurd h (by decide))).mono ?_
        rintro e w2 ⟨rfl, hw2⟩
        have bk2 : w2.heap[w.heap.size]? = some (.cells #[.int .i64 x.f0, .int .i64 x.f1, .string x.f2, .string x.f3, .string x.f4, .slice A5 x.f5.length c5, .slice A6 x.f6.length c6, .int .i64 x.f7, .int .i64 x.f8, .slice A9 x.f9.length c9] 25 (0, 0)) := by rw [hw2]; exact (noStrs_B hRB [2] _).trans BK.out
        have br2 : w2.heap[R]? = some (.cells #[.int .i64 0, .int .i64 0, .string ⟨#[]⟩, .string x.f3, .string x.f4, .slice A5 x.f5.length c5, .slice A6 x.f6.length c6, .int .i64 x.f7, .int .i64 x.f8, .slice A9 x.f9.length c9] 25 (0, 0)) := by rw [hw2]; exact noStrs_R [2] BR.out
        have hb2 : Below w.heap.size w w2 := by rw [hw2]; exact noStrs_below hRw [2] HB.out
        clear hw2
        have b5 : w2.cell? ⟨w.heap.size, 5, none⟩ = some (.slice A5 x.f5.length c5) := (blk_cell bk2 5).trans rfl
        have b8 : w2.cell? ⟨w.heap.size, 8, none⟩ = some (.int .i64 x.f8) := (blk_cell bk2 8).trans rfl
        have b9 : w2.cell? ⟨w.heap.size, 9, none⟩ = some (.slice A9 x.f9.length c9) := (blk_cell bk2 9).trans rfl
        have r8 : w2.cell? ⟨R, 8, none⟩ = some (.int .i64 x.f8) := (blk_cell br2 8).trans rfl
        have r5 : w2.cell? ⟨R, 5, none⟩ = some (.slice A5 x.f5.length c5) := (blk_cell br2 5).trans rfl
        have r9 : w2.cell? ⟨R, 9, none⟩ = some (.slice A9 x.f9.length c9) := (blk_cell br2 9).trans rfl
        have z8 : w2.frozen? ⟨R, 8, none⟩ = false := blk_frozen br2 8
        have z5 : w2.frozen? ⟨R, 5, none⟩ = false := blk_frozen br2 5
        have z9 : w2.frozen? ⟨R, 9, none⟩ = false := blk_frozen br2 9
        have br3 : (w2.setCell ⟨R, 8, none⟩ (.int .i64 0)).heap[R]? = some (.cells #[.int .i64 0, .int .i64 0, .string ⟨#[]⟩, .string x.f3, .string x.f4, .slice A5 x.f5.length c5, .slice A6 x.f6.length c6, .int .i64 x.f7, .int .i64 0, .slice A9 x.f9.length c9] 25 (0, 0)) := blk_set br2 8 _
        have bk3 : (w2.setCell ⟨R, 8, none⟩ (.int .i64 0)).heap[w.heap.size]? = some (.cells #[.int .i64 x.f0, .int .i64 x.f1, .string x.f2, .string x.f3, .string x.f4, .slice A5 x.f5.length c5, .slice A6 x.f6.length c6, .int .i64 x.f7, .int .i64 x.f8, .slice A9 x.f9.length c9] 25 (0, 0)) := blk_far bk2 (p := ⟨R, 8, none⟩) hRB _
        have hb3 : Below w.heap.size w (w2.setCell ⟨R, 8, none⟩ (.int .i64 0)) := below_set hb2 hRw
        have br4 : ((w2.setCell ⟨R, 8, none⟩ (.int .i64 0)).setCell ⟨R, 5, none⟩ (.slice none 0 0)).heap[R]? = some (.cells #[.int .i64 0, .int .i64 0, .string ⟨#[]⟩, .string x.f3, .string x.f4, .slice none 0 0, .slice A6 x.f6.length c6, .int .i64 x.f7, .int .i64 0, .slice A9 x.f9.length c9] 25 (0, 0)) := blk_set br3 5 _
        have bk4 : ((w2.setCell ⟨R, 8, none⟩ (.int .i64 0)).setCell ⟨R, 5, none⟩ (.slice none 0 0)).heap[w.heap.size]? = some (.cells #[.int .i64 x.f0, .int .i64 x.f1, .string x.f2, .string x.f3, .string x.f4, .slice A5 x.f5.length c5, .slice A6 x.f6.length c6, .int .i64 x.f7, .int .i64 x.f8, .slice A9 x.f9.length c9] 25 (0, 0)) := blk_far bk3 (p := ⟨R, 5, none⟩) hRB _
        have hb4 : Below w.heap.size w ((w2.setCell ⟨R, 8, none⟩ (.int .i64 0)).setCell ⟨R, 5, none⟩ (.slice none 0 0)) := below_set hb3 hRw
        have br5 : (((w2.setCell ⟨R, 8, none⟩ (.int .i64 0)).setCell ⟨R, 5, none⟩ (.slice none 0 0)).setCell ⟨R, 9, none⟩ (.slice none 0 0)).heap[R]? = some (.cells #[.int .i64 0, .int .i64 0, .string ⟨#[]⟩, .string x.f3, .string x.f4, .slice none 0 0, .slice A6 x.f6.length c6, .int .i64 x.f7, .int .i64 0, .slice none 0 0] 25 (0, 0)) := blk_set br4 9 _
        have bk5 : (((w2.setCell ⟨R, 8, none⟩ (.int .i64 0)).setCell ⟨R, 5, none⟩ (.slice none 0 0)).setCell ⟨R, 9, none⟩ (.slice none 0 0)).heap[w.heap.size]? = some (.cells #[.int .i64 x.f0, .int .i64 x.f1, .string x.f2, .string x.f3, .string x.f4, .slice A5 x.f5.length c5, .slice A6 x.f6.length c6, .int .i64 x.f7, .int .i64 x.f8, .slice A9 x.f9.length c9] 25 (0, 0)) := blk_far bk4 (p := ⟨R, 9, none⟩) hRB _
        have hb5 : Below w.heap.size w (((w2.setCell ⟨R, 8, none⟩ (.int .i64 0)).setCell ⟨R, 5, none⟩ (.slice none 0 0)).setCell ⟨R, 9, none⟩ (.slice none 0 0)) := below_set hb4 hRw
        have BK2 := Aside0.mk bk5
        have BR2 := Aside0.mk br5
        have HB2 := Aside0.mk hb5
        clear bk2 br2 hb2 bk3 br3 hb3 bk4 br4 hb4 bk5 br5 hb5
        go_wp2_with fail
        all_goals go_meet
        all_goals refine ⟨(decide (1 ≤ x.f8) && decide (x.f8 ≤ 3) && x.f5.length == 1 && x.f9.length == 1), ⟨#[]⟩, x.f3, x.f4, 0, x.f6.length, x.f7, 0, 0, none, 0, A6, c6, none, 0, ?_, BK2, BR2, E, HB2⟩
        all_goals (refine congrArg Value.bool ?_; rw [Bool.eq_iff_iff]; first | (simp [*]; done) | (simp [*]; omega))
    by_cases k8 : x.f0 = 8
    · as_aux_lemma =>
        have E := Aside0.mk (own_k8 hocc k8)
        have bk2 := BK.out
        have br2 := BR.out
        have hb2 := HB.out
        have s9 : W1.cell? ⟨R, 9, none⟩ = some (.slice A9 x.f9.length c9) := (blk_cell br2 9).trans rfl
        have z9 : W1.frozen? ⟨R, 9, none⟩ = false := blk_frozen br2 9
        have br3 : (W1.setCell ⟨R, 9, none⟩ (.slice none 0 0)).heap[R]? = some (.cells #[.int .i64 0, .int .i64 0, .string x.f2, .string x.f3, .string x.f4, .slice A5 x.f5.length c5, .slice A6 x.f6.length c6, .int .i64 x.f7, .int .i64 x.f8, .slice none 0 0] 25 (0, 0)) := blk_set br2 9 _
        have bk3 : (W1.setCell ⟨R, 9, none⟩ (.slice none 0 0)).heap[w.heap.size]? = some (.cells #[.int .i64 x.f0, .int .i64 x.f1, .string x.f2, .string x.f3, .string x.f4, .slice A5 x.f5.length c5, .slice A6 x.f6.length c6, .int .i64 x.f7, .int .i64 x.f8, .slice A9 x.f9.length c9] 25 (0, 0)) := blk_far bk2 (p := ⟨R, 9, none⟩) hRB _
        have hb3 : Below w.heap.size w (W1.setCell ⟨R, 9, none⟩ (.slice none 0 0)) := below_set hb2 hRw
        go_upto_region 24 with fail
        generalize hW2 : (W1.setCell ⟨R, 9, none⟩ (.slice none 0 0)) = W2 at *
        have t0 : W2.cell? ⟨R, 0, none⟩ = some (.int .i64 0) := (blk_cell br3 0).trans rfl
        have t1 : W2.cell? ⟨R, 1, none⟩ = some (.int .i64 0) := (blk_cell br3 1).trans rfl
        have t2 : W2.cell? ⟨R, 2, none⟩ = some (.string x.f2) := (blk_cell br3 2).trans rfl
        have t3 : W2.cell? ⟨R, 3, none⟩ = some (.string x.f3) := (blk_cell br3 3).trans rfl
        have t4 : W2.cell? ⟨R, 4, none⟩ = some (.string x.f4) := (blk_cell br3 4).trans rfl
        have t5 : W2.cell? ⟨R, 5, none⟩ = some (.slice A5 x.f5.length c5) := (blk_cell br3 5).trans rfl
        have t6 : W2.cell? ⟨R, 6, none⟩ = some (.slice A6 x.f6.length c6) := (blk_cell br3 6).trans rfl
        have t7 : W2.cell? ⟨R, 7, none⟩ = some (.int .i64 x.f7) := (blk_cell br3 7).trans rfl
        have t8 : W2.cell? ⟨R, 8, none⟩ = some (.int .i64 x.f8) := (blk_cell br3 8).trans rfl
        have t9 : W2.cell? ⟨R, 9, none⟩ = some (.slice none 0 0) := (blk_cell br3 9).trans rfl
        have BK2 := Aside0.mk bk3
        have HB2 := Aside0.mk hb3
        clear hW2 bk2 br2 hb2 bk3 br3 hb3 s9 z9
        go_wp2_with (go_at_call 36; refine (empty_calls 0 0 x.f2 x.f3 x.f4 x.f5.length x.f6.length x.f7 x.f8 0 A5 c5 A6 c6 none 0 W2).mono ?_; rintro e w2 ⟨rfl, hB2⟩; have HB3 := Aside0.mk (below_then HB2.out HB2.out.size hB2); clear hB2)
        go_ret
        exact ⟨by rw [E.out]; rfl, HB3.out⟩
    by_cases k9 : x.f0 = 9
    · as_aux_lemma =>
        have E := Aside0.mk (own_k9 hocc k9)
        have bk2 := BK.out
        have br2 := BR.out
        have hb2 := HB.out
        have s7 : W1.cell? ⟨R, 7, none⟩ = some (.int .i64 x.f7) := (blk_cell br2 7).trans rfl
        have s9 : W1.cell? ⟨R, 9, none⟩ = some (.slice A9 x.f9.length c9) := (blk_cell br2 9).trans rfl
        have z7 : W1.frozen? ⟨R, 7, none⟩ = false := blk_frozen br2 7
        have z9 : W1.frozen? ⟨R, 9, none⟩ = false := blk_frozen br2 9
        have br3 : (W1.setCell ⟨R, 7, none⟩ (.int .i64 0)).heap[R]? = some (.cells #[.int .i64 0, .int .i64 0, .string x.f2, .string x.f3, .string x.f4, .slice A5 x.f5.length c5, .slice A6 x.f6.length c6, .int .i64 0, .int .i64 x.f8, .slice A9 x.f9.length c9] 25 (0, 0)) := blk_set br2 7 _
        have bk3 : (W1.setCell ⟨R, 7, none⟩ (.int .i64 0)).heap[w.heap.size]? = some (.cells #[.int .i64 x.f0, .int .i64 x.f1, .string x.f2, .string x.f3, .string x.f4, .slice A5 x.f5.length c5, .slice A6 x.f6.length c6, .int .i64 x.f7, .int .i64 x.f8, .slice A9 x.f9.length c9] 25 (0, 0)) := blk_far bk2 (p := ⟨R, 7, none⟩) hRB _
        have hb3 : Below w.heap.size w (W1.setCell ⟨R, 7, none⟩ (.int .i64 0)) := below_set hb2 hRw
        have br4 : ((W1.setCell ⟨R, 7, none⟩ (.int .i64 0)).setCell ⟨R, 9, none⟩ (.slice none 0 0)).heap[R]? = some (.cells #[.int .i64 0, .int .i64 0, .string x.f2, .string x.f3, .string x.f4, .slice A5 x.f5.length c5, .slice A6 x.f6.length c6, .int .i64 0, .int .i64 x.f8, .slice none 0 0] 25 (0, 0)) := blk_set br3 9 _
        have bk4 : ((W1.setCell ⟨R, 7, none⟩ (.int .i64 0)).setCell ⟨R, 9, none⟩ (.slice none 0 0)).heap[w.heap.size]? = some (.cells #[.int .i64 x.f0, .int .i64 x.f1, .string x.f2, .string x.f3, .string x.f4, .slice A5 x.f5.length c5, .slice A6 x.f6.length c6, .int .i64 x.f7, .int .i64 x.f8, .slice A9 x.f9.length c9] 25 (0, 0)) := blk_far bk3 (p := ⟨R, 9, none⟩) hRB _
        have hb4 : Below w.heap.size w ((W1.setCell ⟨R, 7, none⟩ (.int .i64 0)).setCell ⟨R, 9, none⟩ (.slice none 0 0)) := below_set hb3 hRw
        go_upto_region 27 with fail
        generalize hW2 : ((W1.setCell ⟨R, 7, none⟩ (.int .i64 0)).setCell ⟨R, 9, none⟩ (.slice none 0 0)) = W2 at *
        have t0 : W2.cell? ⟨R, 0, none⟩ = some (.int .i64 0) := (blk_cell br4 0).trans rfl
        have t1 : W2.cell? ⟨R, 1, none⟩ = some (.int .i64 0) := (blk_cell br4 1).trans rfl
        have t2 : W2.cell? ⟨R, 2, none⟩ = some (.string x.f2) := (blk_cell br4 2).trans rfl
        have t3 : W2.cell? ⟨R, 3, none⟩ = some (.string x.f3) := (blk_cell br4 3).trans rfl
        have t4 : W2.cell? ⟨R, 4, none⟩ = some (.string x.f4) := (blk_cell br4 4).trans rfl
        have t5 : W2.cell? ⟨R, 5, none⟩ = some (.slice A5 x.f5.length c5) := (blk_cell br4 5).trans rfl
        have t6 : W2.cell? ⟨R, 6, none⟩ = some (.slice A6 x.f6.length c6) := (blk_cell br4 6).trans rfl
        have t7 : W2.cell? ⟨R, 7, none⟩ = some (.int .i64 0) := (blk_cell br4 7).trans rfl
        have t8 : W2.cell? ⟨R, 8, none⟩ = some (.int .i64 x.f8) := (blk_cell br4 8).trans rfl
        have t9 : W2.cell? ⟨R, 9, none⟩ = some (.slice none 0 0) := (blk_cell br4 9).trans rfl
        have BK2 := Aside0.mk bk4
        have HB2 := Aside0.mk hb4
        clear hW2 bk2 br2 hb2 bk3 br3 hb3 bk4 br4 hb4 s7 z7 s9 z9
        go_wp2_with (go_at_call 36; refine (empty_calls 0 0 x.f2 x.f3 x.f4 x.f5.length x.f6.length 0 x.f8 0 A5 c5 A6 c6 none 0 W2).mono ?_; rintro e w2 ⟨rfl, hB2⟩; have q7 : w2.cell? ⟨w.heap.size, 7, none⟩ = some (.int .i64 x.f7) := (blk_cell (blk_below_ BK2.out hB2) 7).trans rfl; have q9 : w2.cell? ⟨w.heap.size, 9, none⟩ = some (.slice A9 x.f9.length c9) := (blk_cell (blk_below_ BK2.out hB2) 9).trans rfl; have HB3 := Aside0.mk (below_then HB2.out HB2.out.size hB2); clear hB2)
        all_goals go_ret
        all_goals refine ⟨?_, HB3.out⟩
        all_goals rw [E.out]
        all_goals (refine congrArg (fun b => Ending.returned (Value.bool b)) ?_; rw [Bool.eq_iff_iff]; first | (simp [*]; done) | (simp [*]; omega))
    · as_aux_lemma =>
        have hno : ¬ (1 ≤ x.f0 ∧ x.f0 ≤ 10) := by omega
        have E := Aside0.mk (own_no (u := u) hno)
        have e1 : (x.f0 == 1) = false := by rw [beq_eq_false_iff_ne]; omega
        have e2 : (x.f0 == 2) = false := by rw [beq_eq_false_iff_ne]; omega
        have e3 : (x.f0 == 3) = false := by rw [beq_eq_false_iff_ne]; omega
        have e4 : (x.f0 == 4) = false := by rw [beq_eq_false_iff_ne]; omega
        have e5 : (x.f0 == 5) = false := by rw [beq_eq_false_iff_ne]; omega
        have e6 : (x.f0 == 6) = false := by rw [beq_eq_false_iff_ne]; omega
        have e7 : (x.f0 == 7) = false := by rw [beq_eq_false_iff_ne]; omega
        have e8 : (x.f0 == 8) = false := by rw [beq_eq_false_iff_ne]; omega
        have e9 : (x.f0 == 9) = false := by rw [beq_eq_false_iff_ne]; omega
        have e10 : (x.f0 == 10) = false := by rw [beq_eq_false_iff_ne]; omega
        clear hno k12 k345 k6 k7 k10 k8 k9
        go_wp2_with fail
        all_goals go_ret
        all_goals exact ⟨by rw [E.out]; rfl, HB.out⟩
  case rest =>
    obtain ⟨ok, s2, s3, s4, n5, n6, i7, i8, n9, P5, d5, P6, d6, P9, d9, rfl, BKc, BRc, HEQ, HBc⟩ := hcut
    have f2 : wc.cell? ⟨w.heap.size, 2, none⟩ = some (.string x.f2) := (blk_cell BKc.out 2).trans rfl
    have r0 : wc.cell? ⟨R, 0, none⟩ = some (.int .i64 0) := (blk_cell BRc.out 0).trans rfl
    have r1 : wc.cell? ⟨R, 1, none⟩ = some (.int .i64 0) := (blk_cell BRc.out 1).trans rfl
    have r2 : wc.cell? ⟨R, 2, none⟩ = some (.string s2) := (blk_cell BRc.out 2).trans rfl
    have r3 : wc.cell? ⟨R, 3, none⟩ = some (.string s3) := (blk_cell BRc.out 3).trans rfl
    have r4 : wc.cell? ⟨R, 4, none⟩ = some (.string s4) := (blk_cell BRc.out 4).trans rfl
    have r5 : wc.cell? ⟨R, 5, none⟩ = some (.slice P5 n5 d5) := (blk_cell BRc.out 5).trans rfl
    have r6 : wc.cell? ⟨R, 6, none⟩ = some (.slice P6 n6 d6) := (blk_cell BRc.out 6).trans rfl
    have r7 : wc.cell? ⟨R, 7, none⟩ = some (.int .i64 i7) := (blk_cell BRc.out 7).trans rfl
    have r8 : wc.cell? ⟨R, 8, none⟩ = some (.int .i64 i8) := (blk_cell BRc.out 8).trans rfl
    have r9 : wc.cell? ⟨R, 9, none⟩ = some (.slice P9 n9 d9) := (blk_cell BRc.out 9).trans rfl
    go_wp2_with (first
      | (go_at_call 37; refine (HN.out wc).mono ?_; rintro e w2 ⟨rfl, hB2⟩; have HBd := Aside0.mk (below_then HBc.out HBc.out.size hB2); have brd := blk_below_ BRc.out hB2; clear HBc; clear r0 r1 r2 r3 r4 r5 r6 r7 r8 r9; have r0 : w2.cell? ⟨R, 0, none⟩ = some (.int .i64 0) := (blk_cell brd 0).trans rfl; have r1 : w2.cell? ⟨R, 1, none⟩ = some (.int .i64 0) := (blk_cell brd 1).trans rfl; have r2 : w2.cell? ⟨R, 2, none⟩ = some (.string s2) := (blk_cell brd 2).trans rfl; have r3 : w2.cell? ⟨R, 3, none⟩ = some (.string s3) := (blk_cell brd 3).trans rfl; have r4 : w2.cell? ⟨R, 4, none⟩ = some (.string s4) := (blk_cell brd 4).trans rfl; have r5 : w2.cell? ⟨R, 5, none⟩ = some (.slice P5 n5 d5) := (blk_cell brd 5).trans rfl; have r6 : w2.cell? ⟨R, 6, none⟩ = some (.slice P6 n6 d6) := (blk_cell brd 6).trans rfl; have r7 : w2.cell? ⟨R, 7, none⟩ = some (.int .i64 i7) := (blk_cell brd 7).trans rfl; have r8 : w2.cell? ⟨R, 8, none⟩ = some (.int .i64 i8) := (blk_cell brd 8).trans rfl; have r9 : w2.cell? ⟨R, 9, none⟩ = some (.slice P9 n9 d9) := (blk_cell brd 9).trans rfl; clear brd hB2)
      | (go_at_call 36; refine (empty_calls 0 0 s2 s3 s4 n5 n6 i7 i8 n9 P5 d5 P6 d6 P9 d9 _).mono ?_; rintro e w3 ⟨rfl, hB3⟩; have HBe := Aside0.mk (below_then HBd.out HBd.out.size hB3); clear HBd hB3; have HBd := HBe; clear HBe))
    all_goals go_ret
    all_goals refine ⟨?_, by first | exact HBd.out | exact HBc.out⟩
    all_goals rw [HEQ.out]
    all_goals (refine congrArg (fun b => Ending.returned (Value.bool b)) ?_; cases ok <;> cases nm <;> first | rfl | contradiction)
end Go.Proofs.YteppilognoigjaaDoor.LQ
