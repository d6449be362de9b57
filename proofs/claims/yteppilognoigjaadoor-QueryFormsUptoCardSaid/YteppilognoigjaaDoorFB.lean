/- The walk of the reference's Own. -/
import Derived.Test.YteppilognoigjaaDoorFA
import Derived.StillTailTactics
namespace Go.Proofs.YteppilognoigjaaDoor.LQ
open Go.RowKit Go.Proofs.YteppilognoigjaaDoorW.PrintWords Go.Proofs.YteppilognoigjaaDoorW.PrintLast Go.Proofs.YteppilognoigjaaDoorW.PrintMore Go.Proofs.YteppilognoigjaaDoor.PQueryForms Go.Proofs.YteppilognoigjaaDoor.QK
set_option linter.unusedVariables false
set_option linter.unusedSimpArgs false

/-- The cells of a query. -/
abbrev qA (x : S25) (A5 : Option Addr) (c5 : Nat) (A6 : Option Addr) (c6 : Nat) (A9 : Option Addr) (c9 : Nat) : Array Value := #[.int .i64 x.f0, .int .i64 x.f1, .string x.f2, .string x.f3, .string x.f4, .slice A5 x.f5.length c5, .slice A6 x.f6.length c6, .int .i64 x.f7, .int .i64 x.f8, .slice A9 x.f9.length c9]
theorem name_calls (s : ByteArray) (hs : s.size ≤ 9223372036854775807) (w : World) : Calls Tryd.prog 72 #[.string s] w fun e w' => e = .returned (.bool (nameS s)) ∧ Drawn0 w w' :=
  lecternref08_Name.calls (s.size + 1) s _ w (name_f s hs _ (Nat.le_refl _))

set_option maxHeartbeats 8000000 in
set_option maxRecDepth 100000 in
theorem ownR_calls (x : S25) (A5 : Option Addr) (c5 : Nat) (A6 : Option Addr) (c6 : Nat) (A9 : Option Addr) (c9 : Nat) (u : Int) (w : World) (hs : x.f2.size ≤ 9223372036854775807) :
    Calls Tryd.prog 39 #[.agg #[.int .i64 x.f0, .int .i64 x.f1, .string x.f2, .string x.f3, .string x.f4, .slice A5 x.f5.length c5, .slice A6 x.f6.length c6, .int .i64 x.f7, .int .i64 x.f8, .slice A9 x.f9.length c9], .int .i64 u] w fun e w' => e = .returned (.bool (ownS x u)) ∧ Below w.heap.size w w' := by
  have hu25 := Tryd.underlying25
  have HN := Aside0.mk (name_calls x.f2 hs)
  obtain ⟨wd, hwd⟩ : ∃ b : Bool, b = wordsS x.f0 := ⟨_, rfl⟩
  obtain ⟨fd, hfd⟩ : ∃ b : Bool, b = fieldS x.f0 := ⟨_, rfl⟩
  obtain ⟨nm, hnm⟩ : ∃ b : Bool, b = nameS x.f2 := ⟨_, rfl⟩
  rw [← hnm] at HN
  have HW := Aside0.mk hwd
  have HF := Aside0.mk hfd
  have HM := Aside0.mk hnm
  clear hs hwd hfd hnm
  go_enter Tryd.func39, Tryd.ntmps39
  have hb0 : Below w.heap.size w (w.alloc (.cells #[.int .i64 x.f0, .int .i64 x.f1, .string x.f2, .string x.f3, .string x.f4, .slice A5 x.f5.length c5, .slice A6 x.f6.length c6, .int .i64 x.f7, .int .i64 x.f8, .slice A9 x.f9.length c9] 25)) := below_alloc (Below.refl _ _) _
  have hk0 : (w.alloc (.cells #[.int .i64 x.f0, .int .i64 x.f1, .string x.f2, .string x.f3, .string x.f4, .slice A5 x.f5.length c5, .slice A6 x.f6.length c6, .int .i64 x.f7, .int .i64 x.f8, .slice A9 x.f9.length c9] 25)).heap[w.heap.size]? = some (.cells #[.int .i64 x.f0, .int .i64 x.f1, .string x.f2, .string x.f3, .string x.f4, .slice A5 x.f5.length c5, .slice A6 x.f6.length c6, .int .i64 x.f7, .int .i64 x.f8, .slice A9 x.f9.length c9] 25 (0, 0)) := blk_new _ _
  go_upto_region 1 with (fail)
  generalize w.alloc (.cells #[.int .i64 x.f0, .int .i64 x.f1, .string x.f2, .string x.f3, .string x.f4, .slice A5 x.f5.length c5, .slice A6 x.f6.length c6, .int .i64 x.f7, .int .i64 x.f8, .slice A9 x.f9.length c9] 25) = W0 at *
  have f0 : W0.cell? ⟨w.heap.size, 0, none⟩ = some (.int .i64 x.f0) := (blk_cell hk0 0).trans rfl
  have f1 : W0.cell? ⟨w.heap.size, 1, none⟩ = some (.int .i64 x.f1) := (blk_cell hk0 1).trans rfl
  have f2 : W0.cell? ⟨w.heap.size, 2, none⟩ = some (.string x.f2) := (blk_cell hk0 2).trans rfl
  have f3 : W0.cell? ⟨w.heap.size, 3, none⟩ = some (.string x.f3) := (blk_cell hk0 3).trans rfl
  have f4 : W0.cell? ⟨w.heap.size, 4, none⟩ = some (.string x.f4) := (blk_cell hk0 4).trans rfl
  have f5 : W0.cell? ⟨w.heap.size, 5, none⟩ = some (.slice A5 x.f5.length c5) := (blk_cell hk0 5).trans rfl
  have f6 : W0.cell? ⟨w.heap.size, 6, none⟩ = some (.slice A6 x.f6.length c6) := (blk_cell hk0 6).trans rfl
  have f7 : W0.cell? ⟨w.heap.size, 7, none⟩ = some (.int .i64 x.f7) := (blk_cell hk0 7).trans rfl
  have f8 : W0.cell? ⟨w.heap.size, 8, none⟩ = some (.int .i64 x.f8) := (blk_cell hk0 8).trans rfl
  have f9 : W0.cell? ⟨w.heap.size, 9, none⟩ = some (.slice A9 x.f9.length c9) := (blk_cell hk0 9).trans rfl
  have HB := Aside0.mk hb0
  clear hb0 hk0
  go_cut [0, 1, 28] (fun v0 v1 v28 wc => v1 = .int .i64 u ∧ v28 = .bool (!occS x u) ∧ W0 = wc)
  case first =>
    as_aux_lemma =>
      go_wp2_with fail
      all_goals go_meet
      all_goals refine ⟨?_, ?_, rfl⟩
      all_goals first | rfl | (simp [*]; done) | (refine congrArg Value.bool ?_; first | (simp [occS, bne, *]; done) | (simp [occS, bne, *]; omega) | (rw [Bool.eq_iff_iff]; simp [occS, bne, *]; omega))
  case rest =>
  obtain ⟨rfl, rfl, rfl⟩ := hcut
  cases hocc : occS x u
  · go_wp2_with fail
    go_ret
    exact ⟨by simp [ownS, hocc], HB.out⟩
  go_upto_region 4 with fail
  go_cut [5, 36] (fun v5 v36 wc => v5 = .int .i64 x.f0 ∧ v36 = .bool (!kindS x) ∧ W0 = wc)
  case first =>
    as_aux_lemma =>
      go_wp2_with fail
      all_goals go_meet
      all_goals refine ⟨?_, ?_, rfl⟩
      all_goals first | rfl | (simp [*]; done) | (refine congrArg Value.bool ?_; first | (simp [kindS, bne, *]; done) | (simp [kindS, bne, *]; omega) | (rw [Bool.eq_iff_iff]; simp [kindS, bne, *]; omega))
  case rest =>
  obtain ⟨rfl, rfl, rfl⟩ := hcut
  cases hkind : kindS x
  · go_wp2_with fail
    go_ret
    exact ⟨by simp [ownS, hkind], HB.out⟩
  go_upto_region 6 with fail
  go_cut [5, 6] (fun v5 v6 wc => v5 = .int .i64 x.f0 ∧ v6 = .bool wd ∧ W0 = wc)
  case first =>
    as_aux_lemma =>
      go_wp2_with fail
      all_goals go_meet
      all_goals refine ⟨?_, ?_, rfl⟩
      all_goals first | rfl | (simp [*]; done) | (rw [HW.out]; refine congrArg Value.bool ?_; first | (simp [wordsS, bne, *]; done) | (rw [Bool.eq_iff_iff]; simp [wordsS, bne, *]; omega))
  case rest =>
  obtain ⟨rfl, rfl, rfl⟩ := hcut
  go_upto_region 7 with fail
  go_cut [5, 6, 7] (fun v5 v6 v7 wc => v5 = .int .i64 x.f0 ∧ v6 = .bool wd ∧ v7 = .bool fd ∧ W0 = wc)
  case first =>
    as_aux_lemma =>
      have hf : fd = (wd || x.f0 == 7 || x.f0 == 10) := by rw [HF.out, HW.out]; rfl
      have HF' := Aside0.mk hf
      clear hf
      go_wp2_with fail
      all_goals go_meet
      all_goals refine ⟨?_, ?_, ?_, rfl⟩
      all_goals first | rfl | (simp [*]; done) | (rw [HF'.out]; refine congrArg Value.bool ?_; first | (simp [bne, *]; done) | (rw [Bool.eq_iff_iff]; simp [bne, *]; omega))
  case rest =>
  obtain ⟨rfl, rfl, rfl, rfl⟩ := hcut
  go_upto_region 8 with fail
  go_cut [5, 6, 7, 73] (fun v5 v6 v7 v73 wc => v5 = .int .i64 x.f0 ∧ v6 = .bool wd ∧ v7 = .bool fd ∧ v73 = .bool (!((fd == nm) && (fd || noS x.f2))) ∧ ∃ n, W0.drewN n = wc)
  case first =>
    as_aux_lemma =>
      go_wp2_with (go_at_call 72; refine (HN.out _).mono ?_; rintro e w' ⟨rfl, ⟨nd, rfl⟩⟩)
      all_goals go_meet
      all_goals refine ⟨?_, ?_, ?_, ?_, ⟨_, rfl⟩⟩
      all_goals first | rfl | (simp [*]; done) | (rename_i h1 h2; subst h1; simp only [Bool.not_eq_true] at h2; subst h2; simp [noS]) 
  case rest =>
  obtain ⟨rfl, rfl, rfl, rfl, n1, rfl⟩ := hcut
  have hname0 : nameOK x = ((fd == nm) && (fd || noS x.f2)) := by rw [HF.out, HM.out]; rfl
  rw [← hname0]
  cases hname : nameOK x
  · go_wp2_with fail
    go_ret
    exact ⟨by simp [ownS, hname], pw_below_drewN HB.out _⟩
  go_upto_region 10 with fail
  go_cut [5, 6, 89] (fun v5 v6 v89 wc => v5 = .int .i64 x.f0 ∧ v6 = .bool wd ∧ v89 = .bool (!((wd || noS x.f3) && (x.f0 == 6 || noS x.f4))) ∧ W0.drewN n1 = wc)
  case first =>
    as_aux_lemma =>
      go_wp2_with fail
      all_goals go_meet
      all_goals refine ⟨?_, ?_, ?_, rfl⟩
      all_goals first | rfl | (simp [*]; done) | (refine congrArg Value.bool ?_; first | (simp [noS, bne, *]; done) | (rw [Bool.eq_iff_iff]; simp [noS, bne, *]; done) )
  case rest =>
  obtain ⟨rfl, rfl, rfl, rfl⟩ := hcut
  have htext0 : textsS x = ((wd || noS x.f3) && (x.f0 == 6 || noS x.f4)) := by rw [HW.out]; rfl
  rw [← htext0]
  cases htext : textsS x
  · go_wp2_with fail
    go_ret
    exact ⟨by simp [ownS, htext], pw_below_drewN HB.out _⟩
  go_upto_block 0 with fail
  go_cut [5, 90] (fun v5 v90 wc => v5 = .int .i64 x.f0 ∧ listsS x = true ∧ W0.drewN n1 = wc)
  case first =>
    as_aux_lemma =>
      go_wp2_with fail
      all_goals first
        | (go_meet; refine ⟨?_, ?_, rfl⟩ <;> first | rfl | (simp [*]; done) | (simp [listsS, *]; done) | (simp [listsS, *]; omega) | (simp only [beq_iff_eq, beq_eq_false_iff_ne, bne_eq_false_iff_eq, bne_iff_ne, ne_eq] at *; (try simp only [← List.length_eq_zero_iff] at *); unfold listsS; (repeat' split) <;> (simp only [Bool.and_eq_false_iff, Bool.and_eq_true, decide_eq_false_iff_not, decide_eq_true_eq, beq_eq_false_iff_ne, beq_iff_eq, ne_eq]; omega)) )
        | (go_ret; refine ⟨?_, pw_below_drewN HB.out _⟩; have hl : listsS x = false := (by first | (simp [listsS, *]; done) | (simp only [beq_iff_eq, beq_eq_false_iff_ne, bne_eq_false_iff_eq, bne_iff_ne, ne_eq] at *; (try simp only [← List.length_eq_zero_iff] at *); unfold listsS; (repeat' split) <;> (simp only [Bool.and_eq_false_iff, Bool.and_eq_true, decide_eq_false_iff_not, decide_eq_true_eq, beq_eq_false_iff_ne, beq_iff_eq, ne_eq]; omega)) ); simp [ownS, hl])
  case rest =>
  obtain ⟨rfl, hlists, rfl⟩ := hcut
  go_upto_region 21 with fail
  go_cut [5, 150] (fun v5 v150 wc => v5 = .int .i64 x.f0 ∧ v150 = .bool (!boostS x) ∧ W0.drewN n1 = wc)
  case first =>
    as_aux_lemma =>
      go_wp2_with fail
      all_goals go_meet
      all_goals refine ⟨?_, ?_, rfl⟩
      all_goals first | rfl | (simp [*]; done) | (refine congrArg Value.bool ?_; first | (simp [boostS, bne, *]; done) | (simp [boostS, bne, *]; omega) | (rw [Bool.eq_iff_iff]; simp [boostS, bne, *]; omega))
  case rest =>
  obtain ⟨rfl, rfl, rfl⟩ := hcut
  cases hboost : boostS x
  · go_wp2_with fail
    go_ret
    exact ⟨by simp [ownS, hboost], pw_below_drewN HB.out _⟩
  go_upto_region 23 with fail
  go_cut [5, 171] (fun v5 v171 wc => v5 = .int .i64 x.f0 ∧ v171 = .bool (!opS x) ∧ W0.drewN n1 = wc)
  case first =>
    as_aux_lemma =>
      go_wp2_with fail
      all_goals go_meet
      all_goals refine ⟨?_, ?_, rfl⟩
      all_goals first | rfl | (simp [*]; done) | (refine congrArg Value.bool ?_; first | (simp [opS, bne, *]; done) | (simp [opS, bne, *]; omega) | (rw [Bool.eq_iff_iff]; simp [opS, bne, *]; omega))
  case rest =>
  obtain ⟨rfl, rfl, rfl⟩ := hcut
  cases hop : opS x
  · go_wp2_with fail
    go_ret
    exact ⟨by simp [ownS, hop], pw_below_drewN HB.out _⟩
  have e : ownS x u = kidsS x := by simp [ownS, hocc, hkind, hname, htext, hlists, hboost, hop]
  have HE := Aside0.mk e
  clear e
  go_wp2_with fail
  all_goals go_ret
  all_goals refine ⟨?_, pw_below_drewN HB.out _⟩
  all_goals rw [HE.out]
  all_goals first | rfl | (simp [kidsS, *]; done) | (refine congrArg (fun b => Ending.returned (Value.bool b)) ?_; rw [Bool.eq_iff_iff]; simp only [beq_iff_eq, beq_eq_false_iff_ne, bne_iff_ne, ne_eq] at *; unfold kidsS; (repeat' split) <;> (simp only [Bool.or_eq_true, beq_iff_eq, decide_eq_true_eq, true_iff, iff_true, Bool.false_eq_true, false_iff]; omega))
end Go.Proofs.YteppilognoigjaaDoor.LQ
