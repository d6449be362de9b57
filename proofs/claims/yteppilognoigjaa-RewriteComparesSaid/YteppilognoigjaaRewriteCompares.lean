/- RewriteCompares answers true for every two queries, and leaves them as they were; no condition. -/
import Derived.Test.YteppilognoigjaaRows
import Derived.Test.YteppilognoigjaaRL
import Derived.WalkKit
import Derived.ProofKit
import Derived.OpenShut
import Derived.ShutString
import Derived.ChangeOld
import Derived.Below
import Derived.SizedLaws
namespace Go.Proofs.Yteppilognoigjaa.rewriteCompares
open Go.ChangeShapes Go.WideShapes Go.ChangeAt Go.RowKit
open Go.Proofs.YteppilognoigjaaW.PrintWords Go.Proofs.Yteppilognoigjaa.PRewriteCompares Go.Proofs.Yteppilognoigjaa.LQ
set_option linter.unusedVariables false
theorem own : ownKnob Try.prog.godebug = none := by kernel_rfl
theorem laidOut : laidOutB Try.prog = true := by kernel_rfl
set_option maxRecDepth 100000 in
theorem lifted (os : Os) (started : os.Started) (H : Type) (enc : TypeId × Value → H) :
    ReturnsInHanded {} Try.checked os 3 .any (Rows.rewriteComparesSpec.pre6 enc Try.prog Try.f3 Rows.rewriteComparesRow.domain false) (Rows.rewriteComparesSpec.post enc Try.prog Try.f3 false true false false) := by
  refine returnsInHanded_of_change_sized (C := Try.checked) own started (by kernel_rfl) Try.func3
    (ChangeSpec.witness6 (enc := enc) (C := Try.checked) false ⟨#[], #[.agg #[.int .i64 0, .int .i64 0, .string ⟨#[]⟩, .string ⟨#[]⟩, .string ⟨#[]⟩, .slice none 0 0, .slice none 0 0, .int .i64 0, .int .i64 0, .slice none 0 0], .agg #[.int .i64 0, .int .i64 0, .string ⟨#[]⟩, .string ⟨#[]⟩, .string ⟨#[]⟩, .slice none 0 0, .slice none 0 0, .int .i64 0, .int .i64 0, .slice none 0 0]], []⟩ 8 (by kernel_rfl) (by kernel_rfl) (by kernel_rfl) (by kernel_rfl)) ?_
  intro W base args ds gs before hval0 hW hcnd hsz0 _
  have hsz : (DataW.weightsEach Try.prog (Try.f3.params.toList ++ Rows.rewriteComparesSpec.plain.varTypes Try.prog) (ds ++ gs)).all (· ≤ reachBytes) = true := hsz0
  have hval : ∀ (j : Nat) t v, Try.f3.params[j]? = some t → args[j]? = some v → Value.okWide Try.prog W .any base t v := hval0
  have hW' := hW
  obtain ⟨p, q, hA0, hV, rfl, hfz, hnd⟩ := hW
  have hA : DataW.TrodAll enc Try.prog W 0 (fun _ => true) true Try.f3.params.toList args.toList ds p := hA0
  rw [Try.params3] at hA hval hsz
  obtain ⟨v0, vs0, d0, ds0, p0, q0, hargs, rfl, rfl, h0, r0⟩ := trodAll_cons hA
  obtain ⟨v1, vs1, d1, ds1, p1, q1, rfl, rfl, rfl, h1, r1⟩ := trodAll_cons r0
  obtain ⟨rfl, rfl, rfl⟩ := trodAll_nil r1
  obtain rfl : args = #[v0, v1] := by cases args; simp_all
  obtain ⟨rfl, rfl⟩ := trodVars_none hV
  have k0 := h0
  have k1 := h1
  have lt0 : ∀ x ∈ p0, x.block < W.heap.size := by obtain ⟨m, hm⟩ := k0; exact DataW.trod_lt m _ _ _ hm
  have lt1 : ∀ x ∈ p1, x.block < W.heap.size := by obtain ⟨m, hm⟩ := k1; exact DataW.trod_lt m _ _ _ hm
  obtain ⟨cs0, e0, z0⟩ := okWide_struct Try.underlying25 (hval 0 25 v0 rfl rfl)
  obtain ⟨cs1, e1, z1⟩ := okWide_struct Try.underlying25 (hval 1 25 v1 rfl rfl)
  subst e0 e1
  obtain ⟨f0, hf0⟩ := h0
  obtain ⟨f1, hf1⟩ := h1
  have wt : ∀ (j : Nat) (t : TypeId) (d : DataW H), ([25, 25] ++ Rows.rewriteComparesSpec.plain.varTypes Try.prog)[j]? = some t → ([d0, d1] ++ [])[j]? = some d → ∀ n ∈ d.weights Try.prog t, n ≤ reachBytes := by
    intro j t d ht hd n hn
    have := List.all_eq_true.1 hsz _ (DataW.weights_mem_each ht hd n hn)
    simpa using this
  obtain ⟨x, kx, gx⟩ := opens_Q enc W f0 _ _ _ hf0 (wt 0 _ _ rfl rfl)
  obtain ⟨y, ky, gy⟩ := opens_Q enc W f1 _ _ _ hf1 (wt 1 _ _ rfl rfl)
  obtain ⟨A5, c5, A6, c6, A9, c9, ecs, l5, g5, l6, g6, l9, g9⟩ := k25_open kx
  obtain ⟨B5, d5, B6, d6, B9, d9, ecs', m5, h5, m6, h6, m9, h9⟩ := k25_open ky
  obtain ⟨cl0⟩ := cs0
  obtain ⟨cl1⟩ := cs1
  have ecs2 : cl0 = _ := ecs
  have ecs3 : cl1 = _ := ecs'
  subst ecs2 ecs3
  clear hA0 hval0 hsz0 hsz ecs ecs' z0 z1 wt
  refine (law_calls (max f0 f1) x y (gx.le (Nat.le_max_left _ _)) (gy.le (Nat.le_max_right _ _)) A5 c5 A6 c6 A9 c9 B5 d5 B6 d6 B9 d9 W l5 g5 l6 g6 l9 g9 m5 h5 m6 h6 m9 h9).mono fun e W' ⟨he, bel⟩ => ?_
  subst he
  exact ⟨_, rfl, _, _, _, [], _, [], hW', trodAll_mk1 (shut_bool Try.underlying4 _), (trodAll_cons_mk (Below.trod laidOut (by kernel_rfl) (of_decide_eq_true (by kernel_rfl)) k0 bel lt0) (trodAll_cons_mk (Below.trod laidOut (by kernel_rfl) (of_decide_eq_true (by kernel_rfl)) k1 bel lt1) trodAll_mk0)), rfl, bel.frame _, fun h => by cases h⟩
theorem over : Rows.rewriteComparesRow.holds Try.pinned (OpenSpec.ofChange Rows.rewriteComparesSpec) :=
  OpenClaim.holds_of_wide 3 Try.f3 rfl rfl rfl rfl rfl rfl rfl ⟨rfl, rfl, rfl, rfl, rfl⟩ rfl rfl rfl rfl rfl (by kernel_rfl) Try.func3 (by kernel_rfl)
    (of_decide_eq_true (by kernel_rfl)) (by unfold Func.isWrapper; first | (rw [if_pos (by decide +kernel)]; kernel_rfl) | (rw [if_neg (by decide +kernel)]; exact ⟨rfl, rfl⟩))
    (fun os started H enc _ => lifted os started H enc)
theorem proved : Rows.RewriteComparesSaid := over
#print axioms proved
end Go.Proofs.Yteppilognoigjaa.rewriteCompares
namespace Go.Proofs.Yteppilognoigjaa
/-- The row, under a short name, for the claim. -/
theorem rewriteCompares_holds : Rows.RewriteComparesSaid := rewriteCompares.proved
end Go.Proofs.Yteppilognoigjaa
