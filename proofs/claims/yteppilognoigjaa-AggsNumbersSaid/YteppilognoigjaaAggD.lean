import Derived.Test.YteppilognoigjaaAggC
namespace Go.Proofs.Yteppilognoigjaa.AggA
open Go.RowKit Go.Proofs.YteppilognoigjaaW.PrintWords Go.Proofs.YteppilognoigjaaW.PrintLast Go.Proofs.YteppilognoigjaaW.PrintMore Go.Proofs.Yteppilognoigjaa.PAggsNumbers
attribute [local go_sem] max2_int min2_int max_two min_two max_three min_three max_four min_four
set_option linter.unusedVariables false
set_option linter.unusedSimpArgs false

theorem floor_some (v s : Int) : ∃ r, aggs_Floor.f v s = some r ∧ lecternref23_Floor.f v s = some r := by
  unfold aggs_Floor.f lecternref23_Floor.f
  by_cases h : s < 1
  · exact ⟨0, by rw [if_pos h], by rw [if_pos h]⟩
  · rw [if_neg h, if_neg (by omega)]
    split <;> exact ⟨_, rfl, rfl⟩

set_option maxHeartbeats 8000000 in
set_option maxRecDepth 100000 in
theorem law_calls (A0 : Option Addr) (c0 : Nat) (l : List Int) (v s : Int) (w : World) (hr0 : Kd.C (Kd.int .i64) w A0 l.length l) (hc0 : l.length ≤ c0) (hn : l.length < 17592186044415) (hb : InR l) :
    Calls Try.prog 4 #[.slice A0 l.length c0, .int .i64 v, .int .i64 s] w fun e w' => e = .returned (.bool true) ∧ Below w.heap.size w w' := by
  obtain ⟨k, hk⟩ := ref_sum l hb hn
  have hs : ∀ A c w, Kd.C (Kd.int .i64) w A l.length l → Calls Try.prog 10 #[.slice A l.length c] w (SumIs (tells (acc l)) w) := fun A c w h => sum_calls A c l w h
  generalize tells (acc l) = p at hk hs
  obtain ⟨p1, p2⟩ := p
  obtain ⟨r, f1, f2⟩ := floor_some v s
  have HS := Aside0.mk hs
  have HK := Aside0.mk hk
  have HF1 := Aside0.mk f1
  have HF2 := Aside0.mk f2
  have HR0 := Aside0.mk hr0
  have HC0 := Aside0.mk hc0
  have HN := Aside0.mk hn
  clear hs hk f1 f2 hr0 hc0 hn hb
  go_enter Try.func4, Try.ntmps4
  go_wp2_with fail
  refine (lent_calls A0 c0 l w HR0.out (by have := HN.out; omega)).mono ?_
  rintro e w1 ⟨A, c, rfl, hle0, hR0, hB0⟩
  have HLE := Aside0.mk hle0
  have HB1 := Aside0.mk hB0
  obtain ⟨A', c', he, _, hRC⟩ := Kd.R_reads hR0
  have hRC' : Kd.C (Kd.int .i64) w1 A (l.length + 1) (l ++ [-7171]) := by
    injection he with h1 h2 h3
    subst h1
    simpa using hRC
  clear he hRC hR0 hle0 hB0
  have HRC := Aside0.mk hRC'
  clear hRC'
  go_wp2_with fail
  refine (HS.out A c _ (C_init HRC.out)).mono ?_
  rintro e w' ⟨rfl, rfl⟩
  go_wp2_with fail
  refine (lecternref23_Sum.calls k A0 c0 l p1 p2 _ (Kd.C_below HR0.out HB1.out) HC0.out HK.out).mono ?_
  rintro e w2 ⟨rfl, hB2⟩
  have HB2 := Aside0.mk hB2
  clear hB2
  go_wp2_with fail
  refine (kept_calls A c l A0 c0 _ (Kd.C_below HRC.out HB2.out) HLE.out (Kd.C_below (Kd.C_below HR0.out HB1.out) HB2.out) HC0.out).mono ?_
  rintro e w3 ⟨rfl, ⟨n1, rfl⟩⟩
  go_wp2_with fail
  refine (aggs_Floor.calls v s r _ HF1.out).mono ?_
  rintro e w4 ⟨rfl, ⟨n2, rfl⟩⟩
  go_wp2_with fail
  refine (lecternref23_Floor.calls v s r _ HF2.out).mono ?_
  rintro e w5 ⟨rfl, ⟨n3, rfl⟩⟩
  go_wp2_with fail
  go_ret
  exact ⟨by simp, pw_below_drewN (below_then HB1.out HB1.out.size HB2.out) _⟩
end Go.Proofs.Yteppilognoigjaa.AggA
