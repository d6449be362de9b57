/- A query that is handed in with marks behind its lists: its kind, what comes in as a query, and that such a one is a query. -/
import Derived.Test.YteppilognoigjaaDoorPQueryFormsx0
import Derived.Test.YteppilognoigjaaDoorQK
namespace Go.Proofs.YteppilognoigjaaDoor.LQ
open Go.RowKit Go.Proofs.YteppilognoigjaaDoorW.PrintWords Go.Proofs.YteppilognoigjaaDoorW.PrintLast Go.Proofs.YteppilognoigjaaDoorW.PrintMore Go.Proofs.YteppilognoigjaaDoor.PQueryForms Go.Proofs.YteppilognoigjaaDoor.QK
set_option linter.unusedVariables false
set_option linter.unusedSimpArgs false

def mcI : List Value := [.int .i64 (-7171)]
def mcQ : List Value := [.int .i64 (-71), .int .i64 0, .string ⟨#[]⟩, .string ⟨#[]⟩, .string ⟨#[]⟩, .slice none 0 0, .slice none 0 0, .int .i64 0, .int .i64 0, .slice none 0 0]
theorem oneI : ∀ u ∈ mcI, u.oneCell' = true := by
  intro u hu
  simp only [mcI, List.mem_singleton] at hu
  subst hu; rfl
theorem oneQ : ∀ u ∈ mcQ, u.oneCell' = true := by
  intro u hu
  simp only [mcQ, List.mem_cons, List.not_mem_nil, or_false] at hu
  rcases hu with rfl | rfl | rfl | rfl | rfl | rfl | rfl | rfl | rfl | rfl <;> rfl
abbrev kI : Kd (List Int) := lentK 2 (Kd.int .i64) mcI oneI
def FL (d : Kd S25) : Kd S25 := Kd.iso (Kd.pair (Kd.int .i64) (Kd.pair (Kd.int .i64) (Kd.pair Kd.string (Kd.pair Kd.string (Kd.pair Kd.string (Kd.pair kI (Kd.pair kI (Kd.pair (Kd.int .i64) (Kd.pair (Kd.int .i64) (lentK 25 d mcQ oneQ)))))))))) (fun x : S25 => (x.f0, x.f1, x.f2, x.f3, x.f4, x.f5, x.f6, x.f7, x.f8, x.f9))
theorem monoL : Kd.Mono FL := Kd.mono_iso _ (Kd.mono_pair (Kd.mono_const _) (Kd.mono_pair (Kd.mono_const _) (Kd.mono_pair (Kd.mono_const _) (Kd.mono_pair (Kd.mono_const _) (Kd.mono_pair (Kd.mono_const _) (Kd.mono_pair (Kd.mono_const _) (Kd.mono_pair (Kd.mono_const _) (Kd.mono_pair (Kd.mono_const _) (Kd.mono_pair (Kd.mono_const _) (mono_lent 25 mcQ oneQ Kd.mono_id))))))))))
theorem subL : Kd.Sub FL [2, 25] := Kd.sub_iso _ (Kd.sub_pair (Kd.sub_const _ (by decide)) (Kd.sub_pair (Kd.sub_const _ (by decide)) (Kd.sub_pair (Kd.sub_const _ (by decide)) (Kd.sub_pair (Kd.sub_const _ (by decide)) (Kd.sub_pair (Kd.sub_const _ (by decide)) (Kd.sub_pair (Kd.sub_const _ (by decide)) (Kd.sub_pair (Kd.sub_const _ (by decide)) (Kd.sub_pair (Kd.sub_const _ (by decide)) (Kd.sub_pair (Kd.sub_const _ (by decide)) (sub_lent 25 mcQ oneQ (by decide) Kd.sub_id))))))))))
theorem szL : ∀ n, (Kd.upto FL 10 [2, 25] n).sz = 10 := Kd.upto_sz (fun _ => rfl)
def kL : Kd S25 := Kd.fix FL 10 [2, 25] szL (Kd.upto_E subL)
/-- The kinds of the elements of a list of kids, or its mark; of numbers. -/
abbrev oQ : Kd (Option S25) := optK kL mcQ oneQ
abbrev oI : Kd (Option Int) := optK (Kd.int .i64) mcI oneI

theorem optC_fix {n : Nat} {w : World} {A : Option Addr} {m : Nat} {xs : List (Option S25)} (h : (optK (Kd.upto FL 10 [2, 25] n) mcQ oneQ).C w A m xs) : oQ.C w A m xs :=
  Kd.C_imp (d' := oQ) (szL n) (fun w x cs hp => (mono_opt mcQ oneQ Kd.mono_id).K _ kL (szL n) (fun _ _ _ hk => ⟨n, hk⟩) w x cs hp) h
theorem optR_fix {n : Nat} {e : Nat} {w : World} {base : Nat} {ok : Nat → Prop} {v : Value} {xs : List (Option S25)} (h : (optK (Kd.upto FL 10 [2, 25] n) mcQ oneQ).R e w base ok v xs) : oQ.R e w base ok v xs :=
  Kd.R_imp (d' := oQ) (szL n) (fun w base ok x cs hp => (mono_opt mcQ oneQ Kd.mono_id).M _ kL (szL n) (fun _ _ _ _ _ hk => ⟨n, hk⟩) w base ok x cs hp) h
theorem optK_back {w : World} {x : Option S25} {cs : List Value} (h : oQ.K w x cs) : ∃ n, (optK (Kd.upto FL 10 [2, 25] n) mcQ oneQ).K w x cs := by
  cases x with
  | none => exact ⟨0, h.1, h.2⟩
  | some y => obtain ⟨n, hn⟩ := h; exact ⟨n, hn⟩
theorem optM_back {w : World} {base : Nat} {ok : Nat → Prop} {x : Option S25} {cs : List Value} (h : oQ.M w base ok x cs) : ∃ n, (optK (Kd.upto FL 10 [2, 25] n) mcQ oneQ).M w base ok x cs := by
  cases x with
  | none => exact ⟨0, h.1, h.2⟩
  | some y => obtain ⟨n, hn⟩ := h; exact ⟨n, hn⟩
theorem optM_le {n m : Nat} (hnm : n ≤ m) {w : World} {base : Nat} {ok : Nat → Prop} {x : Option S25} {cs : List Value} (h : (optK (Kd.upto FL 10 [2, 25] n) mcQ oneQ).M w base ok x cs) : (optK (Kd.upto FL 10 [2, 25] m) mcQ oneQ).M w base ok x cs :=
  (mono_opt mcQ oneQ Kd.mono_id).M _ _ (by rw [szL n, szL m]) (fun _ _ _ _ _ hk => Kd.upto_M_le monoL szL hnm hk) w base ok x cs h
theorem optR_back {e : Nat} {w : World} {base : Nat} {ok : Nat → Prop} {v : Value} {xs : List (Option S25)} (h : oQ.R e w base ok v xs) : ∃ n, (optK (Kd.upto FL 10 [2, 25] n) mcQ oneQ).R e w base ok v xs := by
  obtain ⟨h0, inner, ho, hr⟩ := h
  obtain ⟨N, hN⟩ := Kd.reps_bounded (R := fun n p c => (optK (Kd.upto FL 10 [2, 25] n) mcQ oneQ).M w base (fun k => ok k ∧ some k ≠ v.ownBlock) p c) (fun n m p c hnm hp => optM_le hnm hp) (hr.imp_ (fun _ _ hp => optM_back hp))
  refine ⟨N, h0, inner, ?_, ?_⟩
  · show w.ownsRow base e (Kd.upto FL 10 [2, 25] N).sz v xs.length inner
    rw [szL N]; exact ho
  · show Reps _ (Kd.upto FL 10 [2, 25] N).sz xs inner
    rw [szL N]; exact hN

theorem kL_open {w : World} {x : S25} {cs : List Value} (h : kL.K w x cs) : ∃ A5 c5 A6 c6 A9 c9, cs = [.int .i64 x.f0, .int .i64 x.f1, .string x.f2, .string x.f3, .string x.f4, .slice A5 x.f5.length c5, .slice A6 x.f6.length c6, .int .i64 x.f7, .int .i64 x.f8, .slice A9 x.f9.length c9] ∧ x.f5.length + 1 ≤ c5 ∧ oI.C w A5 (x.f5.length + 1) (x.f5.map some ++ [none]) ∧ x.f6.length + 1 ≤ c6 ∧ oI.C w A6 (x.f6.length + 1) (x.f6.map some ++ [none]) ∧ x.f9.length + 1 ≤ c9 ∧ oQ.C w A9 (x.f9.length + 1) (x.f9.map some ++ [none]) := by
  obtain ⟨n, h⟩ := h
  cases n with
  | zero => exact h.elim
  | succ n =>
    obtain ⟨_, _, rfl, rfl, ⟨_, _, rfl, rfl, ⟨_, _, rfl, rfl, ⟨_, _, rfl, rfl, ⟨_, _, rfl, rfl, ⟨_, _, rfl, ⟨A5, c5, rfl, l5, g5⟩, ⟨_, _, rfl, ⟨A6, c6, rfl, l6, g6⟩, ⟨_, _, rfl, rfl, ⟨_, _, rfl, rfl, ⟨A9, c9, rfl, l9, g9⟩⟩⟩⟩⟩⟩⟩⟩⟩⟩ := h
    exact ⟨A5, c5, A6, c6, A9, c9, rfl, l5, g5, l6, g6, l9, optC_fix g9⟩
theorem kL_mkM (w : World) (base : Nat) (ok : Nat → Prop) (x : S25) {A5 : Option Addr} {c5 : Nat} (l5 : x.f5.length + 1 ≤ c5) (g5 : oI.R 2 w base ok (.slice A5 (x.f5.length + 1) c5) (x.f5.map some ++ [none])) {A6 : Option Addr} {c6 : Nat} (l6 : x.f6.length + 1 ≤ c6) (g6 : oI.R 2 w base ok (.slice A6 (x.f6.length + 1) c6) (x.f6.map some ++ [none])) {A9 : Option Addr} {c9 : Nat} (l9 : x.f9.length + 1 ≤ c9) (g9 : oQ.R 25 w base ok (.slice A9 (x.f9.length + 1) c9) (x.f9.map some ++ [none])) :
    kL.M w base ok x [.int .i64 x.f0, .int .i64 x.f1, .string x.f2, .string x.f3, .string x.f4, .slice A5 x.f5.length c5, .slice A6 x.f6.length c6, .int .i64 x.f7, .int .i64 x.f8, .slice A9 x.f9.length c9] := by
  obtain ⟨n9, q9⟩ := optR_back g9
  exact ⟨n9 + 1, ⟨[.int .i64 x.f0], _, rfl, rfl, ⟨[.int .i64 x.f1], _, rfl, rfl, ⟨[.string x.f2], _, rfl, rfl, ⟨[.string x.f3], _, rfl, rfl, ⟨[.string x.f4], _, rfl, rfl, ⟨[.slice A5 x.f5.length c5], _, rfl, ⟨A5, c5, rfl, l5, g5⟩, ⟨[.slice A6 x.f6.length c6], _, rfl, ⟨A6, c6, rfl, l6, g6⟩, ⟨[.int .i64 x.f7], _, rfl, rfl, ⟨[.int .i64 x.f8], _, rfl, rfl, ⟨A9, c9, rfl, l9, q9⟩⟩⟩⟩⟩⟩⟩⟩⟩⟩⟩
/-- A lent query is a query. -/
theorem k_of_L_upto : ∀ n w x cs, (Kd.upto FL 10 [2, 25] n).K w x cs → (Kd.upto F25 10 [2, 25] n).K w x cs
  | 0, _, _, _, h => h.elim
  | n + 1, w, x, cs, h => by
    obtain ⟨_, _, rfl, rfl, ⟨_, _, rfl, rfl, ⟨_, _, rfl, rfl, ⟨_, _, rfl, rfl, ⟨_, _, rfl, rfl, ⟨_, _, rfl, ⟨A5, c5, rfl, l5, g5⟩, ⟨_, _, rfl, ⟨A6, c6, rfl, l6, g6⟩, ⟨_, _, rfl, rfl, ⟨_, _, rfl, rfl, ⟨A9, c9, rfl, l9, g9⟩⟩⟩⟩⟩⟩⟩⟩⟩⟩ := h
    exact ⟨[.int .i64 x.f0], _, rfl, rfl, ⟨[.int .i64 x.f1], _, rfl, rfl, ⟨[.string x.f2], _, rfl, rfl, ⟨[.string x.f3], _, rfl, rfl, ⟨[.string x.f4], _, rfl, rfl, ⟨[.slice A5 x.f5.length c5], _, rfl, ⟨A5, c5, rfl, Nat.le_of_succ_le l5, C_init g5⟩, ⟨[.slice A6 x.f6.length c6], _, rfl, ⟨A6, c6, rfl, Nat.le_of_succ_le l6, C_init g6⟩, ⟨[.int .i64 x.f7], _, rfl, rfl, ⟨[.int .i64 x.f8], _, rfl, rfl, ⟨A9, c9, rfl, Nat.le_of_succ_le l9, Kd.C_imp (by rw [szL n, sz25 n]) (fun w x cs hp => k_of_L_upto n w x cs hp) (C_init g9)⟩⟩⟩⟩⟩⟩⟩⟩⟩⟩
theorem k_of_L {w : World} {x : S25} {cs : List Value} (h : kL.K w x cs) : k25.K w x cs := by
  obtain ⟨n, h⟩ := h
  exact ⟨n, k_of_L_upto n w x cs h⟩

/-! ### what comes in as a query -/
/-- Its numbers are of their kinds, its lists fit; nested at most n deep. -/
def Good : Nat → S25 → Prop
  | 0, _ => False
  | n + 1, x => (Lit.int .i64 x.f0).wf = true ∧ (Lit.int .i64 x.f1).wf = true ∧ x.f2.size ≤ 140737488351232 ∧ x.f3.size ≤ 140737488351232 ∧ x.f4.size ≤ 140737488351232 ∧
    (x.f5.length * 8 ≤ 140737488351232 ∧ ∀ a ∈ x.f5, (Lit.int .i64 a).wf = true) ∧ (x.f6.length * 8 ≤ 140737488351232 ∧ ∀ a ∈ x.f6, (Lit.int .i64 a).wf = true) ∧ (Lit.int .i64 x.f7).wf = true ∧ (Lit.int .i64 x.f8).wf = true ∧
    (x.f9.length * 152 ≤ 140737488351232 ∧ ∀ k ∈ x.f9, Good n k)
theorem Good.le : ∀ {n m : Nat} {x : S25}, n ≤ m → Good n x → Good m x
  | 0, _, _, _, h => h.elim
  | n + 1, 0, _, hm, _ => absurd hm (by omega)
  | n + 1, m + 1, x, hm, h => by
    obtain ⟨h0, h1, h2, h3, h4, h5, h6, h7, h8, h9, hk⟩ := h
    exact ⟨h0, h1, h2, h3, h4, h5, h6, h7, h8, h9, fun k hm' => Good.le (by omega) (hk k hm')⟩
theorem list10 {cs : List Value} (h : cs.length = 10) : ∃ a b c d e f g i j k, cs = [a, b, c, d, e, f, g, i, j, k] := by
  match cs, h with
  | [a, b, c, d, e, f, g, i, j, k], _ => exact ⟨a, b, c, d, e, f, g, i, j, k, rfl⟩
section
variable {H : Type} (enc : TypeId × Value → H)
set_option maxRecDepth 100000 in
theorem opens_Q (w : World) : ∀ fuel, Opens enc Tryd.prog w 25 fuel k25 (fun x => Good fuel x) := by
  intro fuel
  induction fuel using Nat.strongRecOn with
  | _ fuel ih =>
  intro cs x ps h hw
  obtain ⟨xs, n, rfl, hx, hcl, hxl, hf⟩ := DataW.trod_struct Tryd.underlying25 h
  simp only [Prod.mk.injEq] at hx
  obtain ⟨rfl, _⟩ := hx
  have hcl' : cs.length = 10 := hcl.trans (by kernel_rfl)
  have hxl' : xs.length = 10 := hxl
  obtain ⟨a0, a1, a2, a3, a4, a5, a6, a7, a8, a9, rfl⟩ := list10 hcl'
  have fld : ∀ (i : Nat) (t : TypeId) (v : Value), i < 10 → (DataW.trod enc Tryd.prog w 0 (fun _ => true) true n t [v] = xs[i]?) →
      ([3, 3, 9, 9, 9, 22, 22, 2, 3, 23] : List TypeId)[i]? = some t → ∃ y qs, DataW.trod enc Tryd.prog w 0 (fun _ => true) true n t [v] = some (y, qs) ∧ ∀ q ∈ y.weights Tryd.prog t, q ≤ reachBytes := by
    intro i t v hi htr ht
    have h2 : xs[i]? = some (xs[i]'(by omega)) := List.getElem?_eq_getElem (by omega)
    refine ⟨(xs[i]'(by omega)).1, (xs[i]'(by omega)).2, htr.trans h2, fun q hq => hw q ?_⟩
    rw [DataW.weights, Tryd.underlying25]
    refine DataW.weights_mem_each (j := i) (t := t) ht (d := (xs[i]'(by omega)).1) ?_ q hq
    rw [List.getElem?_map, h2]
    rfl
  obtain ⟨y0, q0, t0, w0⟩ := fld 0 3 a0 (by decide) (hf 0 _ rfl) rfl
  obtain ⟨y1, q1, t1, w1⟩ := fld 1 3 a1 (by decide) (hf 1 _ rfl) rfl
  obtain ⟨y2, q2, t2, w2⟩ := fld 2 9 a2 (by decide) (hf 2 _ rfl) rfl
  obtain ⟨y3, q3, t3, w3⟩ := fld 3 9 a3 (by decide) (hf 3 _ rfl) rfl
  obtain ⟨y4, q4, t4, w4⟩ := fld 4 9 a4 (by decide) (hf 4 _ rfl) rfl
  obtain ⟨y5, q5, t5, w5⟩ := fld 5 22 a5 (by decide) (hf 5 _ rfl) rfl
  obtain ⟨y6, q6, t6, w6⟩ := fld 6 22 a6 (by decide) (hf 6 _ rfl) rfl
  obtain ⟨y7, q7, t7, w7⟩ := fld 7 2 a7 (by decide) (hf 7 _ rfl) rfl
  obtain ⟨y8, q8, t8, w8⟩ := fld 8 3 a8 (by decide) (hf 8 _ rfl) rfl
  obtain ⟨y9, q9, t9, w9⟩ := fld 9 23 a9 (by decide) (hf 9 _ rfl) rfl
  clear hf fld
  obtain ⟨x0, k0, g0⟩ := opens_int enc Tryd.prog w 3 n Tryd.underlying3 _ _ _ t0 w0
  obtain ⟨x1, k1, g1⟩ := opens_int enc Tryd.prog w 3 n Tryd.underlying3 _ _ _ t1 w1
  obtain ⟨x2, k2, g2⟩ := opens_string enc Tryd.prog w 9 n Tryd.underlying9 _ _ _ t2 w2
  obtain ⟨x3, k3, g3⟩ := opens_string enc Tryd.prog w 9 n Tryd.underlying9 _ _ _ t3 w3
  obtain ⟨x4, k4, g4⟩ := opens_string enc Tryd.prog w 9 n Tryd.underlying9 _ _ _ t4 w4
  have oi := fun f (_ : f < n) => opens_int enc Tryd.prog w 2 f Tryd.underlying2
  obtain ⟨x5, k5, g5⟩ := opens_slice enc Tryd.prog w 22 2 n Tryd.underlying22 (B := 8) (by kernel_rfl) (by kernel_rfl) oi _ _ _ t5 w5
  obtain ⟨x6, k6, g6⟩ := opens_slice enc Tryd.prog w 22 2 n Tryd.underlying22 (B := 8) (by kernel_rfl) (by kernel_rfl) oi _ _ _ t6 w6
  obtain ⟨x7, k7, g7⟩ := opens_int enc Tryd.prog w 2 n Tryd.underlying2 _ _ _ t7 w7
  obtain ⟨x8, k8, g8⟩ := opens_int enc Tryd.prog w 3 n Tryd.underlying3 _ _ _ t8 w8
  have oq : ∀ f, f < n → Opens enc Tryd.prog w 25 f k25 (fun x => Good n x) := by
    intro f hf cs x ps h hw
    obtain ⟨a, ha, hg⟩ := ih f (by omega) cs x ps h hw
    exact ⟨a, ha, hg.le (by omega)⟩
  obtain ⟨x9, k9, g9⟩ := opens_slice enc Tryd.prog w 23 25 n Tryd.underlying23 (B := 152) (by kernel_rfl) (by kernel_rfl) oq _ _ _ t9 w9
  obtain ⟨A5, c5, e5, l5, r5⟩ := k5
  obtain ⟨A6, c6, e6, l6, r6⟩ := k6
  obtain ⟨A9, c9, e9, l9, r9⟩ := k9
  have k0' : [a0] = [Value.int .i64 x0] := k0
  have k1' : [a1] = [Value.int .i64 x1] := k1
  have k2' : [a2] = [Value.string x2] := k2
  have k3' : [a3] = [Value.string x3] := k3
  have k4' : [a4] = [Value.string x4] := k4
  have k7' : [a7] = [Value.int .i64 x7] := k7
  have k8' : [a8] = [Value.int .i64 x8] := k8
  simp only [List.cons.injEq, and_true] at k0' k1' k2' k3' k4' k7' k8' e5 e6 e9
  subst k0' k1' k2' k3' k4' k7' k8' e5 e6 e9
  exact ⟨⟨x0, x1, x2, x3, x4, x5, x6, x7, x8, x9⟩, k25_mk w ⟨x0, x1, x2, x3, x4, x5, x6, x7, x8, x9⟩ l5 r5 l6 r6 l9 r9, g0, g1, g2, g3, g4, g5, g6, g7, g8, g9⟩
end
end Go.Proofs.YteppilognoigjaaDoor.LQ
