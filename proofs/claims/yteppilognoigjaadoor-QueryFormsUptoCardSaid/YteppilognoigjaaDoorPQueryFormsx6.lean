-- PRINTED BY print.sh 35421559b90ae4d0a3588c463048766b98c2df88dd9212a6774a882060cdf62d: not written by this session
import Derived.Test.YteppilognoigjaaDoorPQueryFormsx0
import Derived.Test.YteppilognoigjaaDoorPQueryFormsx5
namespace Go.Proofs.YteppilognoigjaaDoor.PQueryForms
open Go.RowKit Go.Proofs.YteppilognoigjaaDoorW.PrintWords Go.Proofs.YteppilognoigjaaDoorW.PrintLast Go.Proofs.YteppilognoigjaaDoorW.PrintMore
attribute [local go_sem] max2_int min2_int max_two min_two max_three min_three max_four min_four   -- for this text's walks alone
set_option linter.unusedVariables false
set_option linter.unusedSimpArgs false

/-! ### lecternkit_Query: function 18 -/
mutual
def lecternkit_Query.j0 : Nat → Bool → Int → Int → ByteArray → ByteArray → ByteArray → List Int → List Int → Int → Int → List (S25) → Int → Int → ByteArray → ByteArray → ByteArray → List Int → List Int → Int → Int → List (S25) → Option (Bool)
  | 0, _, _, _, _, _, _, _, _, _, _, _, _, _, _, _, _, _, _, _, _, _ => none
  | k + 1, x77, x230000, x230001, x230002, x230003, x230004, x230005, x230006, x230007, x230008, x230009, x231000, x231001, x231002, x231003, x231004, x231005, x231006, x231007, x231008, x231009 => if x77 = true then (some false) else (lecternkit_Query.l0 k 0 x230000 x230001 x230002 x230003 x230004 x230005 x230006 x230007 x230008 x230009 x231000 x231001 x231002 x231003 x231004 x231005 x231006 x231007 x231008 x231009)
def lecternkit_Query.l0 : Nat → Int → Int → Int → ByteArray → ByteArray → ByteArray → List Int → List Int → Int → Int → List (S25) → Int → Int → ByteArray → ByteArray → ByteArray → List Int → List Int → Int → Int → List (S25) → Option (Bool)
  | 0, _, _, _, _, _, _, _, _, _, _, _, _, _, _, _, _, _, _, _, _, _ => none
  | k + 1, x5, x230000, x230001, x230002, x230003, x230004, x230005, x230006, x230007, x230008, x230009, x231000, x231001, x231002, x231003, x231004, x231005, x231006, x231007, x231008, x231009 => if x5 < (x230009.length : Int) then (if 0 ≤ x5 then (if x5 < (x231009.length : Int) then ((lecternkit_Query.f k ((rd_T25 x230009 x5).f0) ((rd_T25 x230009 x5).f1) ((rd_T25 x230009 x5).f2) ((rd_T25 x230009 x5).f3) ((rd_T25 x230009 x5).f4) ((rd_T25 x230009 x5).f5) ((rd_T25 x230009 x5).f6) ((rd_T25 x230009 x5).f7) ((rd_T25 x230009 x5).f8) ((rd_T25 x230009 x5).f9) ((rd_T25 x231009 x5).f0) ((rd_T25 x231009 x5).f1) ((rd_T25 x231009 x5).f2) ((rd_T25 x231009 x5).f3) ((rd_T25 x231009 x5).f4) ((rd_T25 x231009 x5).f5) ((rd_T25 x231009 x5).f6) ((rd_T25 x231009 x5).f7) ((rd_T25 x231009 x5).f8) ((rd_T25 x231009 x5).f9)).bind fun t235 => (if t235 = true then (lecternkit_Query.l0 k (wrap64 (x5 + 1)) x230000 x230001 x230002 x230003 x230004 x230005 x230006 x230007 x230008 x230009 x231000 x231001 x231002 x231003 x231004 x231005 x231006 x231007 x231008 x231009) else (some false))) else (none)) else (none)) else (some true)
def lecternkit_Query.f : Nat → Int → Int → ByteArray → ByteArray → ByteArray → List Int → List Int → Int → Int → List (S25) → Int → Int → ByteArray → ByteArray → ByteArray → List Int → List Int → Int → Int → List (S25) → Option (Bool)
  | 0, _, _, _, _, _, _, _, _, _, _, _, _, _, _, _, _, _, _, _, _ => none
  | k + 1, a0_0, a0_1, a0_2, a0_3, a0_4, l0_5, l0_6, a0_7, a0_8, l0_9, a1_0, a1_1, a1_2, a1_3, a1_4, l1_5, l1_6, a1_7, a1_8, l1_9 => if a0_0 = a1_0 then (if a0_1 = a1_1 then (if a0_2.toList = a1_2.toList then (if a0_3.toList = a1_3.toList then (if a0_4.toList = a1_4.toList then ((lecternkit_Int64s.f k l0_5 l1_5).bind fun t231 => (if t231 = true then ((lecternkit_Int64s.f k l0_6 l1_6).bind fun t232 => (if t232 = true then (if a0_7 = a1_7 then (if a0_8 = a1_8 then (lecternkit_Query.j0 k ((l0_9.length : Int) != (l1_9.length : Int)) a0_0 a0_1 a0_2 a0_3 a0_4 l0_5 l0_6 a0_7 a0_8 l0_9 a1_0 a1_1 a1_2 a1_3 a1_4 l1_5 l1_6 a1_7 a1_8 l1_9) else (lecternkit_Query.j0 k true a0_0 a0_1 a0_2 a0_3 a0_4 l0_5 l0_6 a0_7 a0_8 l0_9 a1_0 a1_1 a1_2 a1_3 a1_4 l1_5 l1_6 a1_7 a1_8 l1_9)) else (lecternkit_Query.j0 k true a0_0 a0_1 a0_2 a0_3 a0_4 l0_5 l0_6 a0_7 a0_8 l0_9 a1_0 a1_1 a1_2 a1_3 a1_4 l1_5 l1_6 a1_7 a1_8 l1_9)) else (lecternkit_Query.j0 k true a0_0 a0_1 a0_2 a0_3 a0_4 l0_5 l0_6 a0_7 a0_8 l0_9 a1_0 a1_1 a1_2 a1_3 a1_4 l1_5 l1_6 a1_7 a1_8 l1_9))) else (lecternkit_Query.j0 k true a0_0 a0_1 a0_2 a0_3 a0_4 l0_5 l0_6 a0_7 a0_8 l0_9 a1_0 a1_1 a1_2 a1_3 a1_4 l1_5 l1_6 a1_7 a1_8 l1_9))) else (lecternkit_Query.j0 k true a0_0 a0_1 a0_2 a0_3 a0_4 l0_5 l0_6 a0_7 a0_8 l0_9 a1_0 a1_1 a1_2 a1_3 a1_4 l1_5 l1_6 a1_7 a1_8 l1_9)) else (lecternkit_Query.j0 k true a0_0 a0_1 a0_2 a0_3 a0_4 l0_5 l0_6 a0_7 a0_8 l0_9 a1_0 a1_1 a1_2 a1_3 a1_4 l1_5 l1_6 a1_7 a1_8 l1_9)) else (lecternkit_Query.j0 k true a0_0 a0_1 a0_2 a0_3 a0_4 l0_5 l0_6 a0_7 a0_8 l0_9 a1_0 a1_1 a1_2 a1_3 a1_4 l1_5 l1_6 a1_7 a1_8 l1_9)) else (lecternkit_Query.j0 k true a0_0 a0_1 a0_2 a0_3 a0_4 l0_5 l0_6 a0_7 a0_8 l0_9 a1_0 a1_1 a1_2 a1_3 a1_4 l1_5 l1_6 a1_7 a1_8 l1_9)) else (lecternkit_Query.j0 k true a0_0 a0_1 a0_2 a0_3 a0_4 l0_5 l0_6 a0_7 a0_8 l0_9 a1_0 a1_1 a1_2 a1_3 a1_4 l1_5 l1_6 a1_7 a1_8 l1_9)
end
theorem lecternkit_Query.mono_l : ∀ k, (∀ y0 y1 y2 y3 y4 y5 y6 y7 y8 y9 y10 y11 y12 y13 y14 y15 y16 y17 y18 y19, LeO (lecternkit_Query.f k y0 y1 y2 y3 y4 y5 y6 y7 y8 y9 y10 y11 y12 y13 y14 y15 y16 y17 y18 y19) (lecternkit_Query.f (k + 1) y0 y1 y2 y3 y4 y5 y6 y7 y8 y9 y10 y11 y12 y13 y14 y15 y16 y17 y18 y19)) ∧ (∀ y0 y1 y2 y3 y4 y5 y6 y7 y8 y9 y10 y11 y12 y13 y14 y15 y16 y17 y18 y19 y20, LeO (lecternkit_Query.j0 k y0 y1 y2 y3 y4 y5 y6 y7 y8 y9 y10 y11 y12 y13 y14 y15 y16 y17 y18 y19 y20) (lecternkit_Query.j0 (k + 1) y0 y1 y2 y3 y4 y5 y6 y7 y8 y9 y10 y11 y12 y13 y14 y15 y16 y17 y18 y19 y20)) ∧ (∀ y0 y1 y2 y3 y4 y5 y6 y7 y8 y9 y10 y11 y12 y13 y14 y15 y16 y17 y18 y19 y20, LeO (lecternkit_Query.l0 k y0 y1 y2 y3 y4 y5 y6 y7 y8 y9 y10 y11 y12 y13 y14 y15 y16 y17 y18 y19 y20) (lecternkit_Query.l0 (k + 1) y0 y1 y2 y3 y4 y5 y6 y7 y8 y9 y10 y11 y12 y13 y14 y15 y16 y17 y18 y19 y20))
  | 0 => ⟨fun _ _ _ _ _ _ _ _ _ _ _ _ _ _ _ _ _ _ _ _ r h => by simp [lecternkit_Query.f] at h, fun _ _ _ _ _ _ _ _ _ _ _ _ _ _ _ _ _ _ _ _ _ r h => by simp [lecternkit_Query.j0] at h, fun _ _ _ _ _ _ _ _ _ _ _ _ _ _ _ _ _ _ _ _ _ r h => by simp [lecternkit_Query.l0] at h⟩
  | k + 1 => by
    obtain ⟨ih0, ih1, ih2⟩ := lecternkit_Query.mono_l k
    refine ⟨?_, ?_, ?_⟩
    · intro y0 y1 y2 y3 y4 y5 y6 y7 y8 y9 y10 y11 y12 y13 y14 y15 y16 y17 y18 y19
      unfold lecternkit_Query.f
      repeat' first
      | (with_reducible exact ih0 _ _ _ _ _ _ _ _ _ _ _ _ _ _ _ _ _ _ _ _)
      | (with_reducible exact ih1 _ _ _ _ _ _ _ _ _ _ _ _ _ _ _ _ _ _ _ _ _)
      | (with_reducible exact ih2 _ _ _ _ _ _ _ _ _ _ _ _ _ _ _ _ _ _ _ _ _)
      | (with_reducible exact lecternkit_Int64s.mono _ _ _)
      | (with_reducible exact LeO.refl _)
      | (with_reducible exact LeO.none _)
      | (with_reducible refine LeO.ite ?_ ?_)
      | (with_reducible refine LeO.bind ?_ (fun _ => ?_))
      | exact ih0 _ _ _ _ _ _ _ _ _ _ _ _ _ _ _ _ _ _ _ _
      | exact ih1 _ _ _ _ _ _ _ _ _ _ _ _ _ _ _ _ _ _ _ _ _
      | exact ih2 _ _ _ _ _ _ _ _ _ _ _ _ _ _ _ _ _ _ _ _ _
      | exact lecternkit_Int64s.mono _ _ _
      | exact LeO.none _
      | refine LeO.ite ?_ ?_
      | refine LeO.bind ?_ (fun _ => ?_)
    · intro y0 y1 y2 y3 y4 y5 y6 y7 y8 y9 y10 y11 y12 y13 y14 y15 y16 y17 y18 y19 y20
      unfold lecternkit_Query.j0
      repeat' first
      | (with_reducible exact ih0 _ _ _ _ _ _ _ _ _ _ _ _ _ _ _ _ _ _ _ _)
      | (with_reducible exact ih1 _ _ _ _ _ _ _ _ _ _ _ _ _ _ _ _ _ _ _ _ _)
      | (with_reducible exact ih2 _ _ _ _ _ _ _ _ _ _ _ _ _ _ _ _ _ _ _ _ _)
      | (with_reducible exact lecternkit_Int64s.mono _ _ _)
      | (with_reducible exact LeO.refl _)
      | (with_reducible exact LeO.none _)
      | (with_reducible refine LeO.ite ?_ ?_)
      | (with_reducible refine LeO.bind ?_ (fun _ => ?_))
      | exact ih0 _ _ _ _ _ _ _ _ _ _ _ _ _ _ _ _ _ _ _ _
      | exact ih1 _ _ _ _ _ _ _ _ _ _ _ _ _ _ _ _ _ _ _ _ _
      | exact ih2 _ _ _ _ _ _ _ _ _ _ _ _ _ _ _ _ _ _ _ _ _
      | exact lecternkit_Int64s.mono _ _ _
      | exact LeO.none _
      | refine LeO.ite ?_ ?_
      | refine LeO.bind ?_ (fun _ => ?_)
    · intro y0 y1 y2 y3 y4 y5 y6 y7 y8 y9 y10 y11 y12 y13 y14 y15 y16 y17 y18 y19 y20
      unfold lecternkit_Query.l0
      repeat' first
      | (with_reducible exact ih0 _ _ _ _ _ _ _ _ _ _ _ _ _ _ _ _ _ _ _ _)
      | (with_reducible exact ih1 _ _ _ _ _ _ _ _ _ _ _ _ _ _ _ _ _ _ _ _ _)
      | (with_reducible exact ih2 _ _ _ _ _ _ _ _ _ _ _ _ _ _ _ _ _ _ _ _ _)
      | (with_reducible exact lecternkit_Int64s.mono _ _ _)
      | (with_reducible exact LeO.refl _)
      | (with_reducible exact LeO.none _)
      | (with_reducible refine LeO.ite ?_ ?_)
      | (with_reducible refine LeO.bind ?_ (fun _ => ?_))
      | exact ih0 _ _ _ _ _ _ _ _ _ _ _ _ _ _ _ _ _ _ _ _
      | exact ih1 _ _ _ _ _ _ _ _ _ _ _ _ _ _ _ _ _ _ _ _ _
      | exact ih2 _ _ _ _ _ _ _ _ _ _ _ _ _ _ _ _ _ _ _ _ _
      | exact lecternkit_Int64s.mono _ _ _
      | exact LeO.none _
      | refine LeO.ite ?_ ?_
      | refine LeO.bind ?_ (fun _ => ?_)
theorem lecternkit_Query.mono : ∀ a0 a1 a2 a3 a4 a5 a6 a7 a8 a9 a10 a11 a12 a13 a14 a15 a16 a17 a18 a19 k, LeO (lecternkit_Query.f k a0 a1 a2 a3 a4 a5 a6 a7 a8 a9 a10 a11 a12 a13 a14 a15 a16 a17 a18 a19) (lecternkit_Query.f (k + 1) a0 a1 a2 a3 a4 a5 a6 a7 a8 a9 a10 a11 a12 a13 a14 a15 a16 a17 a18 a19) := by
  intro a0 a1 a2 a3 a4 a5 a6 a7 a8 a9 a10 a11 a12 a13 a14 a15 a16 a17 a18 a19 k
  obtain ⟨ih0, ih1, ih2⟩ := lecternkit_Query.mono_l k
  exact ih0 a0 a1 a2 a3 a4 a5 a6 a7 a8 a9 a10 a11 a12 a13 a14 a15 a16 a17 a18 a19
def lecternkit_Query.T6 : Bool × List (List Nat × List Nat) := (true, [([], []), ([0], [0]), ([], []), ([1, 2], [1, 2]), ([3], [3]), ([], []), ([5], [5]), ([], []), ([6, 7], [6, 7]), ([8], [8]), ([4, 9], [4, 9]), ([10], [10])])
def lecternkit_Query.B6 : List Nat := [0, 1, 0, 7, 15, 0, 32, 0, 224, 480, 1023, 2047]
theorem lecternkit_Query.tab6 : rtab .any (opsOf Tryd.f18 6) = lecternkit_Query.T6 := by kernel_rfl
theorem lecternkit_Query.bits6 : waitsOk lecternkit_Query.T6.2 lecternkit_Query.B6 = true := by kernel_rfl
set_option maxHeartbeats 8000000 in
set_option maxRecDepth 100000 in
theorem lecternkit_Query.calls (k : Nat) : ∀ (a0_0 : Int) (a0_1 : Int) (a0_2 : ByteArray) (a0_3 : ByteArray) (a0_4 : ByteArray) (A0_5 : Option Addr) (c0_5 : Nat) (l0_5 : List Int) (A0_6 : Option Addr) (c0_6 : Nat) (l0_6 : List Int) (a0_7 : Int) (a0_8 : Int) (A0_9 : Option Addr) (c0_9 : Nat) (l0_9 : List (S25)) (a1_0 : Int) (a1_1 : Int) (a1_2 : ByteArray) (a1_3 : ByteArray) (a1_4 : ByteArray) (A1_5 : Option Addr) (c1_5 : Nat) (l1_5 : List Int) (A1_6 : Option Addr) (c1_6 : Nat) (l1_6 : List Int) (a1_7 : Int) (a1_8 : Int) (A1_9 : Option Addr) (c1_9 : Nat) (l1_9 : List (S25)) (r : Bool) (w : World) (hr0_5 : Kd.C (Kd.int .i64) w A0_5 l0_5.length l0_5) (hc0_5 : l0_5.length ≤ c0_5) (hr0_6 : Kd.C (Kd.int .i64) w A0_6 l0_6.length l0_6) (hc0_6 : l0_6.length ≤ c0_6) (hr0_9 : Kd.C k25 w A0_9 l0_9.length l0_9) (hc0_9 : l0_9.length ≤ c0_9) (hr1_5 : Kd.C (Kd.int .i64) w A1_5 l1_5.length l1_5) (hc1_5 : l1_5.length ≤ c1_5) (hr1_6 : Kd.C (Kd.int .i64) w A1_6 l1_6.length l1_6) (hc1_6 : l1_6.length ≤ c1_6) (hr1_9 : Kd.C k25 w A1_9 l1_9.length l1_9) (hc1_9 : l1_9.length ≤ c1_9) (h : lecternkit_Query.f k a0_0 a0_1 a0_2 a0_3 a0_4 l0_5 l0_6 a0_7 a0_8 l0_9 a1_0 a1_1 a1_2 a1_3 a1_4 l1_5 l1_6 a1_7 a1_8 l1_9 = some r),
    Calls Tryd.prog 18 #[.agg #[.int .i64 a0_0, .int .i64 a0_1, .string a0_2, .string a0_3, .string a0_4, .slice A0_5 l0_5.length c0_5, .slice A0_6 l0_6.length c0_6, .int .i64 a0_7, .int .i64 a0_8, .slice A0_9 l0_9.length c0_9], .agg #[.int .i64 a1_0, .int .i64 a1_1, .string a1_2, .string a1_3, .string a1_4, .slice A1_5 l1_5.length c1_5, .slice A1_6 l1_6.length c1_6, .int .i64 a1_7, .int .i64 a1_8, .slice A1_9 l1_9.length c1_9]] w fun e w' => e = .returned (.bool r) ∧ Below w.heap.size w w' := by
  induction k using Nat.strongRecOn with
  | _ k ih =>
  intro a0_0 a0_1 a0_2 a0_3 a0_4 A0_5 c0_5 l0_5 A0_6 c0_6 l0_6 a0_7 a0_8 A0_9 c0_9 l0_9 a1_0 a1_1 a1_2 a1_3 a1_4 A1_5 c1_5 l1_5 A1_6 c1_6 l1_6 a1_7 a1_8 A1_9 c1_9 l1_9 r w hr0_5 hc0_5 hr0_6 hc0_6 hr0_9 hc0_9 hr1_5 hc1_5 hr1_6 hc1_6 hr1_9 hc1_9 h
  cases k with
  | zero => exact absurd h (by simp [lecternkit_Query.f])
  | succ k =>
  simp only [lecternkit_Query.f] at h
  have hu25 := Tryd.underlying25
  have HR0_5 := Aside0.mk hr0_5
  have HC0_5 := Aside0.mk hc0_5
  clear hr0_5 hc0_5
  have HR0_6 := Aside0.mk hr0_6
  have HC0_6 := Aside0.mk hc0_6
  clear hr0_6 hc0_6
  have HR0_9 := Aside0.mk hr0_9
  have HC0_9 := Aside0.mk hc0_9
  clear hr0_9 hc0_9
  have HR1_5 := Aside0.mk hr1_5
  have HC1_5 := Aside0.mk hc1_5
  clear hr1_5 hc1_5
  have HR1_6 := Aside0.mk hr1_6
  have HC1_6 := Aside0.mk hc1_6
  clear hr1_6 hc1_6
  have HR1_9 := Aside0.mk hr1_9
  have HC1_9 := Aside0.mk hc1_9
  clear hr1_9 hc1_9
  have HB := Aside0.mk (Below.refl w.heap.size w)
  have H : (if a0_0 = a1_0 then (if a0_1 = a1_1 then (if a0_2.toList = a1_2.toList then (if a0_3.toList = a1_3.toList then (if a0_4.toList = a1_4.toList then ((lecternkit_Int64s.f k l0_5 l1_5).bind fun t231 => (if t231 = true then ((lecternkit_Int64s.f k l0_6 l1_6).bind fun t232 => (if t232 = true then (if a0_7 = a1_7 then (if a0_8 = a1_8 then (lecternkit_Query.j0 k ((l0_9.length : Int) != (l1_9.length : Int)) a0_0 a0_1 a0_2 a0_3 a0_4 l0_5 l0_6 a0_7 a0_8 l0_9 a1_0 a1_1 a1_2 a1_3 a1_4 l1_5 l1_6 a1_7 a1_8 l1_9) else (lecternkit_Query.j0 k true a0_0 a0_1 a0_2 a0_3 a0_4 l0_5 l0_6 a0_7 a0_8 l0_9 a1_0 a1_1 a1_2 a1_3 a1_4 l1_5 l1_6 a1_7 a1_8 l1_9)) else (lecternkit_Query.j0 k true a0_0 a0_1 a0_2 a0_3 a0_4 l0_5 l0_6 a0_7 a0_8 l0_9 a1_0 a1_1 a1_2 a1_3 a1_4 l1_5 l1_6 a1_7 a1_8 l1_9)) else (lecternkit_Query.j0 k true a0_0 a0_1 a0_2 a0_3 a0_4 l0_5 l0_6 a0_7 a0_8 l0_9 a1_0 a1_1 a1_2 a1_3 a1_4 l1_5 l1_6 a1_7 a1_8 l1_9))) else (lecternkit_Query.j0 k true a0_0 a0_1 a0_2 a0_3 a0_4 l0_5 l0_6 a0_7 a0_8 l0_9 a1_0 a1_1 a1_2 a1_3 a1_4 l1_5 l1_6 a1_7 a1_8 l1_9))) else (lecternkit_Query.j0 k true a0_0 a0_1 a0_2 a0_3 a0_4 l0_5 l0_6 a0_7 a0_8 l0_9 a1_0 a1_1 a1_2 a1_3 a1_4 l1_5 l1_6 a1_7 a1_8 l1_9)) else (lecternkit_Query.j0 k true a0_0 a0_1 a0_2 a0_3 a0_4 l0_5 l0_6 a0_7 a0_8 l0_9 a1_0 a1_1 a1_2 a1_3 a1_4 l1_5 l1_6 a1_7 a1_8 l1_9)) else (lecternkit_Query.j0 k true a0_0 a0_1 a0_2 a0_3 a0_4 l0_5 l0_6 a0_7 a0_8 l0_9 a1_0 a1_1 a1_2 a1_3 a1_4 l1_5 l1_6 a1_7 a1_8 l1_9)) else (lecternkit_Query.j0 k true a0_0 a0_1 a0_2 a0_3 a0_4 l0_5 l0_6 a0_7 a0_8 l0_9 a1_0 a1_1 a1_2 a1_3 a1_4 l1_5 l1_6 a1_7 a1_8 l1_9)) else (lecternkit_Query.j0 k true a0_0 a0_1 a0_2 a0_3 a0_4 l0_5 l0_6 a0_7 a0_8 l0_9 a1_0 a1_1 a1_2 a1_3 a1_4 l1_5 l1_6 a1_7 a1_8 l1_9)) = some r := h
  clear h
  have HC3 := Aside0.mk H
  clear H
  go_enter Tryd.func18, Tryd.ntmps18
  go_upto_region 1 with (first | ((with_reducible refine gate_dst (N := 2) rfl ?_); (try (refine gate_guard (by rfl) ?_; dsimp only)); refine box_event ?hg (N := 2) ?hd (cs := #[.int .i64 a0_0, .int .i64 a0_1, .string a0_2, .string a0_3, .string a0_4, .slice A0_5 l0_5.length c0_5, .slice A0_6 l0_6.length c0_6, .int .i64 a0_7, .int .i64 a0_8, .slice A0_9 l0_9.length c0_9]) (t := 25) ?hr ?_; (case hd => rfl); (case hg => rfl); (case hr => first | (go_simp; done) | (go_simp; rfl)); intro gb229 hg w4 hbox hb; have n0_ := Aside0.mk (below_step (by repeat (first | (with_reducible first | exact HB.out | apply below_alloc | apply pw_below_drewN | apply below_drew1) | exact HB.out)) hb); have n1_ := Aside0.mk (hbox); have n2_ := Aside0.mk ((by rw [hg]; exact (below_size (by repeat (first | (with_reducible first | exact HB.out | apply below_alloc | apply pw_below_drewN | apply below_drew1) | exact HB.out))) : w.heap.size ≤ gb229)); have n3_ := Aside0.mk ((by rw [hg]; exact (below_size (by repeat (first | (with_reducible first | exact HB.out | apply below_alloc | apply pw_below_drewN | apply below_drew1) | exact HB.out))) : w.heap.size ≤ gb229)); clear HB; have HB := n0_; have BK229 := n1_; have GW229 := n2_; have GE229 := n3_; clear n0_ n1_ n2_ n3_; clear hb hbox hg) | ((with_reducible refine gate_dst (N := 3) rfl ?_); (try (refine gate_guard (by rfl) ?_; dsimp only)); refine box_event ?hg (N := 3) ?hd (cs := #[.int .i64 a1_0, .int .i64 a1_1, .string a1_2, .string a1_3, .string a1_4, .slice A1_5 l1_5.length c1_5, .slice A1_6 l1_6.length c1_6, .int .i64 a1_7, .int .i64 a1_8, .slice A1_9 l1_9.length c1_9]) (t := 25) ?hr ?_; (case hd => rfl); (case hg => rfl); (case hr => first | (go_simp; done) | (go_simp; rfl)); intro gb230 hg w5 hbox hb; have n0_ := Aside0.mk (blk_below (g := gb229) (o := .cells #[.int .i64 a0_0, .int .i64 a0_1, .string a0_2, .string a0_3, .string a0_4, .slice A0_5 l0_5.length c0_5, .slice A0_6 l0_6.length c0_6, .int .i64 a0_7, .int .i64 a0_8, .slice A0_9 l0_9.length c0_9] 25 (0, 0)) (by (with_reducible repeat (first | refine blk_drewN ?_ _ | refine blk_drew ?_ | refine blk_alloc ?_ _)); exact BK229.out) hb); have n1_ := Aside0.mk (below_step (by repeat (first | (with_reducible first | exact HB.out | apply below_alloc | apply pw_below_drewN | apply below_drew1 | refine below_set ?_ GE229.out) | exact HB.out)) hb); have n2_ := Aside0.mk (hbox); have n3_ := Aside0.mk ((by rw [hg]; exact (below_size (by repeat (first | (with_reducible first | exact HB.out | apply below_alloc | apply pw_below_drewN | apply below_drew1 | refine below_set ?_ GE229.out) | exact HB.out))) : w.heap.size ≤ gb230)); have n4_ := Aside0.mk ((by rw [hg]; exact (below_size (by repeat (first | (with_reducible first | exact HB.out | apply below_alloc | apply pw_below_drewN | apply below_drew1 | refine below_set ?_ GE229.out) | exact HB.out))) : w.heap.size ≤ gb230)); have n5_ := Aside0.mk ((by rw [hg]; exact Nat.ne_of_lt (blk_lt (g := gb229) (o := .cells #[.int .i64 a0_0, .int .i64 a0_1, .string a0_2, .string a0_3, .string a0_4, .slice A0_5 l0_5.length c0_5, .slice A0_6 l0_6.length c0_6, .int .i64 a0_7, .int .i64 a0_8, .slice A0_9 l0_9.length c0_9] 25 (0, 0)) (by (with_reducible repeat (first | refine blk_drewN ?_ _ | refine blk_drew ?_ | refine blk_alloc ?_ _)); exact BK229.out)) : gb229 ≠ gb230)); have n6_ := Aside0.mk ((by rw [hg]; exact Nat.ne_of_gt (blk_lt (g := gb229) (o := .cells #[.int .i64 a0_0, .int .i64 a0_1, .string a0_2, .string a0_3, .string a0_4, .slice A0_5 l0_5.length c0_5, .slice A0_6 l0_6.length c0_6, .int .i64 a0_7, .int .i64 a0_8, .slice A0_9 l0_9.length c0_9] 25 (0, 0)) (by (with_reducible repeat (first | refine blk_drewN ?_ _ | refine blk_drew ?_ | refine blk_alloc ?_ _)); exact BK229.out)) : gb230 ≠ gb229)); clear BK229; clear HB; have BK229 := n0_; have HB := n1_; have BK230 := n2_; have GW230 := n3_; have GE230 := n4_; have NB229_230 := n5_; have NB230_229 := n6_; clear n0_ n1_ n2_ n3_ n4_ n5_ n6_; clear hb hbox hg))
  (try simp only [Act.put, List.setIfInBounds_toArray, List.set_cons_zero, List.set_cons_succ])
  go_cut [77] (fun v77 wc => ∃ (kq : Nat) (x77_2 : Bool), v77 = .bool x77_2 ∧ Aside0 (lecternkit_Query.j0 kq x77_2 a0_0 a0_1 a0_2 a0_3 a0_4 l0_5 l0_6 a0_7 a0_8 l0_9 a1_0 a1_1 a1_2 a1_3 a1_4 l1_5 l1_6 a1_7 a1_8 l1_9 = some r) ∧ Aside0 (kq ≤ k) ∧ Aside0 (wc.heap[gb229]? = some (.cells #[.int .i64 a0_0, .int .i64 a0_1, .string a0_2, .string a0_3, .string a0_4, (.slice A0_5 l0_5.length c0_5), (.slice A0_6 l0_6.length c0_6), .int .i64 a0_7, .int .i64 a0_8, (.slice A0_9 l0_9.length c0_9)] 25 (0, 0))) ∧ Aside0 (wc.heap[gb230]? = some (.cells #[.int .i64 a1_0, .int .i64 a1_1, .string a1_2, .string a1_3, .string a1_4, (.slice A1_5 l1_5.length c1_5), (.slice A1_6 l1_6.length c1_6), .int .i64 a1_7, .int .i64 a1_8, (.slice A1_9 l1_9.length c1_9)] 25 (0, 0))) ∧ Aside0 (Below w.heap.size w wc))
  case first =>
    have H := HC3.out
    clear HC3
    by_cases c6 : a0_0 = a1_0
    · rw [if_pos c6] at H
      have c6b0 : (a0_0 == a1_0) = true := beq_iff_eq.mpr c6
      have c6b1 : (a0_0 != a1_0) = false := bne_eq_false_iff_eq.mpr c6
      clear c6
      (first | rw [c6b0] | (simp only [i64_w, i32_w]; rw [c6b0]) | skip)
      by_cases c7 : a0_1 = a1_1
      · rw [if_pos c7] at H
        have c7b0 : (a0_1 == a1_1) = true := beq_iff_eq.mpr c7
        have c7b1 : (a0_1 != a1_1) = false := bne_eq_false_iff_eq.mpr c7
        clear c7
        by_cases c8 : a0_2.toList = a1_2.toList
        · rw [if_pos c8] at H
          have c8b0 : (a0_2.toList == a1_2.toList) = true := beq_iff_eq.mpr c8
          have c8b1 : (a0_2.toList != a1_2.toList) = false := bne_eq_false_iff_eq.mpr c8
          clear c8
          by_cases c9 : a0_3.toList = a1_3.toList
          · rw [if_pos c9] at H
            have c9b0 : (a0_3.toList == a1_3.toList) = true := beq_iff_eq.mpr c9
            have c9b1 : (a0_3.toList != a1_3.toList) = false := bne_eq_false_iff_eq.mpr c9
            clear c9
            by_cases c10 : a0_4.toList = a1_4.toList
            · rw [if_pos c10] at H
              have c10b0 : (a0_4.toList == a1_4.toList) = true := beq_iff_eq.mpr c10
              have c10b1 : (a0_4.toList != a1_4.toList) = false := bne_eq_false_iff_eq.mpr c10
              clear c10
              replace H := Option.bind_eq_some_iff.mp H
              obtain ⟨t231, A110, H⟩ := H
              replace H : (if t231 = true then ((lecternkit_Int64s.f k l0_6 l1_6).bind fun t232 => (if t232 = true then (if a0_7 = a1_7 then (if a0_8 = a1_8 then (lecternkit_Query.j0 k ((l0_9.length : Int) != (l1_9.length : Int)) a0_0 a0_1 a0_2 a0_3 a0_4 l0_5 l0_6 a0_7 a0_8 l0_9 a1_0 a1_1 a1_2 a1_3 a1_4 l1_5 l1_6 a1_7 a1_8 l1_9) else (lecternkit_Query.j0 k true a0_0 a0_1 a0_2 a0_3 a0_4 l0_5 l0_6 a0_7 a0_8 l0_9 a1_0 a1_1 a1_2 a1_3 a1_4 l1_5 l1_6 a1_7 a1_8 l1_9)) else (lecternkit_Query.j0 k true a0_0 a0_1 a0_2 a0_3 a0_4 l0_5 l0_6 a0_7 a0_8 l0_9 a1_0 a1_1 a1_2 a1_3 a1_4 l1_5 l1_6 a1_7 a1_8 l1_9)) else (lecternkit_Query.j0 k true a0_0 a0_1 a0_2 a0_3 a0_4 l0_5 l0_6 a0_7 a0_8 l0_9 a1_0 a1_1 a1_2 a1_3 a1_4 l1_5 l1_6 a1_7 a1_8 l1_9))) else (lecternkit_Query.j0 k true a0_0 a0_1 a0_2 a0_3 a0_4 l0_5 l0_6 a0_7 a0_8 l0_9 a1_0 a1_1 a1_2 a1_3 a1_4 l1_5 l1_6 a1_7 a1_8 l1_9)) = some r := H
              have A11 := Aside0.mk A110
              clear A110
              by_cases c12 : t231 = true
              · subst c12
                have H1 : ((lecternkit_Int64s.f k l0_6 l1_6).bind fun t232 => (if t232 = true then (if a0_7 = a1_7 then (if a0_8 = a1_8 then (lecternkit_Query.j0 k ((l0_9.length : Int) != (l1_9.length : Int)) a0_0 a0_1 a0_2 a0_3 a0_4 l0_5 l0_6 a0_7 a0_8 l0_9 a1_0 a1_1 a1_2 a1_3 a1_4 l1_5 l1_6 a1_7 a1_8 l1_9) else (lecternkit_Query.j0 k true a0_0 a0_1 a0_2 a0_3 a0_4 l0_5 l0_6 a0_7 a0_8 l0_9 a1_0 a1_1 a1_2 a1_3 a1_4 l1_5 l1_6 a1_7 a1_8 l1_9)) else (lecternkit_Query.j0 k true a0_0 a0_1 a0_2 a0_3 a0_4 l0_5 l0_6 a0_7 a0_8 l0_9 a1_0 a1_1 a1_2 a1_3 a1_4 l1_5 l1_6 a1_7 a1_8 l1_9)) else (lecternkit_Query.j0 k true a0_0 a0_1 a0_2 a0_3 a0_4 l0_5 l0_6 a0_7 a0_8 l0_9 a1_0 a1_1 a1_2 a1_3 a1_4 l1_5 l1_6 a1_7 a1_8 l1_9))) = some r := by rw [if_pos rfl] at H; exact H
                clear H
                have H := H1
                clear H1
                replace H := Option.bind_eq_some_iff.mp H
                obtain ⟨t232, A130, H⟩ := H
                replace H : (if t232 = true then (if a0_7 = a1_7 then (if a0_8 = a1_8 then (lecternkit_Query.j0 k ((l0_9.length : Int) != (l1_9.length : Int)) a0_0 a0_1 a0_2 a0_3 a0_4 l0_5 l0_6 a0_7 a0_8 l0_9 a1_0 a1_1 a1_2 a1_3 a1_4 l1_5 l1_6 a1_7 a1_8 l1_9) else (lecternkit_Query.j0 k true a0_0 a0_1 a0_2 a0_3 a0_4 l0_5 l0_6 a0_7 a0_8 l0_9 a1_0 a1_1 a1_2 a1_3 a1_4 l1_5 l1_6 a1_7 a1_8 l1_9)) else (lecternkit_Query.j0 k true a0_0 a0_1 a0_2 a0_3 a0_4 l0_5 l0_6 a0_7 a0_8 l0_9 a1_0 a1_1 a1_2 a1_3 a1_4 l1_5 l1_6 a1_7 a1_8 l1_9)) else (lecternkit_Query.j0 k true a0_0 a0_1 a0_2 a0_3 a0_4 l0_5 l0_6 a0_7 a0_8 l0_9 a1_0 a1_1 a1_2 a1_3 a1_4 l1_5 l1_6 a1_7 a1_8 l1_9)) = some r := H
                have A13 := Aside0.mk A130
                clear A130
                by_cases c14 : t232 = true
                · subst c14
                  have H1 : (if a0_7 = a1_7 then (if a0_8 = a1_8 then (lecternkit_Query.j0 k ((l0_9.length : Int) != (l1_9.length : Int)) a0_0 a0_1 a0_2 a0_3 a0_4 l0_5 l0_6 a0_7 a0_8 l0_9 a1_0 a1_1 a1_2 a1_3 a1_4 l1_5 l1_6 a1_7 a1_8 l1_9) else (lecternkit_Query.j0 k true a0_0 a0_1 a0_2 a0_3 a0_4 l0_5 l0_6 a0_7 a0_8 l0_9 a1_0 a1_1 a1_2 a1_3 a1_4 l1_5 l1_6 a1_7 a1_8 l1_9)) else (lecternkit_Query.j0 k true a0_0 a0_1 a0_2 a0_3 a0_4 l0_5 l0_6 a0_7 a0_8 l0_9 a1_0 a1_1 a1_2 a1_3 a1_4 l1_5 l1_6 a1_7 a1_8 l1_9)) = some r := by rw [if_pos rfl] at H; exact H
                  clear H
                  have H := H1
                  clear H1
                  by_cases c15 : a0_7 = a1_7
                  · rw [if_pos c15] at H
                    have c15b0 : (a0_7 == a1_7) = true := beq_iff_eq.mpr c15
                    have c15b1 : (a0_7 != a1_7) = false := bne_eq_false_iff_eq.mpr c15
                    clear c15
                    by_cases c16 : a0_8 = a1_8
                    · rw [if_pos c16] at H
                      have c16b0 : (a0_8 == a1_8) = true := beq_iff_eq.mpr c16
                      have c16b1 : (a0_8 != a1_8) = false := bne_eq_false_iff_eq.mpr c16
                      clear c16
                      have H' := Aside0.mk H
                      clear H
                      have hnb17 := NB229_230.out
                      have hnc17 := NB230_229.out
                      have hcz18_0 : w5.cell? ⟨gb229, 0, none⟩ = some (.int .i64 a0_0) := (blk_cell BK229.out 0).trans rfl
                      have hcz18_1 : w5.cell? ⟨gb229, 1, none⟩ = some (.int .i64 a0_1) := (blk_cell BK229.out 1).trans rfl
                      have hcz18_2 : w5.cell? ⟨gb229, 2, none⟩ = some (.string a0_2) := (blk_cell BK229.out 2).trans rfl
                      have hcz18_3 : w5.cell? ⟨gb229, 3, none⟩ = some (.string a0_3) := (blk_cell BK229.out 3).trans rfl
                      have hcz18_4 : w5.cell? ⟨gb229, 4, none⟩ = some (.string a0_4) := (blk_cell BK229.out 4).trans rfl
                      have hcz18_5 : w5.cell? ⟨gb229, 5, none⟩ = some (.slice A0_5 l0_5.length c0_5) := (blk_cell BK229.out 5).trans rfl
                      have hcz18_6 : w5.cell? ⟨gb229, 6, none⟩ = some (.slice A0_6 l0_6.length c0_6) := (blk_cell BK229.out 6).trans rfl
                      have hcz18_7 : w5.cell? ⟨gb229, 7, none⟩ = some (.int .i64 a0_7) := (blk_cell BK229.out 7).trans rfl
                      have hcz18_8 : w5.cell? ⟨gb229, 8, none⟩ = some (.int .i64 a0_8) := (blk_cell BK229.out 8).trans rfl
                      have hcz18_9 : w5.cell? ⟨gb229, 9, none⟩ = some (.slice A0_9 l0_9.length c0_9) := (blk_cell BK229.out 9).trans rfl
                      have hfz18_0 := blk_frozen BK229.out 0
                      have hfz18_1 := blk_frozen BK229.out 1
                      have hfz18_2 := blk_frozen BK229.out 2
                      have hfz18_3 := blk_frozen BK229.out 3
                      have hfz18_4 := blk_frozen BK229.out 4
                      have hfz18_5 := blk_frozen BK229.out 5
                      have hfz18_6 := blk_frozen BK229.out 6
                      have hfz18_7 := blk_frozen BK229.out 7
                      have hfz18_8 := blk_frozen BK229.out 8
                      have hfz18_9 := blk_frozen BK229.out 9
                      have hcz19_0 : w5.cell? ⟨gb230, 0, none⟩ = some (.int .i64 a1_0) := (blk_cell BK230.out 0).trans rfl
                      have hcz19_1 : w5.cell? ⟨gb230, 1, none⟩ = some (.int .i64 a1_1) := (blk_cell BK230.out 1).trans rfl
                      have hcz19_2 : w5.cell? ⟨gb230, 2, none⟩ = some (.string a1_2) := (blk_cell BK230.out 2).trans rfl
                      have hcz19_3 : w5.cell? ⟨gb230, 3, none⟩ = some (.string a1_3) := (blk_cell BK230.out 3).trans rfl
                      have hcz19_4 : w5.cell? ⟨gb230, 4, none⟩ = some (.string a1_4) := (blk_cell BK230.out 4).trans rfl
                      have hcz19_5 : w5.cell? ⟨gb230, 5, none⟩ = some (.slice A1_5 l1_5.length c1_5) := (blk_cell BK230.out 5).trans rfl
                      have hcz19_6 : w5.cell? ⟨gb230, 6, none⟩ = some (.slice A1_6 l1_6.length c1_6) := (blk_cell BK230.out 6).trans rfl
                      have hcz19_7 : w5.cell? ⟨gb230, 7, none⟩ = some (.int .i64 a1_7) := (blk_cell BK230.out 7).trans rfl
                      have hcz19_8 : w5.cell? ⟨gb230, 8, none⟩ = some (.int .i64 a1_8) := (blk_cell BK230.out 8).trans rfl
                      have hcz19_9 : w5.cell? ⟨gb230, 9, none⟩ = some (.slice A1_9 l1_9.length c1_9) := (blk_cell BK230.out 9).trans rfl
                      have hfz19_0 := blk_frozen BK230.out 0
                      have hfz19_1 := blk_frozen BK230.out 1
                      have hfz19_2 := blk_frozen BK230.out 2
                      have hfz19_3 := blk_frozen BK230.out 3
                      have hfz19_4 := blk_frozen BK230.out 4
                      have hfz19_5 := blk_frozen BK230.out 5
                      have hfz19_6 := blk_frozen BK230.out 6
                      have hfz19_7 := blk_frozen BK230.out 7
                      have hfz19_8 := blk_frozen BK230.out 8
                      have hfz19_9 := blk_frozen BK230.out 9
                      go_wp2_with (first | (go_at_call 30; (with_reducible refine (lecternkit_Int64s.calls k _ _ l0_5 _ _ l1_5 true _ ?side1 ?side2 ?side3 ?side4 A11.out).mono ?_); (case side1 => repeat (first | exact (Kd.C_below HR0_5.out HB.out) | (with_reducible refine Kd.C_alloc ?_ _) | (with_reducible refine Kd.C_drewN ?_ _) | (with_reducible refine Kd.C_drew ?_))); (case side2 => exact HC0_5.out); (case side3 => repeat (first | exact (Kd.C_below HR1_5.out HB.out) | (with_reducible refine Kd.C_alloc ?_ _) | (with_reducible refine Kd.C_drewN ?_ _) | (with_reducible refine Kd.C_drew ?_))); (case side4 => exact HC1_5.out); rintro e w' ⟨rfl, ⟨nd, rfl⟩⟩) | (go_at_call 30; (with_reducible refine (lecternkit_Int64s.calls k _ _ l0_6 _ _ l1_6 true _ ?side1 ?side2 ?side3 ?side4 A13.out).mono ?_); (case side1 => repeat (first | exact (Kd.C_below HR0_6.out (by repeat (first | (with_reducible first | exact HB.out | apply below_alloc | apply pw_below_drewN | apply below_drew1 | refine below_set ?_ GE229.out | refine below_set ?_ GE230.out) | exact HB.out))) | (with_reducible refine Kd.C_alloc ?_ _) | (with_reducible refine Kd.C_drewN ?_ _) | (with_reducible refine Kd.C_drew ?_))); (case side2 => exact HC0_6.out); (case side3 => repeat (first | exact (Kd.C_below HR1_6.out (by repeat (first | (with_reducible first | exact HB.out | apply below_alloc | apply pw_below_drewN | apply below_drew1 | refine below_set ?_ GE229.out | refine below_set ?_ GE230.out) | exact HB.out))) | (with_reducible refine Kd.C_alloc ?_ _) | (with_reducible refine Kd.C_drewN ?_ _) | (with_reducible refine Kd.C_drew ?_))); (case side4 => exact HC1_6.out); rintro e w' ⟨rfl, ⟨nd, rfl⟩⟩))
                      go_meet
                      case rel => exact ⟨_, (((l0_9.length : Int) != (l1_9.length : Int))), (by first | rfl | (simp; done) | (simp [*]; done)), H', ⟨by first | omega | exact Nat.le_refl _⟩, ⟨by (with_reducible repeat (first | refine blk_drewN ?_ _ | refine blk_drew ?_ | refine blk_alloc ?_ _)); exact BK229.out⟩, ⟨by (with_reducible repeat (first | refine blk_drewN ?_ _ | refine blk_drew ?_ | refine blk_alloc ?_ _)); exact BK230.out⟩, ⟨by repeat (first | (with_reducible first | exact HB.out | apply below_alloc | apply pw_below_drewN | apply below_drew1 | refine below_set ?_ GE229.out | refine below_set ?_ GE230.out) | exact HB.out)⟩⟩
                    · rw [if_neg c16] at H
                      have c16b0 : (a0_8 == a1_8) = false := beq_eq_false_iff_ne.mpr c16
                      have c16b1 : (a0_8 != a1_8) = true := bne_iff_ne.mpr c16
                      have H' := Aside0.mk H
                      clear H
                      have hnb20 := NB229_230.out
                      have hnc20 := NB230_229.out
                      have hcz21_0 : w5.cell? ⟨gb229, 0, none⟩ = some (.int .i64 a0_0) := (blk_cell BK229.out 0).trans rfl
                      have hcz21_1 : w5.cell? ⟨gb229, 1, none⟩ = some (.int .i64 a0_1) := (blk_cell BK229.out 1).trans rfl
                      have hcz21_2 : w5.cell? ⟨gb229, 2, none⟩ = some (.string a0_2) := (blk_cell BK229.out 2).trans rfl
                      have hcz21_3 : w5.cell? ⟨gb229, 3, none⟩ = some (.string a0_3) := (blk_cell BK229.out 3).trans rfl
                      have hcz21_4 : w5.cell? ⟨gb229, 4, none⟩ = some (.string a0_4) := (blk_cell BK229.out 4).trans rfl
                      have hcz21_5 : w5.cell? ⟨gb229, 5, none⟩ = some (.slice A0_5 l0_5.length c0_5) := (blk_cell BK229.out 5).trans rfl
                      have hcz21_6 : w5.cell? ⟨gb229, 6, none⟩ = some (.slice A0_6 l0_6.length c0_6) := (blk_cell BK229.out 6).trans rfl
                      have hcz21_7 : w5.cell? ⟨gb229, 7, none⟩ = some (.int .i64 a0_7) := (blk_cell BK229.out 7).trans rfl
                      have hcz21_8 : w5.cell? ⟨gb229, 8, none⟩ = some (.int .i64 a0_8) := (blk_cell BK229.out 8).trans rfl
                      have hcz21_9 : w5.cell? ⟨gb229, 9, none⟩ = some (.slice A0_9 l0_9.length c0_9) := (blk_cell BK229.out 9).trans rfl
                      have hfz21_0 := blk_frozen BK229.out 0
                      have hfz21_1 := blk_frozen BK229.out 1
                      have hfz21_2 := blk_frozen BK229.out 2
                      have hfz21_3 := blk_frozen BK229.out 3
                      have hfz21_4 := blk_frozen BK229.out 4
                      have hfz21_5 := blk_frozen BK229.out 5
                      have hfz21_6 := blk_frozen BK229.out 6
                      have hfz21_7 := blk_frozen BK229.out 7
                      have hfz21_8 := blk_frozen BK229.out 8
                      have hfz21_9 := blk_frozen BK229.out 9
                      have hcz22_0 : w5.cell? ⟨gb230, 0, none⟩ = some (.int .i64 a1_0) := (blk_cell BK230.out 0).trans rfl
                      have hcz22_1 : w5.cell? ⟨gb230, 1, none⟩ = some (.int .i64 a1_1) := (blk_cell BK230.out 1).trans rfl
                      have hcz22_2 : w5.cell? ⟨gb230, 2, none⟩ = some (.string a1_2) := (blk_cell BK230.out 2).trans rfl
                      have hcz22_3 : w5.cell? ⟨gb230, 3, none⟩ = some (.string a1_3) := (blk_cell BK230.out 3).trans rfl
                      have hcz22_4 : w5.cell? ⟨gb230, 4, none⟩ = some (.string a1_4) := (blk_cell BK230.out 4).trans rfl
                      have hcz22_5 : w5.cell? ⟨gb230, 5, none⟩ = some (.slice A1_5 l1_5.length c1_5) := (blk_cell BK230.out 5).trans rfl
                      have hcz22_6 : w5.cell? ⟨gb230, 6, none⟩ = some (.slice A1_6 l1_6.length c1_6) := (blk_cell BK230.out 6).trans rfl
                      have hcz22_7 : w5.cell? ⟨gb230, 7, none⟩ = some (.int .i64 a1_7) := (blk_cell BK230.out 7).trans rfl
                      have hcz22_8 : w5.cell? ⟨gb230, 8, none⟩ = some (.int .i64 a1_8) := (blk_cell BK230.out 8).trans rfl
                      have hcz22_9 : w5.cell? ⟨gb230, 9, none⟩ = some (.slice A1_9 l1_9.length c1_9) := (blk_cell BK230.out 9).trans rfl
                      have hfz22_0 := blk_frozen BK230.out 0
                      have hfz22_1 := blk_frozen BK230.out 1
                      have hfz22_2 := blk_frozen BK230.out 2
                      have hfz22_3 := blk_frozen BK230.out 3
                      have hfz22_4 := blk_frozen BK230.out 4
                      have hfz22_5 := blk_frozen BK230.out 5
                      have hfz22_6 := blk_frozen BK230.out 6
                      have hfz22_7 := blk_frozen BK230.out 7
                      have hfz22_8 := blk_frozen BK230.out 8
                      have hfz22_9 := blk_frozen BK230.out 9
                      go_wp2_with (first | (go_at_call 30; (with_reducible refine (lecternkit_Int64s.calls k _ _ l0_5 _ _ l1_5 true _ ?side1 ?side2 ?side3 ?side4 A11.out).mono ?_); (case side1 => repeat (first | exact (Kd.C_below HR0_5.out HB.out) | (with_reducible refine Kd.C_alloc ?_ _) | (with_reducible refine Kd.C_drewN ?_ _) | (with_reducible refine Kd.C_drew ?_))); (case side2 => exact HC0_5.out); (case side3 => repeat (first | exact (Kd.C_below HR1_5.out HB.out) | (with_reducible refine Kd.C_alloc ?_ _) | (with_reducible refine Kd.C_drewN ?_ _) | (with_reducible refine Kd.C_drew ?_))); (case side4 => exact HC1_5.out); rintro e w' ⟨rfl, ⟨nd, rfl⟩⟩) | (go_at_call 30; (with_reducible refine (lecternkit_Int64s.calls k _ _ l0_6 _ _ l1_6 true _ ?side1 ?side2 ?side3 ?side4 A13.out).mono ?_); (case side1 => repeat (first | exact (Kd.C_below HR0_6.out (by repeat (first | (with_reducible first | exact HB.out | apply below_alloc | apply pw_below_drewN | apply below_drew1 | refine below_set ?_ GE229.out | refine below_set ?_ GE230.out) | exact HB.out))) | (with_reducible refine Kd.C_alloc ?_ _) | (with_reducible refine Kd.C_drewN ?_ _) | (with_reducible refine Kd.C_drew ?_))); (case side2 => exact HC0_6.out); (case side3 => repeat (first | exact (Kd.C_below HR1_6.out (by repeat (first | (with_reducible first | exact HB.out | apply below_alloc | apply pw_below_drewN | apply below_drew1 | refine below_set ?_ GE229.out | refine below_set ?_ GE230.out) | exact HB.out))) | (with_reducible refine Kd.C_alloc ?_ _) | (with_reducible refine Kd.C_drewN ?_ _) | (with_reducible refine Kd.C_drew ?_))); (case side4 => exact HC1_6.out); rintro e w' ⟨rfl, ⟨nd, rfl⟩⟩))
                      go_meet
                      case rel => exact ⟨_, (true), (by first | rfl | (simp; done) | (simp [*]; done)), H', ⟨by first | omega | exact Nat.le_refl _⟩, ⟨by (with_reducible repeat (first | refine blk_drewN ?_ _ | refine blk_drew ?_ | refine blk_alloc ?_ _)); exact BK229.out⟩, ⟨by (with_reducible repeat (first | refine blk_drewN ?_ _ | refine blk_drew ?_ | refine blk_alloc ?_ _)); exact BK230.out⟩, ⟨by repeat (first | (with_reducible first | exact HB.out | apply below_alloc | apply pw_below_drewN | apply below_drew1 | refine below_set ?_ GE229.out | refine below_set ?_ GE230.out) | exact HB.out)⟩⟩
                  · rw [if_neg c15] at H
                    have c15b0 : (a0_7 == a1_7) = false := beq_eq_false_iff_ne.mpr c15
                    have c15b1 : (a0_7 != a1_7) = true := bne_iff_ne.mpr c15
                    have H' := Aside0.mk H
                    clear H
                    have hnb23 := NB229_230.out
                    have hnc23 := NB230_229.out
                    have hcz24_0 : w5.cell? ⟨gb229, 0, none⟩ = some (.int .i64 a0_0) := (blk_cell BK229.out 0).trans rfl
                    have hcz24_1 : w5.cell? ⟨gb229, 1, none⟩ = some (.int .i64 a0_1) := (blk_cell BK229.out 1).trans rfl
                    have hcz24_2 : w5.cell? ⟨gb229, 2, none⟩ = some (.string a0_2) := (blk_cell BK229.out 2).trans rfl
                    have hcz24_3 : w5.cell? ⟨gb229, 3, none⟩ = some (.string a0_3) := (blk_cell BK229.out 3).trans rfl
                    have hcz24_4 : w5.cell? ⟨gb229, 4, none⟩ = some (.string a0_4) := (blk_cell BK229.out 4).trans rfl
                    have hcz24_5 : w5.cell? ⟨gb229, 5, none⟩ = some (.slice A0_5 l0_5.length c0_5) := (blk_cell BK229.out 5).trans rfl
                    have hcz24_6 : w5.cell? ⟨gb229, 6, none⟩ = some (.slice A0_6 l0_6.length c0_6) := (blk_cell BK229.out 6).trans rfl
                    have hcz24_7 : w5.cell? ⟨gb229, 7, none⟩ = some (.int .i64 a0_7) := (blk_cell BK229.out 7).trans rfl
                    have hcz24_8 : w5.cell? ⟨gb229, 8, none⟩ = some (.int .i64 a0_8) := (blk_cell BK229.out 8).trans rfl
                    have hcz24_9 : w5.cell? ⟨gb229, 9, none⟩ = some (.slice A0_9 l0_9.length c0_9) := (blk_cell BK229.out 9).trans rfl
                    have hfz24_0 := blk_frozen BK229.out 0
                    have hfz24_1 := blk_frozen BK229.out 1
                    have hfz24_2 := blk_frozen BK229.out 2
                    have hfz24_3 := blk_frozen BK229.out 3
                    have hfz24_4 := blk_frozen BK229.out 4
                    have hfz24_5 := blk_frozen BK229.out 5
                    have hfz24_6 := blk_frozen BK229.out 6
                    have hfz24_7 := blk_frozen BK229.out 7
                    have hfz24_8 := blk_frozen BK229.out 8
                    have hfz24_9 := blk_frozen BK229.out 9
                    have hcz25_0 : w5.cell? ⟨gb230, 0, none⟩ = some (.int .i64 a1_0) := (blk_cell BK230.out 0).trans rfl
                    have hcz25_1 : w5.cell? ⟨gb230, 1, none⟩ = some (.int .i64 a1_1) := (blk_cell BK230.out 1).trans rfl
                    have hcz25_2 : w5.cell? ⟨gb230, 2, none⟩ = some (.string a1_2) := (blk_cell BK230.out 2).trans rfl
                    have hcz25_3 : w5.cell? ⟨gb230, 3, none⟩ = some (.string a1_3) := (blk_cell BK230.out 3).trans rfl
                    have hcz25_4 : w5.cell? ⟨gb230, 4, none⟩ = some (.string a1_4) := (blk_cell BK230.out 4).trans rfl
                    have hcz25_5 : w5.cell? ⟨gb230, 5, none⟩ = some (.slice A1_5 l1_5.length c1_5) := (blk_cell BK230.out 5).trans rfl
                    have hcz25_6 : w5.cell? ⟨gb230, 6, none⟩ = some (.slice A1_6 l1_6.length c1_6) := (blk_cell BK230.out 6).trans rfl
                    have hcz25_7 : w5.cell? ⟨gb230, 7, none⟩ = some (.int .i64 a1_7) := (blk_cell BK230.out 7).trans rfl
                    have hcz25_8 : w5.cell? ⟨gb230, 8, none⟩ = some (.int .i64 a1_8) := (blk_cell BK230.out 8).trans rfl
                    have hcz25_9 : w5.cell? ⟨gb230, 9, none⟩ = some (.slice A1_9 l1_9.length c1_9) := (blk_cell BK230.out 9).trans rfl
                    have hfz25_0 := blk_frozen BK230.out 0
                    have hfz25_1 := blk_frozen BK230.out 1
                    have hfz25_2 := blk_frozen BK230.out 2
                    have hfz25_3 := blk_frozen BK230.out 3
                    have hfz25_4 := blk_frozen BK230.out 4
                    have hfz25_5 := blk_frozen BK230.out 5
                    have hfz25_6 := blk_frozen BK230.out 6
                    have hfz25_7 := blk_frozen BK230.out 7
                    have hfz25_8 := blk_frozen BK230.out 8
                    have hfz25_9 := blk_frozen BK230.out 9
                    go_wp2_with (first | (go_at_call 30; (with_reducible refine (lecternkit_Int64s.calls k _ _ l0_5 _ _ l1_5 true _ ?side1 ?side2 ?side3 ?side4 A11.out).mono ?_); (case side1 => repeat (first | exact (Kd.C_below HR0_5.out HB.out) | (with_reducible refine Kd.C_alloc ?_ _) | (with_reducible refine Kd.C_drewN ?_ _) | (with_reducible refine Kd.C_drew ?_))); (case side2 => exact HC0_5.out); (case side3 => repeat (first | exact (Kd.C_below HR1_5.out HB.out) | (with_reducible refine Kd.C_alloc ?_ _) | (with_reducible refine Kd.C_drewN ?_ _) | (with_reducible refine Kd.C_drew ?_))); (case side4 => exact HC1_5.out); rintro e w' ⟨rfl, ⟨nd, rfl⟩⟩) | (go_at_call 30; (with_reducible refine (lecternkit_Int64s.calls k _ _ l0_6 _ _ l1_6 true _ ?side1 ?side2 ?side3 ?side4 A13.out).mono ?_); (case side1 => repeat (first | exact (Kd.C_below HR0_6.out (by repeat (first | (with_reducible first | exact HB.out | apply below_alloc | apply pw_below_drewN | apply below_drew1 | refine below_set ?_ GE229.out | refine below_set ?_ GE230.out) | exact HB.out))) | (with_reducible refine Kd.C_alloc ?_ _) | (with_reducible refine Kd.C_drewN ?_ _) | (with_reducible refine Kd.C_drew ?_))); (case side2 => exact HC0_6.out); (case side3 => repeat (first | exact (Kd.C_below HR1_6.out (by repeat (first | (with_reducible first | exact HB.out | apply below_alloc | apply pw_below_drewN | apply below_drew1 | refine below_set ?_ GE229.out | refine below_set ?_ GE230.out) | exact HB.out))) | (with_reducible refine Kd.C_alloc ?_ _) | (with_reducible refine Kd.C_drewN ?_ _) | (with_reducible refine Kd.C_drew ?_))); (case side4 => exact HC1_6.out); rintro e w' ⟨rfl, ⟨nd, rfl⟩⟩))
                    go_meet
                    case rel => exact ⟨_, (true), (by first | rfl | (simp; done) | (simp [*]; done)), H', ⟨by first | omega | exact Nat.le_refl _⟩, ⟨by (with_reducible repeat (first | refine blk_drewN ?_ _ | refine blk_drew ?_ | refine blk_alloc ?_ _)); exact BK229.out⟩, ⟨by (with_reducible repeat (first | refine blk_drewN ?_ _ | refine blk_drew ?_ | refine blk_alloc ?_ _)); exact BK230.out⟩, ⟨by repeat (first | (with_reducible first | exact HB.out | apply below_alloc | apply pw_below_drewN | apply below_drew1 | refine below_set ?_ GE229.out | refine below_set ?_ GE230.out) | exact HB.out)⟩⟩
                · replace c14 := Bool.eq_false_iff.mpr c14
                  subst c14
                  have H1 : (lecternkit_Query.j0 k true a0_0 a0_1 a0_2 a0_3 a0_4 l0_5 l0_6 a0_7 a0_8 l0_9 a1_0 a1_1 a1_2 a1_3 a1_4 l1_5 l1_6 a1_7 a1_8 l1_9) = some r := by rw [if_neg (show ¬ (false = true) by decide)] at H; exact H
                  clear H
                  have H := H1
                  clear H1
                  have H' := Aside0.mk H
                  clear H
                  have hnb26 := NB229_230.out
                  have hnc26 := NB230_229.out
                  have hcz27_0 : w5.cell? ⟨gb229, 0, none⟩ = some (.int .i64 a0_0) := (blk_cell BK229.out 0).trans rfl
                  have hcz27_1 : w5.cell? ⟨gb229, 1, none⟩ = some (.int .i64 a0_1) := (blk_cell BK229.out 1).trans rfl
                  have hcz27_2 : w5.cell? ⟨gb229, 2, none⟩ = some (.string a0_2) := (blk_cell BK229.out 2).trans rfl
                  have hcz27_3 : w5.cell? ⟨gb229, 3, none⟩ = some (.string a0_3) := (blk_cell BK229.out 3).trans rfl
                  have hcz27_4 : w5.cell? ⟨gb229, 4, none⟩ = some (.string a0_4) := (blk_cell BK229.out 4).trans rfl
                  have hcz27_5 : w5.cell? ⟨gb229, 5, none⟩ = some (.slice A0_5 l0_5.length c0_5) := (blk_cell BK229.out 5).trans rfl
                  have hcz27_6 : w5.cell? ⟨gb229, 6, none⟩ = some (.slice A0_6 l0_6.length c0_6) := (blk_cell BK229.out 6).trans rfl
                  have hcz27_7 : w5.cell? ⟨gb229, 7, none⟩ = some (.int .i64 a0_7) := (blk_cell BK229.out 7).trans rfl
                  have hcz27_8 : w5.cell? ⟨gb229, 8, none⟩ = some (.int .i64 a0_8) := (blk_cell BK229.out 8).trans rfl
                  have hcz27_9 : w5.cell? ⟨gb229, 9, none⟩ = some (.slice A0_9 l0_9.length c0_9) := (blk_cell BK229.out 9).trans rfl
                  have hfz27_0 := blk_frozen BK229.out 0
                  have hfz27_1 := blk_frozen BK229.out 1
                  have hfz27_2 := blk_frozen BK229.out 2
                  have hfz27_3 := blk_frozen BK229.out 3
                  have hfz27_4 := blk_frozen BK229.out 4
                  have hfz27_5 := blk_frozen BK229.out 5
                  have hfz27_6 := blk_frozen BK229.out 6
                  have hfz27_7 := blk_frozen BK229.out 7
                  have hfz27_8 := blk_frozen BK229.out 8
                  have hfz27_9 := blk_frozen BK229.out 9
                  have hcz28_0 : w5.cell? ⟨gb230, 0, none⟩ = some (.int .i64 a1_0) := (blk_cell BK230.out 0).trans rfl
                  have hcz28_1 : w5.cell? ⟨gb230, 1, none⟩ = some (.int .i64 a1_1) := (blk_cell BK230.out 1).trans rfl
                  have hcz28_2 : w5.cell? ⟨gb230, 2, none⟩ = some (.string a1_2) := (blk_cell BK230.out 2).trans rfl
                  have hcz28_3 : w5.cell? ⟨gb230, 3, none⟩ = some (.string a1_3) := (blk_cell BK230.out 3).trans rfl
                  have hcz28_4 : w5.cell? ⟨gb230, 4, none⟩ = some (.string a1_4) := (blk_cell BK230.out 4).trans rfl
                  have hcz28_5 : w5.cell? ⟨gb230, 5, none⟩ = some (.slice A1_5 l1_5.length c1_5) := (blk_cell BK230.out 5).trans rfl
                  have hcz28_6 : w5.cell? ⟨gb230, 6, none⟩ = some (.slice A1_6 l1_6.length c1_6) := (blk_cell BK230.out 6).trans rfl
                  have hcz28_7 : w5.cell? ⟨gb230, 7, none⟩ = some (.int .i64 a1_7) := (blk_cell BK230.out 7).trans rfl
                  have hcz28_8 : w5.cell? ⟨gb230, 8, none⟩ = some (.int .i64 a1_8) := (blk_cell BK230.out 8).trans rfl
                  have hcz28_9 : w5.cell? ⟨gb230, 9, none⟩ = some (.slice A1_9 l1_9.length c1_9) := (blk_cell BK230.out 9).trans rfl
                  have hfz28_0 := blk_frozen BK230.out 0
                  have hfz28_1 := blk_frozen BK230.out 1
                  have hfz28_2 := blk_frozen BK230.out 2
                  have hfz28_3 := blk_frozen BK230.out 3
                  have hfz28_4 := blk_frozen BK230.out 4
                  have hfz28_5 := blk_frozen BK230.out 5
                  have hfz28_6 := blk_frozen BK230.out 6
                  have hfz28_7 := blk_frozen BK230.out 7
                  have hfz28_8 := blk_frozen BK230.out 8
                  have hfz28_9 := blk_frozen BK230.out 9
                  go_wp2_with (first | (go_at_call 30; (with_reducible refine (lecternkit_Int64s.calls k _ _ l0_5 _ _ l1_5 true _ ?side1 ?side2 ?side3 ?side4 A11.out).mono ?_); (case side1 => repeat (first | exact (Kd.C_below HR0_5.out HB.out) | (with_reducible refine Kd.C_alloc ?_ _) | (with_reducible refine Kd.C_drewN ?_ _) | (with_reducible refine Kd.C_drew ?_))); (case side2 => exact HC0_5.out); (case side3 => repeat (first | exact (Kd.C_below HR1_5.out HB.out) | (with_reducible refine Kd.C_alloc ?_ _) | (with_reducible refine Kd.C_drewN ?_ _) | (with_reducible refine Kd.C_drew ?_))); (case side4 => exact HC1_5.out); rintro e w' ⟨rfl, ⟨nd, rfl⟩⟩) | (go_at_call 30; (with_reducible refine (lecternkit_Int64s.calls k _ _ l0_6 _ _ l1_6 false _ ?side1 ?side2 ?side3 ?side4 A13.out).mono ?_); (case side1 => repeat (first | exact (Kd.C_below HR0_6.out (by repeat (first | (with_reducible first | exact HB.out | apply below_alloc | apply pw_below_drewN | apply below_drew1 | refine below_set ?_ GE229.out | refine below_set ?_ GE230.out) | exact HB.out))) | (with_reducible refine Kd.C_alloc ?_ _) | (with_reducible refine Kd.C_drewN ?_ _) | (with_reducible refine Kd.C_drew ?_))); (case side2 => exact HC0_6.out); (case side3 => repeat (first | exact (Kd.C_below HR1_6.out (by repeat (first | (with_reducible first | exact HB.out | apply below_alloc | apply pw_below_drewN | apply below_drew1 | refine below_set ?_ GE229.out | refine below_set ?_ GE230.out) | exact HB.out))) | (with_reducible refine Kd.C_alloc ?_ _) | (with_reducible refine Kd.C_drewN ?_ _) | (with_reducible refine Kd.C_drew ?_))); (case side4 => exact HC1_6.out); rintro e w' ⟨rfl, ⟨nd, rfl⟩⟩))
                  go_meet
                  case rel => exact ⟨_, (true), (by first | rfl | (simp; done) | (simp [*]; done)), H', ⟨by first | omega | exact Nat.le_refl _⟩, ⟨by (with_reducible repeat (first | refine blk_drewN ?_ _ | refine blk_drew ?_ | refine blk_alloc ?_ _)); exact BK229.out⟩, ⟨by (with_reducible repeat (first | refine blk_drewN ?_ _ | refine blk_drew ?_ | refine blk_alloc ?_ _)); exact BK230.out⟩, ⟨by repeat (first | (with_reducible first | exact HB.out | apply below_alloc | apply pw_below_drewN | apply below_drew1 | refine below_set ?_ GE229.out | refine below_set ?_ GE230.out) | exact HB.out)⟩⟩
              · replace c12 := Bool.eq_false_iff.mpr c12
                subst c12
                have H1 : (lecternkit_Query.j0 k true a0_0 a0_1 a0_2 a0_3 a0_4 l0_5 l0_6 a0_7 a0_8 l0_9 a1_0 a1_1 a1_2 a1_3 a1_4 l1_5 l1_6 a1_7 a1_8 l1_9) = some r := by rw [if_neg (show ¬ (false = true) by decide)] at H; exact H
                clear H
                have H := H1
                clear H1
                have H' := Aside0.mk H
                clear H
                have hnb29 := NB229_230.out
                have hnc29 := NB230_229.out
                have hcz30_0 : w5.cell? ⟨gb229, 0, none⟩ = some (.int .i64 a0_0) := (blk_cell BK229.out 0).trans rfl
                have hcz30_1 : w5.cell? ⟨gb229, 1, none⟩ = some (.int .i64 a0_1) := (blk_cell BK229.out 1).trans rfl
                have hcz30_2 : w5.cell? ⟨gb229, 2, none⟩ = some (.string a0_2) := (blk_cell BK229.out 2).trans rfl
                have hcz30_3 : w5.cell? ⟨gb229, 3, none⟩ = some (.string a0_3) := (blk_cell BK229.out 3).trans rfl
                have hcz30_4 : w5.cell? ⟨gb229, 4, none⟩ = some (.string a0_4) := (blk_cell BK229.out 4).trans rfl
                have hcz30_5 : w5.cell? ⟨gb229, 5, none⟩ = some (.slice A0_5 l0_5.length c0_5) := (blk_cell BK229.out 5).trans rfl
                have hcz30_6 : w5.cell? ⟨gb229, 6, none⟩ = some (.slice A0_6 l0_6.length c0_6) := (blk_cell BK229.out 6).trans rfl
                have hcz30_7 : w5.cell? ⟨gb229, 7, none⟩ = some (.int .i64 a0_7) := (blk_cell BK229.out 7).trans rfl
                have hcz30_8 : w5.cell? ⟨gb229, 8, none⟩ = some (.int .i64 a0_8) := (blk_cell BK229.out 8).trans rfl
                have hcz30_9 : w5.cell? ⟨gb229, 9, none⟩ = some (.slice A0_9 l0_9.length c0_9) := (blk_cell BK229.out 9).trans rfl
                have hfz30_0 := blk_frozen BK229.out 0
                have hfz30_1 := blk_frozen BK229.out 1
                have hfz30_2 := blk_frozen BK229.out 2
                have hfz30_3 := blk_frozen BK229.out 3
                have hfz30_4 := blk_frozen BK229.out 4
                have hfz30_5 := blk_frozen BK229.out 5
                have hfz30_6 := blk_frozen BK229.out 6
                have hfz30_7 := blk_frozen BK229.out 7
                have hfz30_8 := blk_frozen BK229.out 8
                have hfz30_9 := blk_frozen BK229.out 9
                have hcz31_0 : w5.cell? ⟨gb230, 0, none⟩ = some (.int .i64 a1_0) := (blk_cell BK230.out 0).trans rfl
                have hcz31_1 : w5.cell? ⟨gb230, 1, none⟩ = some (.int .i64 a1_1) := (blk_cell BK230.out 1).trans rfl
                have hcz31_2 : w5.cell? ⟨gb230, 2, none⟩ = some (.string a1_2) := (blk_cell BK230.out 2).trans rfl
                have hcz31_3 : w5.cell? ⟨gb230, 3, none⟩ = some (.string a1_3) := (blk_cell BK230.out 3).trans rfl
                have hcz31_4 : w5.cell? ⟨gb230, 4, none⟩ = some (.string a1_4) := (blk_cell BK230.out 4).trans rfl
                have hcz31_5 : w5.cell? ⟨gb230, 5, none⟩ = some (.slice A1_5 l1_5.length c1_5) := (blk_cell BK230.out 5).trans rfl
                have hcz31_6 : w5.cell? ⟨gb230, 6, none⟩ = some (.slice A1_6 l1_6.length c1_6) := (blk_cell BK230.out 6).trans rfl
                have hcz31_7 : w5.cell? ⟨gb230, 7, none⟩ = some (.int .i64 a1_7) := (blk_cell BK230.out 7).trans rfl
                have hcz31_8 : w5.cell? ⟨gb230, 8, none⟩ = some (.int .i64 a1_8) := (blk_cell BK230.out 8).trans rfl
                have hcz31_9 : w5.cell? ⟨gb230, 9, none⟩ = some (.slice A1_9 l1_9.length c1_9) := (blk_cell BK230.out 9).trans rfl
                have hfz31_0 := blk_frozen BK230.out 0
                have hfz31_1 := blk_frozen BK230.out 1
                have hfz31_2 := blk_frozen BK230.out 2
                have hfz31_3 := blk_frozen BK230.out 3
                have hfz31_4 := blk_frozen BK230.out 4
                have hfz31_5 := blk_frozen BK230.out 5
                have hfz31_6 := blk_frozen BK230.out 6
                have hfz31_7 := blk_frozen BK230.out 7
                have hfz31_8 := blk_frozen BK230.out 8
                have hfz31_9 := blk_frozen BK230.out 9
                go_wp2_with (first | (go_at_call 30; (with_reducible refine (lecternkit_Int64s.calls k _ _ l0_5 _ _ l1_5 false _ ?side1 ?side2 ?side3 ?side4 A11.out).mono ?_); (case side1 => repeat (first | exact (Kd.C_below HR0_5.out HB.out) | (with_reducible refine Kd.C_alloc ?_ _) | (with_reducible refine Kd.C_drewN ?_ _) | (with_reducible refine Kd.C_drew ?_))); (case side2 => exact HC0_5.out); (case side3 => repeat (first | exact (Kd.C_below HR1_5.out HB.out) | (with_reducible refine Kd.C_alloc ?_ _) | (with_reducible refine Kd.C_drewN ?_ _) | (with_reducible refine Kd.C_drew ?_))); (case side4 => exact HC1_5.out); rintro e w' ⟨rfl, ⟨nd, rfl⟩⟩))
                go_meet
                case rel => exact ⟨_, (true), (by first | rfl | (simp; done) | (simp [*]; done)), H', ⟨by first | omega | exact Nat.le_refl _⟩, ⟨by (with_reducible repeat (first | refine blk_drewN ?_ _ | refine blk_drew ?_ | refine blk_alloc ?_ _)); exact BK229.out⟩, ⟨by (with_reducible repeat (first | refine blk_drewN ?_ _ | refine blk_drew ?_ | refine blk_alloc ?_ _)); exact BK230.out⟩, ⟨by repeat (first | (with_reducible first | exact HB.out | apply below_alloc | apply pw_below_drewN | apply below_drew1 | refine below_set ?_ GE229.out | refine below_set ?_ GE230.out) | exact HB.out)⟩⟩
            · rw [if_neg c10] at H
              have c10b0 : (a0_4.toList == a1_4.toList) = false := beq_eq_false_iff_ne.mpr c10
              have c10b1 : (a0_4.toList != a1_4.toList) = true := bne_iff_ne.mpr c10
              have H' := Aside0.mk H
              clear H
              have hnb32 := NB229_230.out
              have hnc32 := NB230_229.out
              have hcz33_0 : w5.cell? ⟨gb229, 0, none⟩ = some (.int .i64 a0_0) := (blk_cell BK229.out 0).trans rfl
              have hcz33_1 : w5.cell? ⟨gb229, 1, none⟩ = some (.int .i64 a0_1) := (blk_cell BK229.out 1).trans rfl
              have hcz33_2 : w5.cell? ⟨gb229, 2, none⟩ = some (.string a0_2) := (blk_cell BK229.out 2).trans rfl
              have hcz33_3 : w5.cell? ⟨gb229, 3, none⟩ = some (.string a0_3) := (blk_cell BK229.out 3).trans rfl
              have hcz33_4 : w5.cell? ⟨gb229, 4, none⟩ = some (.string a0_4) := (blk_cell BK229.out 4).trans rfl
              have hcz33_5 : w5.cell? ⟨gb229, 5, none⟩ = some (.slice A0_5 l0_5.length c0_5) := (blk_cell BK229.out 5).trans rfl
              have hcz33_6 : w5.cell? ⟨gb229, 6, none⟩ = some (.slice A0_6 l0_6.length c0_6) := (blk_cell BK229.out 6).trans rfl
              have hcz33_7 : w5.cell? ⟨gb229, 7, none⟩ = some (.int .i64 a0_7) := (blk_cell BK229.out 7).trans rfl
              have hcz33_8 : w5.cell? ⟨gb229, 8, none⟩ = some (.int .i64 a0_8) := (blk_cell BK229.out 8).trans rfl
              have hcz33_9 : w5.cell? ⟨gb229, 9, none⟩ = some (.slice A0_9 l0_9.length c0_9) := (blk_cell BK229.out 9).trans rfl
              have hfz33_0 := blk_frozen BK229.out 0
              have hfz33_1 := blk_frozen BK229.out 1
              have hfz33_2 := blk_frozen BK229.out 2
              have hfz33_3 := blk_frozen BK229.out 3
              have hfz33_4 := blk_frozen BK229.out 4
              have hfz33_5 := blk_frozen BK229.out 5
              have hfz33_6 := blk_frozen BK229.out 6
              have hfz33_7 := blk_frozen BK229.out 7
              have hfz33_8 := blk_frozen BK229.out 8
              have hfz33_9 := blk_frozen BK229.out 9
              have hcz34_0 : w5.cell? ⟨gb230, 0, none⟩ = some (.int .i64 a1_0) := (blk_cell BK230.out 0).trans rfl
              have hcz34_1 : w5.cell? ⟨gb230, 1, none⟩ = some (.int .i64 a1_1) := (blk_cell BK230.out 1).trans rfl
              have hcz34_2 : w5.cell? ⟨gb230, 2, none⟩ = some (.string a1_2) := (blk_cell BK230.out 2).trans rfl
              have hcz34_3 : w5.cell? ⟨gb230, 3, none⟩ = some (.string a1_3) := (blk_cell BK230.out 3).trans rfl
              have hcz34_4 : w5.cell? ⟨gb230, 4, none⟩ = some (.string a1_4) := (blk_cell BK230.out 4).trans rfl
              have hcz34_5 : w5.cell? ⟨gb230, 5, none⟩ = some (.slice A1_5 l1_5.length c1_5) := (blk_cell BK230.out 5).trans rfl
              have hcz34_6 : w5.cell? ⟨gb230, 6, none⟩ = some (.slice A1_6 l1_6.length c1_6) := (blk_cell BK230.out 6).trans rfl
              have hcz34_7 : w5.cell? ⟨gb230, 7, none⟩ = some (.int .i64 a1_7) := (blk_cell BK230.out 7).trans rfl
              have hcz34_8 : w5.cell? ⟨gb230, 8, none⟩ = some (.int .i64 a1_8) := (blk_cell BK230.out 8).trans rfl
              have hcz34_9 : w5.cell? ⟨gb230, 9, none⟩ = some (.slice A1_9 l1_9.length c1_9) := (blk_cell BK230.out 9).trans rfl
              have hfz34_0 := blk_frozen BK230.out 0
              have hfz34_1 := blk_frozen BK230.out 1
              have hfz34_2 := blk_frozen BK230.out 2
              have hfz34_3 := blk_frozen BK230.out 3
              have hfz34_4 := blk_frozen BK230.out 4
              have hfz34_5 := blk_frozen BK230.out 5
              have hfz34_6 := blk_frozen BK230.out 6
              have hfz34_7 := blk_frozen BK230.out 7
              have hfz34_8 := blk_frozen BK230.out 8
              have hfz34_9 := blk_frozen BK230.out 9
              go_wp2
              go_meet
              case rel => exact ⟨_, (true), (by first | rfl | (simp; done) | (simp [*]; done)), H', ⟨by first | omega | exact Nat.le_refl _⟩, ⟨by (with_reducible repeat (first | refine blk_drewN ?_ _ | refine blk_drew ?_ | refine blk_alloc ?_ _)); exact BK229.out⟩, ⟨by (with_reducible repeat (first | refine blk_drewN ?_ _ | refine blk_drew ?_ | refine blk_alloc ?_ _)); exact BK230.out⟩, ⟨by repeat (first | (with_reducible first | exact HB.out | apply below_alloc | apply pw_below_drewN | apply below_drew1 | refine below_set ?_ GE229.out | refine below_set ?_ GE230.out) | exact HB.out)⟩⟩
          · rw [if_neg c9] at H
            have c9b0 : (a0_3.toList == a1_3.toList) = false := beq_eq_false_iff_ne.mpr c9
            have c9b1 : (a0_3.toList != a1_3.toList) = true := bne_iff_ne.mpr c9
            have H' := Aside0.mk H
            clear H
            have hnb35 := NB229_230.out
            have hnc35 := NB230_229.out
            have hcz36_0 : w5.cell? ⟨gb229, 0, none⟩ = some (.int .i64 a0_0) := (blk_cell BK229.out 0).trans rfl
            have hcz36_1 : w5.cell? ⟨gb229, 1, none⟩ = some (.int .i64 a0_1) := (blk_cell BK229.out 1).trans rfl
            have hcz36_2 : w5.cell? ⟨gb229, 2, none⟩ = some (.string a0_2) := (blk_cell BK229.out 2).trans rfl
            have hcz36_3 : w5.cell? ⟨gb229, 3, none⟩ = some (.string a0_3) := (blk_cell BK229.out 3).trans rfl
            have hcz36_4 : w5.cell? ⟨gb229, 4, none⟩ = some (.string a0_4) := (blk_cell BK229.out 4).trans rfl
            have hcz36_5 : w5.cell? ⟨gb229, 5, none⟩ = some (.slice A0_5 l0_5.length c0_5) := (blk_cell BK229.out 5).trans rfl
            have hcz36_6 : w5.cell? ⟨gb229, 6, none⟩ = some (.slice A0_6 l0_6.length c0_6) := (blk_cell BK229.out 6).trans rfl
            have hcz36_7 : w5.cell? ⟨gb229, 7, none⟩ = some (.int .i64 a0_7) := (blk_cell BK229.out 7).trans rfl
            have hcz36_8 : w5.cell? ⟨gb229, 8, none⟩ = some (.int .i64 a0_8) := (blk_cell BK229.out 8).trans rfl
            have hcz36_9 : w5.cell? ⟨gb229, 9, none⟩ = some (.slice A0_9 l0_9.length c0_9) := (blk_cell BK229.out 9).trans rfl
            have hfz36_0 := blk_frozen BK229.out 0
            have hfz36_1 := blk_frozen BK229.out 1
            have hfz36_2 := blk_frozen BK229.out 2
            have hfz36_3 := blk_frozen BK229.out 3
            have hfz36_4 := blk_frozen BK229.out 4
            have hfz36_5 := blk_frozen BK229.out 5
            have hfz36_6 := blk_frozen BK229.out 6
            have hfz36_7 := blk_frozen BK229.out 7
            have hfz36_8 := blk_frozen BK229.out 8
            have hfz36_9 := blk_frozen BK229.out 9
            have hcz37_0 : w5.cell? ⟨gb230, 0, none⟩ = some (.int .i64 a1_0) := (blk_cell BK230.out 0).trans rfl
            have hcz37_1 : w5.cell? ⟨gb230, 1, none⟩ = some (.int .i64 a1_1) := (blk_cell BK230.out 1).trans rfl
            have hcz37_2 : w5.cell? ⟨gb230, 2, none⟩ = some (.string a1_2) := (blk_cell BK230.out 2).trans rfl
            have hcz37_3 : w5.cell? ⟨gb230, 3, none⟩ = some (.string a1_3) := (blk_cell BK230.out 3).trans rfl
            have hcz37_4 : w5.cell? ⟨gb230, 4, none⟩ = some (.string a1_4) := (blk_cell BK230.out 4).trans rfl
            have hcz37_5 : w5.cell? ⟨gb230, 5, none⟩ = some (.slice A1_5 l1_5.length c1_5) := (blk_cell BK230.out 5).trans rfl
            have hcz37_6 : w5.cell? ⟨gb230, 6, none⟩ = some (.slice A1_6 l1_6.length c1_6) := (blk_cell BK230.out 6).trans rfl
            have hcz37_7 : w5.cell? ⟨gb230, 7, none⟩ = some (.int .i64 a1_7) := (blk_cell BK230.out 7).trans rfl
            have hcz37_8 : w5.cell? ⟨gb230, 8, none⟩ = some (.int .i64 a1_8) := (blk_cell BK230.out 8).trans rfl
            have hcz37_9 : w5.cell? ⟨gb230, 9, none⟩ = some (.slice A1_9 l1_9.length c1_9) := (blk_cell BK230.out 9).trans rfl
            have hfz37_0 := blk_frozen BK230.out 0
            have hfz37_1 := blk_frozen BK230.out 1
            have hfz37_2 := blk_frozen BK230.out 2
            have hfz37_3 := blk_frozen BK230.out 3
            have hfz37_4 := blk_frozen BK230.out 4
            have hfz37_5 := blk_frozen BK230.out 5
            have hfz37_6 := blk_frozen BK230.out 6
            have hfz37_7 := blk_frozen BK230.out 7
            have hfz37_8 := blk_frozen BK230.out 8
            have hfz37_9 := blk_frozen BK230.out 9
            go_wp2
            go_meet
            case rel => exact ⟨_, (true), (by first | rfl | (simp; done) | (simp [*]; done)), H', ⟨by first | omega | exact Nat.le_refl _⟩, ⟨by (with_reducible repeat (first | refine blk_drewN ?_ _ | refine blk_drew ?_ | refine blk_alloc ?_ _)); exact BK229.out⟩, ⟨by (with_reducible repeat (first | refine blk_drewN ?_ _ | refine blk_drew ?_ | refine blk_alloc ?_ _)); exact BK230.out⟩, ⟨by repeat (first | (with_reducible first | exact HB.out | apply below_alloc | apply pw_below_drewN | apply below_drew1 | refine below_set ?_ GE229.out | refine below_set ?_ GE230.out) | exact HB.out)⟩⟩
        · rw [if_neg c8] at H
          have c8b0 : (a0_2.toList == a1_2.toList) = false := beq_eq_false_iff_ne.mpr c8
          have c8b1 : (a0_2.toList != a1_2.toList) = true := bne_iff_ne.mpr c8
          have H' := Aside0.mk H
          clear H
          have hnb38 := NB229_230.out
          have hnc38 := NB230_229.out
          have hcz39_0 : w5.cell? ⟨gb229, 0, none⟩ = some (.int .i64 a0_0) := (blk_cell BK229.out 0).trans rfl
          have hcz39_1 : w5.cell? ⟨gb229, 1, none⟩ = some (.int .i64 a0_1) := (blk_cell BK229.out 1).trans rfl
          have hcz39_2 : w5.cell? ⟨gb229, 2, none⟩ = some (.string a0_2) := (blk_cell BK229.out 2).trans rfl
          have hcz39_3 : w5.cell? ⟨gb229, 3, none⟩ = some (.string a0_3) := (blk_cell BK229.out 3).trans rfl
          have hcz39_4 : w5.cell? ⟨gb229, 4, none⟩ = some (.string a0_4) := (blk_cell BK229.out 4).trans rfl
          have hcz39_5 : w5.cell? ⟨gb229, 5, none⟩ = some (.slice A0_5 l0_5.length c0_5) := (blk_cell BK229.out 5).trans rfl
          have hcz39_6 : w5.cell? ⟨gb229, 6, none⟩ = some (.slice A0_6 l0_6.length c0_6) := (blk_cell BK229.out 6).trans rfl
          have hcz39_7 : w5.cell? ⟨gb229, 7, none⟩ = some (.int .i64 a0_7) := (blk_cell BK229.out 7).trans rfl
          have hcz39_8 : w5.cell? ⟨gb229, 8, none⟩ = some (.int .i64 a0_8) := (blk_cell BK229.out 8).trans rfl
          have hcz39_9 : w5.cell? ⟨gb229, 9, none⟩ = some (.slice A0_9 l0_9.length c0_9) := (blk_cell BK229.out 9).trans rfl
          have hfz39_0 := blk_frozen BK229.out 0
          have hfz39_1 := blk_frozen BK229.out 1
          have hfz39_2 := blk_frozen BK229.out 2
          have hfz39_3 := blk_frozen BK229.out 3
          have hfz39_4 := blk_frozen BK229.out 4
          have hfz39_5 := blk_frozen BK229.out 5
          have hfz39_6 := blk_frozen BK229.out 6
          have hfz39_7 := blk_frozen BK229.out 7
          have hfz39_8 := blk_frozen BK229.out 8
          have hfz39_9 := blk_frozen BK229.out 9
          have hcz40_0 : w5.cell? ⟨gb230, 0, none⟩ = some (.int .i64 a1_0) := (blk_cell BK230.out 0).trans rfl
          have hcz40_1 : w5.cell? ⟨gb230, 1, none⟩ = some (.int .i64 a1_1) := (blk_cell BK230.out 1).trans rfl
          have hcz40_2 : w5.cell? ⟨gb230, 2, none⟩ = some (.string a1_2) := (blk_cell BK230.out 2).trans rfl
          have hcz40_3 : w5.cell? ⟨gb230, 3, none⟩ = some (.string a1_3) := (blk_cell BK230.out 3).trans rfl
          have hcz40_4 : w5.cell? ⟨gb230, 4, none⟩ = some (.string a1_4) := (blk_cell BK230.out 4).trans rfl
          have hcz40_5 : w5.cell? ⟨gb230, 5, none⟩ = some (.slice A1_5 l1_5.length c1_5) := (blk_cell BK230.out 5).trans rfl
          have hcz40_6 : w5.cell? ⟨gb230, 6, none⟩ = some (.slice A1_6 l1_6.length c1_6) := (blk_cell BK230.out 6).trans rfl
          have hcz40_7 : w5.cell? ⟨gb230, 7, none⟩ = some (.int .i64 a1_7) := (blk_cell BK230.out 7).trans rfl
          have hcz40_8 : w5.cell? ⟨gb230, 8, none⟩ = some (.int .i64 a1_8) := (blk_cell BK230.out 8).trans rfl
          have hcz40_9 : w5.cell? ⟨gb230, 9, none⟩ = some (.slice A1_9 l1_9.length c1_9) := (blk_cell BK230.out 9).trans rfl
          have hfz40_0 := blk_frozen BK230.out 0
          have hfz40_1 := blk_frozen BK230.out 1
          have hfz40_2 := blk_frozen BK230.out 2
          have hfz40_3 := blk_frozen BK230.out 3
          have hfz40_4 := blk_frozen BK230.out 4
          have hfz40_5 := blk_frozen BK230.out 5
          have hfz40_6 := blk_frozen BK230.out 6
          have hfz40_7 := blk_frozen BK230.out 7
          have hfz40_8 := blk_frozen BK230.out 8
          have hfz40_9 := blk_frozen BK230.out 9
          go_wp2
          go_meet
          case rel => exact ⟨_, (true), (by first | rfl | (simp; done) | (simp [*]; done)), H', ⟨by first | omega | exact Nat.le_refl _⟩, ⟨by (with_reducible repeat (first | refine blk_drewN ?_ _ | refine blk_drew ?_ | refine blk_alloc ?_ _)); exact BK229.out⟩, ⟨by (with_reducible repeat (first | refine blk_drewN ?_ _ | refine blk_drew ?_ | refine blk_alloc ?_ _)); exact BK230.out⟩, ⟨by repeat (first | (with_reducible first | exact HB.out | apply below_alloc | apply pw_below_drewN | apply below_drew1 | refine below_set ?_ GE229.out | refine below_set ?_ GE230.out) | exact HB.out)⟩⟩
      · rw [if_neg c7] at H
        have c7b0 : (a0_1 == a1_1) = false := beq_eq_false_iff_ne.mpr c7
        have c7b1 : (a0_1 != a1_1) = true := bne_iff_ne.mpr c7
        have H' := Aside0.mk H
        clear H
        have hnb41 := NB229_230.out
        have hnc41 := NB230_229.out
        have hcz42_0 : w5.cell? ⟨gb229, 0, none⟩ = some (.int .i64 a0_0) := (blk_cell BK229.out 0).trans rfl
        have hcz42_1 : w5.cell? ⟨gb229, 1, none⟩ = some (.int .i64 a0_1) := (blk_cell BK229.out 1).trans rfl
        have hcz42_2 : w5.cell? ⟨gb229, 2, none⟩ = some (.string a0_2) := (blk_cell BK229.out 2).trans rfl
        have hcz42_3 : w5.cell? ⟨gb229, 3, none⟩ = some (.string a0_3) := (blk_cell BK229.out 3).trans rfl
        have hcz42_4 : w5.cell? ⟨gb229, 4, none⟩ = some (.string a0_4) := (blk_cell BK229.out 4).trans rfl
        have hcz42_5 : w5.cell? ⟨gb229, 5, none⟩ = some (.slice A0_5 l0_5.length c0_5) := (blk_cell BK229.out 5).trans rfl
        have hcz42_6 : w5.cell? ⟨gb229, 6, none⟩ = some (.slice A0_6 l0_6.length c0_6) := (blk_cell BK229.out 6).trans rfl
        have hcz42_7 : w5.cell? ⟨gb229, 7, none⟩ = some (.int .i64 a0_7) := (blk_cell BK229.out 7).trans rfl
        have hcz42_8 : w5.cell? ⟨gb229, 8, none⟩ = some (.int .i64 a0_8) := (blk_cell BK229.out 8).trans rfl
        have hcz42_9 : w5.cell? ⟨gb229, 9, none⟩ = some (.slice A0_9 l0_9.length c0_9) := (blk_cell BK229.out 9).trans rfl
        have hfz42_0 := blk_frozen BK229.out 0
        have hfz42_1 := blk_frozen BK229.out 1
        have hfz42_2 := blk_frozen BK229.out 2
        have hfz42_3 := blk_frozen BK229.out 3
        have hfz42_4 := blk_frozen BK229.out 4
        have hfz42_5 := blk_frozen BK229.out 5
        have hfz42_6 := blk_frozen BK229.out 6
        have hfz42_7 := blk_frozen BK229.out 7
        have hfz42_8 := blk_frozen BK229.out 8
        have hfz42_9 := blk_frozen BK229.out 9
        have hcz43_0 : w5.cell? ⟨gb230, 0, none⟩ = some (.int .i64 a1_0) := (blk_cell BK230.out 0).trans rfl
        have hcz43_1 : w5.cell? ⟨gb230, 1, none⟩ = some (.int .i64 a1_1) := (blk_cell BK230.out 1).trans rfl
        have hcz43_2 : w5.cell? ⟨gb230, 2, none⟩ = some (.string a1_2) := (blk_cell BK230.out 2).trans rfl
        have hcz43_3 : w5.cell? ⟨gb230, 3, none⟩ = some (.string a1_3) := (blk_cell BK230.out 3).trans rfl
        have hcz43_4 : w5.cell? ⟨gb230, 4, none⟩ = some (.string a1_4) := (blk_cell BK230.out 4).trans rfl
        have hcz43_5 : w5.cell? ⟨gb230, 5, none⟩ = some (.slice A1_5 l1_5.length c1_5) := (blk_cell BK230.out 5).trans rfl
        have hcz43_6 : w5.cell? ⟨gb230, 6, none⟩ = some (.slice A1_6 l1_6.length c1_6) := (blk_cell BK230.out 6).trans rfl
        have hcz43_7 : w5.cell? ⟨gb230, 7, none⟩ = some (.int .i64 a1_7) := (blk_cell BK230.out 7).trans rfl
        have hcz43_8 : w5.cell? ⟨gb230, 8, none⟩ = some (.int .i64 a1_8) := (blk_cell BK230.out 8).trans rfl
        have hcz43_9 : w5.cell? ⟨gb230, 9, none⟩ = some (.slice A1_9 l1_9.length c1_9) := (blk_cell BK230.out 9).trans rfl
        have hfz43_0 := blk_frozen BK230.out 0
        have hfz43_1 := blk_frozen BK230.out 1
        have hfz43_2 := blk_frozen BK230.out 2
        have hfz43_3 := blk_frozen BK230.out 3
        have hfz43_4 := blk_frozen BK230.out 4
        have hfz43_5 := blk_frozen BK230.out 5
        have hfz43_6 := blk_frozen BK230.out 6
        have hfz43_7 := blk_frozen BK230.out 7
        have hfz43_8 := blk_frozen BK230.out 8
        have hfz43_9 := blk_frozen BK230.out 9
        go_wp2
        go_meet
        case rel => exact ⟨_, (true), (by first | rfl | (simp; done) | (simp [*]; done)), H', ⟨by first | omega | exact Nat.le_refl _⟩, ⟨by (with_reducible repeat (first | refine blk_drewN ?_ _ | refine blk_drew ?_ | refine blk_alloc ?_ _)); exact BK229.out⟩, ⟨by (with_reducible repeat (first | refine blk_drewN ?_ _ | refine blk_drew ?_ | refine blk_alloc ?_ _)); exact BK230.out⟩, ⟨by repeat (first | (with_reducible first | exact HB.out | apply below_alloc | apply pw_below_drewN | apply below_drew1 | refine below_set ?_ GE229.out | refine below_set ?_ GE230.out) | exact HB.out)⟩⟩
    · rw [if_neg c6] at H
      have c6b0 : (a0_0 == a1_0) = false := beq_eq_false_iff_ne.mpr c6
      have c6b1 : (a0_0 != a1_0) = true := bne_iff_ne.mpr c6
      (first | rw [c6b0] | (simp only [i64_w, i32_w]; rw [c6b0]) | skip)
      have H' := Aside0.mk H
      clear H
      have hnb44 := NB229_230.out
      have hnc44 := NB230_229.out
      have hcz45_0 : w5.cell? ⟨gb229, 0, none⟩ = some (.int .i64 a0_0) := (blk_cell BK229.out 0).trans rfl
      have hcz45_1 : w5.cell? ⟨gb229, 1, none⟩ = some (.int .i64 a0_1) := (blk_cell BK229.out 1).trans rfl
      have hcz45_2 : w5.cell? ⟨gb229, 2, none⟩ = some (.string a0_2) := (blk_cell BK229.out 2).trans rfl
      have hcz45_3 : w5.cell? ⟨gb229, 3, none⟩ = some (.string a0_3) := (blk_cell BK229.out 3).trans rfl
      have hcz45_4 : w5.cell? ⟨gb229, 4, none⟩ = some (.string a0_4) := (blk_cell BK229.out 4).trans rfl
      have hcz45_5 : w5.cell? ⟨gb229, 5, none⟩ = some (.slice A0_5 l0_5.length c0_5) := (blk_cell BK229.out 5).trans rfl
      have hcz45_6 : w5.cell? ⟨gb229, 6, none⟩ = some (.slice A0_6 l0_6.length c0_6) := (blk_cell BK229.out 6).trans rfl
      have hcz45_7 : w5.cell? ⟨gb229, 7, none⟩ = some (.int .i64 a0_7) := (blk_cell BK229.out 7).trans rfl
      have hcz45_8 : w5.cell? ⟨gb229, 8, none⟩ = some (.int .i64 a0_8) := (blk_cell BK229.out 8).trans rfl
      have hcz45_9 : w5.cell? ⟨gb229, 9, none⟩ = some (.slice A0_9 l0_9.length c0_9) := (blk_cell BK229.out 9).trans rfl
      have hfz45_0 := blk_frozen BK229.out 0
      have hfz45_1 := blk_frozen BK229.out 1
      have hfz45_2 := blk_frozen BK229.out 2
      have hfz45_3 := blk_frozen BK229.out 3
      have hfz45_4 := blk_frozen BK229.out 4
      have hfz45_5 := blk_frozen BK229.out 5
      have hfz45_6 := blk_frozen BK229.out 6
      have hfz45_7 := blk_frozen BK229.out 7
      have hfz45_8 := blk_frozen BK229.out 8
      have hfz45_9 := blk_frozen BK229.out 9
      have hcz46_0 : w5.cell? ⟨gb230, 0, none⟩ = some (.int .i64 a1_0) := (blk_cell BK230.out 0).trans rfl
      have hcz46_1 : w5.cell? ⟨gb230, 1, none⟩ = some (.int .i64 a1_1) := (blk_cell BK230.out 1).trans rfl
      have hcz46_2 : w5.cell? ⟨gb230, 2, none⟩ = some (.string a1_2) := (blk_cell BK230.out 2).trans rfl
      have hcz46_3 : w5.cell? ⟨gb230, 3, none⟩ = some (.string a1_3) := (blk_cell BK230.out 3).trans rfl
      have hcz46_4 : w5.cell? ⟨gb230, 4, none⟩ = some (.string a1_4) := (blk_cell BK230.out 4).trans rfl
      have hcz46_5 : w5.cell? ⟨gb230, 5, none⟩ = some (.slice A1_5 l1_5.length c1_5) := (blk_cell BK230.out 5).trans rfl
      have hcz46_6 : w5.cell? ⟨gb230, 6, none⟩ = some (.slice A1_6 l1_6.length c1_6) := (blk_cell BK230.out 6).trans rfl
      have hcz46_7 : w5.cell? ⟨gb230, 7, none⟩ = some (.int .i64 a1_7) := (blk_cell BK230.out 7).trans rfl
      have hcz46_8 : w5.cell? ⟨gb230, 8, none⟩ = some (.int .i64 a1_8) := (blk_cell BK230.out 8).trans rfl
      have hcz46_9 : w5.cell? ⟨gb230, 9, none⟩ = some (.slice A1_9 l1_9.length c1_9) := (blk_cell BK230.out 9).trans rfl
      have hfz46_0 := blk_frozen BK230.out 0
      have hfz46_1 := blk_frozen BK230.out 1
      have hfz46_2 := blk_frozen BK230.out 2
      have hfz46_3 := blk_frozen BK230.out 3
      have hfz46_4 := blk_frozen BK230.out 4
      have hfz46_5 := blk_frozen BK230.out 5
      have hfz46_6 := blk_frozen BK230.out 6
      have hfz46_7 := blk_frozen BK230.out 7
      have hfz46_8 := blk_frozen BK230.out 8
      have hfz46_9 := blk_frozen BK230.out 9
      go_wp2
      go_meet
      case rel => exact ⟨_, (true), (by first | rfl | (simp; done) | (simp [*]; done)), H', ⟨by first | omega | exact Nat.le_refl _⟩, ⟨by (with_reducible repeat (first | refine blk_drewN ?_ _ | refine blk_drew ?_ | refine blk_alloc ?_ _)); exact BK229.out⟩, ⟨by (with_reducible repeat (first | refine blk_drewN ?_ _ | refine blk_drew ?_ | refine blk_alloc ?_ _)); exact BK230.out⟩, ⟨by repeat (first | (with_reducible first | exact HB.out | apply below_alloc | apply pw_below_drewN | apply below_drew1 | refine below_set ?_ GE229.out | refine below_set ?_ GE230.out) | exact HB.out)⟩⟩
  case rest =>
    clear HC3
    try clear c1
    try clear c2
    try clear p2
    try clear c3
    try clear c4
    try clear c6
    try clear c6b0
    try clear c6b1
    try clear c7
    try clear c7b0
    try clear c7b1
    try clear c8
    try clear c8b0
    try clear c8b1
    try clear c9
    try clear c9b0
    try clear c9b1
    try clear c10
    try clear c10b0
    try clear c10b1
    try clear c12
    try clear c14
    try clear c15
    try clear c15b0
    try clear c15b1
    try clear c16
    try clear c16b0
    try clear c16b1
    try clear c17
    try clear c18
    try clear c20
    try clear c23
    try clear c26
    try clear c29
    try clear c32
    try clear c35
    try clear c38
    try clear c41
    try clear c44
    try clear hcz18_0
    try clear hcz18_1
    try clear hcz18_2
    try clear hcz18_3
    try clear hcz18_4
    try clear hcz18_5
    try clear hcz18_6
    try clear hcz18_7
    try clear hcz18_8
    try clear hcz18_9
    try clear hcz19_0
    try clear hcz19_1
    try clear hcz19_2
    try clear hcz19_3
    try clear hcz19_4
    try clear hcz19_5
    try clear hcz19_6
    try clear hcz19_7
    try clear hcz19_8
    try clear hcz19_9
    try clear hcz21_0
    try clear hcz21_1
    try clear hcz21_2
    try clear hcz21_3
    try clear hcz21_4
    try clear hcz21_5
    try clear hcz21_6
    try clear hcz21_7
    try clear hcz21_8
    try clear hcz21_9
    try clear hcz22_0
    try clear hcz22_1
    try clear hcz22_2
    try clear hcz22_3
    try clear hcz22_4
    try clear hcz22_5
    try clear hcz22_6
    try clear hcz22_7
    try clear hcz22_8
    try clear hcz22_9
    try clear hcz24_0
    try clear hcz24_1
    try clear hcz24_2
    try clear hcz24_3
    try clear hcz24_4
    try clear hcz24_5
    try clear hcz24_6
    try clear hcz24_7
    try clear hcz24_8
    try clear hcz24_9
    try clear hcz25_0
    try clear hcz25_1
    try clear hcz25_2
    try clear hcz25_3
    try clear hcz25_4
    try clear hcz25_5
    try clear hcz25_6
    try clear hcz25_7
    try clear hcz25_8
    try clear hcz25_9
    try clear hcz27_0
    try clear hcz27_1
    try clear hcz27_2
    try clear hcz27_3
    try clear hcz27_4
    try clear hcz27_5
    try clear hcz27_6
    try clear hcz27_7
    try clear hcz27_8
    try clear hcz27_9
    try clear hcz28_0
    try clear hcz28_1
    try clear hcz28_2
    try clear hcz28_3
    try clear hcz28_4
    try clear hcz28_5
    try clear hcz28_6
    try clear hcz28_7
    try clear hcz28_8
    try clear hcz28_9
    try clear hcz30_0
    try clear hcz30_1
    try clear hcz30_2
    try clear hcz30_3
    try clear hcz30_4
    try clear hcz30_5
    try clear hcz30_6
    try clear hcz30_7
    try clear hcz30_8
    try clear hcz30_9
    try clear hcz31_0
    try clear hcz31_1
    try clear hcz31_2
    try clear hcz31_3
    try clear hcz31_4
    try clear hcz31_5
    try clear hcz31_6
    try clear hcz31_7
    try clear hcz31_8
    try clear hcz31_9
    try clear hcz33_0
    try clear hcz33_1
    try clear hcz33_2
    try clear hcz33_3
    try clear hcz33_4
    try clear hcz33_5
    try clear hcz33_6
    try clear hcz33_7
    try clear hcz33_8
    try clear hcz33_9
    try clear hcz34_0
    try clear hcz34_1
    try clear hcz34_2
    try clear hcz34_3
    try clear hcz34_4
    try clear hcz34_5
    try clear hcz34_6
    try clear hcz34_7
    try clear hcz34_8
    try clear hcz34_9
    try clear hcz36_0
    try clear hcz36_1
    try clear hcz36_2
    try clear hcz36_3
    try clear hcz36_4
    try clear hcz36_5
    try clear hcz36_6
    try clear hcz36_7
    try clear hcz36_8
    try clear hcz36_9
    try clear hcz37_0
    try clear hcz37_1
    try clear hcz37_2
    try clear hcz37_3
    try clear hcz37_4
    try clear hcz37_5
    try clear hcz37_6
    try clear hcz37_7
    try clear hcz37_8
    try clear hcz37_9
    try clear hcz39_0
    try clear hcz39_1
    try clear hcz39_2
    try clear hcz39_3
    try clear hcz39_4
    try clear hcz39_5
    try clear hcz39_6
    try clear hcz39_7
    try clear hcz39_8
    try clear hcz39_9
    try clear hcz40_0
    try clear hcz40_1
    try clear hcz40_2
    try clear hcz40_3
    try clear hcz40_4
    try clear hcz40_5
    try clear hcz40_6
    try clear hcz40_7
    try clear hcz40_8
    try clear hcz40_9
    try clear hcz42_0
    try clear hcz42_1
    try clear hcz42_2
    try clear hcz42_3
    try clear hcz42_4
    try clear hcz42_5
    try clear hcz42_6
    try clear hcz42_7
    try clear hcz42_8
    try clear hcz42_9
    try clear hcz43_0
    try clear hcz43_1
    try clear hcz43_2
    try clear hcz43_3
    try clear hcz43_4
    try clear hcz43_5
    try clear hcz43_6
    try clear hcz43_7
    try clear hcz43_8
    try clear hcz43_9
    try clear hcz45_0
    try clear hcz45_1
    try clear hcz45_2
    try clear hcz45_3
    try clear hcz45_4
    try clear hcz45_5
    try clear hcz45_6
    try clear hcz45_7
    try clear hcz45_8
    try clear hcz45_9
    try clear hcz46_0
    try clear hcz46_1
    try clear hcz46_2
    try clear hcz46_3
    try clear hcz46_4
    try clear hcz46_5
    try clear hcz46_6
    try clear hcz46_7
    try clear hcz46_8
    try clear hcz46_9
    try clear hfz18_0
    try clear hfz18_1
    try clear hfz18_2
    try clear hfz18_3
    try clear hfz18_4
    try clear hfz18_5
    try clear hfz18_6
    try clear hfz18_7
    try clear hfz18_8
    try clear hfz18_9
    try clear hfz19_0
    try clear hfz19_1
    try clear hfz19_2
    try clear hfz19_3
    try clear hfz19_4
    try clear hfz19_5
    try clear hfz19_6
    try clear hfz19_7
    try clear hfz19_8
    try clear hfz19_9
    try clear hfz21_0
    try clear hfz21_1
    try clear hfz21_2
    try clear hfz21_3
    try clear hfz21_4
    try clear hfz21_5
    try clear hfz21_6
    try clear hfz21_7
    try clear hfz21_8
    try clear hfz21_9
    try clear hfz22_0
    try clear hfz22_1
    try clear hfz22_2
    try clear hfz22_3
    try clear hfz22_4
    try clear hfz22_5
    try clear hfz22_6
    try clear hfz22_7
    try clear hfz22_8
    try clear hfz22_9
    try clear hfz24_0
    try clear hfz24_1
    try clear hfz24_2
    try clear hfz24_3
    try clear hfz24_4
    try clear hfz24_5
    try clear hfz24_6
    try clear hfz24_7
    try clear hfz24_8
    try clear hfz24_9
    try clear hfz25_0
    try clear hfz25_1
    try clear hfz25_2
    try clear hfz25_3
    try clear hfz25_4
    try clear hfz25_5
    try clear hfz25_6
    try clear hfz25_7
    try clear hfz25_8
    try clear hfz25_9
    try clear hfz27_0
    try clear hfz27_1
    try clear hfz27_2
    try clear hfz27_3
    try clear hfz27_4
    try clear hfz27_5
    try clear hfz27_6
    try clear hfz27_7
    try clear hfz27_8
    try clear hfz27_9
    try clear hfz28_0
    try clear hfz28_1
    try clear hfz28_2
    try clear hfz28_3
    try clear hfz28_4
    try clear hfz28_5
    try clear hfz28_6
    try clear hfz28_7
    try clear hfz28_8
    try clear hfz28_9
    try clear hfz30_0
    try clear hfz30_1
    try clear hfz30_2
    try clear hfz30_3
    try clear hfz30_4
    try clear hfz30_5
    try clear hfz30_6
    try clear hfz30_7
    try clear hfz30_8
    try clear hfz30_9
    try clear hfz31_0
    try clear hfz31_1
    try clear hfz31_2
    try clear hfz31_3
    try clear hfz31_4
    try clear hfz31_5
    try clear hfz31_6
    try clear hfz31_7
    try clear hfz31_8
    try clear hfz31_9
    try clear hfz33_0
    try clear hfz33_1
    try clear hfz33_2
    try clear hfz33_3
    try clear hfz33_4
    try clear hfz33_5
    try clear hfz33_6
    try clear hfz33_7
    try clear hfz33_8
    try clear hfz33_9
    try clear hfz34_0
    try clear hfz34_1
    try clear hfz34_2
    try clear hfz34_3
    try clear hfz34_4
    try clear hfz34_5
    try clear hfz34_6
    try clear hfz34_7
    try clear hfz34_8
    try clear hfz34_9
    try clear hfz36_0
    try clear hfz36_1
    try clear hfz36_2
    try clear hfz36_3
    try clear hfz36_4
    try clear hfz36_5
    try clear hfz36_6
    try clear hfz36_7
    try clear hfz36_8
    try clear hfz36_9
    try clear hfz37_0
    try clear hfz37_1
    try clear hfz37_2
    try clear hfz37_3
    try clear hfz37_4
    try clear hfz37_5
    try clear hfz37_6
    try clear hfz37_7
    try clear hfz37_8
    try clear hfz37_9
    try clear hfz39_0
    try clear hfz39_1
    try clear hfz39_2
    try clear hfz39_3
    try clear hfz39_4
    try clear hfz39_5
    try clear hfz39_6
    try clear hfz39_7
    try clear hfz39_8
    try clear hfz39_9
    try clear hfz40_0
    try clear hfz40_1
    try clear hfz40_2
    try clear hfz40_3
    try clear hfz40_4
    try clear hfz40_5
    try clear hfz40_6
    try clear hfz40_7
    try clear hfz40_8
    try clear hfz40_9
    try clear hfz42_0
    try clear hfz42_1
    try clear hfz42_2
    try clear hfz42_3
    try clear hfz42_4
    try clear hfz42_5
    try clear hfz42_6
    try clear hfz42_7
    try clear hfz42_8
    try clear hfz42_9
    try clear hfz43_0
    try clear hfz43_1
    try clear hfz43_2
    try clear hfz43_3
    try clear hfz43_4
    try clear hfz43_5
    try clear hfz43_6
    try clear hfz43_7
    try clear hfz43_8
    try clear hfz43_9
    try clear hfz45_0
    try clear hfz45_1
    try clear hfz45_2
    try clear hfz45_3
    try clear hfz45_4
    try clear hfz45_5
    try clear hfz45_6
    try clear hfz45_7
    try clear hfz45_8
    try clear hfz45_9
    try clear hfz46_0
    try clear hfz46_1
    try clear hfz46_2
    try clear hfz46_3
    try clear hfz46_4
    try clear hfz46_5
    try clear hfz46_6
    try clear hfz46_7
    try clear hfz46_8
    try clear hfz46_9
    obtain ⟨kq, x77_2, rfl, HA, HJ2, BK229, BK230, HB⟩ := hcut
    cases kq with
    | zero => exact absurd HA.out (by simp [lecternkit_Query.j0])
    | succ kj2 =>
      have H := HA.out
      clear HA
      simp only [lecternkit_Query.j0] at H
      by_cases c47 : x77_2 = true
      · subst c47
        have H1 : (some false) = some r := by rw [if_pos rfl] at H; exact H
        clear H
        have H := H1
        clear H1
        obtain rfl := Option.some.inj H
        go_wp2
        go_ret
        exact ⟨by first | rfl | (simp [errW_none, errW_some] <;> rfl) | (simp [*, errW_none, errW_some] <;> rfl), by repeat (first | (with_reducible first | exact HB.out | apply below_alloc | apply pw_below_drewN | apply below_drew1 | refine below_set ?_ GE229.out | refine below_set ?_ GE230.out) | exact HB.out)⟩
      · replace c47 := Bool.eq_false_iff.mpr c47
        subst c47
        have H1 : (lecternkit_Query.l0 kj2 0 a0_0 a0_1 a0_2 a0_3 a0_4 l0_5 l0_6 a0_7 a0_8 l0_9 a1_0 a1_1 a1_2 a1_3 a1_4 l1_5 l1_6 a1_7 a1_8 l1_9) = some r := by rw [if_neg (show ¬ (false = true) by decide)] at H; exact H
        clear H
        have H := H1
        clear H1
        have H' := Aside0.mk H
        clear H
        go_wp2
        go_loopg [5] kj2 (fun kq v5 w' => ∃ (x5_2 : Int), v5 = .int .i64 x5_2 ∧ Aside0 (lecternkit_Query.l0 kq x5_2 a0_0 a0_1 a0_2 a0_3 a0_4 l0_5 l0_6 a0_7 a0_8 l0_9 a1_0 a1_1 a1_2 a1_3 a1_4 l1_5 l1_6 a1_7 a1_8 l1_9 = some r) ∧ Aside0 (kq ≤ kj2) ∧ Aside0 (w'.heap[gb229]? = some (.cells #[.int .i64 a0_0, .int .i64 a0_1, .string a0_2, .string a0_3, .string a0_4, (.slice A0_5 l0_5.length c0_5), (.slice A0_6 l0_6.length c0_6), .int .i64 a0_7, .int .i64 a0_8, (.slice A0_9 l0_9.length c0_9)] 25 (0, 0))) ∧ Aside0 (w'.heap[gb230]? = some (.cells #[.int .i64 a1_0, .int .i64 a1_1, .string a1_2, .string a1_3, .string a1_4, (.slice A1_5 l1_5.length c1_5), (.slice A1_6 l1_6.length c1_6), .int .i64 a1_7, .int .i64 a1_8, (.slice A1_9 l1_9.length c1_9)] 25 (0, 0))) ∧ Aside0 (Below w.heap.size w w'))
        case atStart => exact ⟨(0), (by first | rfl | (simp; done) | (simp [*]; done)), H', ⟨Nat.le_refl _⟩, ⟨by (with_reducible repeat (first | refine blk_drewN ?_ _ | refine blk_drew ?_ | refine blk_alloc ?_ _)); exact BK229.out⟩, ⟨by (with_reducible repeat (first | refine blk_drewN ?_ _ | refine blk_drew ?_ | refine blk_alloc ?_ _)); exact BK230.out⟩, ⟨by repeat (first | (with_reducible first | exact HB.out | apply below_alloc | apply pw_below_drewN | apply below_drew1 | refine below_set ?_ GE229.out | refine below_set ?_ GE230.out) | exact HB.out)⟩⟩
        case round =>
          clear H'
          try clear c1
          try clear c2
          try clear p2
          try clear c3
          try clear c4
          try clear c6
          try clear c6b0
          try clear c6b1
          try clear c7
          try clear c7b0
          try clear c7b1
          try clear c8
          try clear c8b0
          try clear c8b1
          try clear c9
          try clear c9b0
          try clear c9b1
          try clear c10
          try clear c10b0
          try clear c10b1
          try clear c12
          try clear c14
          try clear c15
          try clear c15b0
          try clear c15b1
          try clear c16
          try clear c16b0
          try clear c16b1
          try clear c17
          try clear c18
          try clear c20
          try clear c23
          try clear c26
          try clear c29
          try clear c32
          try clear c35
          try clear c38
          try clear c41
          try clear c44
          try clear c47
          try clear hcz18_0
          try clear hcz18_1
          try clear hcz18_2
          try clear hcz18_3
          try clear hcz18_4
          try clear hcz18_5
          try clear hcz18_6
          try clear hcz18_7
          try clear hcz18_8
          try clear hcz18_9
          try clear hcz19_0
          try clear hcz19_1
          try clear hcz19_2
          try clear hcz19_3
          try clear hcz19_4
          try clear hcz19_5
          try clear hcz19_6
          try clear hcz19_7
          try clear hcz19_8
          try clear hcz19_9
          try clear hcz21_0
          try clear hcz21_1
          try clear hcz21_2
          try clear hcz21_3
          try clear hcz21_4
          try clear hcz21_5
          try clear hcz21_6
          try clear hcz21_7
          try clear hcz21_8
          try clear hcz21_9
          try clear hcz22_0
          try clear hcz22_1
          try clear hcz22_2
          try clear hcz22_3
          try clear hcz22_4
          try clear hcz22_5
          try clear hcz22_6
          try clear hcz22_7
          try clear hcz22_8
          try clear hcz22_9
          try clear hcz24_0
          try clear hcz24_1
          try clear hcz24_2
          try clear hcz24_3
          try clear hcz24_4
          try clear hcz24_5
          try clear hcz24_6
          try clear hcz24_7
          try clear hcz24_8
          try clear hcz24_9
          try clear hcz25_0
          try clear hcz25_1
          try clear hcz25_2
          try clear hcz25_3
          try clear hcz25_4
          try clear hcz25_5
          try clear hcz25_6
          try clear hcz25_7
          try clear hcz25_8
          try clear hcz25_9
          try clear hcz27_0
          try clear hcz27_1
          try clear hcz27_2
          try clear hcz27_3
          try clear hcz27_4
          try clear hcz27_5
          try clear hcz27_6
          try clear hcz27_7
          try clear hcz27_8
          try clear hcz27_9
          try clear hcz28_0
          try clear hcz28_1
          try clear hcz28_2
          try clear hcz28_3
          try clear hcz28_4
          try clear hcz28_5
          try clear hcz28_6
          try clear hcz28_7
          try clear hcz28_8
          try clear hcz28_9
          try clear hcz30_0
          try clear hcz30_1
          try clear hcz30_2
          try clear hcz30_3
          try clear hcz30_4
          try clear hcz30_5
          try clear hcz30_6
          try clear hcz30_7
          try clear hcz30_8
          try clear hcz30_9
          try clear hcz31_0
          try clear hcz31_1
          try clear hcz31_2
          try clear hcz31_3
          try clear hcz31_4
          try clear hcz31_5
          try clear hcz31_6
          try clear hcz31_7
          try clear hcz31_8
          try clear hcz31_9
          try clear hcz33_0
          try clear hcz33_1
          try clear hcz33_2
          try clear hcz33_3
          try clear hcz33_4
          try clear hcz33_5
          try clear hcz33_6
          try clear hcz33_7
          try clear hcz33_8
          try clear hcz33_9
          try clear hcz34_0
          try clear hcz34_1
          try clear hcz34_2
          try clear hcz34_3
          try clear hcz34_4
          try clear hcz34_5
          try clear hcz34_6
          try clear hcz34_7
          try clear hcz34_8
          try clear hcz34_9
          try clear hcz36_0
          try clear hcz36_1
          try clear hcz36_2
          try clear hcz36_3
          try clear hcz36_4
          try clear hcz36_5
          try clear hcz36_6
          try clear hcz36_7
          try clear hcz36_8
          try clear hcz36_9
          try clear hcz37_0
          try clear hcz37_1
          try clear hcz37_2
          try clear hcz37_3
          try clear hcz37_4
          try clear hcz37_5
          try clear hcz37_6
          try clear hcz37_7
          try clear hcz37_8
          try clear hcz37_9
          try clear hcz39_0
          try clear hcz39_1
          try clear hcz39_2
          try clear hcz39_3
          try clear hcz39_4
          try clear hcz39_5
          try clear hcz39_6
          try clear hcz39_7
          try clear hcz39_8
          try clear hcz39_9
          try clear hcz40_0
          try clear hcz40_1
          try clear hcz40_2
          try clear hcz40_3
          try clear hcz40_4
          try clear hcz40_5
          try clear hcz40_6
          try clear hcz40_7
          try clear hcz40_8
          try clear hcz40_9
          try clear hcz42_0
          try clear hcz42_1
          try clear hcz42_2
          try clear hcz42_3
          try clear hcz42_4
          try clear hcz42_5
          try clear hcz42_6
          try clear hcz42_7
          try clear hcz42_8
          try clear hcz42_9
          try clear hcz43_0
          try clear hcz43_1
          try clear hcz43_2
          try clear hcz43_3
          try clear hcz43_4
          try clear hcz43_5
          try clear hcz43_6
          try clear hcz43_7
          try clear hcz43_8
          try clear hcz43_9
          try clear hcz45_0
          try clear hcz45_1
          try clear hcz45_2
          try clear hcz45_3
          try clear hcz45_4
          try clear hcz45_5
          try clear hcz45_6
          try clear hcz45_7
          try clear hcz45_8
          try clear hcz45_9
          try clear hcz46_0
          try clear hcz46_1
          try clear hcz46_2
          try clear hcz46_3
          try clear hcz46_4
          try clear hcz46_5
          try clear hcz46_6
          try clear hcz46_7
          try clear hcz46_8
          try clear hcz46_9
          try clear hfz18_0
          try clear hfz18_1
          try clear hfz18_2
          try clear hfz18_3
          try clear hfz18_4
          try clear hfz18_5
          try clear hfz18_6
          try clear hfz18_7
          try clear hfz18_8
          try clear hfz18_9
          try clear hfz19_0
          try clear hfz19_1
          try clear hfz19_2
          try clear hfz19_3
          try clear hfz19_4
          try clear hfz19_5
          try clear hfz19_6
          try clear hfz19_7
          try clear hfz19_8
          try clear hfz19_9
          try clear hfz21_0
          try clear hfz21_1
          try clear hfz21_2
          try clear hfz21_3
          try clear hfz21_4
          try clear hfz21_5
          try clear hfz21_6
          try clear hfz21_7
          try clear hfz21_8
          try clear hfz21_9
          try clear hfz22_0
          try clear hfz22_1
          try clear hfz22_2
          try clear hfz22_3
          try clear hfz22_4
          try clear hfz22_5
          try clear hfz22_6
          try clear hfz22_7
          try clear hfz22_8
          try clear hfz22_9
          try clear hfz24_0
          try clear hfz24_1
          try clear hfz24_2
          try clear hfz24_3
          try clear hfz24_4
          try clear hfz24_5
          try clear hfz24_6
          try clear hfz24_7
          try clear hfz24_8
          try clear hfz24_9
          try clear hfz25_0
          try clear hfz25_1
          try clear hfz25_2
          try clear hfz25_3
          try clear hfz25_4
          try clear hfz25_5
          try clear hfz25_6
          try clear hfz25_7
          try clear hfz25_8
          try clear hfz25_9
          try clear hfz27_0
          try clear hfz27_1
          try clear hfz27_2
          try clear hfz27_3
          try clear hfz27_4
          try clear hfz27_5
          try clear hfz27_6
          try clear hfz27_7
          try clear hfz27_8
          try clear hfz27_9
          try clear hfz28_0
          try clear hfz28_1
          try clear hfz28_2
          try clear hfz28_3
          try clear hfz28_4
          try clear hfz28_5
          try clear hfz28_6
          try clear hfz28_7
          try clear hfz28_8
          try clear hfz28_9
          try clear hfz30_0
          try clear hfz30_1
          try clear hfz30_2
          try clear hfz30_3
          try clear hfz30_4
          try clear hfz30_5
          try clear hfz30_6
          try clear hfz30_7
          try clear hfz30_8
          try clear hfz30_9
          try clear hfz31_0
          try clear hfz31_1
          try clear hfz31_2
          try clear hfz31_3
          try clear hfz31_4
          try clear hfz31_5
          try clear hfz31_6
          try clear hfz31_7
          try clear hfz31_8
          try clear hfz31_9
          try clear hfz33_0
          try clear hfz33_1
          try clear hfz33_2
          try clear hfz33_3
          try clear hfz33_4
          try clear hfz33_5
          try clear hfz33_6
          try clear hfz33_7
          try clear hfz33_8
          try clear hfz33_9
          try clear hfz34_0
          try clear hfz34_1
          try clear hfz34_2
          try clear hfz34_3
          try clear hfz34_4
          try clear hfz34_5
          try clear hfz34_6
          try clear hfz34_7
          try clear hfz34_8
          try clear hfz34_9
          try clear hfz36_0
          try clear hfz36_1
          try clear hfz36_2
          try clear hfz36_3
          try clear hfz36_4
          try clear hfz36_5
          try clear hfz36_6
          try clear hfz36_7
          try clear hfz36_8
          try clear hfz36_9
          try clear hfz37_0
          try clear hfz37_1
          try clear hfz37_2
          try clear hfz37_3
          try clear hfz37_4
          try clear hfz37_5
          try clear hfz37_6
          try clear hfz37_7
          try clear hfz37_8
          try clear hfz37_9
          try clear hfz39_0
          try clear hfz39_1
          try clear hfz39_2
          try clear hfz39_3
          try clear hfz39_4
          try clear hfz39_5
          try clear hfz39_6
          try clear hfz39_7
          try clear hfz39_8
          try clear hfz39_9
          try clear hfz40_0
          try clear hfz40_1
          try clear hfz40_2
          try clear hfz40_3
          try clear hfz40_4
          try clear hfz40_5
          try clear hfz40_6
          try clear hfz40_7
          try clear hfz40_8
          try clear hfz40_9
          try clear hfz42_0
          try clear hfz42_1
          try clear hfz42_2
          try clear hfz42_3
          try clear hfz42_4
          try clear hfz42_5
          try clear hfz42_6
          try clear hfz42_7
          try clear hfz42_8
          try clear hfz42_9
          try clear hfz43_0
          try clear hfz43_1
          try clear hfz43_2
          try clear hfz43_3
          try clear hfz43_4
          try clear hfz43_5
          try clear hfz43_6
          try clear hfz43_7
          try clear hfz43_8
          try clear hfz43_9
          try clear hfz45_0
          try clear hfz45_1
          try clear hfz45_2
          try clear hfz45_3
          try clear hfz45_4
          try clear hfz45_5
          try clear hfz45_6
          try clear hfz45_7
          try clear hfz45_8
          try clear hfz45_9
          try clear hfz46_0
          try clear hfz46_1
          try clear hfz46_2
          try clear hfz46_3
          try clear hfz46_4
          try clear hfz46_5
          try clear hfz46_6
          try clear hfz46_7
          try clear hfz46_8
          try clear hfz46_9
          try clear p2
          obtain ⟨x5_2, rfl, HA, HK2, BK229, BK230, HB⟩ := hrel
          cases gk with
          | zero => exact absurd HA.out (by simp [lecternkit_Query.l0])
          | succ k2 =>
            have H := HA.out
            clear HA
            simp only [lecternkit_Query.l0] at H
            by_cases c48 : x5_2 < (l0_9.length : Int)
            · rw [if_pos c48] at H
              have c48b0 : decide (x5_2 < (l0_9.length : Int)) = true := decide_eq_true c48
              clear c48
              by_cases c49 : 0 ≤ x5_2
              · rw [if_pos c49] at H
                have c49b0 : decide (0 ≤ x5_2) = true := decide_eq_true c49
                clear c49
                by_cases c50 : x5_2 < (l1_9.length : Int)
                · rw [if_pos c50] at H
                  have c50b0 : decide (x5_2 < (l1_9.length : Int)) = true := decide_eq_true c50
                  clear c50
                  replace H := Option.bind_eq_some_iff.mp H
                  obtain ⟨t235, A510, H⟩ := H
                  replace H : (if t235 = true then (lecternkit_Query.l0 k2 (wrap64 (x5_2 + 1)) a0_0 a0_1 a0_2 a0_3 a0_4 l0_5 l0_6 a0_7 a0_8 l0_9 a1_0 a1_1 a1_2 a1_3 a1_4 l1_5 l1_6 a1_7 a1_8 l1_9) else (some false)) = some r := H
                  have A51 := Aside0.mk A510
                  clear A510
                  by_cases c52 : t235 = true
                  · subst c52
                    have H1 : (lecternkit_Query.l0 k2 (wrap64 (x5_2 + 1)) a0_0 a0_1 a0_2 a0_3 a0_4 l0_5 l0_6 a0_7 a0_8 l0_9 a1_0 a1_1 a1_2 a1_3 a1_4 l1_5 l1_6 a1_7 a1_8 l1_9) = some r := by rw [if_pos rfl] at H; exact H
                    clear H
                    have H := H1
                    clear H1
                    have H' := Aside0.mk H
                    clear H
                    have hnb53 := NB229_230.out
                    have hnc53 := NB230_229.out
                    have hcz54_0 : wr.cell? ⟨gb229, 0, none⟩ = some (.int .i64 a0_0) := (blk_cell BK229.out 0).trans rfl
                    have hcz54_1 : wr.cell? ⟨gb229, 1, none⟩ = some (.int .i64 a0_1) := (blk_cell BK229.out 1).trans rfl
                    have hcz54_2 : wr.cell? ⟨gb229, 2, none⟩ = some (.string a0_2) := (blk_cell BK229.out 2).trans rfl
                    have hcz54_3 : wr.cell? ⟨gb229, 3, none⟩ = some (.string a0_3) := (blk_cell BK229.out 3).trans rfl
                    have hcz54_4 : wr.cell? ⟨gb229, 4, none⟩ = some (.string a0_4) := (blk_cell BK229.out 4).trans rfl
                    have hcz54_5 : wr.cell? ⟨gb229, 5, none⟩ = some (.slice A0_5 l0_5.length c0_5) := (blk_cell BK229.out 5).trans rfl
                    have hcz54_6 : wr.cell? ⟨gb229, 6, none⟩ = some (.slice A0_6 l0_6.length c0_6) := (blk_cell BK229.out 6).trans rfl
                    have hcz54_7 : wr.cell? ⟨gb229, 7, none⟩ = some (.int .i64 a0_7) := (blk_cell BK229.out 7).trans rfl
                    have hcz54_8 : wr.cell? ⟨gb229, 8, none⟩ = some (.int .i64 a0_8) := (blk_cell BK229.out 8).trans rfl
                    have hcz54_9 : wr.cell? ⟨gb229, 9, none⟩ = some (.slice A0_9 l0_9.length c0_9) := (blk_cell BK229.out 9).trans rfl
                    have hfz54_0 := blk_frozen BK229.out 0
                    have hfz54_1 := blk_frozen BK229.out 1
                    have hfz54_2 := blk_frozen BK229.out 2
                    have hfz54_3 := blk_frozen BK229.out 3
                    have hfz54_4 := blk_frozen BK229.out 4
                    have hfz54_5 := blk_frozen BK229.out 5
                    have hfz54_6 := blk_frozen BK229.out 6
                    have hfz54_7 := blk_frozen BK229.out 7
                    have hfz54_8 := blk_frozen BK229.out 8
                    have hfz54_9 := blk_frozen BK229.out 9
                    try go_wp2
                    have n0_ := Aside0.mk (blk_drew BK229.out)
                    have n1_ := Aside0.mk (blk_drew BK230.out)
                    have n2_ := Aside0.mk (below_drew1 HB.out)
                    clear BK229
                    clear BK230
                    clear HB
                    have BK229 := n0_
                    have BK230 := n1_
                    have HB := n2_
                    clear n0_ n1_ n2_
                    have p233 : 0 ≤ (x5_2 : Int) := of_decide_eq_true (by first | (with_reducible assumption) | assumption)
                    have q233 : x5_2 < (l0_9.length : Int) := of_decide_eq_true (by first | (with_reducible assumption) | assumption)
                    obtain ⟨ad233, A233_5, c233_5, A233_6, c233_6, A233_9, c233_9, e233, hx233_0, hx233_1, hx233_2, hx233_3, hx233_4, hx233_5, hx233_6, hx233_7, hx233_8, hx233_9, hl233_5, hi233_5, hl233_6, hi233_6, hl233_9, hi233_9⟩ := at_T25 HR0_9.out x5_2 p233 q233
                    have hw233_9 := hx233_9
                    have hw233_8 := hx233_8
                    have hw233_7 := hx233_7
                    have hw233_6 := hx233_6
                    have hw233_5 := hx233_5
                    have hw233_4 := hx233_4
                    have hw233_3 := hx233_3
                    have hw233_2 := hx233_2
                    have hw233_1 := hx233_1
                    have hw233_0 := hx233_0
                    cases e233
                    replace hx233_0 := (HB.out.cell (World.block_lt_of_cell? w _ hx233_0)).trans hx233_0
                    replace hx233_1 := (HB.out.cell (World.block_lt_of_cell? w _ hx233_1)).trans hx233_1
                    replace hx233_2 := (HB.out.cell (World.block_lt_of_cell? w _ hx233_2)).trans hx233_2
                    replace hx233_3 := (HB.out.cell (World.block_lt_of_cell? w _ hx233_3)).trans hx233_3
                    replace hx233_4 := (HB.out.cell (World.block_lt_of_cell? w _ hx233_4)).trans hx233_4
                    replace hx233_5 := (HB.out.cell (World.block_lt_of_cell? w _ hx233_5)).trans hx233_5
                    replace hx233_6 := (HB.out.cell (World.block_lt_of_cell? w _ hx233_6)).trans hx233_6
                    replace hx233_7 := (HB.out.cell (World.block_lt_of_cell? w _ hx233_7)).trans hx233_7
                    replace hx233_8 := (HB.out.cell (World.block_lt_of_cell? w _ hx233_8)).trans hx233_8
                    replace hx233_9 := (HB.out.cell (World.block_lt_of_cell? w _ hx233_9)).trans hx233_9
                    have HR233_5 := Aside0.mk hi233_5
                    have HC233_5 := Aside0.mk hl233_5
                    clear hi233_5 hl233_5
                    have HR233_6 := Aside0.mk hi233_6
                    have HC233_6 := Aside0.mk hl233_6
                    clear hi233_6 hl233_6
                    have HR233_9 := Aside0.mk hi233_9
                    have HC233_9 := Aside0.mk hl233_9
                    clear hi233_9 hl233_9
                    replace p233 := eq_true p233
                    replace q233 := eq_true q233
                    have p234 : 0 ≤ (x5_2 : Int) := of_decide_eq_true (by first | (with_reducible assumption) | assumption)
                    have q234 : x5_2 < (l1_9.length : Int) := of_decide_eq_true (by first | (with_reducible assumption) | assumption)
                    obtain ⟨ad234, A234_5, c234_5, A234_6, c234_6, A234_9, c234_9, e234, hx234_0, hx234_1, hx234_2, hx234_3, hx234_4, hx234_5, hx234_6, hx234_7, hx234_8, hx234_9, hl234_5, hi234_5, hl234_6, hi234_6, hl234_9, hi234_9⟩ := at_T25 HR1_9.out x5_2 p234 q234
                    have hw234_9 := hx234_9
                    have hw234_8 := hx234_8
                    have hw234_7 := hx234_7
                    have hw234_6 := hx234_6
                    have hw234_5 := hx234_5
                    have hw234_4 := hx234_4
                    have hw234_3 := hx234_3
                    have hw234_2 := hx234_2
                    have hw234_1 := hx234_1
                    have hw234_0 := hx234_0
                    cases e234
                    replace hx234_0 := (HB.out.cell (World.block_lt_of_cell? w _ hx234_0)).trans hx234_0
                    replace hx234_1 := (HB.out.cell (World.block_lt_of_cell? w _ hx234_1)).trans hx234_1
                    replace hx234_2 := (HB.out.cell (World.block_lt_of_cell? w _ hx234_2)).trans hx234_2
                    replace hx234_3 := (HB.out.cell (World.block_lt_of_cell? w _ hx234_3)).trans hx234_3
                    replace hx234_4 := (HB.out.cell (World.block_lt_of_cell? w _ hx234_4)).trans hx234_4
                    replace hx234_5 := (HB.out.cell (World.block_lt_of_cell? w _ hx234_5)).trans hx234_5
                    replace hx234_6 := (HB.out.cell (World.block_lt_of_cell? w _ hx234_6)).trans hx234_6
                    replace hx234_7 := (HB.out.cell (World.block_lt_of_cell? w _ hx234_7)).trans hx234_7
                    replace hx234_8 := (HB.out.cell (World.block_lt_of_cell? w _ hx234_8)).trans hx234_8
                    replace hx234_9 := (HB.out.cell (World.block_lt_of_cell? w _ hx234_9)).trans hx234_9
                    have HR234_5 := Aside0.mk hi234_5
                    have HC234_5 := Aside0.mk hl234_5
                    clear hi234_5 hl234_5
                    have HR234_6 := Aside0.mk hi234_6
                    have HC234_6 := Aside0.mk hl234_6
                    clear hi234_6 hl234_6
                    have HR234_9 := Aside0.mk hi234_9
                    have HC234_9 := Aside0.mk hl234_9
                    clear hi234_9 hl234_9
                    replace p234 := eq_true p234
                    replace q234 := eq_true q234
                    refine start_ (n := 12) (S := fun w' => w'.cell? ⟨gb229, 0, none⟩ = some (.int .i64 a0_0) ∧ w'.cell? ⟨gb229, 1, none⟩ = some (.int .i64 a0_1) ∧ w'.cell? ⟨gb229, 2, none⟩ = some (.string a0_2) ∧ w'.cell? ⟨gb229, 3, none⟩ = some (.string a0_3) ∧ w'.cell? ⟨gb229, 4, none⟩ = some (.string a0_4) ∧ w'.cell? ⟨gb229, 5, none⟩ = some (.slice A0_5 l0_5.length c0_5) ∧ w'.cell? ⟨gb229, 6, none⟩ = some (.slice A0_6 l0_6.length c0_6) ∧ w'.cell? ⟨gb229, 7, none⟩ = some (.int .i64 a0_7) ∧ w'.cell? ⟨gb229, 8, none⟩ = some (.int .i64 a0_8) ∧ w'.cell? ⟨gb229, 9, none⟩ = some (.slice (some ad233) l0_9.length c0_9) ∧ w'.cell? ⟨gb230, 0, none⟩ = some (.int .i64 a1_0) ∧ w'.cell? ⟨gb230, 1, none⟩ = some (.int .i64 a1_1) ∧ w'.cell? ⟨gb230, 2, none⟩ = some (.string a1_2) ∧ w'.cell? ⟨gb230, 3, none⟩ = some (.string a1_3) ∧ w'.cell? ⟨gb230, 4, none⟩ = some (.string a1_4) ∧ w'.cell? ⟨gb230, 5, none⟩ = some (.slice A1_5 l1_5.length c1_5) ∧ w'.cell? ⟨gb230, 6, none⟩ = some (.slice A1_6 l1_6.length c1_6) ∧ w'.cell? ⟨gb230, 7, none⟩ = some (.int .i64 a1_7) ∧ w'.cell? ⟨gb230, 8, none⟩ = some (.int .i64 a1_8) ∧ w'.cell? ⟨gb230, 9, none⟩ = some (.slice (some ad234) l1_9.length c1_9) ∧ w'.cell? (ad233.add ((x5_2).toNat * 10)) = some (.int .i64 ((rd_T25 l0_9 x5_2).f0)) ∧ w'.cell? ⟨(ad233.add ((x5_2).toNat * 10)).block, (ad233.add ((x5_2).toNat * 10)).off + 1, none⟩ = some (.int .i64 ((rd_T25 l0_9 x5_2).f1)) ∧ w'.cell? ⟨(ad233.add ((x5_2).toNat * 10)).block, (ad233.add ((x5_2).toNat * 10)).off + 2, none⟩ = some (.string ((rd_T25 l0_9 x5_2).f2)) ∧ w'.cell? ⟨(ad233.add ((x5_2).toNat * 10)).block, (ad233.add ((x5_2).toNat * 10)).off + 3, none⟩ = some (.string ((rd_T25 l0_9 x5_2).f3)) ∧ w'.cell? ⟨(ad233.add ((x5_2).toNat * 10)).block, (ad233.add ((x5_2).toNat * 10)).off + 4, none⟩ = some (.string ((rd_T25 l0_9 x5_2).f4)) ∧ w'.cell? ⟨(ad233.add ((x5_2).toNat * 10)).block, (ad233.add ((x5_2).toNat * 10)).off + 5, none⟩ = some (.slice A233_5 ((rd_T25 l0_9 x5_2).f5).length c233_5) ∧ w'.cell? ⟨(ad233.add ((x5_2).toNat * 10)).block, (ad233.add ((x5_2).toNat * 10)).off + 6, none⟩ = some (.slice A233_6 ((rd_T25 l0_9 x5_2).f6).length c233_6) ∧ w'.cell? ⟨(ad233.add ((x5_2).toNat * 10)).block, (ad233.add ((x5_2).toNat * 10)).off + 7, none⟩ = some (.int .i64 ((rd_T25 l0_9 x5_2).f7)) ∧ w'.cell? ⟨(ad233.add ((x5_2).toNat * 10)).block, (ad233.add ((x5_2).toNat * 10)).off + 8, none⟩ = some (.int .i64 ((rd_T25 l0_9 x5_2).f8)) ∧ w'.cell? ⟨(ad233.add ((x5_2).toNat * 10)).block, (ad233.add ((x5_2).toNat * 10)).off + 9, none⟩ = some (.slice A233_9 ((rd_T25 l0_9 x5_2).f9).length c233_9) ∧ w'.cell? (ad234.add ((x5_2).toNat * 10)) = some (.int .i64 ((rd_T25 l1_9 x5_2).f0)) ∧ w'.cell? ⟨(ad234.add ((x5_2).toNat * 10)).block, (ad234.add ((x5_2).toNat * 10)).off + 1, none⟩ = some (.int .i64 ((rd_T25 l1_9 x5_2).f1)) ∧ w'.cell? ⟨(ad234.add ((x5_2).toNat * 10)).block, (ad234.add ((x5_2).toNat * 10)).off + 2, none⟩ = some (.string ((rd_T25 l1_9 x5_2).f2)) ∧ w'.cell? ⟨(ad234.add ((x5_2).toNat * 10)).block, (ad234.add ((x5_2).toNat * 10)).off + 3, none⟩ = some (.string ((rd_T25 l1_9 x5_2).f3)) ∧ w'.cell? ⟨(ad234.add ((x5_2).toNat * 10)).block, (ad234.add ((x5_2).toNat * 10)).off + 4, none⟩ = some (.string ((rd_T25 l1_9 x5_2).f4)) ∧ w'.cell? ⟨(ad234.add ((x5_2).toNat * 10)).block, (ad234.add ((x5_2).toNat * 10)).off + 5, none⟩ = some (.slice A234_5 ((rd_T25 l1_9 x5_2).f5).length c234_5) ∧ w'.cell? ⟨(ad234.add ((x5_2).toNat * 10)).block, (ad234.add ((x5_2).toNat * 10)).off + 6, none⟩ = some (.slice A234_6 ((rd_T25 l1_9 x5_2).f6).length c234_6) ∧ w'.cell? ⟨(ad234.add ((x5_2).toNat * 10)).block, (ad234.add ((x5_2).toNat * 10)).off + 7, none⟩ = some (.int .i64 ((rd_T25 l1_9 x5_2).f7)) ∧ w'.cell? ⟨(ad234.add ((x5_2).toNat * 10)).block, (ad234.add ((x5_2).toNat * 10)).off + 8, none⟩ = some (.int .i64 ((rd_T25 l1_9 x5_2).f8)) ∧ w'.cell? ⟨(ad234.add ((x5_2).toNat * 10)).block, (ad234.add ((x5_2).toNat * 10)).off + 9, none⟩ = some (.slice A234_9 ((rd_T25 l1_9 x5_2).f9).length c234_9)) (ds := []) #[false, false, false, false, false, false, false, false, false, false, false, false] (by kernel_rfl) rfl rfl ⟨(blk_cell BK229.out 0).trans rfl, (blk_cell BK229.out 1).trans rfl, (blk_cell BK229.out 2).trans rfl, (blk_cell BK229.out 3).trans rfl, (blk_cell BK229.out 4).trans rfl, (blk_cell BK229.out 5).trans rfl, (blk_cell BK229.out 6).trans rfl, (blk_cell BK229.out 7).trans rfl, (blk_cell BK229.out 8).trans rfl, (blk_cell BK229.out 9).trans rfl, (blk_cell BK230.out 0).trans rfl, (blk_cell BK230.out 1).trans rfl, (blk_cell BK230.out 2).trans rfl, (blk_cell BK230.out 3).trans rfl, (blk_cell BK230.out 4).trans rfl, (blk_cell BK230.out 5).trans rfl, (blk_cell BK230.out 6).trans rfl, (blk_cell BK230.out 7).trans rfl, (blk_cell BK230.out 8).trans rfl, (blk_cell BK230.out 9).trans rfl, ((HB.out.cell (World.block_lt_of_cell? w _ hw233_0)).trans hw233_0), ((HB.out.cell (World.block_lt_of_cell? w _ hw233_1)).trans hw233_1), ((HB.out.cell (World.block_lt_of_cell? w _ hw233_2)).trans hw233_2), ((HB.out.cell (World.block_lt_of_cell? w _ hw233_3)).trans hw233_3), ((HB.out.cell (World.block_lt_of_cell? w _ hw233_4)).trans hw233_4), ((HB.out.cell (World.block_lt_of_cell? w _ hw233_5)).trans hw233_5), ((HB.out.cell (World.block_lt_of_cell? w _ hw233_6)).trans hw233_6), ((HB.out.cell (World.block_lt_of_cell? w _ hw233_7)).trans hw233_7), ((HB.out.cell (World.block_lt_of_cell? w _ hw233_8)).trans hw233_8), ((HB.out.cell (World.block_lt_of_cell? w _ hw233_9)).trans hw233_9), ((HB.out.cell (World.block_lt_of_cell? w _ hw234_0)).trans hw234_0), ((HB.out.cell (World.block_lt_of_cell? w _ hw234_1)).trans hw234_1), ((HB.out.cell (World.block_lt_of_cell? w _ hw234_2)).trans hw234_2), ((HB.out.cell (World.block_lt_of_cell? w _ hw234_3)).trans hw234_3), ((HB.out.cell (World.block_lt_of_cell? w _ hw234_4)).trans hw234_4), ((HB.out.cell (World.block_lt_of_cell? w _ hw234_5)).trans hw234_5), ((HB.out.cell (World.block_lt_of_cell? w _ hw234_6)).trans hw234_6), ((HB.out.cell (World.block_lt_of_cell? w _ hw234_7)).trans hw234_7), ((HB.out.cell (World.block_lt_of_cell? w _ hw234_8)).trans hw234_8), ((HB.out.cell (World.block_lt_of_cell? w _ hw234_9)).trans hw234_9)⟩ (fun hHeld => ?_); refine with_tabW lecternkit_Query.tab6 lecternkit_Query.bits6 (fun HT_ HW_ => ?_)
                    generalize wr.drew = w55 at BK229 BK230 HB HR233_5 HR233_6 HR233_9 HR234_5 HR234_6 HR234_9 hx233_0 hx233_1 hx233_2 hx233_3 hx233_4 hx233_5 hx233_6 hx233_7 hx233_8 hx233_9 hx234_0 hx234_1 hx234_2 hx234_3 hx234_4 hx234_5 hx234_6 hx234_7 hx234_8 hx234_9 hHeld ⊢
                    refine pure_ (i := 0) (N := some 85) (v := ?_) (a' := ?_) #[true, false, false, false, false, false, false, false, false, false, false, false] rfl rfl (any_of HT_.out (by kernel_rfl)) (fun _ _ _ h => h) (Or.inl ⟨by rfl, ?_⟩) ?_ ?_
                    rotate_left
                    · intro w'
                      go_simp
                      with_reducible rfl
                    rotate_left
                    · simp only [Act.put, List.setIfInBounds_toArray, List.set_cons_zero, List.set_cons_succ, i64_w, i32_w]
                      rfl
                    refine pure_ (i := 2) (N := some 87) (v := ?_) (a' := ?_) #[true, false, true, false, false, false, false, false, false, false, false, false] rfl rfl (any_of HT_.out (by kernel_rfl)) (fun _ _ _ h => h) (Or.inl ⟨by rfl, ?_⟩) ?_ ?_
                    rotate_left
                    · intro w'
                      go_simp
                      with_reducible rfl
                    rotate_left
                    · simp only [Act.put, List.setIfInBounds_toArray, List.set_cons_zero, List.set_cons_succ, i64_w, i32_w]
                      rfl
                    refine pure_ (i := 5) (N := some 90) (v := ?_) (a' := ?_) #[true, false, true, false, false, true, false, false, false, false, false, false] rfl rfl (any_of HT_.out (by kernel_rfl)) (fun _ _ _ h => h) (Or.inl ⟨by rfl, ?_⟩) ?_ ?_
                    rotate_left
                    · intro w'
                      go_simp
                      with_reducible rfl
                    rotate_left
                    · simp only [Act.put, List.setIfInBounds_toArray, List.set_cons_zero, List.set_cons_succ, i64_w, i32_w]
                      rfl
                    refine pure_ (i := 7) (N := some 92) (v := ?_) (a' := ?_) #[true, false, true, false, false, true, false, true, false, false, false, false] rfl rfl (any_of HT_.out (by kernel_rfl)) (fun _ _ _ h => h) (Or.inl ⟨by rfl, ?_⟩) ?_ ?_
                    rotate_left
                    · intro w'
                      go_simp
                      with_reducible rfl
                    rotate_left
                    · simp only [Act.put, List.setIfInBounds_toArray, List.set_cons_zero, List.set_cons_succ, i64_w, i32_w]
                      rfl
                    refine take_ (i := 1) (N := some 86) (v := ?_) (a' := ?_) #[true, true, true, false, false, true, false, true, false, false, false, false] rfl rfl (take_ofW HT_.out HW_.out (by kernel_rfl)) (fun _ _ _ h => h) (Or.inl ⟨by rfl, ?_⟩) hHeld ?_ ?_
                    rotate_left
                    · rintro w' ⟨s0, s1, s2, s3, s4, s5, s6, s7, s8, s9, s10, s11, s12, s13, s14, s15, s16, s17, s18, s19, s20, s21, s22, s23, s24, s25, s26, s27, s28, s29, s30, s31, s32, s33, s34, s35, s36, s37, s38, s39⟩
                      go_simp
                      with_reducible rfl
                    rotate_left
                    · simp only [Act.put, List.setIfInBounds_toArray, List.set_cons_zero, List.set_cons_succ, i64_w, i32_w]
                      rfl
                    refine pure_ (i := 3) (N := some 88) (v := ?_) (a' := ?_) #[true, true, true, true, false, true, false, true, false, false, false, false] rfl rfl (any_of HT_.out (by kernel_rfl)) (fun _ _ _ h => h) (Or.inl ⟨by rfl, ?_⟩) ?_ ?_
                    rotate_left
                    · intro w'
                      go_simp
                      with_reducible rfl
                    rotate_left
                    · simp only [Act.put, List.setIfInBounds_toArray, List.set_cons_zero, List.set_cons_succ, i64_w, i32_w]
                      rfl
                    refine take_ (i := 4) (N := some 89) (v := ?_) (a' := ?_) #[true, true, true, true, true, true, false, true, false, false, false, false] rfl rfl (take_ofW HT_.out HW_.out (by kernel_rfl)) (fun _ _ _ h => h) (Or.inl ⟨by rfl, ?_⟩) hHeld ?_ ?_
                    rotate_left
                    · rintro w' ⟨s0, s1, s2, s3, s4, s5, s6, s7, s8, s9, s10, s11, s12, s13, s14, s15, s16, s17, s18, s19, s20, s21, s22, s23, s24, s25, s26, s27, s28, s29, s30, s31, s32, s33, s34, s35, s36, s37, s38, s39⟩
                      go_simp
                      with_reducible rfl
                    rotate_left
                    · simp only [Act.put, List.setIfInBounds_toArray, List.set_cons_zero, List.set_cons_succ, i64_w, i32_w]
                      rfl
                    refine take_ (i := 6) (N := some 91) (v := ?_) (a' := ?_) #[true, true, true, true, true, true, true, true, false, false, false, false] rfl rfl (take_ofW HT_.out HW_.out (by kernel_rfl)) (fun _ _ _ h => h) (Or.inl ⟨by rfl, ?_⟩) hHeld ?_ ?_
                    rotate_left
                    · rintro w' ⟨s0, s1, s2, s3, s4, s5, s6, s7, s8, s9, s10, s11, s12, s13, s14, s15, s16, s17, s18, s19, s20, s21, s22, s23, s24, s25, s26, s27, s28, s29, s30, s31, s32, s33, s34, s35, s36, s37, s38, s39⟩
                      go_simp
                      with_reducible rfl
                    rotate_left
                    · simp only [Act.put, List.setIfInBounds_toArray, List.set_cons_zero, List.set_cons_succ, i64_w, i32_w]
                      rfl
                    refine pure_ (i := 8) (N := some 93) (v := ?_) (a' := ?_) #[true, true, true, true, true, true, true, true, true, false, false, false] rfl rfl (any_of HT_.out (by kernel_rfl)) (fun _ _ _ h => h) (Or.inl ⟨by rfl, ?_⟩) ?_ ?_
                    rotate_left
                    · intro w'
                      go_simp
                      with_reducible rfl
                    rotate_left
                    · simp only [Act.put, List.setIfInBounds_toArray, List.set_cons_zero, List.set_cons_succ, i64_w, i32_w]
                      rfl
                    refine take_ (i := 9) (N := some 94) (v := ?_) (a' := ?_) #[true, true, true, true, true, true, true, true, true, true, false, false] rfl rfl (take_ofW HT_.out HW_.out (by kernel_rfl)) (fun _ _ _ h => h) (Or.inl ⟨by rfl, ?_⟩) hHeld ?_ ?_
                    rotate_left
                    · rintro w' ⟨s0, s1, s2, s3, s4, s5, s6, s7, s8, s9, s10, s11, s12, s13, s14, s15, s16, s17, s18, s19, s20, s21, s22, s23, s24, s25, s26, s27, s28, s29, s30, s31, s32, s33, s34, s35, s36, s37, s38, s39⟩
                      go_simp
                      with_reducible rfl
                    rotate_left
                    · simp only [Act.put, List.setIfInBounds_toArray, List.set_cons_zero, List.set_cons_succ, i64_w, i32_w]
                      rfl
                    refine one_ (i := 10) (N := some 95) #[true, true, true, true, true, true, true, true, true, true, true, false] rfl rfl (one_of HT_.out (by kernel_rfl)) (by decide) (fun K hK => ?_)
                    refine goes_ Tryd.func18 (by kernel_rfl) rfl #[.agg #[.int .i64 ((rd_T25 l0_9 x5_2).f0), .int .i64 ((rd_T25 l0_9 x5_2).f1), .string ((rd_T25 l0_9 x5_2).f2), .string ((rd_T25 l0_9 x5_2).f3), .string ((rd_T25 l0_9 x5_2).f4), .slice A233_5 ((rd_T25 l0_9 x5_2).f5).length c233_5, .slice A233_6 ((rd_T25 l0_9 x5_2).f6).length c233_6, .int .i64 ((rd_T25 l0_9 x5_2).f7), .int .i64 ((rd_T25 l0_9 x5_2).f8), .slice A233_9 ((rd_T25 l0_9 x5_2).f9).length c233_9], .agg #[.int .i64 ((rd_T25 l1_9 x5_2).f0), .int .i64 ((rd_T25 l1_9 x5_2).f1), .string ((rd_T25 l1_9 x5_2).f2), .string ((rd_T25 l1_9 x5_2).f3), .string ((rd_T25 l1_9 x5_2).f4), .slice A234_5 ((rd_T25 l1_9 x5_2).f5).length c234_5, .slice A234_6 ((rd_T25 l1_9 x5_2).f6).length c234_6, .int .i64 ((rd_T25 l1_9 x5_2).f7), .int .i64 ((rd_T25 l1_9 x5_2).f8), .slice A234_9 ((rd_T25 l1_9 x5_2).f9).length c234_9]] (by rfl) rfl rfl (by (try simp only [List.map_toArray, List.map_cons, List.map_nil]); first | done | rfl | (simp only [List.length_drop, List.length_take]; rfl)) ?_
                    with_reducible refine (ih k2 (by have := HJ2.out; have := HK2.out; omega) ((rd_T25 l0_9 x5_2).f0) ((rd_T25 l0_9 x5_2).f1) ((rd_T25 l0_9 x5_2).f2) ((rd_T25 l0_9 x5_2).f3) ((rd_T25 l0_9 x5_2).f4) _ _ ((rd_T25 l0_9 x5_2).f5) _ _ ((rd_T25 l0_9 x5_2).f6) ((rd_T25 l0_9 x5_2).f7) ((rd_T25 l0_9 x5_2).f8) _ _ ((rd_T25 l0_9 x5_2).f9) ((rd_T25 l1_9 x5_2).f0) ((rd_T25 l1_9 x5_2).f1) ((rd_T25 l1_9 x5_2).f2) ((rd_T25 l1_9 x5_2).f3) ((rd_T25 l1_9 x5_2).f4) _ _ ((rd_T25 l1_9 x5_2).f5) _ _ ((rd_T25 l1_9 x5_2).f6) ((rd_T25 l1_9 x5_2).f7) ((rd_T25 l1_9 x5_2).f8) _ _ ((rd_T25 l1_9 x5_2).f9) true _ ?side1 ?side2 ?side3 ?side4 ?side5 ?side6 ?side7 ?side8 ?side9 ?side10 ?side11 ?side12 A51.out).mono ?_
                    (case side1 => repeat (first | exact (Kd.C_below HR233_5.out HB.out) | (with_reducible refine Kd.C_alloc ?_ _) | (with_reducible refine Kd.C_drewN ?_ _) | (with_reducible refine Kd.C_drew ?_)))
                    (case side2 => exact HC233_5.out)
                    (case side3 => repeat (first | exact (Kd.C_below HR233_6.out HB.out) | (with_reducible refine Kd.C_alloc ?_ _) | (with_reducible refine Kd.C_drewN ?_ _) | (with_reducible refine Kd.C_drew ?_)))
                    (case side4 => exact HC233_6.out)
                    (case side5 => repeat (first | exact (Kd.C_below HR233_9.out HB.out) | (with_reducible refine Kd.C_alloc ?_ _) | (with_reducible refine Kd.C_drewN ?_ _) | (with_reducible refine Kd.C_drew ?_)))
                    (case side6 => exact HC233_9.out)
                    (case side7 => repeat (first | exact (Kd.C_below HR234_5.out HB.out) | (with_reducible refine Kd.C_alloc ?_ _) | (with_reducible refine Kd.C_drewN ?_ _) | (with_reducible refine Kd.C_drew ?_)))
                    (case side8 => exact HC234_5.out)
                    (case side9 => repeat (first | exact (Kd.C_below HR234_6.out HB.out) | (with_reducible refine Kd.C_alloc ?_ _) | (with_reducible refine Kd.C_drewN ?_ _) | (with_reducible refine Kd.C_drew ?_)))
                    (case side10 => exact HC234_6.out)
                    (case side11 => repeat (first | exact (Kd.C_below HR234_9.out HB.out) | (with_reducible refine Kd.C_alloc ?_ _) | (with_reducible refine Kd.C_drewN ?_ _) | (with_reducible refine Kd.C_drew ?_)))
                    (case side12 => exact HC234_9.out)
                    rintro e w56 ⟨rfl, hb⟩
                    refine ⟨_, rfl, ?_⟩
                    have n0_ := Aside0.mk (blk_below (g := gb229) (o := .cells #[.int .i64 a0_0, .int .i64 a0_1, .string a0_2, .string a0_3, .string a0_4, .slice A0_5 l0_5.length c0_5, .slice A0_6 l0_6.length c0_6, .int .i64 a0_7, .int .i64 a0_8, .slice (some ad233) l0_9.length c0_9] 25 (0, 0)) (by (with_reducible repeat (first | refine blk_drewN ?_ _ | refine blk_drew ?_ | refine blk_alloc ?_ _)); exact BK229.out) hb)
                    have n1_ := Aside0.mk (blk_below (g := gb230) (o := .cells #[.int .i64 a1_0, .int .i64 a1_1, .string a1_2, .string a1_3, .string a1_4, .slice A1_5 l1_5.length c1_5, .slice A1_6 l1_6.length c1_6, .int .i64 a1_7, .int .i64 a1_8, .slice (some ad234) l1_9.length c1_9] 25 (0, 0)) (by (with_reducible repeat (first | refine blk_drewN ?_ _ | refine blk_drew ?_ | refine blk_alloc ?_ _)); exact BK230.out) hb)
                    have n2_ := Aside0.mk (below_step (by repeat (first | (with_reducible first | exact HB.out | apply below_alloc | apply pw_below_drewN | apply below_drew1 | refine below_set ?_ GE229.out | refine below_set ?_ GE230.out) | exact HB.out)) hb)
                    clear BK229
                    clear BK230
                    clear HB
                    have BK229 := n0_
                    have BK230 := n1_
                    have HB := n2_
                    clear n0_ n1_ n2_
                    (try clear hb)
                    (try clear hb2)
                    (try clear hk)
                    (try clear hi)
                    refine hK.out _ _ ⟨(blk_cell BK229.out 0).trans rfl, (blk_cell BK229.out 1).trans rfl, (blk_cell BK229.out 2).trans rfl, (blk_cell BK229.out 3).trans rfl, (blk_cell BK229.out 4).trans rfl, (blk_cell BK229.out 5).trans rfl, (blk_cell BK229.out 6).trans rfl, (blk_cell BK229.out 7).trans rfl, (blk_cell BK229.out 8).trans rfl, (blk_cell BK229.out 9).trans rfl, (blk_cell BK230.out 0).trans rfl, (blk_cell BK230.out 1).trans rfl, (blk_cell BK230.out 2).trans rfl, (blk_cell BK230.out 3).trans rfl, (blk_cell BK230.out 4).trans rfl, (blk_cell BK230.out 5).trans rfl, (blk_cell BK230.out 6).trans rfl, (blk_cell BK230.out 7).trans rfl, (blk_cell BK230.out 8).trans rfl, (blk_cell BK230.out 9).trans rfl, ((HB.out.cell (World.block_lt_of_cell? w _ hw233_0)).trans hw233_0), ((HB.out.cell (World.block_lt_of_cell? w _ hw233_1)).trans hw233_1), ((HB.out.cell (World.block_lt_of_cell? w _ hw233_2)).trans hw233_2), ((HB.out.cell (World.block_lt_of_cell? w _ hw233_3)).trans hw233_3), ((HB.out.cell (World.block_lt_of_cell? w _ hw233_4)).trans hw233_4), ((HB.out.cell (World.block_lt_of_cell? w _ hw233_5)).trans hw233_5), ((HB.out.cell (World.block_lt_of_cell? w _ hw233_6)).trans hw233_6), ((HB.out.cell (World.block_lt_of_cell? w _ hw233_7)).trans hw233_7), ((HB.out.cell (World.block_lt_of_cell? w _ hw233_8)).trans hw233_8), ((HB.out.cell (World.block_lt_of_cell? w _ hw233_9)).trans hw233_9), ((HB.out.cell (World.block_lt_of_cell? w _ hw234_0)).trans hw234_0), ((HB.out.cell (World.block_lt_of_cell? w _ hw234_1)).trans hw234_1), ((HB.out.cell (World.block_lt_of_cell? w _ hw234_2)).trans hw234_2), ((HB.out.cell (World.block_lt_of_cell? w _ hw234_3)).trans hw234_3), ((HB.out.cell (World.block_lt_of_cell? w _ hw234_4)).trans hw234_4), ((HB.out.cell (World.block_lt_of_cell? w _ hw234_5)).trans hw234_5), ((HB.out.cell (World.block_lt_of_cell? w _ hw234_6)).trans hw234_6), ((HB.out.cell (World.block_lt_of_cell? w _ hw234_7)).trans hw234_7), ((HB.out.cell (World.block_lt_of_cell? w _ hw234_8)).trans hw234_8), ((HB.out.cell (World.block_lt_of_cell? w _ hw234_9)).trans hw234_9)⟩ (fun hHeld => ?_)
                    clear hK K
                    refine norm_ (a' := ?_) ?_ ?_
                    rotate_left
                    · show Act.put _ (some 95) _ = _
                      simp only [Act.put, List.setIfInBounds_toArray, List.set_cons_zero, List.set_cons_succ, i64_w, i32_w]
                      rfl
                    refine pure_ (i := 11) (N := some 96) (v := ?_) (a' := ?_) #[true, true, true, true, true, true, true, true, true, true, true, true] rfl rfl (any_of HT_.out (by kernel_rfl)) (fun _ _ _ h => h) (Or.inl ⟨by rfl, ?_⟩) ?_ ?_
                    rotate_left
                    · intro w'
                      go_simp
                      with_reducible rfl
                    rotate_left
                    · simp only [Act.put, List.setIfInBounds_toArray, List.set_cons_zero, List.set_cons_succ, i64_w, i32_w]
                      rfl
                    refine done_ (done_of HT_.out (by kernel_rfl)) ?_
                    try go_wp2
                    go_roundg k2
                    case measure => have := HJ2.out; have := HK2.out; omega
                    case rel => exact ⟨(wrap64 (x5_2 + 1)), (by first | rfl | (simp; done) | (simp [*]; done)), H', ⟨by have := HJ2.out; have := HK2.out; omega⟩, ⟨by (with_reducible repeat (first | refine blk_drewN ?_ _ | refine blk_drew ?_ | refine blk_alloc ?_ _)); exact BK229.out⟩, ⟨by (with_reducible repeat (first | refine blk_drewN ?_ _ | refine blk_drew ?_ | refine blk_alloc ?_ _)); exact BK230.out⟩, ⟨by repeat (first | (with_reducible first | exact HB.out | apply below_alloc | apply pw_below_drewN | apply below_drew1 | refine below_set ?_ GE229.out | refine below_set ?_ GE230.out) | exact HB.out)⟩⟩
                  · replace c52 := Bool.eq_false_iff.mpr c52
                    subst c52
                    have H1 : (some false) = some r := by rw [if_neg (show ¬ (false = true) by decide)] at H; exact H
                    clear H
                    have H := H1
                    clear H1
                    obtain rfl := Option.some.inj H
                    have hnb57 := NB229_230.out
                    have hnc57 := NB230_229.out
                    have hcz58_0 : wr.cell? ⟨gb229, 0, none⟩ = some (.int .i64 a0_0) := (blk_cell BK229.out 0).trans rfl
                    have hcz58_1 : wr.cell? ⟨gb229, 1, none⟩ = some (.int .i64 a0_1) := (blk_cell BK229.out 1).trans rfl
                    have hcz58_2 : wr.cell? ⟨gb229, 2, none⟩ = some (.string a0_2) := (blk_cell BK229.out 2).trans rfl
                    have hcz58_3 : wr.cell? ⟨gb229, 3, none⟩ = some (.string a0_3) := (blk_cell BK229.out 3).trans rfl
                    have hcz58_4 : wr.cell? ⟨gb229, 4, none⟩ = some (.string a0_4) := (blk_cell BK229.out 4).trans rfl
                    have hcz58_5 : wr.cell? ⟨gb229, 5, none⟩ = some (.slice A0_5 l0_5.length c0_5) := (blk_cell BK229.out 5).trans rfl
                    have hcz58_6 : wr.cell? ⟨gb229, 6, none⟩ = some (.slice A0_6 l0_6.length c0_6) := (blk_cell BK229.out 6).trans rfl
                    have hcz58_7 : wr.cell? ⟨gb229, 7, none⟩ = some (.int .i64 a0_7) := (blk_cell BK229.out 7).trans rfl
                    have hcz58_8 : wr.cell? ⟨gb229, 8, none⟩ = some (.int .i64 a0_8) := (blk_cell BK229.out 8).trans rfl
                    have hcz58_9 : wr.cell? ⟨gb229, 9, none⟩ = some (.slice A0_9 l0_9.length c0_9) := (blk_cell BK229.out 9).trans rfl
                    have hfz58_0 := blk_frozen BK229.out 0
                    have hfz58_1 := blk_frozen BK229.out 1
                    have hfz58_2 := blk_frozen BK229.out 2
                    have hfz58_3 := blk_frozen BK229.out 3
                    have hfz58_4 := blk_frozen BK229.out 4
                    have hfz58_5 := blk_frozen BK229.out 5
                    have hfz58_6 := blk_frozen BK229.out 6
                    have hfz58_7 := blk_frozen BK229.out 7
                    have hfz58_8 := blk_frozen BK229.out 8
                    have hfz58_9 := blk_frozen BK229.out 9
                    try go_wp2
                    have n0_ := Aside0.mk (blk_drew BK229.out)
                    have n1_ := Aside0.mk (blk_drew BK230.out)
                    have n2_ := Aside0.mk (below_drew1 HB.out)
                    clear BK229
                    clear BK230
                    clear HB
                    have BK229 := n0_
                    have BK230 := n1_
                    have HB := n2_
                    clear n0_ n1_ n2_
                    have p233 : 0 ≤ (x5_2 : Int) := of_decide_eq_true (by first | (with_reducible assumption) | assumption)
                    have q233 : x5_2 < (l0_9.length : Int) := of_decide_eq_true (by first | (with_reducible assumption) | assumption)
                    obtain ⟨ad233, A233_5, c233_5, A233_6, c233_6, A233_9, c233_9, e233, hx233_0, hx233_1, hx233_2, hx233_3, hx233_4, hx233_5, hx233_6, hx233_7, hx233_8, hx233_9, hl233_5, hi233_5, hl233_6, hi233_6, hl233_9, hi233_9⟩ := at_T25 HR0_9.out x5_2 p233 q233
                    have hw233_9 := hx233_9
                    have hw233_8 := hx233_8
                    have hw233_7 := hx233_7
                    have hw233_6 := hx233_6
                    have hw233_5 := hx233_5
                    have hw233_4 := hx233_4
                    have hw233_3 := hx233_3
                    have hw233_2 := hx233_2
                    have hw233_1 := hx233_1
                    have hw233_0 := hx233_0
                    cases e233
                    replace hx233_0 := (HB.out.cell (World.block_lt_of_cell? w _ hx233_0)).trans hx233_0
                    replace hx233_1 := (HB.out.cell (World.block_lt_of_cell? w _ hx233_1)).trans hx233_1
                    replace hx233_2 := (HB.out.cell (World.block_lt_of_cell? w _ hx233_2)).trans hx233_2
                    replace hx233_3 := (HB.out.cell (World.block_lt_of_cell? w _ hx233_3)).trans hx233_3
                    replace hx233_4 := (HB.out.cell (World.block_lt_of_cell? w _ hx233_4)).trans hx233_4
                    replace hx233_5 := (HB.out.cell (World.block_lt_of_cell? w _ hx233_5)).trans hx233_5
                    replace hx233_6 := (HB.out.cell (World.block_lt_of_cell? w _ hx233_6)).trans hx233_6
                    replace hx233_7 := (HB.out.cell (World.block_lt_of_cell? w _ hx233_7)).trans hx233_7
                    replace hx233_8 := (HB.out.cell (World.block_lt_of_cell? w _ hx233_8)).trans hx233_8
                    replace hx233_9 := (HB.out.cell (World.block_lt_of_cell? w _ hx233_9)).trans hx233_9
                    have HR233_5 := Aside0.mk hi233_5
                    have HC233_5 := Aside0.mk hl233_5
                    clear hi233_5 hl233_5
                    have HR233_6 := Aside0.mk hi233_6
                    have HC233_6 := Aside0.mk hl233_6
                    clear hi233_6 hl233_6
                    have HR233_9 := Aside0.mk hi233_9
                    have HC233_9 := Aside0.mk hl233_9
                    clear hi233_9 hl233_9
                    replace p233 := eq_true p233
                    replace q233 := eq_true q233
                    have p234 : 0 ≤ (x5_2 : Int) := of_decide_eq_true (by first | (with_reducible assumption) | assumption)
                    have q234 : x5_2 < (l1_9.length : Int) := of_decide_eq_true (by first | (with_reducible assumption) | assumption)
                    obtain ⟨ad234, A234_5, c234_5, A234_6, c234_6, A234_9, c234_9, e234, hx234_0, hx234_1, hx234_2, hx234_3, hx234_4, hx234_5, hx234_6, hx234_7, hx234_8, hx234_9, hl234_5, hi234_5, hl234_6, hi234_6, hl234_9, hi234_9⟩ := at_T25 HR1_9.out x5_2 p234 q234
                    have hw234_9 := hx234_9
                    have hw234_8 := hx234_8
                    have hw234_7 := hx234_7
                    have hw234_6 := hx234_6
                    have hw234_5 := hx234_5
                    have hw234_4 := hx234_4
                    have hw234_3 := hx234_3
                    have hw234_2 := hx234_2
                    have hw234_1 := hx234_1
                    have hw234_0 := hx234_0
                    cases e234
                    replace hx234_0 := (HB.out.cell (World.block_lt_of_cell? w _ hx234_0)).trans hx234_0
                    replace hx234_1 := (HB.out.cell (World.block_lt_of_cell? w _ hx234_1)).trans hx234_1
                    replace hx234_2 := (HB.out.cell (World.block_lt_of_cell? w _ hx234_2)).trans hx234_2
                    replace hx234_3 := (HB.out.cell (World.block_lt_of_cell? w _ hx234_3)).trans hx234_3
                    replace hx234_4 := (HB.out.cell (World.block_lt_of_cell? w _ hx234_4)).trans hx234_4
                    replace hx234_5 := (HB.out.cell (World.block_lt_of_cell? w _ hx234_5)).trans hx234_5
                    replace hx234_6 := (HB.out.cell (World.block_lt_of_cell? w _ hx234_6)).trans hx234_6
                    replace hx234_7 := (HB.out.cell (World.block_lt_of_cell? w _ hx234_7)).trans hx234_7
                    replace hx234_8 := (HB.out.cell (World.block_lt_of_cell? w _ hx234_8)).trans hx234_8
                    replace hx234_9 := (HB.out.cell (World.block_lt_of_cell? w _ hx234_9)).trans hx234_9
                    have HR234_5 := Aside0.mk hi234_5
                    have HC234_5 := Aside0.mk hl234_5
                    clear hi234_5 hl234_5
                    have HR234_6 := Aside0.mk hi234_6
                    have HC234_6 := Aside0.mk hl234_6
                    clear hi234_6 hl234_6
                    have HR234_9 := Aside0.mk hi234_9
                    have HC234_9 := Aside0.mk hl234_9
                    clear hi234_9 hl234_9
                    replace p234 := eq_true p234
                    replace q234 := eq_true q234
                    refine start_ (n := 12) (S := fun w' => w'.cell? ⟨gb229, 0, none⟩ = some (.int .i64 a0_0) ∧ w'.cell? ⟨gb229, 1, none⟩ = some (.int .i64 a0_1) ∧ w'.cell? ⟨gb229, 2, none⟩ = some (.string a0_2) ∧ w'.cell? ⟨gb229, 3, none⟩ = some (.string a0_3) ∧ w'.cell? ⟨gb229, 4, none⟩ = some (.string a0_4) ∧ w'.cell? ⟨gb229, 5, none⟩ = some (.slice A0_5 l0_5.length c0_5) ∧ w'.cell? ⟨gb229, 6, none⟩ = some (.slice A0_6 l0_6.length c0_6) ∧ w'.cell? ⟨gb229, 7, none⟩ = some (.int .i64 a0_7) ∧ w'.cell? ⟨gb229, 8, none⟩ = some (.int .i64 a0_8) ∧ w'.cell? ⟨gb229, 9, none⟩ = some (.slice (some ad233) l0_9.length c0_9) ∧ w'.cell? ⟨gb230, 0, none⟩ = some (.int .i64 a1_0) ∧ w'.cell? ⟨gb230, 1, none⟩ = some (.int .i64 a1_1) ∧ w'.cell? ⟨gb230, 2, none⟩ = some (.string a1_2) ∧ w'.cell? ⟨gb230, 3, none⟩ = some (.string a1_3) ∧ w'.cell? ⟨gb230, 4, none⟩ = some (.string a1_4) ∧ w'.cell? ⟨gb230, 5, none⟩ = some (.slice A1_5 l1_5.length c1_5) ∧ w'.cell? ⟨gb230, 6, none⟩ = some (.slice A1_6 l1_6.length c1_6) ∧ w'.cell? ⟨gb230, 7, none⟩ = some (.int .i64 a1_7) ∧ w'.cell? ⟨gb230, 8, none⟩ = some (.int .i64 a1_8) ∧ w'.cell? ⟨gb230, 9, none⟩ = some (.slice (some ad234) l1_9.length c1_9) ∧ w'.cell? (ad233.add ((x5_2).toNat * 10)) = some (.int .i64 ((rd_T25 l0_9 x5_2).f0)) ∧ w'.cell? ⟨(ad233.add ((x5_2).toNat * 10)).block, (ad233.add ((x5_2).toNat * 10)).off + 1, none⟩ = some (.int .i64 ((rd_T25 l0_9 x5_2).f1)) ∧ w'.cell? ⟨(ad233.add ((x5_2).toNat * 10)).block, (ad233.add ((x5_2).toNat * 10)).off + 2, none⟩ = some (.string ((rd_T25 l0_9 x5_2).f2)) ∧ w'.cell? ⟨(ad233.add ((x5_2).toNat * 10)).block, (ad233.add ((x5_2).toNat * 10)).off + 3, none⟩ = some (.string ((rd_T25 l0_9 x5_2).f3)) ∧ w'.cell? ⟨(ad233.add ((x5_2).toNat * 10)).block, (ad233.add ((x5_2).toNat * 10)).off + 4, none⟩ = some (.string ((rd_T25 l0_9 x5_2).f4)) ∧ w'.cell? ⟨(ad233.add ((x5_2).toNat * 10)).block, (ad233.add ((x5_2).toNat * 10)).off + 5, none⟩ = some (.slice A233_5 ((rd_T25 l0_9 x5_2).f5).length c233_5) ∧ w'.cell? ⟨(ad233.add ((x5_2).toNat * 10)).block, (ad233.add ((x5_2).toNat * 10)).off + 6, none⟩ = some (.slice A233_6 ((rd_T25 l0_9 x5_2).f6).length c233_6) ∧ w'.cell? ⟨(ad233.add ((x5_2).toNat * 10)).block, (ad233.add ((x5_2).toNat * 10)).off + 7, none⟩ = some (.int .i64 ((rd_T25 l0_9 x5_2).f7)) ∧ w'.cell? ⟨(ad233.add ((x5_2).toNat * 10)).block, (ad233.add ((x5_2).toNat * 10)).off + 8, none⟩ = some (.int .i64 ((rd_T25 l0_9 x5_2).f8)) ∧ w'.cell? ⟨(ad233.add ((x5_2).toNat * 10)).block, (ad233.add ((x5_2).toNat * 10)).off + 9, none⟩ = some (.slice A233_9 ((rd_T25 l0_9 x5_2).f9).length c233_9) ∧ w'.cell? (ad234.add ((x5_2).toNat * 10)) = some (.int .i64 ((rd_T25 l1_9 x5_2).f0)) ∧ w'.cell? ⟨(ad234.add ((x5_2).toNat * 10)).block, (ad234.add ((x5_2).toNat * 10)).off + 1, none⟩ = some (.int .i64 ((rd_T25 l1_9 x5_2).f1)) ∧ w'.cell? ⟨(ad234.add ((x5_2).toNat * 10)).block, (ad234.add ((x5_2).toNat * 10)).off + 2, none⟩ = some (.string ((rd_T25 l1_9 x5_2).f2)) ∧ w'.cell? ⟨(ad234.add ((x5_2).toNat * 10)).block, (ad234.add ((x5_2).toNat * 10)).off + 3, none⟩ = some (.string ((rd_T25 l1_9 x5_2).f3)) ∧ w'.cell? ⟨(ad234.add ((x5_2).toNat * 10)).block, (ad234.add ((x5_2).toNat * 10)).off + 4, none⟩ = some (.string ((rd_T25 l1_9 x5_2).f4)) ∧ w'.cell? ⟨(ad234.add ((x5_2).toNat * 10)).block, (ad234.add ((x5_2).toNat * 10)).off + 5, none⟩ = some (.slice A234_5 ((rd_T25 l1_9 x5_2).f5).length c234_5) ∧ w'.cell? ⟨(ad234.add ((x5_2).toNat * 10)).block, (ad234.add ((x5_2).toNat * 10)).off + 6, none⟩ = some (.slice A234_6 ((rd_T25 l1_9 x5_2).f6).length c234_6) ∧ w'.cell? ⟨(ad234.add ((x5_2).toNat * 10)).block, (ad234.add ((x5_2).toNat * 10)).off + 7, none⟩ = some (.int .i64 ((rd_T25 l1_9 x5_2).f7)) ∧ w'.cell? ⟨(ad234.add ((x5_2).toNat * 10)).block, (ad234.add ((x5_2).toNat * 10)).off + 8, none⟩ = some (.int .i64 ((rd_T25 l1_9 x5_2).f8)) ∧ w'.cell? ⟨(ad234.add ((x5_2).toNat * 10)).block, (ad234.add ((x5_2).toNat * 10)).off + 9, none⟩ = some (.slice A234_9 ((rd_T25 l1_9 x5_2).f9).length c234_9)) (ds := []) #[false, false, false, false, false, false, false, false, false, false, false, false] (by kernel_rfl) rfl rfl ⟨(blk_cell BK229.out 0).trans rfl, (blk_cell BK229.out 1).trans rfl, (blk_cell BK229.out 2).trans rfl, (blk_cell BK229.out 3).trans rfl, (blk_cell BK229.out 4).trans rfl, (blk_cell BK229.out 5).trans rfl, (blk_cell BK229.out 6).trans rfl, (blk_cell BK229.out 7).trans rfl, (blk_cell BK229.out 8).trans rfl, (blk_cell BK229.out 9).trans rfl, (blk_cell BK230.out 0).trans rfl, (blk_cell BK230.out 1).trans rfl, (blk_cell BK230.out 2).trans rfl, (blk_cell BK230.out 3).trans rfl, (blk_cell BK230.out 4).trans rfl, (blk_cell BK230.out 5).trans rfl, (blk_cell BK230.out 6).trans rfl, (blk_cell BK230.out 7).trans rfl, (blk_cell BK230.out 8).trans rfl, (blk_cell BK230.out 9).trans rfl, ((HB.out.cell (World.block_lt_of_cell? w _ hw233_0)).trans hw233_0), ((HB.out.cell (World.block_lt_of_cell? w _ hw233_1)).trans hw233_1), ((HB.out.cell (World.block_lt_of_cell? w _ hw233_2)).trans hw233_2), ((HB.out.cell (World.block_lt_of_cell? w _ hw233_3)).trans hw233_3), ((HB.out.cell (World.block_lt_of_cell? w _ hw233_4)).trans hw233_4), ((HB.out.cell (World.block_lt_of_cell? w _ hw233_5)).trans hw233_5), ((HB.out.cell (World.block_lt_of_cell? w _ hw233_6)).trans hw233_6), ((HB.out.cell (World.block_lt_of_cell? w _ hw233_7)).trans hw233_7), ((HB.out.cell (World.block_lt_of_cell? w _ hw233_8)).trans hw233_8), ((HB.out.cell (World.block_lt_of_cell? w _ hw233_9)).trans hw233_9), ((HB.out.cell (World.block_lt_of_cell? w _ hw234_0)).trans hw234_0), ((HB.out.cell (World.block_lt_of_cell? w _ hw234_1)).trans hw234_1), ((HB.out.cell (World.block_lt_of_cell? w _ hw234_2)).trans hw234_2), ((HB.out.cell (World.block_lt_of_cell? w _ hw234_3)).trans hw234_3), ((HB.out.cell (World.block_lt_of_cell? w _ hw234_4)).trans hw234_4), ((HB.out.cell (World.block_lt_of_cell? w _ hw234_5)).trans hw234_5), ((HB.out.cell (World.block_lt_of_cell? w _ hw234_6)).trans hw234_6), ((HB.out.cell (World.block_lt_of_cell? w _ hw234_7)).trans hw234_7), ((HB.out.cell (World.block_lt_of_cell? w _ hw234_8)).trans hw234_8), ((HB.out.cell (World.block_lt_of_cell? w _ hw234_9)).trans hw234_9)⟩ (fun hHeld => ?_); refine with_tabW lecternkit_Query.tab6 lecternkit_Query.bits6 (fun HT_ HW_ => ?_)
                    generalize wr.drew = w59 at BK229 BK230 HB HR233_5 HR233_6 HR233_9 HR234_5 HR234_6 HR234_9 hx233_0 hx233_1 hx233_2 hx233_3 hx233_4 hx233_5 hx233_6 hx233_7 hx233_8 hx233_9 hx234_0 hx234_1 hx234_2 hx234_3 hx234_4 hx234_5 hx234_6 hx234_7 hx234_8 hx234_9 hHeld ⊢
                    refine pure_ (i := 0) (N := some 85) (v := ?_) (a' := ?_) #[true, false, false, false, false, false, false, false, false, false, false, false] rfl rfl (any_of HT_.out (by kernel_rfl)) (fun _ _ _ h => h) (Or.inl ⟨by rfl, ?_⟩) ?_ ?_
                    rotate_left
                    · intro w'
                      go_simp
                      with_reducible rfl
                    rotate_left
                    · simp only [Act.put, List.setIfInBounds_toArray, List.set_cons_zero, List.set_cons_succ, i64_w, i32_w]
                      rfl
                    refine pure_ (i := 2) (N := some 87) (v := ?_) (a' := ?_) #[true, false, true, false, false, false, false, false, false, false, false, false] rfl rfl (any_of HT_.out (by kernel_rfl)) (fun _ _ _ h => h) (Or.inl ⟨by rfl, ?_⟩) ?_ ?_
                    rotate_left
                    · intro w'
                      go_simp
                      with_reducible rfl
                    rotate_left
                    · simp only [Act.put, List.setIfInBounds_toArray, List.set_cons_zero, List.set_cons_succ, i64_w, i32_w]
                      rfl
                    refine pure_ (i := 5) (N := some 90) (v := ?_) (a' := ?_) #[true, false, true, false, false, true, false, false, false, false, false, false] rfl rfl (any_of HT_.out (by kernel_rfl)) (fun _ _ _ h => h) (Or.inl ⟨by rfl, ?_⟩) ?_ ?_
                    rotate_left
                    · intro w'
                      go_simp
                      with_reducible rfl
                    rotate_left
                    · simp only [Act.put, List.setIfInBounds_toArray, List.set_cons_zero, List.set_cons_succ, i64_w, i32_w]
                      rfl
                    refine pure_ (i := 7) (N := some 92) (v := ?_) (a' := ?_) #[true, false, true, false, false, true, false, true, false, false, false, false] rfl rfl (any_of HT_.out (by kernel_rfl)) (fun _ _ _ h => h) (Or.inl ⟨by rfl, ?_⟩) ?_ ?_
                    rotate_left
                    · intro w'
                      go_simp
                      with_reducible rfl
                    rotate_left
                    · simp only [Act.put, List.setIfInBounds_toArray, List.set_cons_zero, List.set_cons_succ, i64_w, i32_w]
                      rfl
                    refine take_ (i := 1) (N := some 86) (v := ?_) (a' := ?_) #[true, true, true, false, false, true, false, true, false, false, false, false] rfl rfl (take_ofW HT_.out HW_.out (by kernel_rfl)) (fun _ _ _ h => h) (Or.inl ⟨by rfl, ?_⟩) hHeld ?_ ?_
                    rotate_left
                    · rintro w' ⟨s0, s1, s2, s3, s4, s5, s6, s7, s8, s9, s10, s11, s12, s13, s14, s15, s16, s17, s18, s19, s20, s21, s22, s23, s24, s25, s26, s27, s28, s29, s30, s31, s32, s33, s34, s35, s36, s37, s38, s39⟩
                      go_simp
                      with_reducible rfl
                    rotate_left
                    · simp only [Act.put, List.setIfInBounds_toArray, List.set_cons_zero, List.set_cons_succ, i64_w, i32_w]
                      rfl
                    refine pure_ (i := 3) (N := some 88) (v := ?_) (a' := ?_) #[true, true, true, true, false, true, false, true, false, false, false, false] rfl rfl (any_of HT_.out (by kernel_rfl)) (fun _ _ _ h => h) (Or.inl ⟨by rfl, ?_⟩) ?_ ?_
                    rotate_left
                    · intro w'
                      go_simp
                      with_reducible rfl
                    rotate_left
                    · simp only [Act.put, List.setIfInBounds_toArray, List.set_cons_zero, List.set_cons_succ, i64_w, i32_w]
                      rfl
                    refine take_ (i := 4) (N := some 89) (v := ?_) (a' := ?_) #[true, true, true, true, true, true, false, true, false, false, false, false] rfl rfl (take_ofW HT_.out HW_.out (by kernel_rfl)) (fun _ _ _ h => h) (Or.inl ⟨by rfl, ?_⟩) hHeld ?_ ?_
                    rotate_left
                    · rintro w' ⟨s0, s1, s2, s3, s4, s5, s6, s7, s8, s9, s10, s11, s12, s13, s14, s15, s16, s17, s18, s19, s20, s21, s22, s23, s24, s25, s26, s27, s28, s29, s30, s31, s32, s33, s34, s35, s36, s37, s38, s39⟩
                      go_simp
                      with_reducible rfl
                    rotate_left
                    · simp only [Act.put, List.setIfInBounds_toArray, List.set_cons_zero, List.set_cons_succ, i64_w, i32_w]
                      rfl
                    refine take_ (i := 6) (N := some 91) (v := ?_) (a' := ?_) #[true, true, true, true, true, true, true, true, false, false, false, false] rfl rfl (take_ofW HT_.out HW_.out (by kernel_rfl)) (fun _ _ _ h => h) (Or.inl ⟨by rfl, ?_⟩) hHeld ?_ ?_
                    rotate_left
                    · rintro w' ⟨s0, s1, s2, s3, s4, s5, s6, s7, s8, s9, s10, s11, s12, s13, s14, s15, s16, s17, s18, s19, s20, s21, s22, s23, s24, s25, s26, s27, s28, s29, s30, s31, s32, s33, s34, s35, s36, s37, s38, s39⟩
                      go_simp
                      with_reducible rfl
                    rotate_left
                    · simp only [Act.put, List.setIfInBounds_toArray, List.set_cons_zero, List.set_cons_succ, i64_w, i32_w]
                      rfl
                    refine pure_ (i := 8) (N := some 93) (v := ?_) (a' := ?_) #[true, true, true, true, true, true, true, true, true, false, false, false] rfl rfl (any_of HT_.out (by kernel_rfl)) (fun _ _ _ h => h) (Or.inl ⟨by rfl, ?_⟩) ?_ ?_
                    rotate_left
                    · intro w'
                      go_simp
                      with_reducible rfl
                    rotate_left
                    · simp only [Act.put, List.setIfInBounds_toArray, List.set_cons_zero, List.set_cons_succ, i64_w, i32_w]
                      rfl
                    refine take_ (i := 9) (N := some 94) (v := ?_) (a' := ?_) #[true, true, true, true, true, true, true, true, true, true, false, false] rfl rfl (take_ofW HT_.out HW_.out (by kernel_rfl)) (fun _ _ _ h => h) (Or.inl ⟨by rfl, ?_⟩) hHeld ?_ ?_
                    rotate_left
                    · rintro w' ⟨s0, s1, s2, s3, s4, s5, s6, s7, s8, s9, s10, s11, s12, s13, s14, s15, s16, s17, s18, s19, s20, s21, s22, s23, s24, s25, s26, s27, s28, s29, s30, s31, s32, s33, s34, s35, s36, s37, s38, s39⟩
                      go_simp
                      with_reducible rfl
                    rotate_left
                    · simp only [Act.put, List.setIfInBounds_toArray, List.set_cons_zero, List.set_cons_succ, i64_w, i32_w]
                      rfl
                    refine one_ (i := 10) (N := some 95) #[true, true, true, true, true, true, true, true, true, true, true, false] rfl rfl (one_of HT_.out (by kernel_rfl)) (by decide) (fun K hK => ?_)
                    refine goes_ Tryd.func18 (by kernel_rfl) rfl #[.agg #[.int .i64 ((rd_T25 l0_9 x5_2).f0), .int .i64 ((rd_T25 l0_9 x5_2).f1), .string ((rd_T25 l0_9 x5_2).f2), .string ((rd_T25 l0_9 x5_2).f3), .string ((rd_T25 l0_9 x5_2).f4), .slice A233_5 ((rd_T25 l0_9 x5_2).f5).length c233_5, .slice A233_6 ((rd_T25 l0_9 x5_2).f6).length c233_6, .int .i64 ((rd_T25 l0_9 x5_2).f7), .int .i64 ((rd_T25 l0_9 x5_2).f8), .slice A233_9 ((rd_T25 l0_9 x5_2).f9).length c233_9], .agg #[.int .i64 ((rd_T25 l1_9 x5_2).f0), .int .i64 ((rd_T25 l1_9 x5_2).f1), .string ((rd_T25 l1_9 x5_2).f2), .string ((rd_T25 l1_9 x5_2).f3), .string ((rd_T25 l1_9 x5_2).f4), .slice A234_5 ((rd_T25 l1_9 x5_2).f5).length c234_5, .slice A234_6 ((rd_T25 l1_9 x5_2).f6).length c234_6, .int .i64 ((rd_T25 l1_9 x5_2).f7), .int .i64 ((rd_T25 l1_9 x5_2).f8), .slice A234_9 ((rd_T25 l1_9 x5_2).f9).length c234_9]] (by rfl) rfl rfl (by (try simp only [List.map_toArray, List.map_cons, List.map_nil]); first | done | rfl | (simp only [List.length_drop, List.length_take]; rfl)) ?_
                    with_reducible refine (ih k2 (by have := HJ2.out; have := HK2.out; omega) ((rd_T25 l0_9 x5_2).f0) ((rd_T25 l0_9 x5_2).f1) ((rd_T25 l0_9 x5_2).f2) ((rd_T25 l0_9 x5_2).f3) ((rd_T25 l0_9 x5_2).f4) _ _ ((rd_T25 l0_9 x5_2).f5) _ _ ((rd_T25 l0_9 x5_2).f6) ((rd_T25 l0_9 x5_2).f7) ((rd_T25 l0_9 x5_2).f8) _ _ ((rd_T25 l0_9 x5_2).f9) ((rd_T25 l1_9 x5_2).f0) ((rd_T25 l1_9 x5_2).f1) ((rd_T25 l1_9 x5_2).f2) ((rd_T25 l1_9 x5_2).f3) ((rd_T25 l1_9 x5_2).f4) _ _ ((rd_T25 l1_9 x5_2).f5) _ _ ((rd_T25 l1_9 x5_2).f6) ((rd_T25 l1_9 x5_2).f7) ((rd_T25 l1_9 x5_2).f8) _ _ ((rd_T25 l1_9 x5_2).f9) false _ ?side1 ?side2 ?side3 ?side4 ?side5 ?side6 ?side7 ?side8 ?side9 ?side10 ?side11 ?side12 A51.out).mono ?_
                    (case side1 => repeat (first | exact (Kd.C_below HR233_5.out HB.out) | (with_reducible refine Kd.C_alloc ?_ _) | (with_reducible refine Kd.C_drewN ?_ _) | (with_reducible refine Kd.C_drew ?_)))
                    (case side2 => exact HC233_5.out)
                    (case side3 => repeat (first | exact (Kd.C_below HR233_6.out HB.out) | (with_reducible refine Kd.C_alloc ?_ _) | (with_reducible refine Kd.C_drewN ?_ _) | (with_reducible refine Kd.C_drew ?_)))
                    (case side4 => exact HC233_6.out)
                    (case side5 => repeat (first | exact (Kd.C_below HR233_9.out HB.out) | (with_reducible refine Kd.C_alloc ?_ _) | (with_reducible refine Kd.C_drewN ?_ _) | (with_reducible refine Kd.C_drew ?_)))
                    (case side6 => exact HC233_9.out)
                    (case side7 => repeat (first | exact (Kd.C_below HR234_5.out HB.out) | (with_reducible refine Kd.C_alloc ?_ _) | (with_reducible refine Kd.C_drewN ?_ _) | (with_reducible refine Kd.C_drew ?_)))
                    (case side8 => exact HC234_5.out)
                    (case side9 => repeat (first | exact (Kd.C_below HR234_6.out HB.out) | (with_reducible refine Kd.C_alloc ?_ _) | (with_reducible refine Kd.C_drewN ?_ _) | (with_reducible refine Kd.C_drew ?_)))
                    (case side10 => exact HC234_6.out)
                    (case side11 => repeat (first | exact (Kd.C_below HR234_9.out HB.out) | (with_reducible refine Kd.C_alloc ?_ _) | (with_reducible refine Kd.C_drewN ?_ _) | (with_reducible refine Kd.C_drew ?_)))
                    (case side12 => exact HC234_9.out)
                    rintro e w60 ⟨rfl, hb⟩
                    refine ⟨_, rfl, ?_⟩
                    have n0_ := Aside0.mk (blk_below (g := gb229) (o := .cells #[.int .i64 a0_0, .int .i64 a0_1, .string a0_2, .string a0_3, .string a0_4, .slice A0_5 l0_5.length c0_5, .slice A0_6 l0_6.length c0_6, .int .i64 a0_7, .int .i64 a0_8, .slice (some ad233) l0_9.length c0_9] 25 (0, 0)) (by (with_reducible repeat (first | refine blk_drewN ?_ _ | refine blk_drew ?_ | refine blk_alloc ?_ _)); exact BK229.out) hb)
                    have n1_ := Aside0.mk (blk_below (g := gb230) (o := .cells #[.int .i64 a1_0, .int .i64 a1_1, .string a1_2, .string a1_3, .string a1_4, .slice A1_5 l1_5.length c1_5, .slice A1_6 l1_6.length c1_6, .int .i64 a1_7, .int .i64 a1_8, .slice (some ad234) l1_9.length c1_9] 25 (0, 0)) (by (with_reducible repeat (first | refine blk_drewN ?_ _ | refine blk_drew ?_ | refine blk_alloc ?_ _)); exact BK230.out) hb)
                    have n2_ := Aside0.mk (below_step (by repeat (first | (with_reducible first | exact HB.out | apply below_alloc | apply pw_below_drewN | apply below_drew1 | refine below_set ?_ GE229.out | refine below_set ?_ GE230.out) | exact HB.out)) hb)
                    clear BK229
                    clear BK230
                    clear HB
                    have BK229 := n0_
                    have BK230 := n1_
                    have HB := n2_
                    clear n0_ n1_ n2_
                    (try clear hb)
                    (try clear hb2)
                    (try clear hk)
                    (try clear hi)
                    refine hK.out _ _ ⟨(blk_cell BK229.out 0).trans rfl, (blk_cell BK229.out 1).trans rfl, (blk_cell BK229.out 2).trans rfl, (blk_cell BK229.out 3).trans rfl, (blk_cell BK229.out 4).trans rfl, (blk_cell BK229.out 5).trans rfl, (blk_cell BK229.out 6).trans rfl, (blk_cell BK229.out 7).trans rfl, (blk_cell BK229.out 8).trans rfl, (blk_cell BK229.out 9).trans rfl, (blk_cell BK230.out 0).trans rfl, (blk_cell BK230.out 1).trans rfl, (blk_cell BK230.out 2).trans rfl, (blk_cell BK230.out 3).trans rfl, (blk_cell BK230.out 4).trans rfl, (blk_cell BK230.out 5).trans rfl, (blk_cell BK230.out 6).trans rfl, (blk_cell BK230.out 7).trans rfl, (blk_cell BK230.out 8).trans rfl, (blk_cell BK230.out 9).trans rfl, ((HB.out.cell (World.block_lt_of_cell? w _ hw233_0)).trans hw233_0), ((HB.out.cell (World.block_lt_of_cell? w _ hw233_1)).trans hw233_1), ((HB.out.cell (World.block_lt_of_cell? w _ hw233_2)).trans hw233_2), ((HB.out.cell (World.block_lt_of_cell? w _ hw233_3)).trans hw233_3), ((HB.out.cell (World.block_lt_of_cell? w _ hw233_4)).trans hw233_4), ((HB.out.cell (World.block_lt_of_cell? w _ hw233_5)).trans hw233_5), ((HB.out.cell (World.block_lt_of_cell? w _ hw233_6)).trans hw233_6), ((HB.out.cell (World.block_lt_of_cell? w _ hw233_7)).trans hw233_7), ((HB.out.cell (World.block_lt_of_cell? w _ hw233_8)).trans hw233_8), ((HB.out.cell (World.block_lt_of_cell? w _ hw233_9)).trans hw233_9), ((HB.out.cell (World.block_lt_of_cell? w _ hw234_0)).trans hw234_0), ((HB.out.cell (World.block_lt_of_cell? w _ hw234_1)).trans hw234_1), ((HB.out.cell (World.block_lt_of_cell? w _ hw234_2)).trans hw234_2), ((HB.out.cell (World.block_lt_of_cell? w _ hw234_3)).trans hw234_3), ((HB.out.cell (World.block_lt_of_cell? w _ hw234_4)).trans hw234_4), ((HB.out.cell (World.block_lt_of_cell? w _ hw234_5)).trans hw234_5), ((HB.out.cell (World.block_lt_of_cell? w _ hw234_6)).trans hw234_6), ((HB.out.cell (World.block_lt_of_cell? w _ hw234_7)).trans hw234_7), ((HB.out.cell (World.block_lt_of_cell? w _ hw234_8)).trans hw234_8), ((HB.out.cell (World.block_lt_of_cell? w _ hw234_9)).trans hw234_9)⟩ (fun hHeld => ?_)
                    clear hK K
                    refine norm_ (a' := ?_) ?_ ?_
                    rotate_left
                    · show Act.put _ (some 95) _ = _
                      simp only [Act.put, List.setIfInBounds_toArray, List.set_cons_zero, List.set_cons_succ, i64_w, i32_w]
                      rfl
                    refine pure_ (i := 11) (N := some 96) (v := ?_) (a' := ?_) #[true, true, true, true, true, true, true, true, true, true, true, true] rfl rfl (any_of HT_.out (by kernel_rfl)) (fun _ _ _ h => h) (Or.inl ⟨by rfl, ?_⟩) ?_ ?_
                    rotate_left
                    · intro w'
                      go_simp
                      with_reducible rfl
                    rotate_left
                    · simp only [Act.put, List.setIfInBounds_toArray, List.set_cons_zero, List.set_cons_succ, i64_w, i32_w]
                      rfl
                    refine done_ (done_of HT_.out (by kernel_rfl)) ?_
                    try go_wp2
                    go_ret
                    exact ⟨by first | rfl | (simp [errW_none, errW_some] <;> rfl) | (simp [*, errW_none, errW_some] <;> rfl), by repeat (first | (with_reducible first | exact HB.out | apply below_alloc | apply pw_below_drewN | apply below_drew1 | refine below_set ?_ GE229.out | refine below_set ?_ GE230.out) | exact HB.out)⟩
                · rw [if_neg c50] at H
                  exact absurd H (by simp)
              · rw [if_neg c49] at H
                exact absurd H (by simp)
            · rw [if_neg c48] at H
              have c48b0 : decide (x5_2 < (l0_9.length : Int)) = false := decide_eq_false c48
              clear c48
              obtain rfl := Option.some.inj H
              have hnb61 := NB229_230.out
              have hnc61 := NB230_229.out
              have hcz62_0 : wr.cell? ⟨gb229, 0, none⟩ = some (.int .i64 a0_0) := (blk_cell BK229.out 0).trans rfl
              have hcz62_1 : wr.cell? ⟨gb229, 1, none⟩ = some (.int .i64 a0_1) := (blk_cell BK229.out 1).trans rfl
              have hcz62_2 : wr.cell? ⟨gb229, 2, none⟩ = some (.string a0_2) := (blk_cell BK229.out 2).trans rfl
              have hcz62_3 : wr.cell? ⟨gb229, 3, none⟩ = some (.string a0_3) := (blk_cell BK229.out 3).trans rfl
              have hcz62_4 : wr.cell? ⟨gb229, 4, none⟩ = some (.string a0_4) := (blk_cell BK229.out 4).trans rfl
              have hcz62_5 : wr.cell? ⟨gb229, 5, none⟩ = some (.slice A0_5 l0_5.length c0_5) := (blk_cell BK229.out 5).trans rfl
              have hcz62_6 : wr.cell? ⟨gb229, 6, none⟩ = some (.slice A0_6 l0_6.length c0_6) := (blk_cell BK229.out 6).trans rfl
              have hcz62_7 : wr.cell? ⟨gb229, 7, none⟩ = some (.int .i64 a0_7) := (blk_cell BK229.out 7).trans rfl
              have hcz62_8 : wr.cell? ⟨gb229, 8, none⟩ = some (.int .i64 a0_8) := (blk_cell BK229.out 8).trans rfl
              have hcz62_9 : wr.cell? ⟨gb229, 9, none⟩ = some (.slice A0_9 l0_9.length c0_9) := (blk_cell BK229.out 9).trans rfl
              have hfz62_0 := blk_frozen BK229.out 0
              have hfz62_1 := blk_frozen BK229.out 1
              have hfz62_2 := blk_frozen BK229.out 2
              have hfz62_3 := blk_frozen BK229.out 3
              have hfz62_4 := blk_frozen BK229.out 4
              have hfz62_5 := blk_frozen BK229.out 5
              have hfz62_6 := blk_frozen BK229.out 6
              have hfz62_7 := blk_frozen BK229.out 7
              have hfz62_8 := blk_frozen BK229.out 8
              have hfz62_9 := blk_frozen BK229.out 9
              go_wp2
              go_ret
              exact ⟨by first | rfl | (simp [errW_none, errW_some] <;> rfl) | (simp [*, errW_none, errW_some] <;> rfl), by repeat (first | (with_reducible first | exact HB.out | apply below_alloc | apply pw_below_drewN | apply below_drew1 | refine below_set ?_ GE229.out | refine below_set ?_ GE230.out) | exact HB.out)⟩

end Go.Proofs.YteppilognoigjaaDoor.PQueryForms
