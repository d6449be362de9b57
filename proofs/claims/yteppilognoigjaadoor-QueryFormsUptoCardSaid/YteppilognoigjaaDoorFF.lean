/- The walk of the program's Formed. -/
import Derived.Test.YteppilognoigjaaDoorFE
namespace Go.Proofs.YteppilognoigjaaDoor.LQ
open Go.RowKit Go.Proofs.YteppilognoigjaaDoorW.PrintWords Go.Proofs.YteppilognoigjaaDoorW.PrintLast Go.Proofs.YteppilognoigjaaDoorW.PrintMore Go.Proofs.YteppilognoigjaaDoor.PQueryForms Go.Proofs.YteppilognoigjaaDoor.QK
set_option linter.unusedVariables false
set_option linter.unusedSimpArgs false

/-- The closure that asks a kid answers g of it. -/
def KidAsked (g : S25 → Bool) (d b : Nat) (xs : List S25) (w : World) : Prop := ∀ y ∈ xs, ∀ (E5 : Option Addr) (e5 : Nat) (E6 : Option Addr) (e6 : Nat) (E9 : Option Addr) (e9 : Nat) (W : World), Below w.heap.size w W → Kd.C k25 W E9 y.f9.length y.f9 →
  Calls Tryd.prog 24 #[.agg #[.int .i64 y.f0, .int .i64 y.f1, .string y.f2, .string y.f3, .string y.f4, .slice E5 y.f5.length e5, .slice E6 y.f6.length e6, .int .i64 y.f7, .int .i64 y.f8, .slice E9 y.f9.length e9], .pointer (some ⟨d, 0, none⟩), .pointer (some ⟨b, 0, none⟩)] W fun e w' => e = .returned (.bool (g y)) ∧ Below W.heap.size W w'
set_option maxHeartbeats 8000000 in
set_option maxRecDepth 100000 in
theorem indexF_calls (g : S25 → Bool) (d b : Nat) (xs : List S25) (A : Option Addr) (c : Nat) (w : World) (hA : Kd.C k25 w A xs.length xs) (hF : KidAsked g d b xs w) :
    Calls Tryd.prog 38 #[.slice A xs.length c, .func (.func 24) #[] #[.pointer (some ⟨d, 0, none⟩), .pointer (some ⟨b, 0, none⟩)]] w fun e w' => ∃ r : Int, e = .returned (.int .i64 r) ∧ (decide (0 ≤ r) = xs.any g) ∧ Below w.heap.size w w' := by
  have HR9 := Aside0.mk hA
  have HF := Aside0.mk hF
  have HL9 := hA.2.1
  clear hA hF
  have hu25 := Tryd.underlying25
  have hi : Aside0 (xs.any g = (xs.drop (0 : Int).toNat).any g) := ⟨rfl⟩
  go_enter Tryd.func38, Tryd.ntmps38
  go_wp2_with fail
  go_loopg [8] xs.length (fun kq v8 wr => ∃ i : Int, v8 = .int .i64 i ∧ 0 ≤ i ∧ i ≤ xs.length ∧ Aside0 (kq + i = xs.length) ∧ Aside0 (xs.any g = (xs.drop i.toNat).any g) ∧ Aside0 (Below w.heap.size w wr))
  case atStart => exact ⟨0, rfl, by decide, by omega, ⟨by omega⟩, hi, ⟨Below.refl _ _⟩⟩
  case round =>
    clear hi
    obtain ⟨i, rfl, h0, h1, hk, hq, HB⟩ := hrel
    by_cases c : i < xs.length
    · obtain ⟨ad, E5, e5, E6, e6, E9, e9', ea, g0, g1, g2, g3, g4, g5, g6, g7, g8, g9, m5, r5, m6, r6, m9, r9⟩ := at_T25 (Kd.C_below HR9.out HB.out) i h0 c
      subst ea
      have HI := Aside0.mk (HF.out _ (rd_mem h0 c) E5 e5 E6 e6 E9 e9' wr HB.out r9)
      have hd := hq.out
      rw [drop_rd h0 c, List.any_cons] at hd
      have HD := Aside0.mk hd
      clear m5 r5 m6 r6 m9 r9 hd hq
      go_wp2_with fail
      refine HI.out.mono ?_
      rintro e w2 ⟨rfl, hB2⟩
      have HBN := Aside0.mk (below_then HB.out HB.out.size hB2)
      clear hB2 HI
      cases hf : g (rd_T25 xs i)
      · have HD' : Aside0 (xs.any g = (xs.drop (i + 1).toNat).any g) := ⟨by rw [HD.out, hf]; rfl⟩
        clear hf
        go_wp2_with fail
        obtain ⟨k, rfl⟩ : ∃ m, gk = m + 1 := ⟨gk - 1, by have := hk.out; omega⟩
        go_roundg k
        case measure => omega
        case rel => exact ⟨i + 1, by first | rfl | go_num, by omega, by omega, ⟨by have := hk.out; omega⟩, HD', HBN⟩
      · go_wp2_with fail
        go_ret
        exact ⟨i, rfl, by rw [HD.out, hf]; simpa using h0, HBN.out⟩
    · have hd : xs.any g = false := by
        rw [hq.out, List.drop_eq_nil_of_le (by omega)]; rfl
      have HD := Aside0.mk hd
      clear hd hq
      go_wp2_with fail
      go_ret
      exact ⟨-1, rfl, by rw [HD.out]; rfl, HB.out⟩
set_option maxHeartbeats 8000000 in
set_option maxRecDepth 100000 in
theorem containsF_calls (g : S25 → Bool) (d b : Nat) (xs : List S25) (A : Option Addr) (c : Nat) (w : World) (hA : Kd.C k25 w A xs.length xs) (hF : KidAsked g d b xs w) :
    Calls Tryd.prog 23 #[.slice A xs.length c, .func (.func 24) #[] #[.pointer (some ⟨d, 0, none⟩), .pointer (some ⟨b, 0, none⟩)]] w fun e w' => e = .returned (.bool (xs.any g)) ∧ Below w.heap.size w w' := by
  have HI := Aside0.mk (indexF_calls g d b xs A c w hA hF)
  clear hA hF
  go_enter Tryd.func23, Tryd.ntmps23
  go_wp2_with fail
  refine HI.out.mono ?_
  rintro e w2 ⟨r, rfl, hr, hB⟩
  have HR := Aside0.mk hr
  have HB := Aside0.mk hB
  clear hr hB HI
  go_wp2_with fail
  go_ret
  exact ⟨by rw [← HR.out]; rfl, HB.out⟩

/-- The cell of the function that asks a query. -/
abbrev downC (d : Nat) : Obj := .cells #[.func (.func 21) #[] #[.pointer (some ⟨d, 0, none⟩)]] 40
set_option maxHeartbeats 8000000 in
set_option maxRecDepth 100000 in
theorem formedP_calls : ∀ (n : Nat) (x : S25), Good n x → ∀ (d : Nat) (A5 : Option Addr) (c5 : Nat) (A6 : Option Addr) (c6 : Nat) (A9 : Option Addr) (c9 : Nat) (u : Int) (w : World), Kd.C k25 w A9 x.f9.length x.f9 → w.heap[d]? = some (downC d) →
    Calls Tryd.prog 21 #[.agg #[.int .i64 x.f0, .int .i64 x.f1, .string x.f2, .string x.f3, .string x.f4, .slice A5 x.f5.length c5, .slice A6 x.f6.length c6, .int .i64 x.f7, .int .i64 x.f8, .slice A9 x.f9.length c9], .int .i64 u, .pointer (some ⟨d, 0, none⟩)] w fun e w' => e = .returned (.bool (formedN n x u)) ∧ Below w.heap.size w w' := by
  intro n
  induction n with
  | zero => intro x h; exact h.elim
  | succ n ih =>
  intro x hg d A5 c5 A6 c6 A9 c9 u w h9 hd
  have hs2 : x.f2.size ≤ 9223372036854775806 := by have := hg.2.2.1; omega
  have hb0 : Below w.heap.size w (w.alloc (.cells #[.int .i64 x.f0, .int .i64 x.f1, .string x.f2, .string x.f3, .string x.f4, .slice A5 x.f5.length c5, .slice A6 x.f6.length c6, .int .i64 x.f7, .int .i64 x.f8, .slice A9 x.f9.length c9] 25)) := below_alloc (Below.refl _ _) _
  have hk0 : (w.alloc (.cells #[.int .i64 x.f0, .int .i64 x.f1, .string x.f2, .string x.f3, .string x.f4, .slice A5 x.f5.length c5, .slice A6 x.f6.length c6, .int .i64 x.f7, .int .i64 x.f8, .slice A9 x.f9.length c9] 25)).heap[w.heap.size]? = some (.cells #[.int .i64 x.f0, .int .i64 x.f1, .string x.f2, .string x.f3, .string x.f4, .slice A5 x.f5.length c5, .slice A6 x.f6.length c6, .int .i64 x.f7, .int .i64 x.f8, .slice A9 x.f9.length c9] 25 (0, 0)) := blk_new _ _
  -- a kid is asked
  have hkid : ∀ W : World, W.heap[w.heap.size]? = some (.cells #[.int .i64 x.f0, .int .i64 x.f1, .string x.f2, .string x.f3, .string x.f4, .slice A5 x.f5.length c5, .slice A6 x.f6.length c6, .int .i64 x.f7, .int .i64 x.f8, .slice A9 x.f9.length c9] 25 (0, 0)) → Below w.heap.size w W → KidAsked (fun y => !formedN n y x.f0) d w.heap.size x.f9 W := by
    intro W hBk hBw y hy E5 e5 E6 e6 E9 e9 W2 hW2 hr9
    have q0 : W2.cell? ⟨w.heap.size, 0, none⟩ = some (.int .i64 x.f0) := (blk_cell (blk_below hBk hW2) 0).trans rfl
    have hd2 : W2.heap[d]? = some (downC d) := blk_below (blk_below hd hBw) hW2
    have qd : W2.cell? ⟨d, 0, none⟩ = some (.func (.func 21) #[] #[.pointer (some ⟨d, 0, none⟩)]) := (blk_cell hd2 0).trans rfl
    have HI := Aside0.mk (fun W3 (hW3 : Below W2.heap.size W2 W3) => ih y (hg.2.2.2.2.2.2.2.2.2.2 y hy) d E5 e5 E6 e6 E9 e9 x.f0 W3 (Kd.C_below hr9 hW3) (blk_below hd2 hW3))
    have z0 := fun o => pw_cell_below (below_alloc (Below.refl W2.heap.size W2) o) q0
    have zd := fun o => pw_cell_below (below_alloc (Below.refl W2.heap.size W2) o) qd
    clear hr9 hd2 hBk hBw hW2 hb0 hk0 hs2 ih hd h9 hg
    go_enter Tryd.func24, Tryd.ntmps24
    go_wp2_with fail
    refine (HI.out _ (below_alloc (Below.refl _ _) _)).mono ?_
    rintro e w2 ⟨rfl, hB⟩
    have HB := Aside0.mk (below_then (below_alloc (Below.refl W2.heap.size W2) _) (below_alloc (Below.refl W2.heap.size W2) _).size hB)
    clear hB HI
    go_wp2_with fail
    go_ret
    exact ⟨rfl, HB.out⟩
  have HK := Aside0.mk hkid
  have HO := Aside0.mk (ownP_calls x A5 c5 A6 c6 A9 c9 u · hs2)
  have HR9 := Aside0.mk h9
  have he : formedN (n + 1) x u = (ownS x u && !(x.f9.any fun y => !formedN n y x.f0)) := by
    simp [formedN, List.all_eq_not_any_not]
  have HE := Aside0.mk he
  clear hkid ih hg h9 hs2 he hd
  have hu25 := Tryd.underlying25
  go_enter Tryd.func21, Tryd.ntmps21
  go_wp2_with fail
  generalize w.alloc (.cells #[.int .i64 x.f0, .int .i64 x.f1, .string x.f2, .string x.f3, .string x.f4, .slice A5 x.f5.length c5, .slice A6 x.f6.length c6, .int .i64 x.f7, .int .i64 x.f8, .slice A9 x.f9.length c9] 25) = W0 at *
  have HB := Aside0.mk hb0
  have BK := Aside0.mk hk0
  clear hb0 hk0
  refine (HO.out W0).mono ?_
  rintro e w1 ⟨rfl, hB1⟩
  have HB1 := Aside0.mk (below_then HB.out HB.out.size hB1)
  have bk1 := blk_below BK.out hB1
  have f9 : w1.cell? ⟨w.heap.size, 9, none⟩ = some (.slice A9 x.f9.length c9) := (blk_cell bk1 9).trans rfl
  have BK1 := Aside0.mk bk1
  clear hB1 HB BK HO bk1
  generalize hown : ownS x u = ow at *
  have HQ := Aside0.mk hown
  clear hown
  go_wp2_with (go_at_call 23; refine (containsF_calls (fun y => !formedN n y x.f0) d w.heap.size x.f9 A9 c9 w1 (Kd.C_below HR9.out HB1.out) (HK.out w1 BK1.out HB1.out)).mono ?_; rintro e w2 ⟨rfl, hB2⟩; have HB2 := Aside0.mk (below_then HB1.out HB1.out.size hB2); clear hB2)
  all_goals go_ret
  all_goals refine ⟨?_, by first | exact HB2.out | exact HB1.out⟩
  all_goals rw [HE.out]
  all_goals (refine congrArg (fun b => Ending.returned (Value.bool b)) ?_; cases ow <;> first | rfl | contradiction | (simp; done))
set_option maxHeartbeats 8000000 in
set_option maxRecDepth 100000 in
theorem FormedP_calls (n : Nat) (x : S25) (hg : Good n x) (A5 : Option Addr) (c5 : Nat) (A6 : Option Addr) (c6 : Nat) (A9 : Option Addr) (c9 : Nat) (w : World) (h9 : Kd.C k25 w A9 x.f9.length x.f9) :
    Calls Tryd.prog 9 #[.agg #[.int .i64 x.f0, .int .i64 x.f1, .string x.f2, .string x.f3, .string x.f4, .slice A5 x.f5.length c5, .slice A6 x.f6.length c6, .int .i64 x.f7, .int .i64 x.f8, .slice A9 x.f9.length c9]] w fun e w' => e = .returned (.bool (formedN n x 0)) ∧ Below w.heap.size w w' := by
  have HF := Aside0.mk (fun W d (hW : Below w.heap.size w W) (hd : W.heap[d]? = some (downC d)) => formedP_calls n x hg d A5 c5 A6 c6 A9 c9 0 W (Kd.C_below h9 hW) hd)
  clear hg h9
  have hu25 := Tryd.underlying25
  go_enter Tryd.func9, Tryd.ntmps9
  go_upto_region 2 with fail
  have hb0 : Below w.heap.size w ((w.alloc (.cells #[.int .i64 x.f0, .int .i64 x.f1, .string x.f2, .string x.f3, .string x.f4, .slice A5 x.f5.length c5, .slice A6 x.f6.length c6, .int .i64 x.f7, .int .i64 x.f8, .slice A9 x.f9.length c9] 25)).alloc (.cells #[.nilFunc] 40)) := below_alloc (below_alloc (Below.refl _ _) _) _
  have hk0 : ((w.alloc (.cells #[.int .i64 x.f0, .int .i64 x.f1, .string x.f2, .string x.f3, .string x.f4, .slice A5 x.f5.length c5, .slice A6 x.f6.length c6, .int .i64 x.f7, .int .i64 x.f8, .slice A9 x.f9.length c9] 25)).alloc (.cells #[.nilFunc] 40)).heap[w.heap.size]? = some (.cells #[.int .i64 x.f0, .int .i64 x.f1, .string x.f2, .string x.f3, .string x.f4, .slice A5 x.f5.length c5, .slice A6 x.f6.length c6, .int .i64 x.f7, .int .i64 x.f8, .slice A9 x.f9.length c9] 25 (0, 0)) := blk_alloc (blk_new _ _) _
  have hd0 : ((w.alloc (.cells #[.int .i64 x.f0, .int .i64 x.f1, .string x.f2, .string x.f3, .string x.f4, .slice A5 x.f5.length c5, .slice A6 x.f6.length c6, .int .i64 x.f7, .int .i64 x.f8, .slice A9 x.f9.length c9] 25)).alloc (.cells #[.nilFunc] 40)).heap[w.heap.size + 1]? = some (.cells #[.nilFunc] 40 (0, 0)) := by
    have := blk_new (w.alloc (.cells #[.int .i64 x.f0, .int .i64 x.f1, .string x.f2, .string x.f3, .string x.f4, .slice A5 x.f5.length c5, .slice A6 x.f6.length c6, .int .i64 x.f7, .int .i64 x.f8, .slice A9 x.f9.length c9] 25)) (.cells #[.nilFunc] 40)
    rwa [World.size_alloc] at this
  generalize ((w.alloc (.cells #[.int .i64 x.f0, .int .i64 x.f1, .string x.f2, .string x.f3, .string x.f4, .slice A5 x.f5.length c5, .slice A6 x.f6.length c6, .int .i64 x.f7, .int .i64 x.f8, .slice A9 x.f9.length c9] 25)).alloc (.cells #[.nilFunc] 40)) = W0 at *
  have z1 : W0.frozen? ⟨w.heap.size + 1, 0, none⟩ = false := blk_frozen hd0 0
  have z2 : W0.cell? ⟨w.heap.size + 1, 0, none⟩ = some .nilFunc := (blk_cell hd0 0).trans rfl
  have hd1 : (W0.setCell ⟨w.heap.size + 1, 0, none⟩ (.func (.func 21) #[] #[.pointer (some ⟨w.heap.size + 1, 0, none⟩)])).heap[w.heap.size + 1]? = some (downC (w.heap.size + 1)) := blk_set hd0 0 _
  have hk1 : (W0.setCell ⟨w.heap.size + 1, 0, none⟩ (.func (.func 21) #[] #[.pointer (some ⟨w.heap.size + 1, 0, none⟩)])).heap[w.heap.size]? = some (.cells #[.int .i64 x.f0, .int .i64 x.f1, .string x.f2, .string x.f3, .string x.f4, .slice A5 x.f5.length c5, .slice A6 x.f6.length c6, .int .i64 x.f7, .int .i64 x.f8, .slice A9 x.f9.length c9] 25 (0, 0)) := blk_far hk0 (p := ⟨w.heap.size + 1, 0, none⟩) (by show w.heap.size ≠ w.heap.size + 1; omega) _
  have hb1 : Below w.heap.size w (W0.setCell ⟨w.heap.size + 1, 0, none⟩ (.func (.func 21) #[] #[.pointer (some ⟨w.heap.size + 1, 0, none⟩)])) := below_set hb0 (Nat.le_succ _)
  have hst : (store ⟨w.heap.size + 1, 0, none⟩ (.func (.func 21) #[] #[.pointer (some ⟨w.heap.size + 1, 0, none⟩)])).run Tryd.prog W0 = .ok () (W0.setCell ⟨w.heap.size + 1, 0, none⟩ (.func (.func 21) #[] #[.pointer (some ⟨w.heap.size + 1, 0, none⟩)])) := by
    rw [run_store Tryd.prog W0 _ _ _ rfl, z2]
    simp [z1]
  clear hb0 hk0 hd0
  go_upto_region 3 with fail
  generalize W0.setCell ⟨w.heap.size + 1, 0, none⟩ (.func (.func 21) #[] #[.pointer (some ⟨w.heap.size + 1, 0, none⟩)]) = W1 at *
  have fd : W1.cell? ⟨w.heap.size + 1, 0, none⟩ = some (.func (.func 21) #[] #[.pointer (some ⟨w.heap.size + 1, 0, none⟩)]) := (blk_cell hd1 0).trans rfl
  have f0 : W1.cell? ⟨w.heap.size, 0, none⟩ = some (.int .i64 x.f0) := (blk_cell hk1 0).trans rfl
  have f1 : W1.cell? ⟨w.heap.size, 1, none⟩ = some (.int .i64 x.f1) := (blk_cell hk1 1).trans rfl
  have f2 : W1.cell? ⟨w.heap.size, 2, none⟩ = some (.string x.f2) := (blk_cell hk1 2).trans rfl
  have f3 : W1.cell? ⟨w.heap.size, 3, none⟩ = some (.string x.f3) := (blk_cell hk1 3).trans rfl
  have f4 : W1.cell? ⟨w.heap.size, 4, none⟩ = some (.string x.f4) := (blk_cell hk1 4).trans rfl
  have f5 : W1.cell? ⟨w.heap.size, 5, none⟩ = some (.slice A5 x.f5.length c5) := (blk_cell hk1 5).trans rfl
  have f6 : W1.cell? ⟨w.heap.size, 6, none⟩ = some (.slice A6 x.f6.length c6) := (blk_cell hk1 6).trans rfl
  have f7 : W1.cell? ⟨w.heap.size, 7, none⟩ = some (.int .i64 x.f7) := (blk_cell hk1 7).trans rfl
  have f8 : W1.cell? ⟨w.heap.size, 8, none⟩ = some (.int .i64 x.f8) := (blk_cell hk1 8).trans rfl
  have f9 : W1.cell? ⟨w.heap.size, 9, none⟩ = some (.slice A9 x.f9.length c9) := (blk_cell hk1 9).trans rfl
  have HB := Aside0.mk hb1
  have HD := Aside0.mk hd1
  clear hb1 hd1 hk1
  go_wp2_with fail
  refine (HF.out W1 _ HB.out HD.out).mono ?_
  rintro e w2 ⟨rfl, hB2⟩
  have HB2 := Aside0.mk (below_then HB.out HB.out.size hB2)
  clear hB2 HF
  go_wp2_with fail
  go_ret
  exact ⟨rfl, HB2.out⟩
end Go.Proofs.YteppilognoigjaaDoor.LQ
