/- The walks of the reference's formed and Formed. -/
import Derived.Test.YteppilognoigjaaDoorFB
import Derived.StillTailTactics
namespace Go.Proofs.YteppilognoigjaaDoor.LQ
open Go.RowKit Go.Proofs.YteppilognoigjaaDoorW.PrintWords Go.Proofs.YteppilognoigjaaDoorW.PrintLast Go.Proofs.YteppilognoigjaaDoorW.PrintMore Go.Proofs.YteppilognoigjaaDoor.PQueryForms Go.Proofs.YteppilognoigjaaDoor.QK
set_option linter.unusedVariables false
set_option linter.unusedSimpArgs false

set_option maxHeartbeats 8000000 in
set_option maxRecDepth 100000 in
theorem formedR_calls : ∀ (n : Nat) (x : S25), Good n x → ∀ (A5 : Option Addr) (c5 : Nat) (A6 : Option Addr) (c6 : Nat) (A9 : Option Addr) (c9 : Nat) (u : Int) (w : World), Kd.C k25 w A9 x.f9.length x.f9 →
    Calls Tryd.prog 25 #[.agg #[.int .i64 x.f0, .int .i64 x.f1, .string x.f2, .string x.f3, .string x.f4, .slice A5 x.f5.length c5, .slice A6 x.f6.length c6, .int .i64 x.f7, .int .i64 x.f8, .slice A9 x.f9.length c9], .int .i64 u] w fun e w' => e = .returned (.bool (formedN n x u)) ∧ Below w.heap.size w w' := by
  intro n
  induction n with
  | zero => intro x h; exact h.elim
  | succ n ih =>
  intro x hg A5 c5 A6 c6 A9 c9 u w h9
  have hs2 : x.f2.size ≤ 9223372036854775807 := by have := hg.2.2.1; omega
  have HO := Aside0.mk (ownR_calls x A5 c5 A6 c6 A9 c9 u · hs2)
  have IH := Aside0.mk ih
  have HG := Aside0.mk hg
  have HR9 := Aside0.mk h9
  have HL9 := h9.2.1
  clear ih hg h9 hs2
  have hu25 := Tryd.underlying25
  go_enter Tryd.func25, Tryd.ntmps25
  have hb0 : Below w.heap.size w (w.alloc (.cells #[.int .i64 x.f0, .int .i64 x.f1, .string x.f2, .string x.f3, .string x.f4, .slice A5 x.f5.length c5, .slice A6 x.f6.length c6, .int .i64 x.f7, .int .i64 x.f8, .slice A9 x.f9.length c9] 25)) := below_alloc (Below.refl _ _) _
  have hk0 : (w.alloc (.cells #[.int .i64 x.f0, .int .i64 x.f1, .string x.f2, .string x.f3, .string x.f4, .slice A5 x.f5.length c5, .slice A6 x.f6.length c6, .int .i64 x.f7, .int .i64 x.f8, .slice A9 x.f9.length c9] 25)).heap[w.heap.size]? = some (.cells #[.int .i64 x.f0, .int .i64 x.f1, .string x.f2, .string x.f3, .string x.f4, .slice A5 x.f5.length c5, .slice A6 x.f6.length c6, .int .i64 x.f7, .int .i64 x.f8, .slice A9 x.f9.length c9] 25 (0, 0)) := blk_new _ _
  go_wp2_with fail
  generalize w.alloc (.cells #[.int .i64 x.f0, .int .i64 x.f1, .string x.f2, .string x.f3, .string x.f4, .slice A5 x.f5.length c5, .slice A6 x.f6.length c6, .int .i64 x.f7, .int .i64 x.f8, .slice A9 x.f9.length c9] 25) = W0 at *
  have HB := Aside0.mk hb0
  have BK := Aside0.mk hk0
  clear hb0 hk0
  refine (HO.out W0).mono ?_
  rintro e w1 ⟨rfl, hB1⟩
  have HB1 := Aside0.mk (below_then HB.out HB.out.size hB1)
  have BK1 := Aside0.mk (blk_below BK.out hB1)
  clear hB1 HB BK HO
  cases hown : ownS x u
  · go_wp2_with fail
    go_ret
    exact ⟨by simp [formedN, hown], HB1.out⟩
  have hi : Aside0 (formedN (n + 1) x u = (x.f9.drop (0 : Int).toNat).all fun k => formedN n k x.f0) := ⟨by simp [formedN, hown]⟩
  clear hown
  go_wp2_with fail
  go_loopg [5] x.f9.length (fun kq v5 wr => ∃ i : Int, v5 = .int .i64 i ∧ 0 ≤ i ∧ i ≤ x.f9.length ∧ Aside0 (kq + i = x.f9.length) ∧ Aside0 (formedN (n + 1) x u = (x.f9.drop i.toNat).all fun k => formedN n k x.f0) ∧
    Aside0 (wr.heap[w.heap.size]? = some (.cells #[.int .i64 x.f0, .int .i64 x.f1, .string x.f2, .string x.f3, .string x.f4, .slice A5 x.f5.length c5, .slice A6 x.f6.length c6, .int .i64 x.f7, .int .i64 x.f8, .slice A9 x.f9.length c9] 25 (0, 0))) ∧ Aside0 (Below w.heap.size w wr))
  case atStart => exact ⟨0, rfl, by decide, by omega, ⟨by omega⟩, hi, BK1, HB1⟩
  case round =>
    clear BK1 HB1 hi
    obtain ⟨i, rfl, h0, h1, hk, hq, BK, HB⟩ := hrel
    have f0 : wr.cell? ⟨w.heap.size, 0, none⟩ = some (.int .i64 x.f0) := (blk_cell BK.out 0).trans rfl
    have f9 : wr.cell? ⟨w.heap.size, 9, none⟩ = some (.slice A9 x.f9.length c9) := (blk_cell BK.out 9).trans rfl
    by_cases c : i < x.f9.length
    · obtain ⟨ad, E5, e5, E6, e6, E9, e9', ea, g0, g1, g2, g3, g4, g5, g6, g7, g8, g9, m5, r5, m6, r6, m9, r9⟩ := at_T25 (Kd.C_below HR9.out HB.out) i h0 c
      subst ea
      have hy := HG.out.2.2.2.2.2.2.2.2.2.2 _ (rd_mem h0 c)
      have HI := Aside0.mk (fun W (hW : Below wr.heap.size wr W) => IH.out (rd_T25 x.f9 i) hy E5 e5 E6 e6 E9 e9' x.f0 W (Kd.C_below r9 hW))
      have hd := hq.out
      rw [drop_rd h0 c, List.all_cons] at hd
      have HD := Aside0.mk hd
      clear m5 r5 m6 r6 m9 r9 hy hd hq
      go_wp2_with fail
      go_still_tail 7, (by kernel_rfl)
      change wpList _ _ _ _ _ wr.drew
      go_wp2_with fail
      refine (HI.out _ (below_drew (Below.refl _ _))).mono ?_
      rintro e w2 ⟨rfl, hB2⟩
      have hB2' : Below wr.heap.size wr w2 := ((Below.refl wr.heap.size wr).drew).trans hB2
      have BK2 := Aside0.mk (blk_below BK.out hB2')
      have HBN := Aside0.mk (below_then HB.out HB.out.size hB2')
      clear hB2 hB2' HI
      cases hf : formedN n (rd_T25 x.f9 i) x.f0
      · go_wp2_with fail
        go_ret
        exact ⟨by rw [HD.out, hf]; rfl, HBN.out⟩
      have HD' : Aside0 (formedN (n + 1) x u = (x.f9.drop (i + 1).toNat).all fun k => formedN n k x.f0) := ⟨by rw [HD.out, hf]; rfl⟩
      clear hf
      go_wp2_with fail
      obtain ⟨k, rfl⟩ : ∃ m, gk = m + 1 := ⟨gk - 1, by have := hk.out; omega⟩
      go_roundg k
      case measure => omega
      case rel => exact ⟨i + 1, by first | rfl | go_num, by omega, by omega, ⟨by have := hk.out; omega⟩, HD', BK2, HBN⟩
    · have hd : formedN (n + 1) x u = true := by
        rw [hq.out, List.drop_eq_nil_of_le (by omega)]; rfl
      have HD := Aside0.mk hd
      clear hd hq
      go_wp2_with fail
      go_ret
      exact ⟨by rw [HD.out]; rfl, HB.out⟩
set_option maxHeartbeats 8000000 in
set_option maxRecDepth 100000 in
theorem FormedR_calls (n : Nat) (x : S25) (hg : Good n x) (A5 : Option Addr) (c5 : Nat) (A6 : Option Addr) (c6 : Nat) (A9 : Option Addr) (c9 : Nat) (w : World) (h9 : Kd.C k25 w A9 x.f9.length x.f9) :
    Calls Tryd.prog 10 #[.agg #[.int .i64 x.f0, .int .i64 x.f1, .string x.f2, .string x.f3, .string x.f4, .slice A5 x.f5.length c5, .slice A6 x.f6.length c6, .int .i64 x.f7, .int .i64 x.f8, .slice A9 x.f9.length c9]] w fun e w' => e = .returned (.bool (formedN n x 0)) ∧ Below w.heap.size w w' := by
  have HF := Aside0.mk (fun W (hW : Below w.heap.size w W) => formedR_calls n x hg A5 c5 A6 c6 A9 c9 0 W (Kd.C_below h9 hW))
  clear hg h9
  have hu25 := Tryd.underlying25
  go_enter Tryd.func10, Tryd.ntmps10
  go_wp2_with fail
  refine (HF.out _ (below_alloc (Below.refl _ _) _)).mono ?_
  rintro e w1 ⟨rfl, hB1⟩
  have HB1 := Aside0.mk (below_then (below_alloc (Below.refl w.heap.size w) _) (below_alloc (Below.refl w.heap.size w) _).size hB1)
  clear hB1
  go_wp2_with fail
  go_ret
  exact ⟨rfl, HB1.out⟩
end Go.Proofs.YteppilognoigjaaDoor.LQ
