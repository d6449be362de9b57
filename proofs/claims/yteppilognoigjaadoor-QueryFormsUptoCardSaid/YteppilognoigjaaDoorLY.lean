/- The walk of KeptQuery. -/
import Derived.Test.YteppilognoigjaaDoorLX
namespace Go.Proofs.YteppilognoigjaaDoor.LQ
open Go.RowKit Go.Proofs.YteppilognoigjaaDoorW.PrintWords Go.Proofs.YteppilognoigjaaDoorW.PrintLast Go.Proofs.YteppilognoigjaaDoorW.PrintMore Go.Proofs.YteppilognoigjaaDoor.PQueryForms Go.Proofs.YteppilognoigjaaDoor.QK
attribute [local go_sem] max2_int min2_int max_two min_two max_three min_three max_four min_four
set_option linter.unusedVariables false
set_option linter.unusedSimpArgs false

/-- An element of a list of kids that was handed in with a mark. -/
theorem at_L {w : World} {A : Option Addr} {xs : List S25} (h : oQ.C w A (xs.length + 1) (xs.map some ++ [none])) (i : Int) (h0 : 0 ≤ i) (h1 : i < xs.length) : ∃ ad A5 c5 A6 c6 A9 c9, A = some ad ∧ w.cell? (ad.add (i.toNat * 10)) = some (.int .i64 (rd_T25 xs i).f0) ∧ w.cell? ⟨(ad.add (i.toNat * 10)).block, (ad.add (i.toNat * 10)).off + 1, none⟩ = some (.int .i64 (rd_T25 xs i).f1) ∧ w.cell? ⟨(ad.add (i.toNat * 10)).block, (ad.add (i.toNat * 10)).off + 2, none⟩ = some (.string (rd_T25 xs i).f2) ∧ w.cell? ⟨(ad.add (i.toNat * 10)).block, (ad.add (i.toNat * 10)).off + 3, none⟩ = some (.string (rd_T25 xs i).f3) ∧ w.cell? ⟨(ad.add (i.toNat * 10)).block, (ad.add (i.toNat * 10)).off + 4, none⟩ = some (.string (rd_T25 xs i).f4) ∧ w.cell? ⟨(ad.add (i.toNat * 10)).block, (ad.add (i.toNat * 10)).off + 5, none⟩ = some (.slice A5 (rd_T25 xs i).f5.length c5) ∧ w.cell? ⟨(ad.add (i.toNat * 10)).block, (ad.add (i.toNat * 10)).off + 6, none⟩ = some (.slice A6 (rd_T25 xs i).f6.length c6) ∧ w.cell? ⟨(ad.add (i.toNat * 10)).block, (ad.add (i.toNat * 10)).off + 7, none⟩ = some (.int .i64 (rd_T25 xs i).f7) ∧ w.cell? ⟨(ad.add (i.toNat * 10)).block, (ad.add (i.toNat * 10)).off + 8, none⟩ = some (.int .i64 (rd_T25 xs i).f8) ∧ w.cell? ⟨(ad.add (i.toNat * 10)).block, (ad.add (i.toNat * 10)).off + 9, none⟩ = some (.slice A9 (rd_T25 xs i).f9.length c9) ∧
    (rd_T25 xs i).f5.length + 1 ≤ c5 ∧ oI.C w A5 ((rd_T25 xs i).f5.length + 1) ((rd_T25 xs i).f5.map some ++ [none]) ∧ (rd_T25 xs i).f6.length + 1 ≤ c6 ∧ oI.C w A6 ((rd_T25 xs i).f6.length + 1) ((rd_T25 xs i).f6.map some ++ [none]) ∧ (rd_T25 xs i).f9.length + 1 ≤ c9 ∧ oQ.C w A9 ((rd_T25 xs i).f9.length + 1) ((rd_T25 xs i).f9.map some ++ [none]) := by
  obtain ⟨ad, e, hcell⟩ := h.2.2 (by omega)
  have hj : (xs.map some ++ [none])[i.toNat]? = some (some (rd_T25 xs i)) := by
    have hl : i.toNat < xs.length := by omega
    rw [List.getElem?_append_left (by simpa using hl), List.getElem?_map, List.getElem?_eq_getElem hl]
    unfold rd_T25
    rw [List.getD_eq_getElem?_getD, List.getElem?_eq_getElem hl]
    rfl
  obtain ⟨c, _, hK, hc0⟩ := hcell i.toNat _ hj
  have hc : ∀ j u, c[j]? = some u → w.cell? (ad.add (i.toNat * 10 + j)) = some u := hc0
  have hK' : kL.K w (rd_T25 xs i) c := hK
  obtain ⟨A5, c5, A6, c6, A9, c9, rfl, l5, g5, l6, g6, l9, g9⟩ := kL_open hK'
  exact ⟨ad, A5, c5, A6, c6, A9, c9, e, hc 0 _ rfl, by rw [← add_field _ _ 1 (by omega)]; exact hc 1 _ rfl, by rw [← add_field _ _ 2 (by omega)]; exact hc 2 _ rfl, by rw [← add_field _ _ 3 (by omega)]; exact hc 3 _ rfl, by rw [← add_field _ _ 4 (by omega)]; exact hc 4 _ rfl, by rw [← add_field _ _ 5 (by omega)]; exact hc 5 _ rfl, by rw [← add_field _ _ 6 (by omega)]; exact hc 6 _ rfl, by rw [← add_field _ _ 7 (by omega)]; exact hc 7 _ rfl, by rw [← add_field _ _ 8 (by omega)]; exact hc 8 _ rfl, by rw [← add_field _ _ 9 (by omega)]; exact hc 9 _ rfl, l5, g5, l6, g6, l9, g9⟩

set_option maxHeartbeats 8000000 in
set_option maxRecDepth 100000 in
theorem keptQ_calls : ∀ (n : Nat) (x : S25), Good n x → ∀ (A5 : Option Addr) (c5 : Nat) (A6 : Option Addr) (c6 : Nat) (A9 : Option Addr) (c9 : Nat) (B5 : Option Addr) (d5 : Nat) (B6 : Option Addr) (d6 : Nat) (B9 : Option Addr) (d9 : Nat) (w : World),
    x.f5.length + 1 ≤ c5 → oI.C w A5 (x.f5.length + 1) (x.f5.map some ++ [none]) → x.f6.length + 1 ≤ c6 → oI.C w A6 (x.f6.length + 1) (x.f6.map some ++ [none]) → x.f9.length + 1 ≤ c9 → oQ.C w A9 (x.f9.length + 1) (x.f9.map some ++ [none]) →
    x.f5.length ≤ d5 → Kd.C (Kd.int .i64) w B5 x.f5.length x.f5 → x.f6.length ≤ d6 → Kd.C (Kd.int .i64) w B6 x.f6.length x.f6 → x.f9.length ≤ d9 → Kd.C k25 w B9 x.f9.length x.f9 →
    Calls Tryd.prog 15 #[.agg #[.int .i64 x.f0, .int .i64 x.f1, .string x.f2, .string x.f3, .string x.f4, .slice A5 x.f5.length c5, .slice A6 x.f6.length c6, .int .i64 x.f7, .int .i64 x.f8, .slice A9 x.f9.length c9], .agg #[.int .i64 x.f0, .int .i64 x.f1, .string x.f2, .string x.f3, .string x.f4, .slice B5 x.f5.length d5, .slice B6 x.f6.length d6, .int .i64 x.f7, .int .i64 x.f8, .slice B9 x.f9.length d9]] w fun e w' => e = .returned (.bool true) ∧ Below w.heap.size w w' := by
  intro n
  induction n with
  | zero => intro x h; exact h.elim
  | succ n ih =>
  intro x hg A5 c5 A6 c6 A9 c9 B5 d5 B6 d6 B9 d9 w l5 g5 l6 g6 l9 g9 m5 h5 m6 h6 m9 h9
  obtain ⟨k, hk⟩ := qF_same (n + 1) x hg
  have HF := Aside0.mk (hk k (Nat.le_refl _))
  clear hk
  have IH := Aside0.mk ih
  have HG := Aside0.mk hg
  have HR5 := Aside0.mk h5
  have HR6 := Aside0.mk h6
  have HR9 := Aside0.mk h9
  have HC5 := Aside0.mk m5
  have HC6 := Aside0.mk m6
  have HC9 := Aside0.mk m9
  have LR5 := Aside0.mk g5
  have LR6 := Aside0.mk g6
  have LR9 := Aside0.mk g9
  have LC5 := Aside0.mk l5
  have LC6 := Aside0.mk l6
  have LC9 := Aside0.mk l9
  have HL9 := h9.2.1
  clear ih hg h5 h6 h9 m5 m6 m9 g5 g6 g9 l5 l6 l9
  have hu25 := Tryd.underlying25
  go_enter Tryd.func15, Tryd.ntmps15
  go_wp2_with fail
  have hb0 : Below w.heap.size w ((w.alloc (.cells #[.int .i64 x.f0, .int .i64 x.f1, .string x.f2, .string x.f3, .string x.f4, .slice A5 x.f5.length c5, .slice A6 x.f6.length c6, .int .i64 x.f7, .int .i64 x.f8, .slice A9 x.f9.length c9] 25)).alloc (.cells #[.int .i64 x.f0, .int .i64 x.f1, .string x.f2, .string x.f3, .string x.f4, .slice B5 x.f5.length d5, .slice B6 x.f6.length d6, .int .i64 x.f7, .int .i64 x.f8, .slice B9 x.f9.length d9] 25)) := below_alloc (below_alloc (Below.refl _ _) _) _
  have hk0 : ((w.alloc (.cells #[.int .i64 x.f0, .int .i64 x.f1, .string x.f2, .string x.f3, .string x.f4, .slice A5 x.f5.length c5, .slice A6 x.f6.length c6, .int .i64 x.f7, .int .i64 x.f8, .slice A9 x.f9.length c9] 25)).alloc (.cells #[.int .i64 x.f0, .int .i64 x.f1, .string x.f2, .string x.f3, .string x.f4, .slice B5 x.f5.length d5, .slice B6 x.f6.length d6, .int .i64 x.f7, .int .i64 x.f8, .slice B9 x.f9.length d9] 25)).heap[w.heap.size]? = some (.cells #[.int .i64 x.f0, .int .i64 x.f1, .string x.f2, .string x.f3, .string x.f4, .slice A5 x.f5.length c5, .slice A6 x.f6.length c6, .int .i64 x.f7, .int .i64 x.f8, .slice A9 x.f9.length c9] 25 (0, 0)) := blk_alloc (blk_new _ _) _
  have hk1 : ((w.alloc (.cells #[.int .i64 x.f0, .int .i64 x.f1, .string x.f2, .string x.f3, .string x.f4, .slice A5 x.f5.length c5, .slice A6 x.f6.length c6, .int .i64 x.f7, .int .i64 x.f8, .slice A9 x.f9.length c9] 25)).alloc (.cells #[.int .i64 x.f0, .int .i64 x.f1, .string x.f2, .string x.f3, .string x.f4, .slice B5 x.f5.length d5, .slice B6 x.f6.length d6, .int .i64 x.f7, .int .i64 x.f8, .slice B9 x.f9.length d9] 25)).heap[w.heap.size + 1]? = some (.cells #[.int .i64 x.f0, .int .i64 x.f1, .string x.f2, .string x.f3, .string x.f4, .slice B5 x.f5.length d5, .slice B6 x.f6.length d6, .int .i64 x.f7, .int .i64 x.f8, .slice B9 x.f9.length d9] 25 (0, 0)) := by
    have := blk_new (w.alloc (.cells #[.int .i64 x.f0, .int .i64 x.f1, .string x.f2, .string x.f3, .string x.f4, .slice A5 x.f5.length c5, .slice A6 x.f6.length c6, .int .i64 x.f7, .int .i64 x.f8, .slice A9 x.f9.length c9] 25)) (.cells #[.int .i64 x.f0, .int .i64 x.f1, .string x.f2, .string x.f3, .string x.f4, .slice B5 x.f5.length d5, .slice B6 x.f6.length d6, .int .i64 x.f7, .int .i64 x.f8, .slice B9 x.f9.length d9] 25)
    rwa [World.size_alloc] at this
  generalize (w.alloc (.cells #[.int .i64 x.f0, .int .i64 x.f1, .string x.f2, .string x.f3, .string x.f4, .slice A5 x.f5.length c5, .slice A6 x.f6.length c6, .int .i64 x.f7, .int .i64 x.f8, .slice A9 x.f9.length c9] 25)).alloc (.cells #[.int .i64 x.f0, .int .i64 x.f1, .string x.f2, .string x.f3, .string x.f4, .slice B5 x.f5.length d5, .slice B6 x.f6.length d6, .int .i64 x.f7, .int .i64 x.f8, .slice B9 x.f9.length d9] 25) = W0 at *
  have HB := Aside0.mk hb0
  have BK := Aside0.mk hk0
  have BR := Aside0.mk hk1
  clear hb0 hk0 hk1
  refine (lecternkit_Query.calls k x.f0 x.f1 x.f2 x.f3 x.f4 A5 c5 x.f5 A6 c6 x.f6 x.f7 x.f8 A9 c9 x.f9 x.f0 x.f1 x.f2 x.f3 x.f4 B5 d5 x.f5 B6 d6 x.f6 x.f7 x.f8 B9 d9 x.f9 true W0 (Kd.C_below (C_init LR5.out) HB.out) (Nat.le_of_succ_le LC5.out) (Kd.C_below (C_init LR6.out) HB.out) (Nat.le_of_succ_le LC6.out) (Kd.C_below (Kd.C_imp (d := kL) (d' := k25) rfl (fun _ _ _ h => k_of_L h) (C_init LR9.out)) HB.out) (Nat.le_of_succ_le LC9.out)
    (Kd.C_below HR5.out HB.out) HC5.out (Kd.C_below HR6.out HB.out) HC6.out (Kd.C_below HR9.out HB.out) HC9.out HF.out).mono ?_
  rintro e w1 ⟨rfl, hB1⟩
  have HB1 := Aside0.mk (below_then HB.out HB.out.size hB1)
  have BK1 := Aside0.mk (blk_below BK.out hB1)
  have BR1 := Aside0.mk (blk_below BR.out hB1)
  clear hB1 HB BK BR HF
  have f5 : w1.cell? ⟨w.heap.size, 5, none⟩ = some (.slice A5 x.f5.length c5) := (blk_cell BK1.out 5).trans rfl
  have f6 : w1.cell? ⟨w.heap.size, 6, none⟩ = some (.slice A6 x.f6.length c6) := (blk_cell BK1.out 6).trans rfl
  have e5 : w1.cell? ⟨w.heap.size + 1, 5, none⟩ = some (.slice B5 x.f5.length d5) := (blk_cell BR1.out 5).trans rfl
  have e6 : w1.cell? ⟨w.heap.size + 1, 6, none⟩ = some (.slice B6 x.f6.length d6) := (blk_cell BR1.out 6).trans rfl
  go_wp2_with fail
  refine (keptI_calls A5 c5 x.f5 B5 d5 w1 (Kd.C_below LR5.out HB1.out) LC5.out (Kd.C_below HR5.out HB1.out) HC5.out).mono ?_
  rintro e w2 ⟨rfl, ⟨n1, rfl⟩⟩
  go_wp2_with fail
  refine (keptI_calls A6 c6 x.f6 B6 d6 _ (Kd.C_drewN (Kd.C_below LR6.out HB1.out) _) LC6.out (Kd.C_drewN (Kd.C_below HR6.out HB1.out) _) HC6.out).mono ?_
  rintro e w2 ⟨rfl, ⟨n2, rfl⟩⟩
  go_wp2_with fail
  go_loopg [5] x.f9.length (fun kq v5 wr => ∃ i : Int, v5 = .int .i64 i ∧ 0 ≤ i ∧ i ≤ x.f9.length ∧ Aside0 (kq + i = x.f9.length) ∧
    Aside0 (wr.heap[w.heap.size]? = some (.cells #[.int .i64 x.f0, .int .i64 x.f1, .string x.f2, .string x.f3, .string x.f4, .slice A5 x.f5.length c5, .slice A6 x.f6.length c6, .int .i64 x.f7, .int .i64 x.f8, .slice A9 x.f9.length c9] 25 (0, 0))) ∧ Aside0 (wr.heap[w.heap.size + 1]? = some (.cells #[.int .i64 x.f0, .int .i64 x.f1, .string x.f2, .string x.f3, .string x.f4, .slice B5 x.f5.length d5, .slice B6 x.f6.length d6, .int .i64 x.f7, .int .i64 x.f8, .slice B9 x.f9.length d9] 25 (0, 0))) ∧ Aside0 (Below w.heap.size w wr))
  case atStart => exact ⟨0, rfl, by decide, by omega, ⟨by omega⟩, ⟨blk_drewN BK1.out _⟩, ⟨blk_drewN BR1.out _⟩, ⟨pw_below_drewN HB1.out _⟩⟩
  case round =>
    clear BK1 BR1 HB1 f5 f6 e5 e6
    obtain ⟨i, rfl, h0, h1, hk, BK, BR, HB⟩ := hrel
    have f9 : wr.cell? ⟨w.heap.size, 9, none⟩ = some (.slice A9 x.f9.length c9) := (blk_cell BK.out 9).trans rfl
    have e9 : wr.cell? ⟨w.heap.size + 1, 9, none⟩ = some (.slice B9 x.f9.length d9) := (blk_cell BR.out 9).trans rfl
    by_cases c : i < x.f9.length
    · obtain ⟨ad, E5, e5, E6, e6, E9, e9', ea, g0, g1, g2, g3, g4, g5, g6, g7, g8, g9, m5, r5, m6, r6, m9, r9⟩ := at_T25 (Kd.C_below HR9.out HB.out) i h0 c
      obtain ⟨ad', K5, k5, K6, k6, K9, k9, ea', q0, q1, q2, q3, q4, q5, q6, q7, q8, q9, p5, s5, p6, s6, p9, s9⟩ := at_L (Kd.C_below LR9.out HB.out) i h0 c
      subst ea
      subst ea'
      have hy := HG.out.2.2.2.2.2.2.2.2.2.2 _ (rd_mem h0 c)
      have HI := Aside0.mk (fun W (hW : Below wr.heap.size wr W) => IH.out (rd_T25 x.f9 i) hy K5 k5 K6 k6 K9 k9 E5 e5 E6 e6 E9 e9' W p5 (Kd.C_below s5 hW) p6 (Kd.C_below s6 hW) p9 (Kd.C_below s9 hW) m5 (Kd.C_below r5 hW) m6 (Kd.C_below r6 hW) m9 (Kd.C_below r9 hW))
      clear p5 s5 p6 s6 p9 s9 m5 r5 m6 r6 m9 r9 hy
      go_wp2_with fail
      go_still_tail 10, (by kernel_rfl)
      change wpList _ _ _ _ _ wr.drew
      go_wp2_with fail
      refine (HI.out _ (below_drew (Below.refl _ _))).mono ?_
      rintro e w2 ⟨rfl, hB2⟩
      have hB2' : Below wr.heap.size wr w2 := ((Below.refl wr.heap.size wr).drew).trans hB2
      have BK2 := Aside0.mk (blk_below BK.out hB2')
      have BR2 := Aside0.mk (blk_below BR.out hB2')
      have HBN := Aside0.mk (below_then HB.out HB.out.size hB2')
      clear hB2 hB2' HI
      go_wp2_with fail
      obtain ⟨k, rfl⟩ : ∃ m, gk = m + 1 := ⟨gk - 1, by have := hk.out; omega⟩
      go_roundg k
      case measure => omega
      case rel => exact ⟨i + 1, by first | rfl | go_num, by omega, by omega, ⟨by have := hk.out; omega⟩, BK2, BR2, HBN⟩
    · obtain ⟨ad', ea', hm⟩ := C_mark (Kd.C_below LR9.out HB.out)
      have q0 : wr.cell? (ad'.add (x.f9.length * 10)) = some (.int .i64 (-71)) := hm 0 _ rfl
      clear hm
      subst ea'
      have hcut : ∀ W : World, (Instr.slice 23 (.slice (some ad') x.f9.length c9) none (some (.int .i64 ((x.f9.length : Int) + 1))) none).run Tryd.prog W = .ok (.slice (some ad') (x.f9.length + 1) c9) W := by
        intro W
        obtain ⟨i09, hi09, _, hsz9, _⟩ := info_parts info25
        have hel : Tryd.prog.elem 23 = 25 := by simp [Program.elem, Tryd.underlying23]
        rw [run_slice_h W 23 (some ad') x.f9.length c9 (by rw [hel]; exact Tryd.underlying23) .i64 ((x.f9.length : Int) + 1) (by omega) (by have := LC9.out; omega), hel]
        simp [sizeOf, typeInfo, hi09, sliced, Result.andThen, Addr.add]
      have HL : x.f9.length + 1 ≤ 9223372036854775807 := by have := HG.out.len9; omega
      go_wp2_with fail
      go_ret
      exact ⟨by first | rfl | (simp; done) | (simp [*]; done), HB.out⟩
end Go.Proofs.YteppilognoigjaaDoor.LQ
