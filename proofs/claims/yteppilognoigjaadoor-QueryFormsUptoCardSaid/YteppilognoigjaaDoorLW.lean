/- The walks of what hands queries in with marks behind their lists, and asks whether the marks stand. -/
import Derived.Test.YteppilognoigjaaDoorLQ
-- import Derived.Test.YteppilognoigjaaDoorPK
namespace Go.Proofs.YteppilognoigjaaDoor.LQ
open Go.RowKit Go.Proofs.YteppilognoigjaaDoorW.PrintWords Go.Proofs.YteppilognoigjaaDoorW.PrintLast Go.Proofs.YteppilognoigjaaDoorW.PrintMore Go.Proofs.YteppilognoigjaaDoor.PQueryForms Go.Proofs.YteppilognoigjaaDoor.QK
attribute [local go_sem] max2_int min2_int max_two min_two max_three min_three max_four min_four
set_option linter.unusedVariables false
set_option linter.unusedSimpArgs false

/-- Numbers handed in in memory of its own, with a mark. -/
def LentI (l : List Int) (w : World) (e : Ending) (w' : World) : Prop :=
  ∃ A c, e = .returned (.slice A l.length c) ∧ l.length + 1 ≤ c ∧ oI.R 2 w' w.heap.size (fun _ => True) (.slice A (l.length + 1) c) (l.map some ++ [none]) ∧ Below w.heap.size w w'
set_option maxHeartbeats 8000000 in
set_option maxRecDepth 100000 in
theorem lentI_calls (A0 : Option Addr) (c0 : Nat) (l0 : List Int) (w : World) (hr0 : Kd.C (Kd.int .i64) w A0 l0.length l0) (hn : l0.length * 8 ≤ 140737488351232) :
    Calls Tryd.prog 20 #[.slice A0 l0.length c0] w (LentI l0 w) := by
  have HR0 := Aside0.mk hr0
  clear hr0
  have HN := Aside0.mk hn
  clear hn
  have HB := Aside0.mk (Below.refl w.heap.size w)
  go_enter Tryd.func20, Tryd.ntmps20
  go_wp2_with (first | ((with_reducible refine gate_builtin (b := .append) (xs := #[.tmp 4, .tmp 5]) rfl ?_); at_builtin; refine Kd.R_append_rows (Kd.int .i64) (w0 := w) w.heap.size rfl (.tmp 4) (.tmp 5) 22 2 (.int .i64 0) 8 rfl Tryd.underlying22 info2 rfl (by decide) (by omega) (.slice none 0 0) ([] : List Int) l0 _ _ _ (fun _ => True) (fun _ => False) rfl rfl ?aO ?aR (fun _ _ h => h) (fun _ h => h.elim) ?aF ?aB ?aS ?aL ?_; (case aR => repeat (first | exact HR0.out | (with_reducible refine Kd.C_alloc ?_ _) | (with_reducible refine Kd.C_drewN ?_ _) | (with_reducible refine Kd.C_drew ?_))); (case aB => exact (by repeat (first | (with_reducible first | exact HB.out | apply below_alloc | apply pw_below_drewN | apply below_drew1) | exact HB.out))); (case aF => exact (fun _ _ => trivial)); (case aO => exact ((Kd.R_nil _ _ _ _ (fun _ => True)))); (case aS => exact (below_size (by repeat (first | (with_reducible first | exact HB.out | apply below_alloc | apply pw_below_drewN | apply below_drew1) | exact HB.out)))); (case aL => have := HN.out; simp; omega); intro v102 w6 ho hb hg hat; rw [List.nil_append] at ho; have n0_ := Aside0.mk (hb); have n1_ := Aside0.mk (ho); clear HB; have HB := n0_; have HO103 := n1_; clear n0_ n1_; clear ho hb hg hat) | ((with_reducible refine gate_builtin (b := .append) (xs := #[.tmp 7, .tmp 8]) rfl ?_); at_builtin; refine Kd.R_append (Kd.int .i64) (w0 := w) w.heap.size rfl (.tmp 7) (.tmp 8) 22 2 (.int .i64 0) 8 rfl Tryd.underlying22 info2 rfl (by decide) (by omega) v102 l0 (-7171) [.int .i64 (-7171)] (fun _ => True) (fun _ => False) rfl rfl ?aP (fun _ hk => hk.elim) ?aF ?aO ?aB ?aS ?aL ?_; (case aP => exact rfl); (case aB => exact (by repeat (first | (with_reducible first | exact HB.out | apply below_alloc | apply pw_below_drewN | apply below_drew1) | exact HB.out))); (case aF => exact (fun _ _ => trivial)); (case aO => exact (by (with_reducible repeat (first | apply Kd.R_alloc | apply Kd.R_drewN | apply Kd.R_drew)); exact HO103.out)); (case aS => exact (below_size (by repeat (first | (with_reducible first | exact HB.out | apply below_alloc | apply pw_below_drewN | apply below_drew1) | exact HB.out)))); (case aL => have := HN.out; omega); intro v105 w7 ho hb hg hat; have n0_ := Aside0.mk (hb); have n1_ := Aside0.mk (ho); clear HB; clear HO103; have HB := n0_; have HO106 := n1_; clear n0_ n1_; clear ho hb hg hat; obtain ⟨Ao8, co8, eo8, hle8, _⟩ := Kd.R_reads HO106.out; subst eo8; obtain ⟨i09, hi09, _, hsz9, _⟩ := info_parts info2; rw [List.length_append, List.length_singleton] at hle8; have hle := Aside0.mk hle8; clear hle8; have hcut9 := cut_to (P := Tryd.prog) 22 2 .i64 Tryd.underlying22 hi09 Ao8 (l0.length + 1) co8 (l0.length : Int) (by omega) (by omega) hle.out; rw [Int.toNat_natCast] at hcut9; clear hi09 hsz9))
  go_ret
  have h1 := HO106.out
  have h2 := hle.out
  rw [List.length_append, List.length_singleton] at h1
  exact ⟨_, _, rfl, h2, R_marked h1 oneI, HB.out⟩

/-- Handed in in memory of its own, with marks. -/
def LentQ (x : S25) (w : World) (e : Ending) (w' : World) : Prop :=
  ∃ A5 c5 A6 c6 A9 c9, e = .returned (.agg #[.int .i64 x.f0, .int .i64 x.f1, .string x.f2, .string x.f3, .string x.f4, .slice A5 x.f5.length c5, .slice A6 x.f6.length c6, .int .i64 x.f7, .int .i64 x.f8, .slice A9 x.f9.length c9]) ∧
    x.f5.length + 1 ≤ c5 ∧ oI.R 2 w' w.heap.size (fun _ => True) (.slice A5 (x.f5.length + 1) c5) (x.f5.map some ++ [none]) ∧ x.f6.length + 1 ≤ c6 ∧ oI.R 2 w' w.heap.size (fun _ => True) (.slice A6 (x.f6.length + 1) c6) (x.f6.map some ++ [none]) ∧
    x.f9.length + 1 ≤ c9 ∧ oQ.R 25 w' w.heap.size (fun _ => True) (.slice A9 (x.f9.length + 1) c9) (x.f9.map some ++ [none]) ∧ Below w.heap.size w w'
/-- What lies from base on stays. -/
theorem R_keepfrom {α : Type} {d : Kd α} {e : Nat} {w w1 : World} {base : Nat} {v : Value} {xs : List α} (h : d.R e w base (fun _ => True) v xs) (hm : ∀ k, base ≤ k → k < w.heap.size → w1.heap[k]? = w.heap[k]?) : d.R e w1 base (fun _ => True) v xs :=
  Kd.R_mono (Kd.R_move (Kd.R_bound h) (fun k hk => hm k hk.2.1 hk.2.2.1)) (fun _ _ => trivial)
/-- A kid as it is appended: its rows are none of an elder one's. -/
theorem elemM {w3 : World} {B b : Nat} (hb : b ≤ B) {y : S25} {A5 : Option Addr} {c5 : Nat} {A6 : Option Addr} {c6 : Nat} {A9 : Option Addr} {c9 : Nat} (l5 : y.f5.length + 1 ≤ c5) (g5 : oI.R 2 w3 B (fun _ => True) (.slice A5 (y.f5.length + 1) c5) (y.f5.map some ++ [none])) (l6 : y.f6.length + 1 ≤ c6) (g6 : oI.R 2 w3 B (fun _ => True) (.slice A6 (y.f6.length + 1) c6) (y.f6.map some ++ [none])) (l9 : y.f9.length + 1 ≤ c9) (g9 : oQ.R 25 w3 B (fun _ => True) (.slice A9 (y.f9.length + 1) c9) (y.f9.map some ++ [none])) :
    oQ.M w3 b (fun k => B ≤ k) (some y) [.int .i64 y.f0, .int .i64 y.f1, .string y.f2, .string y.f3, .string y.f4, .slice A5 y.f5.length c5, .slice A6 y.f6.length c6, .int .i64 y.f7, .int .i64 y.f8, .slice A9 y.f9.length c9] :=
  kL.M_lower hb (kL.M_mono (fun k hk => hk.2.1) (kL.M_bound (kL_mkM w3 B (fun _ => True) y l5 g5 l6 g6 l9 g9)))
theorem take_mapsnoc (l : List S25) (i : Int) (h0 : 0 ≤ i) (h : i < l.length) : (l.take i.toNat).map some ++ [some (rd_T25 l i)] = (l.take (i + 1).toNat).map some := by
  have e : (i + 1).toNat = i.toNat + 1 := by omega
  have hl : i.toNat < l.length := by omega
  rw [e, List.take_succ_eq_append_getElem hl, List.map_append]
  unfold rd_T25
  rw [List.getD_eq_getElem?_getD, List.getElem?_eq_getElem hl]
  rfl

set_option maxHeartbeats 8000000 in
set_option maxRecDepth 100000 in
theorem lentQ_calls : ∀ (n : Nat) (x : S25), Good n x → ∀ (A5 : Option Addr) (c5 : Nat) (A6 : Option Addr) (c6 : Nat) (A9 : Option Addr) (c9 : Nat) (w : World), Kd.C (Kd.int .i64) w A5 x.f5.length x.f5 → Kd.C (Kd.int .i64) w A6 x.f6.length x.f6 → Kd.C k25 w A9 x.f9.length x.f9 →
    Calls Tryd.prog 8 #[.agg #[.int .i64 x.f0, .int .i64 x.f1, .string x.f2, .string x.f3, .string x.f4, .slice A5 x.f5.length c5, .slice A6 x.f6.length c6, .int .i64 x.f7, .int .i64 x.f8, .slice A9 x.f9.length c9]] w (LentQ x w) := by
  intro n
  induction n with
  | zero => intro x h; exact h.elim
  | succ n ih =>
  intro x hg A5 c5 A6 c6 A9 c9 w h5 h6 h9
  have IH := Aside0.mk ih
  have HG := Aside0.mk hg
  have HR5 := Aside0.mk h5
  have HR6 := Aside0.mk h6
  have HR9 := Aside0.mk h9
  clear ih hg h5 h6 h9
  have hu25 := Tryd.underlying25
  go_enter Tryd.func8, Tryd.ntmps8
  go_wp2_with fail
  -- the box of the argument, the box of the result
  obtain ⟨g, hgg⟩ : ∃ g, g = w.heap.size := ⟨_, rfl⟩
  have hb0 : Below w.heap.size w ((w.alloc (.cells #[.int .i64 x.f0, .int .i64 x.f1, .string x.f2, .string x.f3, .string x.f4, .slice A5 x.f5.length c5, .slice A6 x.f6.length c6, .int .i64 x.f7, .int .i64 x.f8, .slice A9 x.f9.length c9] 25)).alloc (.cells #[.int .i64 0, .int .i64 0, .string ⟨#[]⟩, .string ⟨#[]⟩, .string ⟨#[]⟩, .slice none 0 0, .slice none 0 0, .int .i64 0, .int .i64 0, .slice none 0 0] 25)) := below_alloc (below_alloc (Below.refl _ _) _) _
  have hk0 : ((w.alloc (.cells #[.int .i64 x.f0, .int .i64 x.f1, .string x.f2, .string x.f3, .string x.f4, .slice A5 x.f5.length c5, .slice A6 x.f6.length c6, .int .i64 x.f7, .int .i64 x.f8, .slice A9 x.f9.length c9] 25)).alloc (.cells #[.int .i64 0, .int .i64 0, .string ⟨#[]⟩, .string ⟨#[]⟩, .string ⟨#[]⟩, .slice none 0 0, .slice none 0 0, .int .i64 0, .int .i64 0, .slice none 0 0] 25)).heap[w.heap.size]? = some (.cells #[.int .i64 x.f0, .int .i64 x.f1, .string x.f2, .string x.f3, .string x.f4, .slice A5 x.f5.length c5, .slice A6 x.f6.length c6, .int .i64 x.f7, .int .i64 x.f8, .slice A9 x.f9.length c9] 25 (0, 0)) := blk_alloc (blk_new _ _) _
  have hk1 : ((w.alloc (.cells #[.int .i64 x.f0, .int .i64 x.f1, .string x.f2, .string x.f3, .string x.f4, .slice A5 x.f5.length c5, .slice A6 x.f6.length c6, .int .i64 x.f7, .int .i64 x.f8, .slice A9 x.f9.length c9] 25)).alloc (.cells #[.int .i64 0, .int .i64 0, .string ⟨#[]⟩, .string ⟨#[]⟩, .string ⟨#[]⟩, .slice none 0 0, .slice none 0 0, .int .i64 0, .int .i64 0, .slice none 0 0] 25)).heap[w.heap.size + 1]? = some (.cells #[.int .i64 0, .int .i64 0, .string ⟨#[]⟩, .string ⟨#[]⟩, .string ⟨#[]⟩, .slice none 0 0, .slice none 0 0, .int .i64 0, .int .i64 0, .slice none 0 0] 25 (0, 0)) := by
    have := blk_new (w.alloc (.cells #[.int .i64 x.f0, .int .i64 x.f1, .string x.f2, .string x.f3, .string x.f4, .slice A5 x.f5.length c5, .slice A6 x.f6.length c6, .int .i64 x.f7, .int .i64 x.f8, .slice A9 x.f9.length c9] 25)) (.cells #[.int .i64 0, .int .i64 0, .string ⟨#[]⟩, .string ⟨#[]⟩, .string ⟨#[]⟩, .slice none 0 0, .slice none 0 0, .int .i64 0, .int .i64 0, .slice none 0 0] 25)
    rwa [World.size_alloc] at this
  have hz0 : ((w.alloc (.cells #[.int .i64 x.f0, .int .i64 x.f1, .string x.f2, .string x.f3, .string x.f4, .slice A5 x.f5.length c5, .slice A6 x.f6.length c6, .int .i64 x.f7, .int .i64 x.f8, .slice A9 x.f9.length c9] 25)).alloc (.cells #[.int .i64 0, .int .i64 0, .string ⟨#[]⟩, .string ⟨#[]⟩, .string ⟨#[]⟩, .slice none 0 0, .slice none 0 0, .int .i64 0, .int .i64 0, .slice none 0 0] 25)).heap.size = w.heap.size + 2 := by rw [World.size_alloc, World.size_alloc]
  generalize (w.alloc (.cells #[.int .i64 x.f0, .int .i64 x.f1, .string x.f2, .string x.f3, .string x.f4, .slice A5 x.f5.length c5, .slice A6 x.f6.length c6, .int .i64 x.f7, .int .i64 x.f8, .slice A9 x.f9.length c9] 25)).alloc (.cells #[.int .i64 0, .int .i64 0, .string ⟨#[]⟩, .string ⟨#[]⟩, .string ⟨#[]⟩, .slice none 0 0, .slice none 0 0, .int .i64 0, .int .i64 0, .slice none 0 0] 25) = W0 at *
  have HB := Aside0.mk hb0
  have HZ := Aside0.mk hz0
  have BK := Aside0.mk hk0
  have BR := Aside0.mk hk1
  clear hb0 hk0 hk1 hz0
  refine (lentI_calls A5 c5 x.f5 W0 (Kd.C_below HR5.out HB.out) HG.out.2.2.2.2.2.1.1).mono ?_
  rintro e w1 ⟨B5, d5, rfl, hl5, hR5, hB1⟩
  have HL5 := Aside0.mk hl5
  have HO5 := Aside0.mk hR5
  have HB1 := Aside0.mk (below_then HB.out HB.out.size hB1)
  have HS1 := Aside0.mk hB1.size
  have BK1 := Aside0.mk (blk_below BK.out hB1)
  have BR1 := Aside0.mk (blk_below BR.out hB1)
  clear hl5 hR5 hB1 HB BK BR
  have f1 : w1.frozen? ⟨w.heap.size, 5, none⟩ = false := blk_frozen BK1.out 5
  have f2 : w1.cell? ⟨w.heap.size, 5, none⟩ = some (.slice A5 x.f5.length c5) := (blk_cell BK1.out 5).trans rfl
  have f3 : w1.cell? ⟨w.heap.size, 6, none⟩ = some (.slice A6 x.f6.length c6) := (blk_cell BK1.out 6).trans rfl
  go_wp2_with fail
  have bk := blk_set BK1.out 5 (.slice B5 x.f5.length d5)
  have br := blk_far BR1.out (p := ⟨w.heap.size, 5, none⟩) (by show w.heap.size + 1 ≠ w.heap.size; omega) (.slice B5 x.f5.length d5)
  have hb := below_set HB1.out (Nat.le_refl _) (j := 5) (v := .slice B5 x.f5.length d5)
  have ho := Kd.R_set (Kd.R_lower HO5.out (base' := w.heap.size + 2) (by have := HZ.out; omega)) BK1.out (by decide) 5 (.slice B5 x.f5.length d5)
  have hs : (w1.setCell ⟨w.heap.size, 5, none⟩ (.slice B5 x.f5.length d5)).heap.size = w1.heap.size := World.size_setCell _ _ _
  simp only [List.setIfInBounds_toArray, List.set_cons_zero, List.set_cons_succ] at bk
  generalize w1.setCell ⟨w.heap.size, 5, none⟩ (.slice B5 x.f5.length d5) = W1 at *
  have BK := Aside0.mk bk
  have BR := Aside0.mk br
  have HB := Aside0.mk hb
  have HO5' := Aside0.mk ho
  have HS := Aside0.mk (show w.heap.size + 2 ≤ W1.heap.size by have := HZ.out; have := HS1.out; omega)
  clear bk br hb ho hs BK1 BR1 HB1 HO5 HS1 HZ f1 f2 f3
  refine (lentI_calls A6 c6 x.f6 W1 (Kd.C_below HR6.out HB.out) HG.out.2.2.2.2.2.2.1.1).mono ?_
  rintro e w2 ⟨B6, d6, rfl, hl6, hR6, hB2⟩
  have HL6 := Aside0.mk hl6
  have HO6 := Aside0.mk (Kd.R_lower hR6 (base' := w.heap.size + 2) HS.out)
  have HO5 := Aside0.mk (Kd.R_below HO5'.out hB2)
  have HB2 := Aside0.mk (below_then HB.out HB.out.size hB2)
  have HS2 := Aside0.mk (show w.heap.size + 2 ≤ w2.heap.size by have := hB2.size; have := HS.out; omega)
  have BK2 := Aside0.mk (blk_below BK.out hB2)
  have BR2 := Aside0.mk (blk_below BR.out hB2)
  clear hl6 hR6 hB2 HB BK BR HS HO5'
  have f1 : w2.frozen? ⟨w.heap.size, 6, none⟩ = false := blk_frozen BK2.out 6
  have f2 : w2.cell? ⟨w.heap.size, 6, none⟩ = some (.slice A6 x.f6.length c6) := (blk_cell BK2.out 6).trans rfl
  have bk := blk_set BK2.out 6 (.slice B6 x.f6.length d6)
  have br := blk_far BR2.out (p := ⟨w.heap.size, 6, none⟩) (by show w.heap.size + 1 ≠ w.heap.size; omega) (.slice B6 x.f6.length d6)
  have hb := below_set HB2.out (Nat.le_refl _) (j := 6) (v := .slice B6 x.f6.length d6)
  have ho5 := Kd.R_set HO5.out BK2.out (by decide) 6 (.slice B6 x.f6.length d6)
  have ho6 := Kd.R_set HO6.out BK2.out (by decide) 6 (.slice B6 x.f6.length d6)
  have hs : w.heap.size + 2 ≤ (w2.setCell ⟨w.heap.size, 6, none⟩ (.slice B6 x.f6.length d6)).heap.size := by rw [World.size_setCell]; exact HS2.out
  simp only [List.setIfInBounds_toArray, List.set_cons_zero, List.set_cons_succ] at bk
  have BK := Aside0.mk bk
  have BR := Aside0.mk br
  have HB := Aside0.mk hb
  have HO5' := Aside0.mk ho5
  have HO6' := Aside0.mk ho6
  have HS := Aside0.mk hs
  have HL9 := HR9.out.2.1
  clear bk br hb ho5 ho6 hs BK2 BR2 HB2 HO5 HO6 HS2
  go_wp2_with fail
  go_loopg [3, 4] x.f9.length (fun kq v3 v4 wr => ∃ i : Int, v4 = .int .i64 i ∧ 0 ≤ i ∧ i ≤ x.f9.length ∧ Aside0 (kq + i = x.f9.length) ∧ Aside0 (oQ.R 25 wr (w.heap.size + 2) (fun _ => True) v3 ((x.f9.take i.toNat).map some)) ∧
    Aside0 (oI.R 2 wr (w.heap.size + 2) (fun _ => True) (.slice B5 (x.f5.length + 1) d5) (x.f5.map some ++ [none])) ∧ Aside0 (oI.R 2 wr (w.heap.size + 2) (fun _ => True) (.slice B6 (x.f6.length + 1) d6) (x.f6.map some ++ [none])) ∧
    Aside0 (wr.heap[w.heap.size]? = some (.cells #[.int .i64 x.f0, .int .i64 x.f1, .string x.f2, .string x.f3, .string x.f4, .slice B5 x.f5.length d5, .slice B6 x.f6.length d6, .int .i64 x.f7, .int .i64 x.f8, .slice A9 x.f9.length c9] 25 (0, 0))) ∧
    Aside0 (wr.heap[w.heap.size + 1]? = some (.cells #[.int .i64 0, .int .i64 0, .string ⟨#[]⟩, .string ⟨#[]⟩, .string ⟨#[]⟩, .slice none 0 0, .slice none 0 0, .int .i64 0, .int .i64 0, .slice none 0 0] 25 (0, 0))) ∧
    Aside0 (Below w.heap.size w wr) ∧ Aside0 (w.heap.size + 2 ≤ wr.heap.size))
  case atStart => exact ⟨0, rfl, by decide, by omega, ⟨by omega⟩, ⟨Kd.R_nil _ _ _ _ _⟩, HO5', HO6', BK, BR, HB, HS⟩
  case round =>
    clear BK BR HB HO5' HO6' HS f1 f2
    obtain ⟨i, rfl, h0, h1, hk, HO, HO5, HO6, BK, BR, HB, HS⟩ := hrel
    have f9 : wr.cell? ⟨w.heap.size, 9, none⟩ = some (.slice A9 x.f9.length c9) := (blk_cell BK.out 9).trans rfl
    by_cases c : i < x.f9.length
    · obtain ⟨ad, E5, e5, E6, e6, E9, e9, ea, g0, g1, g2, g3, g4, g5, g6, g7, g8, g9, m5, r5, m6, r6, m9, r9⟩ := at_T25 (Kd.C_below HR9.out HB.out) i h0 c
      subst ea
      have R5 := Aside0.mk r5
      have R6 := Aside0.mk r6
      have R9 := Aside0.mk r9
      clear r5 r6 r9
      go_wp2_with fail
      have hy : Good n (rd_T25 x.f9 i) := by
        refine HG.out.2.2.2.2.2.2.2.2.2.2 _ ?_
        unfold rd_T25
        rw [List.getD_eq_getElem?_getD, List.getElem?_eq_getElem (show i.toNat < x.f9.length by omega)]
        exact List.getElem_mem _
      refine (IH.out (rd_T25 x.f9 i) hy _ _ _ _ _ _ wr R5.out R6.out R9.out).mono ?_
      rintro e w3 ⟨K5, k5, K6, k6, K9, k9, rfl, hk5, hr5, hk6, hr6, hk9, hr9, hb3⟩
      clear g0 g1 g2 g3 g4 g5 g6 g7 g8 g9 hy
      have P5 := Aside0.mk hr5
      have P6 := Aside0.mk hr6
      have P9 := Aside0.mk hr9
      have Q5 := Aside0.mk hk5
      have Q6 := Aside0.mk hk6
      have Q9 := Aside0.mk hk9
      have HB3 := Aside0.mk hb3
      clear hr5 hr6 hr9 hk5 hk6 hk9 hb3
      have hm := Kd.M_below (d := oQ) (elemM HS.out Q5.out P5.out Q6.out P6.out Q9.out P9.out) (below_alloc (Below.refl w3.heap.size w3) (.cells #[.int .i64 (rd_T25 x.f9 i).f0, .int .i64 (rd_T25 x.f9 i).f1, .string (rd_T25 x.f9 i).f2, .string (rd_T25 x.f9 i).f3, .string (rd_T25 x.f9 i).f4, .slice K5 (rd_T25 x.f9 i).f5.length k5, .slice K6 (rd_T25 x.f9 i).f6.length k6, .int .i64 (rd_T25 x.f9 i).f7, .int .i64 (rd_T25 x.f9 i).f8, .slice K9 (rd_T25 x.f9 i).f9.length k9] 25))
      have HM := Aside0.mk hm
      have HBW := Aside0.mk (below_alloc HB3.out (.cells #[.int .i64 (rd_T25 x.f9 i).f0, .int .i64 (rd_T25 x.f9 i).f1, .string (rd_T25 x.f9 i).f2, .string (rd_T25 x.f9 i).f3, .string (rd_T25 x.f9 i).f4, .slice K5 (rd_T25 x.f9 i).f5.length k5, .slice K6 (rd_T25 x.f9 i).f6.length k6, .int .i64 (rd_T25 x.f9 i).f7, .int .i64 (rd_T25 x.f9 i).f8, .slice K9 (rd_T25 x.f9 i).f9.length k9] 25))
      clear hm
      go_wp2_with ((with_reducible refine gate_builtin (b := .append) (xs := #[.tmp 27, .tmp 29]) rfl ?_); at_builtin; refine Kd.R_append oQ (w0 := wr) (w.heap.size + 2) rfl (.tmp 27) (.tmp 29) 23 25 _ 152 rfl Tryd.underlying23 info25 rfl (by decide) (by omega) _ ((x.f9.take i.toNat).map some) (some (rd_T25 x.f9 i)) _ (fun _ => True) (fun k => wr.heap.size ≤ k) rfl (by rw [World.size_alloc]; rfl) HM.out (fun k hk => ⟨trivial, Kd.fresh_ok HO.out k hk⟩) (fun _ _ => trivial) (Kd.R_below HO.out HBW.out) (HBW.out.mono HS.out) (Nat.le_trans HS.out HBW.out.size) ?aL ?_; (case aL => have := HG.out.2.2.2.2.2.2.2.2.2.1; simp only [List.length_map, List.length_take]; omega); intro v4 w4 ho hb hg hat; have HO' := Aside0.mk ho; have HB4 := Aside0.mk hb; have HGR := Aside0.mk hg; clear ho hb hg hat)
      obtain ⟨k, rfl⟩ : ∃ m, gk = m + 1 := ⟨gk - 1, by have := hk.out; omega⟩
      have hn5 : oI.R 2 w4 (w.heap.size + 2) (fun _ => True) (.slice B5 (x.f5.length + 1) d5) (x.f5.map some ++ [none]) := Kd.R_over (Kd.R_below HO5.out HBW.out) (Kd.R_below HO.out HBW.out) (by decide) HGR.out
      have hn6 : oI.R 2 w4 (w.heap.size + 2) (fun _ => True) (.slice B6 (x.f6.length + 1) d6) (x.f6.map some ++ [none]) := Kd.R_over (Kd.R_below HO6.out HBW.out) (Kd.R_below HO.out HBW.out) (by decide) HGR.out
      have HN5 := Aside0.mk hn5
      have HN6 := Aside0.mk hn6
      clear hn5 hn6
      go_roundg k
      case measure => omega
      case rel =>
        refine ⟨i + 1, by first | rfl | go_num, by omega, by omega, ⟨by have := hk.out; omega⟩, ⟨?_⟩, HN5, HN6, ⟨(HB4.out.block w.heap.size (by omega)).trans BK.out⟩, ⟨(HB4.out.block (w.heap.size + 1) (by omega)).trans BR.out⟩, ⟨HB.out.trans (HB4.out.mono (by omega))⟩, ⟨Nat.le_trans HS.out HB4.out.size⟩⟩
        rw [← take_mapsnoc x.f9 i h0 c]
        exact HO'.out
    · have hl : x.f9.take i.toNat = x.f9 := List.take_of_length_le (by omega)
      have ho := HO.out
      rw [hl] at ho
      have HO' := Aside0.mk ho
      clear hl ho HO
      go_upto_region 9 with fail
      go_upto_region 10 with ((with_reducible refine gate_builtin (b := .append) (xs := #[.tmp 31, .tmp 33]) rfl ?_); at_builtin; refine Kd.R_append oQ (w0 := wr) (w.heap.size + 2) rfl (.tmp 31) (.tmp 33) 23 25 _ 152 rfl Tryd.underlying23 info25 rfl (by decide) (by omega) _ (x.f9.map some) none mcQ (fun _ => True) (fun _ => False) rfl rfl ⟨rfl, rfl⟩ (fun k hk => hk.elim) (fun _ _ => trivial) HO'.out (Below.refl _ _) HS.out ?aL ?_; (case aL => have := HG.out.2.2.2.2.2.2.2.2.2.1; simp only [List.length_map]; omega); intro v4 w4 ho hb hg hat; have HO2 := Aside0.mk ho; have HB4 := Aside0.mk hb; have HGR := Aside0.mk hg; clear ho hb hg hat)
      have q5 : oI.R 2 w4 (w.heap.size + 2) (fun _ => True) (.slice B5 (x.f5.length + 1) d5) (x.f5.map some ++ [none]) := Kd.R_over HO5.out HO'.out (by decide) HGR.out
      have q6 : oI.R 2 w4 (w.heap.size + 2) (fun _ => True) (.slice B6 (x.f6.length + 1) d6) (x.f6.map some ++ [none]) := Kd.R_over HO6.out HO'.out (by decide) HGR.out
      have Q5 := Aside0.mk q5
      have Q6 := Aside0.mk q6
      clear q5 q6 HGR
      obtain ⟨A, c', ev, hle0, _⟩ := Kd.R_reads HO2.out
      have hlen : (x.f9.map some ++ [none]).length = x.f9.length + 1 := by simp
      rw [hlen] at ev hle0
      subst ev
      have HLE := Aside0.mk hle0
      clear hle0 hlen
      obtain ⟨i09, hi09, _, _, _⟩ := info_parts info25
      have hcut := cut_to (P := Tryd.prog) 23 25 .i64 Tryd.underlying23 hi09 A (x.f9.length + 1) c' (x.f9.length : Int) (by omega) (by omega) HLE.out
      rw [Int.toNat_natCast] at hcut
      clear hi09
      have bk := (HB4.out.block w.heap.size (by omega)).trans BK.out
      have br := (HB4.out.block (w.heap.size + 1) (by omega)).trans BR.out
      have a0 : w4.cell? ⟨w.heap.size, 0, none⟩ = some (.int .i64 x.f0) := (blk_cell bk 0).trans rfl
      have a1 : w4.cell? ⟨w.heap.size, 1, none⟩ = some (.int .i64 x.f1) := (blk_cell bk 1).trans rfl
      have a2 : w4.cell? ⟨w.heap.size, 2, none⟩ = some (.string x.f2) := (blk_cell bk 2).trans rfl
      have a3 : w4.cell? ⟨w.heap.size, 3, none⟩ = some (.string x.f3) := (blk_cell bk 3).trans rfl
      have a4 : w4.cell? ⟨w.heap.size, 4, none⟩ = some (.string x.f4) := (blk_cell bk 4).trans rfl
      have a5 : w4.cell? ⟨w.heap.size, 5, none⟩ = some (.slice B5 x.f5.length d5) := (blk_cell bk 5).trans rfl
      have a6 : w4.cell? ⟨w.heap.size, 6, none⟩ = some (.slice B6 x.f6.length d6) := (blk_cell bk 6).trans rfl
      have a7 : w4.cell? ⟨w.heap.size, 7, none⟩ = some (.int .i64 x.f7) := (blk_cell bk 7).trans rfl
      have a8 : w4.cell? ⟨w.heap.size, 8, none⟩ = some (.int .i64 x.f8) := (blk_cell bk 8).trans rfl
      have a9 : w4.cell? ⟨w.heap.size, 9, none⟩ = some (.slice A9 x.f9.length c9) := (blk_cell bk 9).trans rfl
      have y9 := blk_frozen bk 9
      have b0 : w4.cell? ⟨w.heap.size + 1, 0, none⟩ = some (.int .i64 0) := (blk_cell br 0).trans rfl
      have z0 := blk_frozen br 0
      have b1 : w4.cell? ⟨w.heap.size + 1, 1, none⟩ = some (.int .i64 0) := (blk_cell br 1).trans rfl
      have z1 := blk_frozen br 1
      have b2 : w4.cell? ⟨w.heap.size + 1, 2, none⟩ = some (.string ⟨#[]⟩) := (blk_cell br 2).trans rfl
      have z2 := blk_frozen br 2
      have b3 : w4.cell? ⟨w.heap.size + 1, 3, none⟩ = some (.string ⟨#[]⟩) := (blk_cell br 3).trans rfl
      have z3 := blk_frozen br 3
      have b4 : w4.cell? ⟨w.heap.size + 1, 4, none⟩ = some (.string ⟨#[]⟩) := (blk_cell br 4).trans rfl
      have z4 := blk_frozen br 4
      have b5 : w4.cell? ⟨w.heap.size + 1, 5, none⟩ = some (.slice none 0 0) := (blk_cell br 5).trans rfl
      have z5 := blk_frozen br 5
      have b6 : w4.cell? ⟨w.heap.size + 1, 6, none⟩ = some (.slice none 0 0) := (blk_cell br 6).trans rfl
      have z6 := blk_frozen br 6
      have b7 : w4.cell? ⟨w.heap.size + 1, 7, none⟩ = some (.int .i64 0) := (blk_cell br 7).trans rfl
      have z7 := blk_frozen br 7
      have b8 : w4.cell? ⟨w.heap.size + 1, 8, none⟩ = some (.int .i64 0) := (blk_cell br 8).trans rfl
      have z8 := blk_frozen br 8
      have b9 : w4.cell? ⟨w.heap.size + 1, 9, none⟩ = some (.slice none 0 0) := (blk_cell br 9).trans rfl
      have z9 := blk_frozen br 9
      have BK4 := Aside0.mk bk
      have BR4 := Aside0.mk br
      clear bk br f9 BK BR
      go_wp2_with fail
      have ee := (blk_set (blk_set (blk_set (blk_set (blk_set (blk_set (blk_set (blk_set (blk_set (blk_set (blk_far BR4.out (p := ⟨w.heap.size, 9, none⟩) (by show w.heap.size + 1 ≠ w.heap.size; omega) (.slice A x.f9.length c')) 0 (.int .i64 x.f0)) 1 (.int .i64 x.f1)) 2 (.string x.f2)) 3 (.string x.f3)) 4 (.string x.f4)) 5 (.slice B5 x.f5.length d5)) 6 (.slice B6 x.f6.length d6)) 7 (.int .i64 x.f7)) 8 (.int .i64 x.f8)) 9 (.slice A x.f9.length c'))
      simp only [List.setIfInBounds_toArray, List.set_cons_zero, List.set_cons_succ] at ee
      have hb := (below_set (below_set (below_set (below_set (below_set (below_set (below_set (below_set (below_set (below_set (below_set (HB.out.trans (HB4.out.mono (by omega))) (Nat.le_refl _) (j := 9) (v := .slice A x.f9.length c')) (show w.heap.size ≤ w.heap.size + 1 by omega) (j := 0) (v := .int .i64 x.f0)) (show w.heap.size ≤ w.heap.size + 1 by omega) (j := 1) (v := .int .i64 x.f1)) (show w.heap.size ≤ w.heap.size + 1 by omega) (j := 2) (v := .string x.f2)) (show w.heap.size ≤ w.heap.size + 1 by omega) (j := 3) (v := .string x.f3)) (show w.heap.size ≤ w.heap.size + 1 by omega) (j := 4) (v := .string x.f4)) (show w.heap.size ≤ w.heap.size + 1 by omega) (j := 5) (v := .slice B5 x.f5.length d5)) (show w.heap.size ≤ w.heap.size + 1 by omega) (j := 6) (v := .slice B6 x.f6.length d6)) (show w.heap.size ≤ w.heap.size + 1 by omega) (j := 7) (v := .int .i64 x.f7)) (show w.heap.size ≤ w.heap.size + 1 by omega) (j := 8) (v := .int .i64 x.f8)) (show w.heap.size ≤ w.heap.size + 1 by omega) (j := 9) (v := .slice A x.f9.length c'))
      have hm : ∀ k, w.heap.size + 2 ≤ k → k < w4.heap.size → (((((((((((w4.setCell ⟨w.heap.size, 9, none⟩ (.slice A x.f9.length c')).setCell ⟨w.heap.size + 1, 0, none⟩ (.int .i64 x.f0)).setCell ⟨w.heap.size + 1, 1, none⟩ (.int .i64 x.f1)).setCell ⟨w.heap.size + 1, 2, none⟩ (.string x.f2)).setCell ⟨w.heap.size + 1, 3, none⟩ (.string x.f3)).setCell ⟨w.heap.size + 1, 4, none⟩ (.string x.f4)).setCell ⟨w.heap.size + 1, 5, none⟩ (.slice B5 x.f5.length d5)).setCell ⟨w.heap.size + 1, 6, none⟩ (.slice B6 x.f6.length d6)).setCell ⟨w.heap.size + 1, 7, none⟩ (.int .i64 x.f7)).setCell ⟨w.heap.size + 1, 8, none⟩ (.int .i64 x.f8)).setCell ⟨w.heap.size + 1, 9, none⟩ (.slice A x.f9.length c')).heap[k]? = w4.heap[k]? := by
        intro k h1 h2
        repeat rw [Below.heap_setCell _ _ _ _ (by simp only; omega)]
      have o5 := R_keepfrom Q5.out hm
      have o6 := R_keepfrom Q6.out hm
      have o9 := R_keepfrom HO2.out hm
      generalize (((((((((((w4.setCell ⟨w.heap.size, 9, none⟩ (.slice A x.f9.length c')).setCell ⟨w.heap.size + 1, 0, none⟩ (.int .i64 x.f0)).setCell ⟨w.heap.size + 1, 1, none⟩ (.int .i64 x.f1)).setCell ⟨w.heap.size + 1, 2, none⟩ (.string x.f2)).setCell ⟨w.heap.size + 1, 3, none⟩ (.string x.f3)).setCell ⟨w.heap.size + 1, 4, none⟩ (.string x.f4)).setCell ⟨w.heap.size + 1, 5, none⟩ (.slice B5 x.f5.length d5)).setCell ⟨w.heap.size + 1, 6, none⟩ (.slice B6 x.f6.length d6)).setCell ⟨w.heap.size + 1, 7, none⟩ (.int .i64 x.f7)).setCell ⟨w.heap.size + 1, 8, none⟩ (.int .i64 x.f8)).setCell ⟨w.heap.size + 1, 9, none⟩ (.slice A x.f9.length c')) = WF at *
      have r0 : WF.cell? ⟨w.heap.size + 1, 0, none⟩ = some (.int .i64 x.f0) := (blk_cell ee 0).trans rfl
      have r1 : WF.cell? ⟨w.heap.size + 1, 1, none⟩ = some (.int .i64 x.f1) := (blk_cell ee 1).trans rfl
      have r2 : WF.cell? ⟨w.heap.size + 1, 2, none⟩ = some (.string x.f2) := (blk_cell ee 2).trans rfl
      have r3 : WF.cell? ⟨w.heap.size + 1, 3, none⟩ = some (.string x.f3) := (blk_cell ee 3).trans rfl
      have r4 : WF.cell? ⟨w.heap.size + 1, 4, none⟩ = some (.string x.f4) := (blk_cell ee 4).trans rfl
      have r5 : WF.cell? ⟨w.heap.size + 1, 5, none⟩ = some (.slice B5 x.f5.length d5) := (blk_cell ee 5).trans rfl
      have r6 : WF.cell? ⟨w.heap.size + 1, 6, none⟩ = some (.slice B6 x.f6.length d6) := (blk_cell ee 6).trans rfl
      have r7 : WF.cell? ⟨w.heap.size + 1, 7, none⟩ = some (.int .i64 x.f7) := (blk_cell ee 7).trans rfl
      have r8 : WF.cell? ⟨w.heap.size + 1, 8, none⟩ = some (.int .i64 x.f8) := (blk_cell ee 8).trans rfl
      have r9 : WF.cell? ⟨w.heap.size + 1, 9, none⟩ = some (.slice A x.f9.length c') := (blk_cell ee 9).trans rfl
      exact bodyPost_ret (v := .agg #[.int .i64 x.f0, .int .i64 x.f1, .string x.f2, .string x.f3, .string x.f4, .slice B5 x.f5.length d5, .slice B6 x.f6.length d6, .int .i64 x.f7, .int .i64 x.f8, .slice A x.f9.length c']) (by simp [results, Tryd.results8, go_sem, r0, r1, r2, r3, r4, r5, r6, r7, r8, r9]) rfl
        ⟨B5, d5, B6, d6, A, c', rfl, HL5.out, Kd.R_lower o5 (by omega), HL6.out, Kd.R_lower o6 (by omega), HLE.out, Kd.R_lower o9 (by omega), hb⟩
end Go.Proofs.YteppilognoigjaaDoor.LQ
