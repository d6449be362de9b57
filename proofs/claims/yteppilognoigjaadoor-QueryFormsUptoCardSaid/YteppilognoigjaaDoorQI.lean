/- The walk of QueryForms. -/
import Derived.Test.YteppilognoigjaaDoorQH
import Derived.Test.YteppilognoigjaaDoorPD
import Derived.Test.YteppilognoigjaaDoorLY
import Derived.Test.YteppilognoigjaaDoorLW
import Derived.Deep.RegionHeldLaw
namespace Go.Proofs.YteppilognoigjaaDoor.LQ
open Go.RowKit Go.Proofs.YteppilognoigjaaDoorW.PrintWords Go.Proofs.YteppilognoigjaaDoorW.PrintLast Go.Proofs.YteppilognoigjaaDoorW.PrintMore Go.Proofs.YteppilognoigjaaDoor.PQueryForms Go.Proofs.YteppilognoigjaaDoor.QK
attribute [local go_sem] max2_int min2_int max_two min_two max_three min_three max_four min_four
set_option linter.unusedVariables false
set_option linter.unusedSimpArgs false

/-- A query as a value. -/
abbrev agQ (x : S25) (A5 : Option Addr) (c5 : Nat) (A6 : Option Addr) (c6 : Nat) (A9 : Option Addr) (c9 : Nat) : Value := .agg #[.int .i64 x.f0, .int .i64 x.f1, .string x.f2, .string x.f3, .string x.f4, .slice A5 x.f5.length c5, .slice A6 x.f6.length c6, .int .i64 x.f7, .int .i64 x.f8, .slice A9 x.f9.length c9]
/-- Its memory reads. -/
structure RdQ (x : S25) (A5 : Option Addr) (c5 : Nat) (A6 : Option Addr) (c6 : Nat) (A9 : Option Addr) (c9 : Nat) (w : World) : Prop where
  m5 : x.f5.length ≤ c5
  h5 : Kd.C (Kd.int .i64) w A5 x.f5.length x.f5
  m6 : x.f6.length ≤ c6
  h6 : Kd.C (Kd.int .i64) w A6 x.f6.length x.f6
  m9 : x.f9.length ≤ c9
  h9 : Kd.C k25 w A9 x.f9.length x.f9
/-- It has been handed in with marks. -/
structure LtQ (x : S25) (A5 : Option Addr) (c5 : Nat) (A6 : Option Addr) (c6 : Nat) (A9 : Option Addr) (c9 : Nat) (w : World) : Prop where
  l5 : x.f5.length + 1 ≤ c5
  g5 : oI.C w A5 (x.f5.length + 1) (x.f5.map some ++ [none])
  l6 : x.f6.length + 1 ≤ c6
  g6 : oI.C w A6 (x.f6.length + 1) (x.f6.map some ++ [none])
  l9 : x.f9.length + 1 ≤ c9
  g9 : oQ.C w A9 (x.f9.length + 1) (x.f9.map some ++ [none])
section
variable {x : S25} {A5 : Option Addr} {c5 : Nat} {A6 : Option Addr} {c6 : Nat} {A9 : Option Addr} {c9 : Nat} {w w' : World}
theorem RdQ.below (h : RdQ x A5 c5 A6 c6 A9 c9 w) (hb : Below w.heap.size w w') : RdQ x A5 c5 A6 c6 A9 c9 w' := ⟨h.m5, Kd.C_below h.h5 hb, h.m6, Kd.C_below h.h6 hb, h.m9, Kd.C_below h.h9 hb⟩
theorem LtQ.below (h : LtQ x A5 c5 A6 c6 A9 c9 w) (hb : Below w.heap.size w w') : LtQ x A5 c5 A6 c6 A9 c9 w' := ⟨h.l5, Kd.C_below h.g5 hb, h.l6, Kd.C_below h.g6 hb, h.l9, Kd.C_below h.g9 hb⟩
theorem LtQ.rd (h : LtQ x A5 c5 A6 c6 A9 c9 w) : RdQ x A5 c5 A6 c6 A9 c9 w :=
  ⟨by have := h.l5; omega, C_init h.g5, by have := h.l6; omega, C_init h.g6, by have := h.l9; omega, Kd.C_imp (d := kL) (d' := k25) rfl (fun w x cs hk => k_of_L hk) (C_init h.g9)⟩
end
section
variable (n : Nat) (x : S25) (hg : Good n x) (A5 : Option Addr) (c5 : Nat) (A6 : Option Addr) (c6 : Nat) (A9 : Option Addr) (c9 : Nat) (w : World) (hr : RdQ x A5 c5 A6 c6 A9 c9 w)
include hg hr
theorem formedPQ : Calls Tryd.prog 9 #[agQ x A5 c5 A6 c6 A9 c9] w fun e w' => e = .returned (.bool (formedN n x 0)) ∧ Below w.heap.size w w' := FormedP_calls n x hg A5 c5 A6 c6 A9 c9 w hr.h9
theorem formedRQ : Calls Tryd.prog 10 #[agQ x A5 c5 A6 c6 A9 c9] w fun e w' => e = .returned (.bool (formedN n x 0)) ∧ Below w.heap.size w w' := FormedR_calls n x hg A5 c5 A6 c6 A9 c9 w hr.h9
theorem depthPQ : Calls Tryd.prog 11 #[agQ x A5 c5 A6 c6 A9 c9] w fun e w' => e = .returned (.int .i64 (depthN n x)) ∧ Below w.heap.size w w' := by
  obtain ⟨K, hK⟩ := dP_f n x hg
  exact query_Depth.calls K _ _ _ _ _ A5 c5 _ A6 c6 _ _ _ A9 c9 _ _ w hr.h5 hr.m5 hr.h6 hr.m6 hr.h9 hr.m9 (hK K (Nat.le_refl _))
theorem depthRQ : Calls Tryd.prog 12 #[agQ x A5 c5 A6 c6 A9 c9] w fun e w' => e = .returned (.int .i64 (depthN n x)) ∧ Below w.heap.size w w' := by
  obtain ⟨K, hK⟩ := dR_f n x hg
  exact lecternref18_Depth.calls K _ _ _ _ _ A5 c5 _ A6 c6 _ _ _ A9 c9 _ _ w hr.h5 hr.m5 hr.h6 hr.m6 hr.h9 hr.m9 (hK K (Nat.le_refl _))
theorem textPQ (ht : PowTab w) (hlen : formedN n x 0 = true → (textN n x).length < 140737488355328) : Calls Tryd.prog 13 #[agQ x A5 c5 A6 c6 A9 c9] w fun e w' => e = .returned (.string (textS n x)) ∧ Below w.heap.size w w' := TextP_calls n x hg A5 c5 A6 c6 A9 c9 w hr.h5 hr.h6 hr.h9 ht (fun h => Nat.le_of_lt (hlen h))
theorem textRQ (hlen : formedN n x 0 = true → (textN n x).length < 140737488355328) : Calls Tryd.prog 14 #[agQ x A5 c5 A6 c6 A9 c9] w fun e w' => e = .returned (.string (textS n x)) ∧ Below w.heap.size w w' := TextR_calls n x hg A5 c5 A6 c6 A9 c9 w hr.m5 hr.h5 hr.m6 hr.h6 hr.h9 hlen
theorem lentQQ : Calls Tryd.prog 8 #[agQ x A5 c5 A6 c6 A9 c9] w fun e w' => ∃ E5 e5 E6 e6 E9 e9, e = .returned (agQ x E5 e5 E6 e6 E9 e9) ∧ LtQ x E5 e5 E6 e6 E9 e9 w' ∧ Below w.heap.size w w' := by
  refine (lentQ_calls n x hg A5 c5 A6 c6 A9 c9 w hr.h5 hr.h6 hr.h9).mono ?_
  rintro e w1 ⟨E5, e5, E6, e6, E9, e9, rfl, p5, r5, p6, r6, p9, r9, hb⟩
  have key : ∀ {α : Type} {d : Kd α} {e : Nat} {base : Nat} {A : Option Addr} {n c : Nat} {xs : List α}, d.R e w1 base (fun _ => True) (.slice A n c) xs → d.C w1 A n xs := by
    intro α d e base A n c xs h
    obtain ⟨A', c', he, _, hC⟩ := Kd.R_reads h
    injection he with e1 e2 e3
    subst e1; subst e2
    exact hC
  exact ⟨E5, e5, E6, e6, E9, e9, rfl, ⟨p5, key r5, p6, key r6, p9, key r9⟩, hb⟩
theorem keptQQ (E5 : Option Addr) (e5 : Nat) (E6 : Option Addr) (e6 : Nat) (E9 : Option Addr) (e9 : Nat) (hl : LtQ x E5 e5 E6 e6 E9 e9 w) : Calls Tryd.prog 15 #[agQ x E5 e5 E6 e6 E9 e9, agQ x A5 c5 A6 c6 A9 c9] w fun e w' => e = .returned (.bool true) ∧ Below w.heap.size w w' :=
  keptQ_calls n x hg E5 e5 E6 e6 E9 e9 A5 c5 A6 c6 A9 c9 w hl.l5 hl.g5 hl.l6 hl.g6 hl.l9 hl.g9 hr.m5 hr.h5 hr.m6 hr.h6 hr.m9 hr.h9
end
/-- What a block of a query reads as. -/
theorem cellsQ {W : World} {g : Nat} {x : S25} {A5 : Option Addr} {c5 : Nat} {A6 : Option Addr} {c6 : Nat} {A9 : Option Addr} {c9 : Nat} (h : W.heap[g]? = some (boxQ x A5 c5 A6 c6 A9 c9)) : W.cell? ⟨g, 0, none⟩ = some (.int .i64 x.f0) ∧ W.cell? ⟨g, 1, none⟩ = some (.int .i64 x.f1) ∧ W.cell? ⟨g, 2, none⟩ = some (.string x.f2) ∧ W.cell? ⟨g, 3, none⟩ = some (.string x.f3) ∧ W.cell? ⟨g, 4, none⟩ = some (.string x.f4) ∧ W.cell? ⟨g, 5, none⟩ = some (.slice A5 x.f5.length c5) ∧ W.cell? ⟨g, 6, none⟩ = some (.slice A6 x.f6.length c6) ∧ W.cell? ⟨g, 7, none⟩ = some (.int .i64 x.f7) ∧ W.cell? ⟨g, 8, none⟩ = some (.int .i64 x.f8) ∧ W.cell? ⟨g, 9, none⟩ = some (.slice A9 x.f9.length c9) :=
  ⟨(blk_cell h 0).trans rfl, (blk_cell h 1).trans rfl, (blk_cell h 2).trans rfl, (blk_cell h 3).trans rfl, (blk_cell h 4).trans rfl, (blk_cell h 5).trans rfl, (blk_cell h 6).trans rfl, (blk_cell h 7).trans rfl, (blk_cell h 8).trans rfl, (blk_cell h 9).trans rfl⟩
end Go.Proofs.YteppilognoigjaaDoor.LQ
