/- The walk of the law QueryForms. -/
import Derived.Test.YteppilognoigjaaDoorQI
import Derived.Deep.RegionHeld3
namespace Go.Proofs.YteppilognoigjaaDoor.LQ
open Go.RowKit Go.Proofs.YteppilognoigjaaDoorW.PrintWords Go.Proofs.YteppilognoigjaaDoorW.PrintLast Go.Proofs.YteppilognoigjaaDoorW.PrintMore Go.Proofs.YteppilognoigjaaDoor.PQueryForms Go.Proofs.YteppilognoigjaaDoor.QK
attribute [local go_sem] max2_int min2_int max_two min_two max_three min_three max_four min_four
set_option linter.unusedVariables false
set_option linter.unusedSimpArgs false

set_option maxHeartbeats 8000000 in
set_option maxRecDepth 100000 in
theorem forms_calls (n : Nat) (x : S25) (hg : Good n x) (A5 : Option Addr) (c5 : Nat) (A6 : Option Addr) (c6 : Nat) (A9 : Option Addr) (c9 : Nat) (w : World) (hr : RdQ x A5 c5 A6 c6 A9 c9 w) (ht : PowTab w) (hlen : formedN n x 0 = true → (textN n x).length < 140737488355328) :
    Calls Tryd.prog 3 #[agQ x A5 c5 A6 c6 A9 c9] w fun e w' => e = .returned (.bool true) ∧ Below w.heap.size w w' := by
  have HG := Aside0.mk hg
  have HR := Aside0.mk hr
  have HT := Aside0.mk ht
  have HLEN := Aside0.mk hlen
  have HL := Aside0.mk (fun W (hW : Below w.heap.size w W) => lentQQ n x hg A5 c5 A6 c6 A9 c9 W (hr.below hW))
  have hu25 := Tryd.underlying25
  have hb0 : Below w.heap.size w (w.alloc (boxQ x A5 c5 A6 c6 A9 c9)) := below_alloc (Below.refl _ _) _
  have hk0 : (w.alloc (boxQ x A5 c5 A6 c6 A9 c9)).heap[w.heap.size]? = some (boxQ x A5 c5 A6 c6 A9 c9) := blk_new _ _
  clear hg hr ht hlen
  go_enter Tryd.func3, Tryd.ntmps3
  go_wp2_with fail
  generalize w.alloc (boxQ x A5 c5 A6 c6 A9 c9) = W0 at *
  have HB := Aside0.mk hb0
  have BK := Aside0.mk hk0
  clear hb0 hk0
  refine (HL.out W0 HB.out).mono ?_
  rintro e W1 ⟨E5, e5, E6, e6, E9, e9, rfl, hl, hB1⟩
  have bk1 := blk_below BK.out hB1
  have HB1 := Aside0.mk (below_then HB.out HB.out.size hB1)
  have HLT := Aside0.mk hl
  have BK1 := Aside0.mk bk1
  clear hB1 HL hl bk1
  go_wp2_with fail
  have hq2 : (W1.alloc (boxQ x E5 e5 E6 e6 E9 e9)).heap[w.heap.size]? = some (boxQ x A5 c5 A6 c6 A9 c9) := blk_alloc BK1.out _
  have hi2 : (W1.alloc (boxQ x E5 e5 E6 e6 E9 e9)).heap[W1.heap.size]? = some (boxQ x E5 e5 E6 e6 E9 e9) := blk_new _ _
  have hb2 : Below w.heap.size w (W1.alloc (boxQ x E5 e5 E6 e6 E9 e9)) := below_alloc HB1.out _
  have hl2 : LtQ x E5 e5 E6 e6 E9 e9 (W1.alloc (boxQ x E5 e5 E6 e6 E9 e9)) := HLT.out.below (below_alloc (Below.refl _ _) _)
  generalize W1.alloc (boxQ x E5 e5 E6 e6 E9 e9) = W2 at *
  have HS := Aside0.mk (fun W (h : Below W2.heap.size W2 W) => And.intro (cellsQ (blk_below hq2 h)) (cellsQ (blk_below hi2 h)))
  have HI := Aside0.mk (fun W (h : Below W2.heap.size W2 W) => hl2.below h)
  have HQ := Aside0.mk (fun W (h : Below W2.heap.size W2 W) => HR.out.below (below_then hb2 hb2.size h))
  have HP := Aside0.mk (fun W (h : Below W2.heap.size W2 W) => pow_below HT.out (below_then hb2 hb2.size h))
  have HB2 := Aside0.mk hb2
  clear hq2 hi2 hb2 hl2 HLT BK1 BK HB HR HT
  have T1 := Aside0.mk (fun W (h : Below W2.heap.size W2 W) => formedPQ n x HG.out E5 e5 E6 e6 E9 e9 W (HI.out W h).rd)
  have T2 := Aside0.mk (fun W (h : Below W2.heap.size W2 W) => formedRQ n x HG.out A5 c5 A6 c6 A9 c9 W (HQ.out W h))
  have T3 := Aside0.mk (fun W (h : Below W2.heap.size W2 W) => depthPQ n x HG.out E5 e5 E6 e6 E9 e9 W (HI.out W h).rd)
  have T4 := Aside0.mk (fun W (h : Below W2.heap.size W2 W) => depthRQ n x HG.out A5 c5 A6 c6 A9 c9 W (HQ.out W h))
  have T5 := Aside0.mk (fun W (h : Below W2.heap.size W2 W) => textPQ n x HG.out E5 e5 E6 e6 E9 e9 W (HI.out W h).rd (HP.out W h) HLEN.out)
  have T6 := Aside0.mk (fun W (h : Below W2.heap.size W2 W) => textRQ n x HG.out A5 c5 A6 c6 A9 c9 W (HQ.out W h) HLEN.out)
  have T7 := Aside0.mk (fun W (h : Below W2.heap.size W2 W) => keptQQ n x HG.out A5 c5 A6 c6 A9 c9 W (HQ.out W h) E5 e5 E6 e6 E9 e9 (HI.out W h))
  clear HI HQ HP HLEN
  generalize formedN n x 0 = fb at *
  generalize depthN n x = db at *
  generalize textS n x = ts at *
  go_region_held3 (fun w' => (w'.cell? ⟨w.heap.size, 0, none⟩ = some (.int .i64 x.f0) ∧ w'.cell? ⟨w.heap.size, 1, none⟩ = some (.int .i64 x.f1) ∧ w'.cell? ⟨w.heap.size, 2, none⟩ = some (.string x.f2) ∧ w'.cell? ⟨w.heap.size, 3, none⟩ = some (.string x.f3) ∧ w'.cell? ⟨w.heap.size, 4, none⟩ = some (.string x.f4) ∧ w'.cell? ⟨w.heap.size, 5, none⟩ = some (.slice A5 x.f5.length c5) ∧ w'.cell? ⟨w.heap.size, 6, none⟩ = some (.slice A6 x.f6.length c6) ∧ w'.cell? ⟨w.heap.size, 7, none⟩ = some (.int .i64 x.f7) ∧ w'.cell? ⟨w.heap.size, 8, none⟩ = some (.int .i64 x.f8) ∧ w'.cell? ⟨w.heap.size, 9, none⟩ = some (.slice A9 x.f9.length c9)) ∧ (w'.cell? ⟨W1.heap.size, 0, none⟩ = some (.int .i64 x.f0) ∧ w'.cell? ⟨W1.heap.size, 1, none⟩ = some (.int .i64 x.f1) ∧ w'.cell? ⟨W1.heap.size, 2, none⟩ = some (.string x.f2) ∧ w'.cell? ⟨W1.heap.size, 3, none⟩ = some (.string x.f3) ∧ w'.cell? ⟨W1.heap.size, 4, none⟩ = some (.string x.f4) ∧ w'.cell? ⟨W1.heap.size, 5, none⟩ = some (.slice E5 x.f5.length e5) ∧ w'.cell? ⟨W1.heap.size, 6, none⟩ = some (.slice E6 x.f6.length e6) ∧ w'.cell? ⟨W1.heap.size, 7, none⟩ = some (.int .i64 x.f7) ∧ w'.cell? ⟨W1.heap.size, 8, none⟩ = some (.int .i64 x.f8) ∧ w'.cell? ⟨W1.heap.size, 9, none⟩ = some (.slice E9 x.f9.length e9)))
    (exact HS.out _ (by repeat (with_reducible first | exact Below.refl _ _ | exact H7.out | exact H6.out | exact H5.out | exact H4.out | exact H3.out | exact H2.out | exact H1.out | refine below_alloc ?_ _ | refine pw_below_drewN ?_ _ | refine below_drew1 ?_)))
    (first
      | (go_at_call 9; refine (T1.out _ ?hbx).mono ?_; (case hbx => exact (by repeat (with_reducible first | exact Below.refl _ _ | exact H6.out | exact H5.out | exact H4.out | exact H3.out | exact H2.out | exact H1.out | refine below_alloc ?_ _ | refine pw_below_drewN ?_ _ | refine below_drew1 ?_))); rintro e y1 ⟨rfl, hb⟩; have H1 := Aside0.mk (show Below W2.heap.size W2 y1 from below_then (by repeat (with_reducible first | exact Below.refl _ _ | exact H6.out | exact H5.out | exact H4.out | exact H3.out | exact H2.out | exact H1.out | refine below_alloc ?_ _ | refine pw_below_drewN ?_ _ | refine below_drew1 ?_)) (below_size (by repeat (with_reducible first | exact Below.refl _ _ | exact H6.out | exact H5.out | exact H4.out | exact H3.out | exact H2.out | exact H1.out | refine below_alloc ?_ _ | refine pw_below_drewN ?_ _ | refine below_drew1 ?_))) hb); clear hb)
      | (go_at_call 10; refine (T2.out _ ?hbx).mono ?_; (case hbx => exact (by repeat (with_reducible first | exact Below.refl _ _ | exact H6.out | exact H5.out | exact H4.out | exact H3.out | exact H2.out | exact H1.out | refine below_alloc ?_ _ | refine pw_below_drewN ?_ _ | refine below_drew1 ?_))); rintro e y2 ⟨rfl, hb⟩; have H2 := Aside0.mk (show Below W2.heap.size W2 y2 from below_then (by repeat (with_reducible first | exact Below.refl _ _ | exact H6.out | exact H5.out | exact H4.out | exact H3.out | exact H2.out | exact H1.out | refine below_alloc ?_ _ | refine pw_below_drewN ?_ _ | refine below_drew1 ?_)) (below_size (by repeat (with_reducible first | exact Below.refl _ _ | exact H6.out | exact H5.out | exact H4.out | exact H3.out | exact H2.out | exact H1.out | refine below_alloc ?_ _ | refine pw_below_drewN ?_ _ | refine below_drew1 ?_))) hb); clear hb)
      | (go_at_call 11; refine (T3.out _ ?hbx).mono ?_; (case hbx => exact (by repeat (with_reducible first | exact Below.refl _ _ | exact H6.out | exact H5.out | exact H4.out | exact H3.out | exact H2.out | exact H1.out | refine below_alloc ?_ _ | refine pw_below_drewN ?_ _ | refine below_drew1 ?_))); rintro e y3 ⟨rfl, hb⟩; have H3 := Aside0.mk (show Below W2.heap.size W2 y3 from below_then (by repeat (with_reducible first | exact Below.refl _ _ | exact H6.out | exact H5.out | exact H4.out | exact H3.out | exact H2.out | exact H1.out | refine below_alloc ?_ _ | refine pw_below_drewN ?_ _ | refine below_drew1 ?_)) (below_size (by repeat (with_reducible first | exact Below.refl _ _ | exact H6.out | exact H5.out | exact H4.out | exact H3.out | exact H2.out | exact H1.out | refine below_alloc ?_ _ | refine pw_below_drewN ?_ _ | refine below_drew1 ?_))) hb); clear hb)
      | (go_at_call 12; refine (T4.out _ ?hbx).mono ?_; (case hbx => exact (by repeat (with_reducible first | exact Below.refl _ _ | exact H6.out | exact H5.out | exact H4.out | exact H3.out | exact H2.out | exact H1.out | refine below_alloc ?_ _ | refine pw_below_drewN ?_ _ | refine below_drew1 ?_))); rintro e y4 ⟨rfl, hb⟩; have H4 := Aside0.mk (show Below W2.heap.size W2 y4 from below_then (by repeat (with_reducible first | exact Below.refl _ _ | exact H6.out | exact H5.out | exact H4.out | exact H3.out | exact H2.out | exact H1.out | refine below_alloc ?_ _ | refine pw_below_drewN ?_ _ | refine below_drew1 ?_)) (below_size (by repeat (with_reducible first | exact Below.refl _ _ | exact H6.out | exact H5.out | exact H4.out | exact H3.out | exact H2.out | exact H1.out | refine below_alloc ?_ _ | refine pw_below_drewN ?_ _ | refine below_drew1 ?_))) hb); clear hb)
      | (go_at_call 13; refine (T5.out _ ?hbx).mono ?_; (case hbx => exact (by repeat (with_reducible first | exact Below.refl _ _ | exact H6.out | exact H5.out | exact H4.out | exact H3.out | exact H2.out | exact H1.out | refine below_alloc ?_ _ | refine pw_below_drewN ?_ _ | refine below_drew1 ?_))); rintro e y5 ⟨rfl, hb⟩; have H5 := Aside0.mk (show Below W2.heap.size W2 y5 from below_then (by repeat (with_reducible first | exact Below.refl _ _ | exact H6.out | exact H5.out | exact H4.out | exact H3.out | exact H2.out | exact H1.out | refine below_alloc ?_ _ | refine pw_below_drewN ?_ _ | refine below_drew1 ?_)) (below_size (by repeat (with_reducible first | exact Below.refl _ _ | exact H6.out | exact H5.out | exact H4.out | exact H3.out | exact H2.out | exact H1.out | refine below_alloc ?_ _ | refine pw_below_drewN ?_ _ | refine below_drew1 ?_))) hb); clear hb)
      | (go_at_call 14; refine (T6.out _ ?hbx).mono ?_; (case hbx => exact (by repeat (with_reducible first | exact Below.refl _ _ | exact H6.out | exact H5.out | exact H4.out | exact H3.out | exact H2.out | exact H1.out | refine below_alloc ?_ _ | refine pw_below_drewN ?_ _ | refine below_drew1 ?_))); rintro e y6 ⟨rfl, hb⟩; have H6 := Aside0.mk (show Below W2.heap.size W2 y6 from below_then (by repeat (with_reducible first | exact Below.refl _ _ | exact H6.out | exact H5.out | exact H4.out | exact H3.out | exact H2.out | exact H1.out | refine below_alloc ?_ _ | refine pw_below_drewN ?_ _ | refine below_drew1 ?_)) (below_size (by repeat (with_reducible first | exact Below.refl _ _ | exact H6.out | exact H5.out | exact H4.out | exact H3.out | exact H2.out | exact H1.out | refine below_alloc ?_ _ | refine pw_below_drewN ?_ _ | refine below_drew1 ?_))) hb); clear hb)
      | (go_at_call 15; refine (T7.out _ ?hbx).mono ?_; (case hbx => exact (by repeat (with_reducible first | exact Below.refl _ _ | exact H6.out | exact H5.out | exact H4.out | exact H3.out | exact H2.out | exact H1.out | refine below_alloc ?_ _ | refine pw_below_drewN ?_ _ | refine below_drew1 ?_))); rintro e y7 ⟨rfl, hb⟩; have H7 := Aside0.mk (show Below W2.heap.size W2 y7 from below_then (by repeat (with_reducible first | exact Below.refl _ _ | exact H6.out | exact H5.out | exact H4.out | exact H3.out | exact H2.out | exact H1.out | refine below_alloc ?_ _ | refine pw_below_drewN ?_ _ | refine below_drew1 ?_)) (below_size (by repeat (with_reducible first | exact Below.refl _ _ | exact H6.out | exact H5.out | exact H4.out | exact H3.out | exact H2.out | exact H1.out | refine below_alloc ?_ _ | refine pw_below_drewN ?_ _ | refine below_drew1 ?_))) hb); clear hb))
  go_wp2_with fail
  go_ret
  exact ⟨rfl, below_then HB2.out HB2.out.size H7.out⟩
end Go.Proofs.YteppilognoigjaaDoor.LQ
