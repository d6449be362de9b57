/- The walks of the program's schema.Name, empty and named. -/
import Derived.Test.YteppilognoigjaaDoorFA
namespace Go.Proofs.YteppilognoigjaaDoor.LQ
open Go.RowKit Go.Proofs.YteppilognoigjaaDoorW.PrintWords Go.Proofs.YteppilognoigjaaDoorW.PrintLast Go.Proofs.YteppilognoigjaaDoorW.PrintMore Go.Proofs.YteppilognoigjaaDoor.PQueryForms Go.Proofs.YteppilognoigjaaDoor.QK
set_option linter.unusedVariables false
set_option linter.unusedSimpArgs false

set_option maxHeartbeats 8000000 in
set_option maxRecDepth 100000 in
theorem nameP_calls (s : ByteArray) (hs : s.size ≤ 9223372036854775806) (w : World) : Calls Tryd.prog 37 #[.string s] w fun e w' => e = .returned (.bool (nameS s)) ∧ Below w.heap.size w w' := by
  have kb := fun W => print_bytes (P := Tryd.prog) 9 43 5 Tryd.underlying9 Tryd.underlying43 Tryd.underlying5 s W
  have HR := Aside0.mk (fun W => bytes_reads W 5 s (by omega))
  have hi : Aside0 (nameS s = (nameR s.size s 0 && (decide (1 ≤ s.size) && decide (s.size ≤ 24)))) := ⟨rfl⟩
  have HB := Aside0.mk (bytes_below (Below.refl w.heap.size w) (Nat.le_refl _) 5 s)
  have HS := Aside0.mk hs
  clear hs
  go_enter Tryd.func37, Tryd.ntmps37
  go_wp2_with fail
  go_loopg [8] s.size (fun kq v8 wr => ∃ i : Int, v8 = .int .i64 i ∧ 0 ≤ i ∧ i ≤ s.size ∧ Aside0 (kq + i = s.size) ∧ Aside0 (nameS s = (nameR kq s i && (decide (1 ≤ s.size) && decide (s.size ≤ 24)))) ∧ wr = Lib.bytesWorld w 5 s)
  case atStart => exact ⟨0, rfl, by decide, by omega, ⟨by omega⟩, hi, rfl⟩
  case round =>
    clear hi
    obtain ⟨i, rfl, h0, h1, hk, hq, rfl⟩ := hrel
    by_cases c : i < s.size
    · obtain ⟨ad, e1, hx⟩ := (HR.out w).at_ i h0 c
      rw [rd_bytesOf] at hx
      simp only [Option.some.injEq] at e1
      subst e1
      rw [add_plain] at hx
      obtain ⟨k, rfl⟩ : ∃ m, gk = m + 1 := ⟨gk - 1, by have := hk.out; omega⟩
      have hd := hq.out
      simp only [nameR] at hd
      have HD := Aside0.mk hd
      clear hd hq
      obtain ⟨b0, b1⟩ := bt_range s i
      have hlt : i + 1 ≤ s.size := by omega
      have hbig := HS.out
      generalize hbt : bt s i = ch at *
      go_wp2_with fail
      all_goals first
        | (go_roundg k; (case measure => omega); (case rel => have hb : nameB i ch = true := (by (try simp only [Bool.not_eq_true', Bool.not_eq_false', Bool.not_eq_true, Bool.not_eq_false, decide_eq_true_eq, decide_eq_false_iff_not, beq_iff_eq, beq_eq_false_iff_ne, ne_eq] at *); unfold nameB; simp only [Bool.or_eq_true, Bool.and_eq_true, decide_eq_true_eq, beq_iff_eq]; omega); exact ⟨i + 1, by first | rfl | go_num, by omega, hlt, ⟨by have := hk.out; omega⟩, ⟨by rw [HD.out, hb]; rfl⟩, rfl⟩))
        | (go_ret; have hb : nameB i ch = false := (by (try simp only [Bool.not_eq_true', Bool.not_eq_false', Bool.not_eq_true, Bool.not_eq_false, decide_eq_true_eq, decide_eq_false_iff_not, beq_iff_eq, beq_eq_false_iff_ne, ne_eq] at *); rw [Bool.eq_false_iff]; unfold nameB; simp only [ne_eq, Bool.or_eq_true, Bool.and_eq_true, decide_eq_true_eq, beq_iff_eq]; omega); exact ⟨by rw [HD.out, hb]; rfl, HB.out⟩)
        | trace_state
    · have : gk = 0 := by have := hk.out; omega
      subst this
      have hd := hq.out
      simp only [nameR, Bool.true_and] at hd
      have HD := Aside0.mk hd
      clear hd hq
      go_wp2_with fail
      all_goals go_ret
      all_goals refine ⟨?_, HB.out⟩
      all_goals rw [HD.out]
      all_goals (refine congrArg (fun b => Ending.returned (Value.bool b)) ?_; rw [Bool.eq_iff_iff]; simp; omega)

/-! ### empty -/
def emptyC (s2 s3 s4 : ByteArray) (n5 n6 : Nat) (i7 i8 : Int) (n9 : Nat) : Bool := noS s2 && noS s3 && noS s4 && n5 == 0 && n6 == 0 && i7 == 0 && i8 == 0 && n9 == 0
set_option maxHeartbeats 8000000 in
set_option maxRecDepth 100000 in
theorem empty_calls (x0 x1 : Int) (s2 s3 s4 : ByteArray) (n5 n6 : Nat) (i7 i8 : Int) (n9 : Nat) (A5 : Option Addr) (c5 : Nat) (A6 : Option Addr) (c6 : Nat) (A9 : Option Addr) (c9 : Nat) (w : World) :
    Calls Tryd.prog 36 #[.agg #[.int .i64 x0, .int .i64 x1, .string s2, .string s3, .string s4, .slice A5 n5 c5, .slice A6 n6 c6, .int .i64 i7, .int .i64 i8, .slice A9 n9 c9]] w fun e w' => e = .returned (.bool (emptyC s2 s3 s4 n5 n6 i7 i8 n9)) ∧ Below w.heap.size w w' := by
  have hu25 := Tryd.underlying25
  go_enter Tryd.func36, Tryd.ntmps36
  have hb0 : Below w.heap.size w (w.alloc (.cells #[.int .i64 x0, .int .i64 x1, .string s2, .string s3, .string s4, .slice A5 n5 c5, .slice A6 n6 c6, .int .i64 i7, .int .i64 i8, .slice A9 n9 c9] 25)) := below_alloc (Below.refl _ _) _
  have hk0 : (w.alloc (.cells #[.int .i64 x0, .int .i64 x1, .string s2, .string s3, .string s4, .slice A5 n5 c5, .slice A6 n6 c6, .int .i64 i7, .int .i64 i8, .slice A9 n9 c9] 25)).heap[w.heap.size]? = some (.cells #[.int .i64 x0, .int .i64 x1, .string s2, .string s3, .string s4, .slice A5 n5 c5, .slice A6 n6 c6, .int .i64 i7, .int .i64 i8, .slice A9 n9 c9] 25 (0, 0)) := blk_new _ _
  go_upto_region 1 with fail
  generalize w.alloc (.cells #[.int .i64 x0, .int .i64 x1, .string s2, .string s3, .string s4, .slice A5 n5 c5, .slice A6 n6 c6, .int .i64 i7, .int .i64 i8, .slice A9 n9 c9] 25) = W0 at *
  have f2 : W0.cell? ⟨w.heap.size, 2, none⟩ = some (.string s2) := (blk_cell hk0 2).trans rfl
  have f3 : W0.cell? ⟨w.heap.size, 3, none⟩ = some (.string s3) := (blk_cell hk0 3).trans rfl
  have f4 : W0.cell? ⟨w.heap.size, 4, none⟩ = some (.string s4) := (blk_cell hk0 4).trans rfl
  have f5 : W0.cell? ⟨w.heap.size, 5, none⟩ = some (.slice A5 n5 c5) := (blk_cell hk0 5).trans rfl
  have f6 : W0.cell? ⟨w.heap.size, 6, none⟩ = some (.slice A6 n6 c6) := (blk_cell hk0 6).trans rfl
  have f7 : W0.cell? ⟨w.heap.size, 7, none⟩ = some (.int .i64 i7) := (blk_cell hk0 7).trans rfl
  have f8 : W0.cell? ⟨w.heap.size, 8, none⟩ = some (.int .i64 i8) := (blk_cell hk0 8).trans rfl
  have f9 : W0.cell? ⟨w.heap.size, 9, none⟩ = some (.slice A9 n9 c9) := (blk_cell hk0 9).trans rfl
  have HB := Aside0.mk hb0
  clear hb0 hk0
  go_wp2_with fail
  all_goals go_ret
  all_goals refine ⟨?_, HB.out⟩
  all_goals first | rfl | (refine congrArg (fun b => Ending.returned (Value.bool b)) ?_; first | (simp [emptyC, noS, *]; done) | (rw [Bool.eq_iff_iff]; simp [emptyC, noS, *]; done) | (rw [Bool.eq_iff_iff]; simp [emptyC, noS, *]; omega) | trace_state)

/-! ### named: some texts of a query are taken away -/
def noStr (R : Nat) (w : World) (o : Nat) : World := w.setCell ⟨R, o, none⟩ (.string ⟨#[]⟩)
theorem noStr_blk {R : Nat} {cs : Array Value} {w : World} (hR : w.heap[R]? = some (.cells cs 25 (0, 0))) (o : Nat) : (noStr R w o).heap[R]? = some (.cells (cs.setIfInBounds o (.string ⟨#[]⟩)) 25 (0, 0)) := blk_set hR o _
theorem noStrs_blk {R : Nat} : ∀ (l : List Nat) {cs : Array Value} {w : World}, w.heap[R]? = some (.cells cs 25 (0, 0)) → cs.size = 10 → ∃ cs', (l.foldl (noStr R) w).heap[R]? = some (.cells cs' 25 (0, 0)) ∧ cs'.size = 10
  | [], cs, w, h, hs => ⟨cs, h, hs⟩
  | o :: l, cs, w, h, hs => noStrs_blk l (noStr_blk h o) (by simpa using hs)
theorem noStrs_cell {R g j : Nat} (hne : g ≠ R) : ∀ (l : List Nat) {w : World} {v : Value}, w.cell? ⟨g, j, none⟩ = some v → (l.foldl (noStr R) w).cell? ⟨g, j, none⟩ = some v
  | [], w, v, h => h
  | o :: l, w, v, h => noStrs_cell hne l (by
      unfold noStr
      rw [← h]
      exact World.cell?_setCell_other _ _ _ _ (by simp [hne]))
set_option maxHeartbeats 8000000 in
set_option maxRecDepth 100000 in
theorem named_calls (R : Nat) (cs : Array Value) (offs : List Nat) (A : Option Addr) (c : Nat) (w : World) (hR : w.heap[R]? = some (.cells cs 25 (0, 0))) (hcs : cs.size = 10) (ho : ∀ o ∈ offs, o < 10) (hn : offs.length ≤ 9)
    (hA : 0 < offs.length → ∃ g, A = some ⟨g, 0, none⟩ ∧ g ≠ R ∧ ∀ j o, offs[j]? = some o → w.cell? ⟨g, j, none⟩ = some (.pointer (some ⟨R, o, none⟩))) :
    Calls Tryd.prog 35 #[.slice A offs.length c, .pointer (some ⟨R, 0, none⟩)] w fun e w' => e = .returned (.tuple #[]) ∧ w' = offs.foldl (noStr R) (noStr R w 2) := by
  have hu25 := Tryd.underlying25
  have g0 : w.frozen? ⟨R, 2, none⟩ = false := blk_frozen hR 2
  obtain ⟨v2, f2⟩ : ∃ v, w.cell? ⟨R, 2, none⟩ = some v := ⟨cs[2]'(by omega), (blk_cell hR 2).trans (Array.getElem?_eq_getElem (by omega))⟩
  have hR1 := noStr_blk hR 2
  have hA1 : 0 < offs.length → ∃ g, A = some ⟨g, 0, none⟩ ∧ g ≠ R ∧ ∀ j o, offs[j]? = some o → (noStr R w 2).cell? ⟨g, j, none⟩ = some (.pointer (some ⟨R, o, none⟩)) := by
    intro hp
    obtain ⟨g, e, hne, hc⟩ := hA hp
    exact ⟨g, e, hne, fun j o hj => noStrs_cell hne [2] (hc j o hj)⟩
  have hz : (noStr R w 2) = w.setCell ⟨R, 2, none⟩ (.string ⟨#[]⟩) := rfl
  have HA := Aside0.mk hA1
  have HR := Aside0.mk hR1
  have HO := Aside0.mk ho
  have HC := Aside0.mk (show (cs.setIfInBounds 2 (.string ⟨#[]⟩)).size = 10 by simpa using hcs)
  clear hA hA1 hR hR1 ho hcs
  go_enter Tryd.func35, Tryd.ntmps35
  go_wp2_with fail
  rw [← hz]
  clear hz
  generalize hW0 : noStr R w 2 = W0 at *
  have HE := Aside0.mk hW0
  clear hW0
  go_loopg [8] offs.length (fun kq v8 wr => ∃ i : Int, v8 = .int .i64 i ∧ 0 ≤ i ∧ i ≤ offs.length ∧ Aside0 (kq + i = offs.length) ∧ wr = (offs.take i.toNat).foldl (noStr R) W0)
  case atStart => exact ⟨0, rfl, by decide, by omega, ⟨by omega⟩, rfl⟩
  case round =>
    clear g0 f2
    obtain ⟨i, rfl, h0, h1, hk, hw⟩ := hrel
    by_cases cc : i < offs.length
    · obtain ⟨g, e1, hne, hc⟩ := HA.out (by omega)
      obtain ⟨j, rfl⟩ : ∃ j : Nat, i = j := ⟨i.toNat, by omega⟩
      rw [Int.toNat_natCast] at hw
      have hj : offs[j]? = some offs[j] := List.getElem?_eq_getElem (by omega)
      have hx := noStrs_cell (R := R) hne (offs.take j) (hc j _ hj)
      rw [← hw] at hx
      obtain ⟨cs', hB, hs'⟩ := noStrs_blk (R := R) (offs.take j) HR.out HC.out
      rw [← hw] at hB
      have ho' := HO.out offs[j] (List.getElem_mem _)
      generalize offs[j] = o at *
      have hv : wr.cell? ⟨R, o, none⟩ = some (cs'[o]'(by omega)) := (blk_cell hB o).trans (Array.getElem?_eq_getElem (by omega))
      generalize cs'[o]'(by omega) = vo at hv
      have hf : wr.frozen? ⟨R, o, none⟩ = false := blk_frozen hB o
      have hnext : noStr R wr o = (offs.take (j + 1)).foldl (noStr R) W0 := by
        rw [hw, List.take_add_one, hj, List.foldl_append]
        rfl
      have HN := Aside0.mk hnext
      clear hw
      have hst : noStr R wr o = wr.setCell ⟨R, o, none⟩ (.string ⟨#[]⟩) := rfl
      clear hB hs' ho' hj hc hnext
      subst e1
      have hjn : ((j : Int)).toNat = j := Int.toNat_natCast j
      go_wp2_with fail
      obtain ⟨k, rfl⟩ : ∃ m, gk = m + 1 := ⟨gk - 1, by have := hk.out; omega⟩
      go_roundg k
      case measure => omega
      case rel => exact ⟨(j : Int) + 1, by first | rfl | go_num, by omega, by omega, ⟨by have := hk.out; omega⟩, by rw [← hst, HN.out]; congr 1⟩
    · have e : offs.take i.toNat = offs := List.take_of_length_le (by omega)
      rw [e] at hw
      have HW := Aside0.mk hw
      clear hw
      go_wp2_with fail
      go_end0
      exact ⟨rfl, by rw [HE.out]; exact HW.out⟩
end Go.Proofs.YteppilognoigjaaDoor.LQ
