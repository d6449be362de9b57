/- The walk of the reference's Text. -/
import Derived.Test.YteppilognoigjaaDoorQF
import Derived.Test.YteppilognoigjaaDoorFC
namespace Go.Proofs.YteppilognoigjaaDoor.LQ
open Go.RowKit Go.Proofs.YteppilognoigjaaDoorW.PrintWords Go.Proofs.YteppilognoigjaaDoorW.PrintLast Go.Proofs.YteppilognoigjaaDoorW.PrintMore Go.Proofs.YteppilognoigjaaDoor.PQueryForms Go.Proofs.YteppilognoigjaaDoor.QK
set_option linter.unusedVariables false
set_option linter.unusedSimpArgs false

theorem toB_nat {l : List Int} (h : ∀ v ∈ l, isB v) : ∀ (j : Nat) (hj : j < (toB l).length), ∃ x, l[j]? = some x ∧ x = ((toB l)[j].toNat : Int) := by
  intro j hj
  have hl : j < l.length := by unfold toB at hj; simpa using hj
  refine ⟨l[j], List.getElem?_eq_getElem hl, ?_⟩
  have hB := h l[j] (List.getElem_mem hl)
  have e : (toB l)[j] = UInt8.ofNat l[j].toNat := List.getElem_map (fun v : Int => UInt8.ofNat v.toNat)
  rw [e, UInt8.toNat_ofNat']
  obtain ⟨h0, h1⟩ := hB
  omega
theorem conv_back (W : World) (v : Value) (l : List Int) (base : Nat) (h : Own8 5 base W v l) (hb : ∀ x ∈ l, isB x) (hne : l ≠ []) :
    (convert 43 9 v).run Tryd.prog W = .ok (.string (mkS (toB l))) W := by
  rcases h with ⟨rfl, h0⟩ | ⟨g, cap, cur, fz, rfl, _, hg, _, _, _, _, ht⟩
  · exact absurd h0 hne
  · have hl : l.length = (toB l).length := by unfold toB; rw [List.length_map]
    rw [hl]
    refine run_convert_bytes_back (P := Tryd.prog) W 43 9 5 ⟨g, 0, none⟩ cap (toB l) Tryd.underlying43 Tryd.underlying5 Tryd.underlying9 (fun j hj => ?_)
    obtain ⟨x, hx, he⟩ := toB_nat hb j hj
    have hjl := (List.getElem?_eq_some_iff.1 hx).1
    have h1 : (c8 l)[j]? = some (.int .u8 x) := by rw [List.getElem?_map, hx]; rfl
    rw [← ht, List.getElem?_take, if_pos hjl] at h1
    rw [Addr.add_lit, World.cell?, hg, ← he]
    simpa using h1
theorem text_ne (n : Nat) (x : S25) {u : Int} (hf : formedN n x u = true) : textN n x ≠ [] := by
  cases n with
  | zero => cases hf
  | succ n =>
    have how : ownS x u = true := by simp only [formedN, Bool.and_eq_true] at hf; exact hf.1
    have hk := (own_split how).1
    have hw : bytesOf (wordS x.f0) ≠ [] := by
      have : x.f0 = 1 ∨ x.f0 = 2 ∨ x.f0 = 3 ∨ x.f0 = 4 ∨ x.f0 = 5 ∨ x.f0 = 6 ∨ x.f0 = 7 ∨ x.f0 = 8 ∨ x.f0 = 9 ∨ x.f0 = 10 := by omega
      rcases this with k | k | k | k | k | k | k | k | k | k <;> rw [k] <;> decide
    unfold textN
    intro h
    exact hw (List.append_eq_nil_iff.1 h).1
set_option maxHeartbeats 8000000 in
set_option maxRecDepth 100000 in
theorem TextR_calls (n : Nat) (x : S25) (hg : Good n x) (A5 : Option Addr) (c5 : Nat) (A6 : Option Addr) (c6 : Nat) (A9 : Option Addr) (c9 : Nat) (w : World)
    (m5 : x.f5.length ≤ c5) (h5 : Kd.C (Kd.int .i64) w A5 x.f5.length x.f5) (m6 : x.f6.length ≤ c6) (h6 : Kd.C (Kd.int .i64) w A6 x.f6.length x.f6) (h9 : Kd.C k25 w A9 x.f9.length x.f9) (hlen : formedN n x 0 = true → (textN n x).length < 140737488355328) :
    Calls Tryd.prog 14 #[.agg #[.int .i64 x.f0, .int .i64 x.f1, .string x.f2, .string x.f3, .string x.f4, .slice A5 x.f5.length c5, .slice A6 x.f6.length c6, .int .i64 x.f7, .int .i64 x.f8, .slice A9 x.f9.length c9]] w fun e w' => e = .returned (.string (textS n x)) ∧ Below w.heap.size w w' := by
  have hu25 := Tryd.underlying25
  have HF := Aside0.mk (fun W (hW : Below w.heap.size w W) => FormedR_calls n x hg A5 c5 A6 c6 A9 c9 W (Kd.C_below h9 hW))
  have HW := Aside0.mk (fun (hf : formedN n x 0 = true) (W : World) (hW : Below w.heap.size w W) => writeR_calls n x hg 0 hf A5 c5 A6 c6 A9 c9 W m5 (Kd.C_below h5 hW) m6 (Kd.C_below h6 hW) (Kd.C_below h9 hW) (hlen hf))
  have hb0 : Below w.heap.size w (w.alloc (boxQ x A5 c5 A6 c6 A9 c9)) := below_alloc (Below.refl _ _) _
  have hk0 : (w.alloc (boxQ x A5 c5 A6 c6 A9 c9)).heap[w.heap.size]? = some (boxQ x A5 c5 A6 c6 A9 c9) := blk_new _ _
  clear hg h5 h6 h9 m5 m6 hlen
  go_enter Tryd.func14, Tryd.ntmps14
  go_wp2_with fail
  generalize w.alloc (boxQ x A5 c5 A6 c6 A9 c9) = W0 at *
  have HB := Aside0.mk hb0
  have BK := Aside0.mk hk0
  clear hb0 hk0
  refine (HF.out W0 HB.out).mono ?_
  rintro e W1 ⟨rfl, hB1⟩
  have bk1 := blk_below BK.out hB1
  have HB1 := Aside0.mk (below_then HB.out HB.out.size hB1)
  clear hB1 HF
  cases hf : formedN n x 0
  · clear bk1
    have HT := Aside0.mk (show textS n x = ⟨#[]⟩ by unfold textS; rw [hf]; rfl)
    clear hf HW
    go_wp2_with fail
    go_ret
    exact ⟨by rw [HT.out]; rfl, HB1.out⟩
  · have f0 := (blk_cell bk1 0).trans rfl
    have f1 := (blk_cell bk1 1).trans rfl
    have f2 := (blk_cell bk1 2).trans rfl
    have f3 := (blk_cell bk1 3).trans rfl
    have f4 := (blk_cell bk1 4).trans rfl
    have f5 := (blk_cell bk1 5).trans rfl
    have f6 := (blk_cell bk1 6).trans rfl
    have f7 := (blk_cell bk1 7).trans rfl
    have f8 := (blk_cell bk1 8).trans rfl
    have f9 := (blk_cell bk1 9).trans rfl
    have HT := Aside0.mk (show textS n x = mkS (toB (textN n x)) by unfold textS; rw [if_pos hf])
    have HWW := Aside0.mk (HW.out hf W1 HB1.out)
    have HNE := Aside0.mk (text_ne n x hf)
    clear hf HW bk1
    go_wp2_with fail
    refine HWW.out.mono ?_
    rintro e W2 ⟨v, rfl, ho, hb⟩
    have hcv := conv_back W2 v (textN n x) _ ho (isB_text n x) HNE.out
    have HB2 := Aside0.mk (below_then HB1.out HB1.out.size hb)
    clear ho hb HWW f0 f1 f2 f3 f4 f5 f6 f7 f8 f9
    go_wp2_with fail
    go_ret
    exact ⟨by rw [HT.out]; rfl, HB2.out⟩
end Go.Proofs.YteppilognoigjaaDoor.LQ
