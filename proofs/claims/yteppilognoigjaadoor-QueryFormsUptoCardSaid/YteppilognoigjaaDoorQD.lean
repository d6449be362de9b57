/- The walk of the program's write. -/
import Derived.Test.YteppilognoigjaaDoorQB
import Derived.Test.YteppilognoigjaaDoorQC
import Derived.Test.YteppilognoigjaaDoorFP
namespace Go.Proofs.YteppilognoigjaaDoor.LQ
open Go.RowKit Go.Proofs.YteppilognoigjaaDoorW.PrintWords Go.Proofs.YteppilognoigjaaDoorW.PrintLast Go.Proofs.YteppilognoigjaaDoorW.PrintMore Go.Proofs.YteppilognoigjaaDoor.PQueryForms Go.Proofs.YteppilognoigjaaDoor.QK
set_option linter.unusedVariables false
set_option linter.unusedSimpArgs false

def part1 (x : S25) : List (List Int) := if x.f0 = 9 then [numsS [x.f7]] else if x.f0 = 10 then [bytesOf (opW x.f8)] else []
def part2 (x : S25) : List (List Int) := part1 x ++ (if noS x.f2 = true then [] else [bytesOf x.f2])
def part3 (x : S25) : List (List Int) := if x.f0 = 6 then [quotedS x.f3, quotedS x.f4] else if x.f0 = 3 ∨ x.f0 = 4 ∨ x.f0 = 5 then [quotedS x.f3] else if x.f0 = 7 then [numsS x.f5, numsS x.f6] else if x.f0 = 10 then [numsS x.f5] else []
theorem own_split {x : S25} {u : Int} (h : ownS x u = true) : (1 ≤ x.f0 ∧ x.f0 ≤ 10) ∧ (fieldS x.f0 = nameS x.f2 ∧ (fieldS x.f0 = false → noS x.f2 = true)) ∧ (x.f0 = 10 → 0 ≤ x.f8 ∧ x.f8 ≤ 3) ∧ occS x u = true := by
  simp only [ownS, Bool.and_eq_true] at h
  obtain ⟨⟨⟨⟨⟨⟨⟨ho, hk⟩, hn⟩, ht⟩, hl⟩, hb⟩, hop⟩, hkd⟩ := h
  refine ⟨?_, ?_, ?_, ho⟩
  · simpa [kindS] using hk
  · simp only [nameOK, Bool.and_eq_true, beq_iff_eq, Bool.or_eq_true] at hn
    refine ⟨hn.1, fun hf => ?_⟩
    rcases hn.2 with h1 | h1
    · rw [hf] at h1; cases h1
    · exact h1
  · intro k
    unfold opS at hop
    rw [if_pos k] at hop
    simp only [Bool.and_eq_true, decide_eq_true_eq] at hop
    omega
theorem op_range {x : S25} {u : Int} (h : ownS x u = true) (k : x.f0 = 10) : 0 ≤ x.f8 ∧ x.f8 ≤ 3 := (own_split h).2.2.1 k
theorem name_some {x : S25} {u : Int} (h : ownS x u = true) (hf : fieldS x.f0 = true) : ¬ noS x.f2 = true := by
  intro h0
  have h1 := (own_split h).2.1.1
  rw [hf, name_of_no h0] at h1
  cases h1
theorem parts_eq {x : S25} {u : Int} (h : ownS x u = true) : partsS x = part2 x ++ part3 x := by
  have hk := (own_split h).1
  have hc : x.f0 = 1 ∨ x.f0 = 2 ∨ x.f0 = 3 ∨ x.f0 = 4 ∨ x.f0 = 5 ∨ x.f0 = 6 ∨ x.f0 = 7 ∨ x.f0 = 8 ∨ x.f0 = 9 ∨ x.f0 = 10 := by omega
  by_cases hf : fieldS x.f0 = true
  · have hn := name_some h hf
    unfold partsS part2 part1 part3
    rw [if_neg hn]
    rcases hc with k | k | k | k | k | k | k | k | k | k <;> first | (rw [k] at hf; exact absurd hf (by decide)) | simp [k]
  · have hn := (own_split h).2.1.2 (by simpa using hf)
    unfold partsS part2 part1 part3
    rw [if_pos hn]
    rcases hc with k | k | k | k | k | k | k | k | k | k <;> first | (rw [k] at hf; exact absurd rfl hf) | simp [k]
theorem pow_below {w W : World} (h : PowTab w) (hb : Below w.heap.size w W) : PowTab W := by
  obtain ⟨g, hg⟩ : ∃ g, Tryd.prog.globalNamed "internal/strconv.uint64pow10" = some g := by
    unfold PowTab Lib.TabIs World.var? at h
    cases hg : Tryd.prog.globalNamed "internal/strconv.uint64pow10" with
    | none => rw [hg] at h; cases h
    | some g => exact ⟨g, rfl⟩
  unfold PowTab Lib.TabIs World.var? at h ⊢
  rw [hg] at h ⊢
  simp only [Option.bind_some] at h ⊢
  have hlt : g < w.heap.size := by
    rcases Nat.lt_or_ge g w.heap.size with h' | h'
    · exact h'
    · rw [Array.getElem?_eq_none h'] at h; cases h
  rw [hb.block g hlt]
  exact h
theorem take_rdQ {l : List S25} {i : Int} (h0 : 0 ≤ i) (h : i < l.length) : l.take (i + 1).toNat = l.take i.toNat ++ [rd_T25 l i] := by
  have hl : i.toNat < l.length := by omega
  rw [show (i + 1).toNat = i.toNat + 1 by omega, List.take_succ_eq_append_getElem hl]
  unfold rd_T25
  rw [List.getD_eq_getElem?_getD, List.getElem?_eq_getElem hl]
  rfl
theorem occ_of {n : Nat} {x : S25} {u : Int} (h : formedN n x u = true) : occS x u = true := by
  cases n with
  | zero => cases h
  | succ n =>
    have : ownS x u = true := by simp only [formedN, Bool.and_eq_true] at h; exact h.1
    exact (own_split this).2.2.2
theorem prefix_len {l L : List (List Int)} (h : l <+: L) : (sepS l).length ≤ (sepS L).length := by
  obtain ⟨r, rfl⟩ := h
  exact sepS_app_le r l
set_option maxHeartbeats 8000000 in
set_option maxRecDepth 100000 in
theorem write_step (n : Nat) (hW : WriteAt n) : WriteAt (n + 1) := by
  intro x hg u hf A5 c5 A6 c6 A9 c9 B b bs w0 w h0B hbw h5 h6 h9 ht hbl hBw hb hlen
  have hu25 := Tryd.underlying25
  have hff : ownS x u = true ∧ ∀ k ∈ x.f9, formedN n k x.f0 = true := by simpa only [formedN, Bool.and_eq_true, List.all_eq_true] using hf
  obtain ⟨how, hkf⟩ := hff
  obtain ⟨⟨ka, kb⟩, -, -, hocc⟩ := own_split how
  obtain ⟨KT, hKT⟩ : ∃ l : List (List Int), l = x.f9.map fun k => markS k.f1 ++ textN n k := ⟨_, rfl⟩
  have htx : textN (n + 1) x = bytesOf (wordS x.f0) ++ (if x.f0 = 1 ∨ x.f0 = 2 then [] else [40] ++ sepS (partsS x ++ KT) ++ [41]) := by rw [hKT]; rfl
  rw [htx] at hlen
  have HO := Aside0.mk (fun V => word_calls x.f0 (by omega) (by omega) V)
  have HWS := Aside0.mk (fun (V : World) (h : Bld B b bs V) (hB : B ≤ V.heap.size) => wstr_calls B b bs (wordS x.f0) V h (by simp only [List.length_append] at hlen; rw [bytesOf_length] at hlen; omega) hB)
  have HLN := Aside0.mk hlen
  have HTX := Aside0.mk htx
  have HKT := Aside0.mk hKT
  have HKF := Aside0.mk hkf
  have HOW := Aside0.mk how
  have HG := Aside0.mk hg
  have HIH := Aside0.mk hW
  have H0 := Aside0.mk (And.intro h0B hbw)
  have H59 := Aside0.mk (And.intro h5 (And.intro h6 (And.intro h9 ht)))
  have HB := Aside0.mk hb
  have hz0 : B ≤ w.heap.size ∧ b < w.heap.size := ⟨hBw, hbl⟩
  have HZ := Aside0.mk hz0
  clear hlen htx hKT hkf how hg hW h0B hbw h5 h6 h9 ht hb hf hz0 hBw hbl
  go_enter Tryd.func26, Tryd.ntmps26
  go_upto_region 1 with fail
  have hbb0 : ((w.alloc (boxB b)).alloc (boxQ x A5 c5 A6 c6 A9 c9)).heap[w.heap.size]? = some (boxB b) := blk_alloc (blk_new _ _) _
  have hqb0 : ((w.alloc (boxB b)).alloc (boxQ x A5 c5 A6 c6 A9 c9)).heap[w.heap.size + 1]? = some (boxQ x A5 c5 A6 c6 A9 c9) := by
    have := blk_new (w.alloc (boxB b)) (boxQ x A5 c5 A6 c6 A9 c9)
    rwa [World.size_alloc] at this
  have hz1 : ((w.alloc (boxB b)).alloc (boxQ x A5 c5 A6 c6 A9 c9)).heap.size = w.heap.size + 2 := by rw [World.size_alloc, World.size_alloc]
  have hst0 : Stays B b w ((w.alloc (boxB b)).alloc (boxQ x A5 c5 A6 c6 A9 c9)) := (stays_alloc HZ.out.1 _).trans (stays_alloc (by rw [World.size_alloc]; have := HZ.out.1; omega) _)
  have hbd0 : Bld B b bs ((w.alloc (boxB b)).alloc (boxQ x A5 c5 A6 c6 A9 c9)) := bld_alloc (bld_alloc HB.out _) _
  generalize (w.alloc (boxB b)).alloc (boxQ x A5 c5 A6 c6 A9 c9) = W0 at *
  have g0 : W0.cell? ⟨w.heap.size, 0, none⟩ = some (.pointer (some ⟨b, 0, none⟩)) := (blk_cell hbb0 0).trans rfl
  have g1 : W0.cell? ⟨w.heap.size + 1, 0, none⟩ = some (.int .i64 x.f0) := (blk_cell hqb0 0).trans rfl
  have HW0 := Aside0.mk (And.intro hbb0 (And.intro hqb0 (And.intro hz1 (And.intro hst0 hbd0))))
  clear hbb0 hqb0 hz1 hst0 hbd0
  go_cut [8] (fun v8 wc => Aside0 (Bld B b (bs ++ c8 (bytesOf (wordS x.f0))) wc ∧ Stays B b W0 wc))
  case first =>
    as_aux_lemma =>
      have HWD := Aside0.mk (HWS.out W0.drew HW0.out.2.2.2.2 (by show B ≤ W0.heap.size; have := HW0.out.2.2.1; have := HZ.out.1; omega))
      go_region_with (first
        | (go_at_call 41; refine (HO.out _).mono ?_; rintro e w' ⟨rfl, rfl⟩)
        | (go_at_call 40; refine HWD.out.mono ?_; rintro e w' ⟨rfl, h⟩; have HE := Aside0.mk h; clear h))
      all_goals
        have HF := Aside0.mk (show Bld B b (bs ++ c8 (bytesOf (wordS x.f0))) w' ∧ Stays B b W0 w' from ⟨by have := HE.out.1; rw [c8_str] at this; exact this, (stays_drew B b W0).trans HE.out.stays⟩)
        go_wp2_with fail
        go_meet
        exact HF
  case rest =>
  obtain ⟨W1, rfl⟩ : ∃ W1 : World, W1 = wc := ⟨_, rfl⟩
  have HW1 := hcut
  clear hcut g0 g1 HWS
  have hbb1 : W1.heap[w.heap.size]? = some (boxB b) := HW1.out.2.blk HW0.out.1 (by have := HZ.out.2; omega) (by decide)
  have hqb1 : W1.heap[w.heap.size + 1]? = some (boxQ x A5 c5 A6 c6 A9 c9) := HW1.out.2.blk HW0.out.2.1 (by have := HZ.out.2; omega) (by decide)
  have hz1 : w.heap.size + 2 ≤ W1.heap.size := by have := HW1.out.2.1.size; have := HW0.out.2.2.1; omega
  have g0 : W1.cell? ⟨w.heap.size, 0, none⟩ = some (.pointer (some ⟨b, 0, none⟩)) := (blk_cell hbb1 0).trans rfl
  have g1 : W1.cell? ⟨w.heap.size + 1, 0, none⟩ = some (.int .i64 x.f0) := (blk_cell hqb1 0).trans rfl
  by_cases k12 : x.f0 = 1 ∨ x.f0 = 2
  · as_aux_lemma =>
      have hfin : Wrote B b (bs ++ c8 (textN (n + 1) x)) w W1 := by
        rw [HTX.out, if_pos k12, List.append_nil]
        exact ⟨HW1.out.1, (HW0.out.2.2.2.1.trans HW1.out.2).1, (HW0.out.2.2.2.1.trans HW1.out.2).2⟩
      have HFIN := Aside0.mk hfin
      clear hfin hbb1 hqb1
      rcases k12 with k | k
      all_goals
        go_wp2_with fail
        refine bodyPost_ret (results_none rfl _ _ _) rfl ?_
        exact ⟨rfl, HFIN.out⟩
  have hl : bs.length + ((bytesOf (wordS x.f0)).length + (1 + (sepS (partsS x ++ KT)).length + 1)) ≤ 140737488355328 := by
    have := HLN.out
    rw [if_neg k12] at this
    simp only [List.length_append, List.length_singleton] at this
    omega
  have HT2 := Aside0.mk (show textN (n + 1) x = bytesOf (wordS x.f0) ++ ([40] ++ sepS (partsS x ++ KT) ++ [41]) by rw [HTX.out, if_neg k12])
  have e1 : (x.f0 == 1) = false := by rw [beq_eq_false_iff_ne]; omega
  have e2 : (x.f0 == 2) = false := by rw [beq_eq_false_iff_ne]; omega
  have hWb := fun (V : World) (h : Bld B b (bs ++ c8 (bytesOf (wordS x.f0))) V) (hB : B ≤ V.heap.size) => wbyte_calls B b (bs ++ c8 (bytesOf (wordS x.f0))) 40 V h (by rw [List.length_append, c8_length]; omega) hB
  have hal : Bld B b (bs ++ c8 (bytesOf (wordS x.f0))) (W1.alloc (.cells #[.int .i64 0] 3)) := bld_alloc HW1.out.1 _
  have hbz : B ≤ W1.heap.size := by have := HZ.out.1; omega
  have HWB := Aside0.mk (hWb _ hal (by rw [World.size_alloc]; omega))
  have HL := Aside0.mk hl
  have HQ1 := Aside0.mk (And.intro hbb1 hqb1)
  have HZ1 := Aside0.mk hz1
  have HBZ := Aside0.mk hbz
  have ga0 : (W1.alloc (.cells #[.int .i64 0] 3)).cell? ⟨w.heap.size, 0, none⟩ = some (.pointer (some ⟨b, 0, none⟩)) := (blk_cell (blk_alloc hbb1 _) 0).trans rfl
  clear hWb hal hl hbb1 hqb1 hz1 hbz k12
  go_wp2_with fail
  refine HWB.out.mono ?_
  rintro e X0 ⟨rfl, hX0⟩
  obtain ⟨cn, hcn⟩ : ∃ cn, cn = W1.heap.size := ⟨_, rfl⟩
  obtain ⟨bb, hbbn⟩ : ∃ bb, bb = w.heap.size := ⟨_, rfl⟩
  obtain ⟨qb, hqbn⟩ : ∃ qb, qb = w.heap.size + 1 := ⟨_, rfl⟩
  obtain ⟨pre, hpre⟩ : ∃ p, p = bs ++ c8 (bytesOf (wordS x.f0)) ++ c8 [40] := ⟨_, rfl⟩
  have hK : Blocks B b bb qb cn W1 := by
    have := HZ.out; have := HZ1.out; have := HBZ.out
    exact ⟨by omega, by omega, by omega, by omega, by omega, by omega, by omega, by omega⟩
  have hst : Stays B b W1 X0 := (stays_alloc HBZ.out _).trans hX0.stays
  have hS0 : St x A5 c5 A6 c6 A9 c9 B b bb qb cn pre W1 [] X0 := by
    refine ⟨?_, ?_, ?_, ?_, hst⟩
    · have := hX0.1
      simp only [sepS, c8, List.map_nil, List.append_nil, hpre, List.map_cons]
      exact this
    · rw [hcn]
      exact hX0.stays.blk (blk_new W1 _) (by have := hK.cb; omega) (by decide)
    · rw [hbbn]
      exact hst.blk HQ1.out.1 (by have := hK.bb'; omega) (by decide)
    · rw [hqbn]
      exact hst.blk HQ1.out.2 (by have := hK.qb'; omega) (by decide)
  have HS0 := Aside0.mk hS0
  have HK := Aside0.mk hK
  rw [← hcn, ← hqbn, ← hbbn]
  have HP := Aside0.mk hpre
  have HST1 := Aside0.mk (HW0.out.2.2.2.1.trans HW1.out.2)
  have HP3 := Aside0.mk (parts_eq HOW.out)
  have HP2 := Aside0.mk (show part2 x = part1 x ++ (if noS x.f2 = true then [] else [bytesOf x.f2]) from rfl)
  have HNL := Aside0.mk (fun (l : List (List Int)) (h : l <+: partsS x ++ KT) => (show (l.length : Int) ≤ 9000000000000000000 by
    have h1 := h.length_le
    have h2 : (partsS x).length ≤ 3 := by unfold partsS; (repeat' split) <;> simp
    have h3 : KT.length = x.f9.length := by rw [HKT.out, List.length_map]
    have h4 := HG.out.2.2.2.2.2.2.2.2.2.1
    rw [List.length_append] at h1
    omega))
  have HLP := Aside0.mk (fun (l : List (List Int)) (h : l <+: partsS x ++ KT) => (show pre.length + (sepS l).length ≤ 140737488355328 by
    have h1 := prefix_len h
    have h2 := HL.out
    rw [HP.out, List.length_append, List.length_append, c8_length, c8_length]
    simp only [List.length_singleton]
    omega))
  have HT := Aside0.mk (fun (V : World) (hV : Stays B b W1 V) => pow_below H59.out.2.2.2 (H0.out.2.trans (below_low (HST1.out.trans hV).1 H0.out.1)))
  have H5 := Aside0.mk (fun (V : World) (hV : Stays B b W1 V) => Kd.C_below H59.out.1 (H0.out.2.trans (below_low (HST1.out.trans hV).1 H0.out.1)))
  have H6 := Aside0.mk (fun (V : World) (hV : Stays B b W1 V) => Kd.C_below H59.out.2.1 (H0.out.2.trans (below_low (HST1.out.trans hV).1 H0.out.1)))
  have H9 := Aside0.mk (fun (V : World) (hV : Stays B b W1 V) => Kd.C_below H59.out.2.2.1 (H0.out.2.trans (below_low (HST1.out.trans hV).1 H0.out.1)))
  clear hcn hbbn hqbn hpre hK hst hS0 hX0 HWB HQ1 ga0 g0 g1 e1 e2
  have y0 : X0.cell? ⟨qb, 0, none⟩ = some (.int .i64 x.f0) := (blk_cell HS0.out.q 0).trans rfl
  go_upto_block 0 with fail
  go_cut [1, 25] (fun v1 v25 wc => Aside0 (St x A5 c5 A6 c6 A9 c9 B b bb qb cn pre W1 (part1 x) wc))
  case first =>
    by_cases k9 : x.f0 = 9
    · as_aux_lemma =>
        have HPS := Aside0.mk (show part1 x = [] ++ [numsS [x.f7]] by unfold part1; simp [k9])
        have hS := part_step x A5 c5 A6 c6 A9 c9 B b bb qb cn pre 44 #[.pointer (some ⟨bb, 0, none⟩), .pointer (some ⟨qb, 0, none⟩)] (numsS [x.f7]) W1 ([]) X0 HK.out HS0.out (fun args w => by simp) (HNL.out ([]) (by rw [HP3.out, HP2.out, HPS.out]; simp)) (HLP.out ([] ++ [numsS [x.f7]]) (by rw [HP3.out, HP2.out, HPS.out]; simp)) (fun V hV hVC h1 h2 => w2_calls x A5 c5 A6 c6 A9 c9 B b bb qb V h1 h2 (by have := hV.1.size; have := HK.out.bW; omega) (by have := hV.1.size; have := HK.out.bl; omega) HG.out.2.2.2.2.2.2.2.1 (fun U hU => HT.out U (hV.trans hU)))
        have HC := Aside0.mk hS
        clear hS
        go_wp2_with fail
        refine HC.out.mono ?_
        rintro e X1 ⟨rfl, hX1⟩
        have HS1 := Aside0.mk hX1
        clear hX1 HC
        go_wp2_with fail
        go_meet
        exact (by rw [HPS.out]; exact HS1)
    by_cases k10 : x.f0 = 10
    · as_aux_lemma =>
        have HPS := Aside0.mk (show part1 x = [] ++ [bytesOf (opW x.f8)] by unfold part1; simp [k10])
        obtain ⟨o1, o2⟩ := op_range HOW.out k10
        have hS := part_step x A5 c5 A6 c6 A9 c9 B b bb qb cn pre 46 #[.pointer (some ⟨bb, 0, none⟩), .pointer (some ⟨qb, 0, none⟩)] (bytesOf (opW x.f8)) W1 ([]) X0 HK.out HS0.out (fun args w => by simp) (HNL.out ([]) (by rw [HP3.out, HP2.out, HPS.out]; simp)) (HLP.out ([] ++ [bytesOf (opW x.f8)]) (by rw [HP3.out, HP2.out, HPS.out]; simp)) (fun V hV hVC h1 h2 => w3_calls x A5 c5 A6 c6 A9 c9 B b bb qb V h1 h2 (by have := hV.1.size; have := HK.out.bW; omega) o1 o2)
        have HC := Aside0.mk hS
        clear hS
        go_wp2_with fail
        refine HC.out.mono ?_
        rintro e X1 ⟨rfl, hX1⟩
        have HS1 := Aside0.mk hX1
        clear hX1 HC
        go_wp2_with fail
        go_meet
        exact (by rw [HPS.out]; exact HS1)
    as_aux_lemma =>
      have HPS := Aside0.mk (show part1 x = [] by unfold part1; simp [k9, k10])
      have e9 : (x.f0 == 9) = false := by rw [beq_eq_false_iff_ne]; omega
      have e10 : (x.f0 == 10) = false := by rw [beq_eq_false_iff_ne]; omega
      go_wp2_with fail
      go_meet
      exact (by rw [HPS.out]; exact HS0)
  case rest =>
  obtain ⟨Y1, rfl⟩ : ∃ Y : World, Y = wc := ⟨_, rfl⟩
  have HS1 := hcut
  clear hcut HS0 y0
  have y0 : Y1.cell? ⟨qb, 0, none⟩ = some (.int .i64 x.f0) := (blk_cell HS1.out.q 0).trans rfl
  have y2 : Y1.cell? ⟨qb, 2, none⟩ = some (.string x.f2) := (blk_cell HS1.out.q 2).trans rfl
  go_upto_if 38 with fail
  go_cut [1, 25] (fun v1 v25 wc => Aside0 (St x A5 c5 A6 c6 A9 c9 B b bb qb cn pre W1 (part2 x) wc))
  case first =>
    by_cases kn : noS x.f2 = true
    · as_aux_lemma =>
        have n2 : (!x.f2.toList.isEmpty) = false := by have h : x.f2.toList.isEmpty = true := kn; rw [h]; rfl
        have n3 : x.f2.toList.isEmpty = true := kn
        have n4 : x.f2.toList = [] := by simpa using n3
        have HPS := Aside0.mk (show part2 x = part1 x by unfold part2; rw [if_pos kn, List.append_nil])
        rw [n2]
        clear kn n2 n3 n4
        go_wp2_with fail
        go_meet
        exact (by rw [HPS.out]; exact HS1)
    · as_aux_lemma =>
        have n2 : (!x.f2.toList.isEmpty) = true := by unfold noS at kn; rw [Bool.not_eq_true] at kn; rw [kn]; rfl
        have n3 : x.f2.toList.isEmpty = false := by unfold noS at kn; simpa using kn
        have n4 : ¬ x.f2.toList = [] := by simpa using n3
        have HPS := Aside0.mk (show part2 x = part1 x ++ [bytesOf x.f2] by unfold part2; rw [if_neg kn])
        rw [n2]
        clear kn n2 n3 n4
        have hS := part_step x A5 c5 A6 c6 A9 c9 B b bb qb cn pre 48 #[.pointer (some ⟨bb, 0, none⟩), .pointer (some ⟨qb, 0, none⟩)] (bytesOf x.f2) W1 (part1 x) Y1 HK.out HS1.out (fun args w => by simp) (HNL.out (part1 x) (by rw [HP3.out, HPS.out]; simp)) (HLP.out (part1 x ++ [bytesOf x.f2]) (by rw [HP3.out, HPS.out]; simp)) (fun V hV hVC h1 h2 => w4_calls x A5 c5 A6 c6 A9 c9 B b bb qb V h1 h2 (by have := hV.1.size; have := HK.out.bW; omega))
        have HC := Aside0.mk hS
        clear hS
        go_wp2_with fail
        refine HC.out.mono ?_
        rintro e X1 ⟨rfl, hX1⟩
        have HS1 := Aside0.mk hX1
        clear hX1 HC
        go_wp2_with fail
        go_meet
        exact (by rw [HPS.out]; exact HS1)
  case rest =>
  obtain ⟨Y2, rfl⟩ : ∃ Y : World, Y = wc := ⟨_, rfl⟩
  have HS2 := hcut
  clear hcut HS1 y0 y2
  have y0 : Y2.cell? ⟨qb, 0, none⟩ = some (.int .i64 x.f0) := (blk_cell HS2.out.q 0).trans rfl
  go_upto_block 1 with fail
  go_cut [1, 43] (fun v1 v43 wc => Aside0 (St x A5 c5 A6 c6 A9 c9 B b bb qb cn pre W1 (partsS x) wc))
  case first =>
    by_cases k6 : x.f0 = 6
    · as_aux_lemma =>
        have HPS := Aside0.mk (show part3 x = [] ++ [quotedS x.f3] ++ [quotedS x.f4] by unfold part3; simp [k6])
        have hS := part_step x A5 c5 A6 c6 A9 c9 B b bb qb cn pre 49 #[.pointer (some ⟨bb, 0, none⟩), .pointer (some ⟨qb, 0, none⟩)] (quotedS x.f3) W1 (part2 x) Y2 HK.out HS2.out (fun args w => by simp) (HNL.out (part2 x) (by rw [HP3.out, HPS.out]; simp)) (HLP.out (part2 x ++ [quotedS x.f3]) (by rw [HP3.out, HPS.out]; simp)) (fun V hV hVC h1 h2 => w5_calls x A5 c5 A6 c6 A9 c9 B b bb qb V h1 h2 (by have := hV.1.size; have := HK.out.bW; omega) (by have := HG.out.2.2.2.1; omega))
        have HC := Aside0.mk hS
        clear hS
        go_wp2_with fail
        refine HC.out.mono ?_
        rintro e X1 ⟨rfl, hX1⟩
        have HS1 := Aside0.mk hX1
        clear hX1 HC
        have hS := part_step x A5 c5 A6 c6 A9 c9 B b bb qb cn pre 51 #[.pointer (some ⟨bb, 0, none⟩), .pointer (some ⟨qb, 0, none⟩)] (quotedS x.f4) W1 (part2 x ++ [quotedS x.f3]) X1 HK.out HS1.out (fun args w => by simp) (HNL.out (part2 x ++ [quotedS x.f3]) (by rw [HP3.out, HPS.out]; simp)) (HLP.out (part2 x ++ [quotedS x.f3] ++ [quotedS x.f4]) (by rw [HP3.out, HPS.out]; simp)) (fun V hV hVC h1 h2 => w6_calls x A5 c5 A6 c6 A9 c9 B b bb qb V h1 h2 (by have := hV.1.size; have := HK.out.bW; omega) (by have := HG.out.2.2.2.2.1; omega))
        have HC := Aside0.mk hS
        clear hS
        go_wp2_with fail
        refine HC.out.mono ?_
        rintro e X2 ⟨rfl, hX2⟩
        have HS2 := Aside0.mk hX2
        clear hX2 HC
        go_wp2_with fail
        go_meet
        exact (by rw [HP3.out, HPS.out, List.nil_append, ← List.append_assoc]; exact HS2)
    by_cases k345 : x.f0 = 3 ∨ x.f0 = 4 ∨ x.f0 = 5
    · as_aux_lemma =>
        have HPS := Aside0.mk (show part3 x = [] ++ [quotedS x.f3] by unfold part3; simp [k6, k345])
        rcases k345 with k | k | k
        all_goals
          have hS := part_step x A5 c5 A6 c6 A9 c9 B b bb qb cn pre 52 #[.pointer (some ⟨bb, 0, none⟩), .pointer (some ⟨qb, 0, none⟩)] (quotedS x.f3) W1 (part2 x) Y2 HK.out HS2.out (fun args w => by simp) (HNL.out (part2 x) (by rw [HP3.out, HPS.out]; simp)) (HLP.out (part2 x ++ [quotedS x.f3]) (by rw [HP3.out, HPS.out]; simp)) (fun V hV hVC h1 h2 => w7_calls x A5 c5 A6 c6 A9 c9 B b bb qb V h1 h2 (by have := hV.1.size; have := HK.out.bW; omega) (by have := HG.out.2.2.2.1; omega))
          have HC := Aside0.mk hS
          clear hS
          go_wp2_with fail
          refine HC.out.mono ?_
          rintro e X1 ⟨rfl, hX1⟩
          have HS1 := Aside0.mk hX1
          clear hX1 HC
          go_wp2_with fail
          go_meet
          exact (by rw [HP3.out, HPS.out, List.nil_append]; exact HS1)
    by_cases k7 : x.f0 = 7
    · as_aux_lemma =>
        have HPS := Aside0.mk (show part3 x = [] ++ [numsS x.f5] ++ [numsS x.f6] by unfold part3; simp [k6, k345, k7])
        have hS := part_step x A5 c5 A6 c6 A9 c9 B b bb qb cn pre 53 #[.pointer (some ⟨bb, 0, none⟩), .pointer (some ⟨qb, 0, none⟩)] (numsS x.f5) W1 (part2 x) Y2 HK.out HS2.out (fun args w => by simp) (HNL.out (part2 x) (by rw [HP3.out, HPS.out]; simp)) (HLP.out (part2 x ++ [numsS x.f5]) (by rw [HP3.out, HPS.out]; simp)) (fun V hV hVC h1 h2 => w8_calls x A5 c5 A6 c6 A9 c9 B b bb qb V h1 h2 (by have := hV.1.size; have := HK.out.bW; omega) HG.out.2.2.2.2.2.1.2 (fun U hU => H5.out U (hV.trans hU)) (fun U hU => HT.out U (hV.trans hU)))
        have HC := Aside0.mk hS
        clear hS
        go_wp2_with fail
        refine HC.out.mono ?_
        rintro e X1 ⟨rfl, hX1⟩
        have HS1 := Aside0.mk hX1
        clear hX1 HC
        have hS := part_step x A5 c5 A6 c6 A9 c9 B b bb qb cn pre 54 #[.pointer (some ⟨bb, 0, none⟩), .pointer (some ⟨qb, 0, none⟩)] (numsS x.f6) W1 (part2 x ++ [numsS x.f5]) X1 HK.out HS1.out (fun args w => by simp) (HNL.out (part2 x ++ [numsS x.f5]) (by rw [HP3.out, HPS.out]; simp)) (HLP.out (part2 x ++ [numsS x.f5] ++ [numsS x.f6]) (by rw [HP3.out, HPS.out]; simp)) (fun V hV hVC h1 h2 => w9_calls x A5 c5 A6 c6 A9 c9 B b bb qb V h1 h2 (by have := hV.1.size; have := HK.out.bW; omega) HG.out.2.2.2.2.2.2.1.2 (fun U hU => H6.out U (hV.trans hU)) (fun U hU => HT.out U (hV.trans hU)))
        have HC := Aside0.mk hS
        clear hS
        go_wp2_with fail
        refine HC.out.mono ?_
        rintro e X2 ⟨rfl, hX2⟩
        have HS2 := Aside0.mk hX2
        clear hX2 HC
        go_wp2_with fail
        go_meet
        exact (by rw [HP3.out, HPS.out, List.nil_append, ← List.append_assoc]; exact HS2)
    by_cases k10 : x.f0 = 10
    · as_aux_lemma =>
        have HPS := Aside0.mk (show part3 x = [] ++ [numsS x.f5] by unfold part3; simp [k6, k345, k7, k10])
        have hS := part_step x A5 c5 A6 c6 A9 c9 B b bb qb cn pre 55 #[.pointer (some ⟨bb, 0, none⟩), .pointer (some ⟨qb, 0, none⟩)] (numsS x.f5) W1 (part2 x) Y2 HK.out HS2.out (fun args w => by simp) (HNL.out (part2 x) (by rw [HP3.out, HPS.out]; simp)) (HLP.out (part2 x ++ [numsS x.f5]) (by rw [HP3.out, HPS.out]; simp)) (fun V hV hVC h1 h2 => w10_calls x A5 c5 A6 c6 A9 c9 B b bb qb V h1 h2 (by have := hV.1.size; have := HK.out.bW; omega) HG.out.2.2.2.2.2.1.2 (fun U hU => H5.out U (hV.trans hU)) (fun U hU => HT.out U (hV.trans hU)))
        have HC := Aside0.mk hS
        clear hS
        go_wp2_with fail
        refine HC.out.mono ?_
        rintro e X1 ⟨rfl, hX1⟩
        have HS1 := Aside0.mk hX1
        clear hX1 HC
        go_wp2_with fail
        go_meet
        exact (by rw [HP3.out, HPS.out, List.nil_append]; exact HS1)
    as_aux_lemma =>
      have HPS := Aside0.mk (show part3 x = [] by unfold part3; simp [k6, k345, k7, k10])
      have e3 : (x.f0 == 3) = false := by rw [beq_eq_false_iff_ne]; omega
      have e4 : (x.f0 == 4) = false := by rw [beq_eq_false_iff_ne]; omega
      have e5 : (x.f0 == 5) = false := by rw [beq_eq_false_iff_ne]; omega
      have e6 : (x.f0 == 6) = false := by rw [beq_eq_false_iff_ne]; omega
      have e7 : (x.f0 == 7) = false := by rw [beq_eq_false_iff_ne]; omega
      have e10 : (x.f0 == 10) = false := by rw [beq_eq_false_iff_ne]; omega
      go_wp2_with fail
      go_meet
      exact (by rw [HP3.out, HPS.out, List.append_nil]; exact HS2)
  case rest =>
  obtain ⟨W3, rfl⟩ : ∃ Y : World, Y = wc := ⟨_, rfl⟩
  have HS3 := hcut
  clear hcut HS2 y0
  have y9 : W3.cell? ⟨qb, 9, none⟩ = some (.slice A9 x.f9.length c9) := (blk_cell HS3.out.q 9).trans rfl
  have hi0 : Aside0 (St x A5 c5 A6 c6 A9 c9 B b bb qb cn pre W1 (partsS x ++ KT.take (0 : Int).toNat) W3) := ⟨by simpa using HS3.out⟩
  have HL9 := (H9.out W1 (Stays.refl _ _ _)).2.1
  clear HS3
  go_wp2_with fail
  go_loopg [75] x.f9.length (fun kq v75 wr => ∃ i : Int, v75 = .int .i64 i ∧ 0 ≤ i ∧ i ≤ x.f9.length ∧ Aside0 (kq + i = x.f9.length) ∧ Aside0 (St x A5 c5 A6 c6 A9 c9 B b bb qb cn pre W1 (partsS x ++ KT.take i.toNat) wr))
  case atStart => exact ⟨0, rfl, by decide, by omega, ⟨by omega⟩, hi0⟩
  case round =>
    clear hi0 y9
    obtain ⟨i, rfl, h0, h1, hk, hst⟩ := hrel
    by_cases cc : i < x.f9.length
    · obtain ⟨ad, E5, e5, E6, e6, E9, e9', ea, g0, g1, g2, g3, g4, g5, g6, g7, g8, g9, m5, r5, m6, r6, m9, r9⟩ := at_T25 H59.out.2.2.1 i h0 cc
      have hB0 : Below w0.heap.size w0 wr := H0.out.2.trans (below_low (HST1.out.trans hst.out.stays).1 H0.out.1)
      replace g0 := pw_cell_below hB0 g0
      replace g1 := pw_cell_below hB0 g1
      replace g2 := pw_cell_below hB0 g2
      replace g3 := pw_cell_below hB0 g3
      replace g4 := pw_cell_below hB0 g4
      replace g5 := pw_cell_below hB0 g5
      replace g6 := pw_cell_below hB0 g6
      replace g7 := pw_cell_below hB0 g7
      replace g8 := pw_cell_below hB0 g8
      replace g9 := pw_cell_below hB0 g9
      subst ea
      obtain ⟨y, hy⟩ : ∃ y, y = rd_T25 x.f9 i := ⟨_, rfl⟩
      have hym : y ∈ x.f9 := by rw [hy]; exact rd_mem h0 cc
      rw [← hy] at g0 g1 g2 g3 g4 g5 g6 g7 g8 g9 r5 r6 r9
      have hgy := HG.out.2.2.2.2.2.2.2.2.2.2 y hym
      have hfy := HKF.out y hym
      have hbz : B ≤ wr.heap.size := by have := hst.out.stays.1.size; have := HK.out.bW; omega
      have hblz : b < wr.heap.size := by have := hst.out.stays.1.size; have := HK.out.bl; omega
      have hcz : cn < wr.heap.size := blk_lt hst.out.cnt
      have hnx : partsS x ++ KT.take (i + 1).toNat = (partsS x ++ KT.take i.toNat) ++ [markS y.f1 ++ textN n y] := by
        rw [List.append_assoc]
        congr 1
        rw [HKT.out, ← List.map_take, ← List.map_take, take_rdQ h0 cc, ← hy, List.map_append]
        rfl
      have hpl : (partsS x ++ KT.take i.toNat) ++ [markS y.f1 ++ textN n y] <+: partsS x ++ KT := by
        rw [← hnx]
        exact (List.prefix_append_right_inj _).2 (List.take_prefix _ _)
      have hpl0 : partsS x ++ KT.take i.toNat <+: partsS x ++ KT := (List.prefix_append_right_inj _).2 (List.take_prefix _ _)
      have hS := part_step x A5 c5 A6 c6 (some ad) c9 B b bb qb cn pre 56 #[.pointer (some ⟨wr.heap.size, 0, none⟩), .pointer (some ⟨bb, 0, none⟩)] (markS y.f1 ++ textN n y) W1 (partsS x ++ KT.take i.toNat) (wr.alloc (boxQ y E5 e5 E6 e6 E9 e9')) HK.out
        (hst.out.alloc x A5 c5 A6 c6 (some ad) c9 B b bb qb cn pre hbz _) (fun args w => by simp) (HNL.out _ hpl0) (HLP.out _ hpl) (fun V hV hVC h1 h2 => w11_calls n HIH.out y hgy x.f0 hfy (occ_of hfy) E5 e5 E6 e6 E9 e9' B b bb wr.heap.size w0 V H0.out.1
          (H0.out.2.trans (below_low (HST1.out.trans hV).1 H0.out.1)) r5 r6 r9 H59.out.2.2.2 (by have := hV.1.size; have := HK.out.bl; omega) (by have := hV.1.size; have := HK.out.bW; omega) (by omega) HK.out.bb' h1 (hVC.blk (blk_new wr _) (by omega) (by omega) (by decide)))
      have HC := Aside0.mk hS
      have HNX := Aside0.mk hnx
      clear hS hnx hpl hpl0 hgy hfy hym hy hB0 r5 r6 r9 m5 m6 m9 hst hbz hblz hcz
      go_wp2_with fail
      refine HC.out.mono ?_
      rintro e X1 ⟨rfl, hX1⟩
      have HS1 : Aside0 (St x A5 c5 A6 c6 (some ad) c9 B b bb qb cn pre W1 (partsS x ++ KT.take (i + 1).toNat) X1) := ⟨by rw [HNX.out]; exact hX1⟩
      clear hX1 HC
      go_wp2_with fail
      obtain ⟨k, rfl⟩ : ∃ m, gk = m + 1 := ⟨gk - 1, by have := hk.out; omega⟩
      go_roundg k
      case measure => omega
      case rel => exact ⟨i + 1, by first | rfl | go_num, by omega, by omega, ⟨by have := hk.out; omega⟩, HS1⟩
    · have he : partsS x ++ KT.take i.toNat = partsS x ++ KT := by
        rw [List.take_of_length_le]
        rw [HKT.out, List.length_map]
        omega
      have hS := hst.out
      rw [he] at hS
      have hg0 : wr.cell? ⟨bb, 0, none⟩ = some (.pointer (some ⟨b, 0, none⟩)) := (blk_cell hS.box 0).trans rfl
      have hbz : B ≤ wr.heap.size := by have := hS.stays.1.size; have := HK.out.bW; omega
      have hWe := wbyte_calls B b (pre ++ c8 (sepS (partsS x ++ KT))) 41 wr hS.bld (by rw [HP.out]; simp only [List.length_append, c8_length, List.length_singleton]; have := HL.out; omega) hbz
      have HWE := Aside0.mk hWe
      have HS := Aside0.mk hS
      clear hWe hS he hst hbz
      go_wp2_with fail
      refine HWE.out.mono ?_
      rintro e X1 ⟨rfl, hX1⟩
      have HE := Aside0.mk hX1
      clear hX1 HWE
      go_wp2_with fail
      go_end0
      refine ⟨rfl, ?_, ((HST1.out.trans HS.out.stays).trans HE.out.stays).1, ((HST1.out.trans HS.out.stays).trans HE.out.stays).2⟩
      have := HE.out.1
      rw [HP.out] at this
      rw [HT2.out]
      simp only [c8_append, List.append_assoc] at this ⊢
      exact this
theorem write_calls : ∀ n, WriteAt n
  | 0 => fun x h => h.elim
  | n + 1 => write_step n (write_calls n)
end Go.Proofs.YteppilognoigjaaDoor.LQ
