/- The walk of the reference's write. -/
import Derived.Test.YteppilognoigjaaDoorQE
import Derived.Test.YteppilognoigjaaDoorQG
import Derived.Deep.RegionHeldLaw
namespace Go.Proofs.YteppilognoigjaaDoor.LQ
open Go.RowKit Go.Proofs.YteppilognoigjaaDoorW.PrintWords Go.Proofs.YteppilognoigjaaDoorW.PrintLast Go.Proofs.YteppilognoigjaaDoorW.PrintMore Go.Proofs.YteppilognoigjaaDoor.PQueryForms Go.Proofs.YteppilognoigjaaDoor.QK
set_option linter.unusedVariables false
set_option linter.unusedSimpArgs false

/-- What the reference's write promises of queries nested at most n deep. -/
def WriteRAt (n : Nat) : Prop := ∀ (x : S25), Good n x → ∀ (u : Int), formedN n x u = true → ∀ (A5 : Option Addr) (c5 : Nat) (A6 : Option Addr) (c6 : Nat) (A9 : Option Addr) (c9 : Nat) (w : World),
  x.f5.length ≤ c5 → Kd.C (Kd.int .i64) w A5 x.f5.length x.f5 → x.f6.length ≤ c6 → Kd.C (Kd.int .i64) w A6 x.f6.length x.f6 → Kd.C k25 w A9 x.f9.length x.f9 → (textN n x).length < 140737488355328 →
  Calls Tryd.prog 28 #[.agg #[.int .i64 x.f0, .int .i64 x.f1, .string x.f2, .string x.f3, .string x.f4, .slice A5 x.f5.length c5, .slice A6 x.f6.length c6, .int .i64 x.f7, .int .i64 x.f8, .slice A9 x.f9.length c9]] w fun e w' => ∃ v, e = .returned v ∧ Own8 5 w.heap.size w' v (textN n x) ∧ Below w.heap.size w w'
theorem own8_bytes_dr (w : World) (e : TypeId) (s : ByteArray) (base : Nat) (hb : base ≤ w.heap.size) (hs : s.size ≤ maxLen) : Own8 e base (Lib.bytesWorld w.drew e s) (.slice (some ⟨w.heap.size, 0, none⟩) s.size (grownCap w.drew s.size 0 e)) (bytesOf s) := own8_bytes w.drew e s base hb hs
theorem words_eq (k : Int) : rdOf ByteArray.empty wordT k = wordS k := rfl
theorem ops_eq (k : Int) : rdOf ByteArray.empty opT k = opW k := rfl
theorem own8_R {w : World} {base : Nat} {v : Value} {l : List Int} (h : Kd.R (Kd.int .u8) 5 w base (fun _ => True) v l) : Own8 5 base w v l := by
  obtain ⟨_, inner, ho, hr⟩ := h
  have hi : inner = c8 l := by
    apply List.ext_getElem?
    intro j
    have h1 : inner.length = l.length := by have := hr.1; rw [show (Kd.int IntKind.u8).sz = 1 from rfl, Nat.mul_one] at this; exact this
    rcases Nat.lt_or_ge j l.length with hj | hj
    · have := hr.2 j _ (List.getElem?_eq_getElem hj)
      have e : List.take 1 (List.drop (j * 1) inner) = [Value.int .u8 l[j]] := this
      have e2 := congrArg (fun k : List Value => k[0]?) e
      simp only [List.getElem?_take, List.getElem?_drop, Nat.mul_one, Nat.add_zero] at e2
      rw [show (c8 l)[j]? = some (Value.int .u8 l[j]) by rw [List.getElem?_map, List.getElem?_eq_getElem hj]; rfl]
      simpa using e2
    · rw [List.getElem?_eq_none (by omega), List.getElem?_eq_none (by rw [c8_length]; exact hj)]
  subst hi
  exact Own8.of_row ho
theorem bytes_below1 {w W : World} (h : Below w.heap.size w W) (e : TypeId) (s : ByteArray) : Below w.heap.size w (Lib.bytesWorld W e s) := bytes_below h h.size e s
theorem wordsR_at (W0 X : World) (hX : Below W0.heap.size W0 X) (k : Int) (h0 : 0 ≤ k) (h1 : k < 11) :
    Calls Tryd.prog 57 #[] X fun e w' => ∃ ad c, e = .returned (.slice (some ad) 11 c) ∧ w'.cell? (ad.add k.toNat) = some (.string (wordS k)) ∧ Below W0.heap.size W0 w' := by
  refine (lecternref18_Words.calls _ X rfl).mono ?_
  rintro e w1 ⟨v, rfl, hR, hB⟩
  obtain ⟨A, c, rfl, hl, hC⟩ := Kd.R_reads hR
  obtain ⟨ad, rfl, hc⟩ := Kd.at_string hC k h0 h1
  exact ⟨ad, c, rfl, hc, below_then hX hX.size hB⟩
theorem opsR_at (W0 X : World) (hX : Below W0.heap.size W0 X) (k : Int) (h0 : 0 ≤ k) (h1 : k < 4) :
    Calls Tryd.prog 60 #[] X fun e w' => ∃ ad c, e = .returned (.slice (some ad) 4 c) ∧ w'.cell? (ad.add k.toNat) = some (.string (opW k)) ∧ Below X.heap.size X w' ∧ Below W0.heap.size W0 w' := by
  refine (lecternref18_operations.calls _ X rfl).mono ?_
  rintro e w1 ⟨v, rfl, hR, hB⟩
  obtain ⟨A, c, rfl, hl, hC⟩ := Kd.R_reads hR
  obtain ⟨ad, rfl, hc⟩ := Kd.at_string hC k h0 h1
  exact ⟨ad, c, rfl, hc, hB, below_then hX hX.size hB⟩
theorem infoBB : (Tryd.prog.info? 43).map (fun i => (i.zero, i.size, i.bytes)) = some (some (.slice none 0 0), 1, 24) := by kernel_rfl
theorem own8_form {e : TypeId} {base : Nat} {w : World} {v : Value} {l : List Int} (h : Own8 e base w v l) : ∃ A c, v = .slice A l.length c := by
  obtain ⟨A, c, hv, _⟩ := h.row (own := none) (by cases v.ownBlock <;> simp)
  exact ⟨A, c, hv⟩
theorem quotedR_at (W0 X : World) (hX : Below W0.heap.size W0 X) (s : ByteArray) (hs : s.size ≤ 9223372036854775806) (hl : (quotedS s).length < 140737488355328) :
    Calls Tryd.prog 58 #[.string s] X fun e w' => ∃ A c, e = .returned (.slice A (quotedS s).length c) ∧ Own8 5 W0.heap.size w' (.slice A (quotedS s).length c) (quotedS s) ∧ Below X.heap.size X w' ∧ Below W0.heap.size W0 w' := by
  refine (lecternref18_quoted.calls _ s (quotedS s) X (quoted_f s hs hl _ (Nat.le_refl _))).mono ?_
  rintro e w1 ⟨v, rfl, hR, hB⟩
  have ho := own8_R hR
  obtain ⟨A, c, rfl⟩ := own8_form ho
  exact ⟨A, c, rfl, ho.low hX.size, hB, below_then hX hX.size hB⟩
theorem numbersR_at (W0 X : World) (hX : Below W0.heap.size W0 X) (A0 : Option Addr) (c0 : Nat) (l : List Int) (hw : ∀ v ∈ l, (Lit.int .i64 v).wf = true) (hl : (numsS l).length < 140737488355328) (hn : l.length ≤ 9223372036854775806) (hr : Kd.C (Kd.int .i64) X A0 l.length l) (hc : l.length ≤ c0) :
    Calls Tryd.prog 59 #[.slice A0 l.length c0] X fun e w' => ∃ A c, e = .returned (.slice A (numsS l).length c) ∧ Own8 5 W0.heap.size w' (.slice A (numsS l).length c) (numsS l) ∧ Below X.heap.size X w' ∧ Below W0.heap.size W0 w' := by
  refine (lecternref18_numbers.calls _ A0 c0 l (numsS l) X hr hc (nums_f l hw hl hn _ (Nat.le_refl _))).mono ?_
  rintro e w1 ⟨v, rfl, hR, hB⟩
  have ho := own8_R hR
  obtain ⟨A, c, rfl⟩ := own8_form ho
  exact ⟨A, c, rfl, ho.low hX.size, hB, below_then hX hX.size hB⟩
/-- A condition that says more. -/
theorem wpAnyH_strong {P : Program} {ops : Array Oper} {Q : Exit → Act → World → Prop} {md : Region.Mode} {S S' : World → Prop} (h : ∀ w, S' w → S w) : ∀ (fuel : Nat) (listed : Array Bool) (a : Act) (w : World), wpAnyH P md ops Q S' fuel listed a w → wpAnyH P md ops Q S fuel listed a w
  | 0, _, _, _, hw => hw
  | fuel + 1, _, _, _, hw => ⟨hw.1, fun i hi => wpOp_mono (fun a' w' h' => ⟨h w' h'.1, wpAnyH_strong h fuel _ a' w' h'.2⟩) (hw.2 i hi)⟩
theorem part_le {p : List Int} {l : List (List Int)} (h : p ∈ l) : p.length ≤ (sepS l).length := by
  obtain ⟨a, b, rfl⟩ := List.append_of_mem h
  have h1 := sepS_snoc a p
  have h2 := sepS_app_le b (a ++ [p])
  rw [List.append_assoc, List.singleton_append] at h2
  rw [h1] at h2
  by_cases c : a = []
  · rw [if_pos c] at h2
    simp only [List.length_append] at h2
    omega
  · rw [if_neg c] at h2
    simp only [List.length_append] at h2
    omega
set_option maxHeartbeats 8000000 in
set_option maxRecDepth 100000 in
theorem writeR_step (n : Nat) (hW : WriteRAt n) : WriteRAt (n + 1) := by
  intro x hg u hf A5 c5 A6 c6 A9 c9 w m5 h5 m6 h6 h9 hlen
  have hu25 := Tryd.underlying25
  have hff : ownS x u = true ∧ ∀ k ∈ x.f9, formedN n k x.f0 = true := by simpa only [formedN, Bool.and_eq_true, List.all_eq_true] using hf
  obtain ⟨how, hkf⟩ := hff
  obtain ⟨⟨ka, kb⟩, -, -, hocc⟩ := own_split how
  obtain ⟨KT, hKT⟩ : ∃ l : List (List Int), l = x.f9.map fun k => markS k.f1 ++ textN n k := ⟨_, rfl⟩
  have htx : textN (n + 1) x = bytesOf (wordS x.f0) ++ (if x.f0 = 1 ∨ x.f0 = 2 then [] else [40] ++ sepS (partsS x ++ KT) ++ [41]) := by rw [hKT]; rfl
  rw [htx] at hlen
  have HLN := Aside0.mk hlen
  have HTX := Aside0.mk htx
  have HKT := Aside0.mk hKT
  have HKF := Aside0.mk hkf
  have HOW := Aside0.mk how
  have HG := Aside0.mk hg
  have HIH := Aside0.mk hW
  have H59 := Aside0.mk (And.intro (And.intro m5 h5) (And.intro (And.intro m6 h6) h9))
  have kcv := fun (s : ByteArray) W => print_bytes (P := Tryd.prog) 9 43 5 Tryd.underlying9 Tryd.underlying43 Tryd.underlying5 s W
  clear hlen htx hKT hkf how hg hW m5 h5 m6 h6 h9 hf
  go_enter Tryd.func28, Tryd.ntmps28
  go_upto_region 1 with fail
  have hqb0 : (w.alloc (boxQ x A5 c5 A6 c6 A9 c9)).heap[w.heap.size]? = some (boxQ x A5 c5 A6 c6 A9 c9) := blk_new _ _
  have hb0 : Below w.heap.size w (w.alloc (boxQ x A5 c5 A6 c6 A9 c9)) := below_alloc (Below.refl _ _) _
  generalize w.alloc (boxQ x A5 c5 A6 c6 A9 c9) = W0 at *
  have g1 : W0.cell? ⟨w.heap.size, 0, none⟩ = some (.int .i64 x.f0) := (blk_cell hqb0 0).trans rfl
  have HQ0 := Aside0.mk hqb0
  have HB0 := Aside0.mk hb0
  have hz0 : w.heap.size < W0.heap.size := blk_lt hqb0
  clear hqb0 hb0
  go_cut [0, 3] (fun v0 v3 wc => ∃ vb : Value, vb = v3 ∧ Aside0 (Own8 5 w.heap.size wc vb (bytesOf (wordS x.f0))) ∧ Aside0 (Below W0.heap.size W0 wc))
  case first =>
    have hS : ∀ W, Below W0.heap.size W0 W → W.cell? ⟨w.heap.size, 0, none⟩ = some (.int .i64 x.f0) := fun W h => pw_cell_below h g1
    have HWD := Aside0.mk (fun X hX => wordsR_at W0 X hX x.f0 (by omega) (by omega))
    have HS := Aside0.mk hS
    have q1 : x.f0 < 11 := by omega
    have q0 : 0 ≤ x.f0 := by omega
    clear hS
    go_region_with ((go_at_call 57; refine (HWD.out _ ?hbx).mono ?_; (case hbx => repeat (with_reducible first | exact Below.refl _ _ | refine below_drew1 ?_)); rintro e w1 ⟨ad, c, rfl, hc, hB⟩; have HY := Aside0.mk hB; have k1 := HS.out _ hB; clear hB))
    all_goals
      go_wp2_with fail
      go_meet
      exact ⟨_, rfl, ⟨own8_bytes w1 5 _ _ (by have := HY.out.size; omega) (by have := HLN.out; simp only [List.length_append] at this; rw [bytesOf_length] at this; unfold maxLen; omega)⟩, ⟨bytes_below1 HY.out _ _⟩⟩
  case rest =>
  obtain ⟨W1, rfl⟩ : ∃ Y : World, Y = wc := ⟨_, rfl⟩
  obtain ⟨vb, rfl, HO1, HY1⟩ := hcut
  clear g1
  have hqb1 := blk_below HQ0.out HY1.out
  have g0 : W1.cell? ⟨w.heap.size, 0, none⟩ = some (.int .i64 x.f0) := (blk_cell hqb1 0).trans rfl
  have HB1 := Aside0.mk (below_then HB0.out HB0.out.size HY1.out)
  have HQ1 := Aside0.mk hqb1
  have hz1 : w.heap.size < W1.heap.size := blk_lt hqb1
  clear hqb1
  by_cases k12 : x.f0 = 1 ∨ x.f0 = 2
  · as_aux_lemma =>
      have hfin : Own8 5 w.heap.size W1 vb (textN (n + 1) x) := by
        rw [HTX.out, if_pos k12, List.append_nil]
        exact HO1.out
      have HFIN := Aside0.mk hfin
      clear hfin
      have e1 : x.f0 ≤ 2 := by omega
      clear k12
      go_wp2_with fail
      go_ret
      exact ⟨_, rfl, HFIN.out, HB1.out⟩
  have hl : (bytesOf (wordS x.f0)).length + (1 + (sepS (partsS x ++ KT)).length + 1) < 140737488355328 := by
    have := HLN.out
    rw [if_neg k12] at this
    simp only [List.length_append, List.length_singleton] at this
    omega
  have HT2 := Aside0.mk (show textN (n + 1) x = bytesOf (wordS x.f0) ++ ([40] ++ sepS (partsS x ++ KT) ++ [41]) by rw [HTX.out, if_neg k12])
  have e1 : ¬ x.f0 ≤ 2 := by omega
  have HL := Aside0.mk hl
  have HPL := Aside0.mk (fun (p : List Int) (hp : p ∈ partsS x) => (show p.length < 140737488355328 by have := part_le (List.mem_append_left KT hp); have := HL.out; omega))
  obtain ⟨iB, hiB, hzB, hsB, hbB⟩ := info_parts infoBB
  have HI := Aside0.mk (And.intro hiB (And.intro hzB (And.intro hsB hbB)))
  clear hl k12 hiB hzB hsB hbB
  obtain ⟨i8, hi8, hz8, hs8, hb8⟩ := info_parts info5
  have HI8 := Aside0.mk (And.intro hi8 (And.intro hz8 (And.intro hs8 hb8)))
  clear hi8 hz8 hs8 hb8
  go_upto_block 0 with fail
  go_cut [0, 4, 19] (fun v0 v4 v19 wc => ∃ vp : Value, vp = v4 ∧ Aside0 (PartsAt W1.heap.size vb.ownBlock wc vp (partsS x)) ∧ Aside0 (Below W1.heap.size W1 wc))
  case first =>
    by_cases k345 : x.f0 = 3 ∨ x.f0 = 4 ∨ x.f0 = 5
    · as_aux_lemma =>
        have hps : partsS x = [bytesOf x.f2, quotedS x.f3] := by unfold partsS; simp [k345]
        have HPS := Aside0.mk hps
        have HQ := Aside0.mk (fun X (hX : Below W1.heap.size W1 X) => quotedR_at W1 X hX x.f3 (by have := HG.out.2.2.2.1; omega) (HPL.out _ (by rw [hps]; simp)))
        have HSZ := Aside0.mk (show x.f2.size ≤ maxLen by have := HG.out.2.2.1; unfold maxLen; omega)
        have HS : Aside0 (∀ W, Below W1.heap.size W1 W → W.cell? ⟨w.heap.size, 2, none⟩ = some (.string x.f2) ∧ W.cell? ⟨w.heap.size, 3, none⟩ = some (.string x.f3)) := ⟨fun W h => ⟨(blk_cell (blk_below HQ1.out h) 2).trans rfl, (blk_cell (blk_below HQ1.out h) 3).trans rfl⟩⟩
        obtain ⟨s2, s3⟩ := HS.out W1 (Below.refl _ _)
        clear hps
        rcases k345 with k | k | k
        all_goals
          go_wp2_with fail
          go_region_held_law (fun w' => w'.cell? ⟨w.heap.size, 2, none⟩ = some (.string x.f2) ∧ w'.cell? ⟨w.heap.size, 3, none⟩ = some (.string x.f3))
            (first | (with_reducible exact ⟨s2, s3⟩) | exact HS.out _ (by repeat (with_reducible first | exact Below.refl _ _ | exact HYF.out | exact HYR.out | exact HYQ.out | exact HYO.out | refine below_alloc ?_ _ | refine bytes_below1 ?_ _ _ | refine pw_below_drewN ?_ _ | refine below_drew1 ?_)))
            (first
              | (refine step_parts_new (o := ⟨some 32, _, _, _, _, _⟩) _ [_, _] (by rfl) (.tmp 24) (.tmp 31) 74 (by rfl) W1.heap.size vb.ownBlock iB Tryd.underlying74 HI.out.1 HI.out.2.1 HI.out.2.2.1 HI.out.2.2.2 (.slice none 0 0) [] (by rfl) (PartsAt.nil _ _ _) 2 [bytesOf x.f2, quotedS x.f3] rfl (by rfl) ?hr (by simp) ?hb ?_; (case hr => refine rows2 (own8_row1 ?_ HO1.out) (own8_row1 ?_ HO1.out) <;> (repeat (with_reducible first | exact HOQ.out | ((refine own8_bytes_dr _ _ _ _ ?_ HSZ.out); exact below_size (by repeat (with_reducible first | exact Below.refl _ _ | exact HYF.out | exact HYR.out | exact HYQ.out | exact HYO.out | refine below_alloc ?_ _ | refine bytes_below1 ?_ _ _ | refine pw_below_drewN ?_ _ | refine below_drew1 ?_))) | ((refine own8_bytes _ _ _ _ ?_ HSZ.out); exact below_size (by repeat (with_reducible first | exact Below.refl _ _ | exact HYF.out | exact HYR.out | exact HYQ.out | exact HYO.out | refine below_alloc ?_ _ | refine bytes_below1 ?_ _ _ | refine pw_below_drewN ?_ _ | refine below_drew1 ?_))) | refine own8_by ?_ _ | refine own8_dr ?_ | refine own8_al ?_ _ | refine Own8.below ?_ HBQ.out (Nat.le_refl _)))); (case hb => exact below_size (by repeat (with_reducible first | exact Below.refl _ _ | exact HYF.out | exact HYR.out | exact HYQ.out | exact HYO.out | refine below_alloc ?_ _ | refine bytes_below1 ?_ _ _ | refine pw_below_drewN ?_ _ | refine below_drew1 ?_))); intro v' w' hP hg ho; have HP := Aside0.mk hP; have HYF := Aside0.mk (show Below W1.heap.size W1 w' from Below.grown (below_alloc (by repeat (with_reducible first | exact Below.refl _ _ | exact HYF.out | exact HYR.out | exact HYQ.out | exact HYO.out | refine below_alloc ?_ _ | refine bytes_below1 ?_ _ _ | refine pw_below_drewN ?_ _ | refine below_drew1 ?_)) _) hg (below_size (below_alloc (by repeat (with_reducible first | exact Below.refl _ _ | exact HYF.out | exact HYR.out | exact HYQ.out | exact HYO.out | refine below_alloc ?_ _ | refine bytes_below1 ?_ _ _ | refine pw_below_drewN ?_ _ | refine below_drew1 ?_)) _)) (fun k hk => by cases hk)); clear hP hg ho)
              | (go_at_call_of 58 (Value.string x.f3); refine (HQ.out _ ?hbx).mono ?_; (case hbx => exact (by repeat (with_reducible first | exact Below.refl _ _ | exact HYF.out | exact HYR.out | exact HYQ.out | exact HYO.out | refine below_alloc ?_ _ | refine bytes_below1 ?_ _ _ | refine pw_below_drewN ?_ _ | refine below_drew1 ?_))); rintro e wQ ⟨AQ, cQ, rfl, ho, hb, hy⟩; have HOQ := Aside0.mk ho; have HBQ := Aside0.mk hb; have HYQ := Aside0.mk hy; clear ho hb hy))
          all_goals (go_wp2_with fail; go_meet; exact ⟨_, rfl, ⟨by rw [HPS.out]; exact HP.out⟩, HYF⟩)
    by_cases k6 : x.f0 = 6
    · as_aux_lemma =>
        have hps : partsS x = [bytesOf x.f2, quotedS x.f3, quotedS x.f4] := by unfold partsS; simp [k345, k6]
        have HPS := Aside0.mk hps
        have HQ := Aside0.mk (fun X (hX : Below W1.heap.size W1 X) => quotedR_at W1 X hX x.f3 (by have := HG.out.2.2.2.1; omega) (HPL.out _ (by rw [hps]; simp)))
        have HR := Aside0.mk (fun X (hX : Below W1.heap.size W1 X) => quotedR_at W1 X hX x.f4 (by have := HG.out.2.2.2.2.1; omega) (HPL.out _ (by rw [hps]; simp)))
        have HSZ := Aside0.mk (show x.f2.size ≤ maxLen by have := HG.out.2.2.1; unfold maxLen; omega)
        have HS : Aside0 (∀ W, Below W1.heap.size W1 W → W.cell? ⟨w.heap.size, 2, none⟩ = some (.string x.f2) ∧ W.cell? ⟨w.heap.size, 3, none⟩ = some (.string x.f3) ∧ W.cell? ⟨w.heap.size, 4, none⟩ = some (.string x.f4)) := ⟨fun W h => ⟨(blk_cell (blk_below HQ1.out h) 2).trans rfl, (blk_cell (blk_below HQ1.out h) 3).trans rfl, (blk_cell (blk_below HQ1.out h) 4).trans rfl⟩⟩
        obtain ⟨s2, s3, s4⟩ := HS.out W1 (Below.refl _ _)
        clear hps
        go_wp2_with fail
        go_region_held_law (fun w' => w'.cell? ⟨w.heap.size, 2, none⟩ = some (.string x.f2) ∧ w'.cell? ⟨w.heap.size, 3, none⟩ = some (.string x.f3) ∧ w'.cell? ⟨w.heap.size, 4, none⟩ = some (.string x.f4))
          (first | (with_reducible exact ⟨s2, s3, s4⟩) | exact HS.out _ (by repeat (with_reducible first | exact Below.refl _ _ | exact HYF.out | exact HYR.out | exact HYQ.out | exact HYO.out | refine below_alloc ?_ _ | refine bytes_below1 ?_ _ _ | refine pw_below_drewN ?_ _ | refine below_drew1 ?_)))
          (first
            | (refine step_parts_new (o := ⟨some 46, _, _, _, _, _⟩) _ [_, _, _] (by rfl) (.tmp 35) (.tmp 45) 74 (by rfl) W1.heap.size vb.ownBlock iB Tryd.underlying74 HI.out.1 HI.out.2.1 HI.out.2.2.1 HI.out.2.2.2 (.slice none 0 0) [] (by rfl) (PartsAt.nil _ _ _) 3 [bytesOf x.f2, quotedS x.f3, quotedS x.f4] rfl (by rfl) ?hr (by simp) ?hb ?_; (case hr => refine rows3 (own8_row1 ?_ HO1.out) (own8_row1 ?_ HO1.out) (own8_row1 ?_ HO1.out) <;> (repeat (with_reducible first | exact HOQ.out | exact HOR.out | ((refine own8_bytes_dr _ _ _ _ ?_ HSZ.out); exact below_size (by repeat (with_reducible first | exact Below.refl _ _ | exact HYF.out | exact HYR.out | exact HYQ.out | exact HYO.out | refine below_alloc ?_ _ | refine bytes_below1 ?_ _ _ | refine pw_below_drewN ?_ _ | refine below_drew1 ?_))) | ((refine own8_bytes _ _ _ _ ?_ HSZ.out); exact below_size (by repeat (with_reducible first | exact Below.refl _ _ | exact HYF.out | exact HYR.out | exact HYQ.out | exact HYO.out | refine below_alloc ?_ _ | refine bytes_below1 ?_ _ _ | refine pw_below_drewN ?_ _ | refine below_drew1 ?_))) | refine own8_by ?_ _ | refine own8_dr ?_ | refine own8_al ?_ _ | refine Own8.below ?_ HBQ.out (Nat.le_refl _) | refine Own8.below ?_ HBR.out (Nat.le_refl _)))); (case hb => exact below_size (by repeat (with_reducible first | exact Below.refl _ _ | exact HYF.out | exact HYR.out | exact HYQ.out | exact HYO.out | refine below_alloc ?_ _ | refine bytes_below1 ?_ _ _ | refine pw_below_drewN ?_ _ | refine below_drew1 ?_))); intro v' w' hP hg ho; have HP := Aside0.mk hP; have HYF := Aside0.mk (show Below W1.heap.size W1 w' from Below.grown (below_alloc (by repeat (with_reducible first | exact Below.refl _ _ | exact HYF.out | exact HYR.out | exact HYQ.out | exact HYO.out | refine below_alloc ?_ _ | refine bytes_below1 ?_ _ _ | refine pw_below_drewN ?_ _ | refine below_drew1 ?_)) _) hg (below_size (below_alloc (by repeat (with_reducible first | exact Below.refl _ _ | exact HYF.out | exact HYR.out | exact HYQ.out | exact HYO.out | refine below_alloc ?_ _ | refine bytes_below1 ?_ _ _ | refine pw_below_drewN ?_ _ | refine below_drew1 ?_)) _)) (fun k hk => by cases hk)); clear hP hg ho)
            | (go_at_call_of 58 (Value.string x.f3); refine (HQ.out _ ?hbx).mono ?_; (case hbx => exact (by repeat (with_reducible first | exact Below.refl _ _ | exact HYF.out | exact HYR.out | exact HYQ.out | exact HYO.out | refine below_alloc ?_ _ | refine bytes_below1 ?_ _ _ | refine pw_below_drewN ?_ _ | refine below_drew1 ?_))); rintro e wQ ⟨AQ, cQ, rfl, ho, hb, hy⟩; have HOQ := Aside0.mk ho; have HBQ := Aside0.mk hb; have HYQ := Aside0.mk hy; clear ho hb hy)
            | (go_at_call_of 58 (Value.string x.f4); refine (HR.out _ ?hbx).mono ?_; (case hbx => exact (by repeat (with_reducible first | exact Below.refl _ _ | exact HYF.out | exact HYR.out | exact HYQ.out | exact HYO.out | refine below_alloc ?_ _ | refine bytes_below1 ?_ _ _ | refine pw_below_drewN ?_ _ | refine below_drew1 ?_))); rintro e wR ⟨AR, cR, rfl, ho, hb, hy⟩; have HOR := Aside0.mk ho; have HBR := Aside0.mk hb; have HYR := Aside0.mk hy; clear ho hb hy))
        all_goals (go_wp2_with fail; go_meet; exact ⟨_, rfl, ⟨by rw [HPS.out]; exact HP.out⟩, HYF⟩)
    by_cases k7 : x.f0 = 7
    · as_aux_lemma =>
        have hps : partsS x = [bytesOf x.f2, numsS x.f5, numsS x.f6] := by unfold partsS; simp [k345, k6, k7]
        have HPS := Aside0.mk hps
        have HQ := Aside0.mk (fun X (hX : Below W1.heap.size W1 X) => numbersR_at W1 X hX A5 c5 x.f5 HG.out.2.2.2.2.2.1.2 (HPL.out _ (by rw [hps]; simp)) (by have := HG.out.2.2.2.2.2.1.1; omega) (Kd.C_below H59.out.1.2 (below_then HB1.out HB1.out.size hX)) H59.out.1.1)
        have HR := Aside0.mk (fun X (hX : Below W1.heap.size W1 X) => numbersR_at W1 X hX A6 c6 x.f6 HG.out.2.2.2.2.2.2.1.2 (HPL.out _ (by rw [hps]; simp)) (by have := HG.out.2.2.2.2.2.2.1.1; omega) (Kd.C_below H59.out.2.1.2 (below_then HB1.out HB1.out.size hX)) H59.out.2.1.1)
        have HSZ := Aside0.mk (show x.f2.size ≤ maxLen by have := HG.out.2.2.1; unfold maxLen; omega)
        have HS : Aside0 (∀ W, Below W1.heap.size W1 W → W.cell? ⟨w.heap.size, 2, none⟩ = some (.string x.f2) ∧ W.cell? ⟨w.heap.size, 5, none⟩ = some (.slice A5 x.f5.length c5) ∧ W.cell? ⟨w.heap.size, 6, none⟩ = some (.slice A6 x.f6.length c6)) := ⟨fun W h => ⟨(blk_cell (blk_below HQ1.out h) 2).trans rfl, (blk_cell (blk_below HQ1.out h) 5).trans rfl, (blk_cell (blk_below HQ1.out h) 6).trans rfl⟩⟩
        obtain ⟨s2, s5, s6⟩ := HS.out W1 (Below.refl _ _)
        clear hps
        go_wp2_with fail
        go_region_held_law (fun w' => w'.cell? ⟨w.heap.size, 2, none⟩ = some (.string x.f2) ∧ w'.cell? ⟨w.heap.size, 5, none⟩ = some (.slice A5 x.f5.length c5) ∧ w'.cell? ⟨w.heap.size, 6, none⟩ = some (.slice A6 x.f6.length c6))
          (first | (with_reducible exact ⟨s2, s5, s6⟩) | exact HS.out _ (by repeat (with_reducible first | exact Below.refl _ _ | exact HYF.out | exact HYR.out | exact HYQ.out | exact HYO.out | refine below_alloc ?_ _ | refine bytes_below1 ?_ _ _ | refine pw_below_drewN ?_ _ | refine below_drew1 ?_)))
          (first
            | (refine step_parts_new (o := ⟨some 60, _, _, _, _, _⟩) _ [_, _, _] (by rfl) (.tmp 49) (.tmp 59) 74 (by rfl) W1.heap.size vb.ownBlock iB Tryd.underlying74 HI.out.1 HI.out.2.1 HI.out.2.2.1 HI.out.2.2.2 (.slice none 0 0) [] (by rfl) (PartsAt.nil _ _ _) 3 [bytesOf x.f2, numsS x.f5, numsS x.f6] rfl (by rfl) ?hr (by simp) ?hb ?_; (case hr => refine rows3 (own8_row1 ?_ HO1.out) (own8_row1 ?_ HO1.out) (own8_row1 ?_ HO1.out) <;> (repeat (with_reducible first | exact HOQ.out | exact HOR.out | ((refine own8_bytes_dr _ _ _ _ ?_ HSZ.out); exact below_size (by repeat (with_reducible first | exact Below.refl _ _ | exact HYF.out | exact HYR.out | exact HYQ.out | exact HYO.out | refine below_alloc ?_ _ | refine bytes_below1 ?_ _ _ | refine pw_below_drewN ?_ _ | refine below_drew1 ?_))) | ((refine own8_bytes _ _ _ _ ?_ HSZ.out); exact below_size (by repeat (with_reducible first | exact Below.refl _ _ | exact HYF.out | exact HYR.out | exact HYQ.out | exact HYO.out | refine below_alloc ?_ _ | refine bytes_below1 ?_ _ _ | refine pw_below_drewN ?_ _ | refine below_drew1 ?_))) | refine own8_by ?_ _ | refine own8_dr ?_ | refine own8_al ?_ _ | refine Own8.below ?_ HBQ.out (Nat.le_refl _) | refine Own8.below ?_ HBR.out (Nat.le_refl _)))); (case hb => exact below_size (by repeat (with_reducible first | exact Below.refl _ _ | exact HYF.out | exact HYR.out | exact HYQ.out | exact HYO.out | refine below_alloc ?_ _ | refine bytes_below1 ?_ _ _ | refine pw_below_drewN ?_ _ | refine below_drew1 ?_))); intro v' w' hP hg ho; have HP := Aside0.mk hP; have HYF := Aside0.mk (show Below W1.heap.size W1 w' from Below.grown (below_alloc (by repeat (with_reducible first | exact Below.refl _ _ | exact HYF.out | exact HYR.out | exact HYQ.out | exact HYO.out | refine below_alloc ?_ _ | refine bytes_below1 ?_ _ _ | refine pw_below_drewN ?_ _ | refine below_drew1 ?_)) _) hg (below_size (below_alloc (by repeat (with_reducible first | exact Below.refl _ _ | exact HYF.out | exact HYR.out | exact HYQ.out | exact HYO.out | refine below_alloc ?_ _ | refine bytes_below1 ?_ _ _ | refine pw_below_drewN ?_ _ | refine below_drew1 ?_)) _)) (fun k hk => by cases hk)); clear hP hg ho)
            | (go_at_call_of 59 (Value.slice A5 x.f5.length c5); refine (HQ.out _ ?hbx).mono ?_; (case hbx => exact (by repeat (with_reducible first | exact Below.refl _ _ | exact HYF.out | exact HYR.out | exact HYQ.out | exact HYO.out | refine below_alloc ?_ _ | refine bytes_below1 ?_ _ _ | refine pw_below_drewN ?_ _ | refine below_drew1 ?_))); rintro e wQ ⟨AQ, cQ, rfl, ho, hb, hy⟩; have HOQ := Aside0.mk ho; have HBQ := Aside0.mk hb; have HYQ := Aside0.mk hy; clear ho hb hy)
            | (go_at_call_of 59 (Value.slice A6 x.f6.length c6); refine (HR.out _ ?hbx).mono ?_; (case hbx => exact (by repeat (with_reducible first | exact Below.refl _ _ | exact HYF.out | exact HYR.out | exact HYQ.out | exact HYO.out | refine below_alloc ?_ _ | refine bytes_below1 ?_ _ _ | refine pw_below_drewN ?_ _ | refine below_drew1 ?_))); rintro e wR ⟨AR, cR, rfl, ho, hb, hy⟩; have HOR := Aside0.mk ho; have HBR := Aside0.mk hb; have HYR := Aside0.mk hy; clear ho hb hy))
        all_goals (go_wp2_with fail; go_meet; exact ⟨_, rfl, ⟨by rw [HPS.out]; exact HP.out⟩, HYF⟩)
    by_cases k9 : x.f0 = 9
    · as_aux_lemma =>
        have hps : partsS x = [numsS [x.f7]] := by unfold partsS; simp [k345, k6, k7, k9]
        have HPS := Aside0.mk hps
        have HS : Aside0 (∀ W, Below W1.heap.size W1 W → W.cell? ⟨w.heap.size, 7, none⟩ = some (.int .i64 x.f7) ∧ W.cell? ⟨w.heap.size, 8, none⟩ = some (.int .i64 x.f8)) := ⟨fun W h => ⟨(blk_cell (blk_below HQ1.out h) 7).trans rfl, (blk_cell (blk_below HQ1.out h) 8).trans rfl⟩⟩
        obtain ⟨s7, s8⟩ := HS.out W1 (Below.refl _ _)
        have hal : Below W1.heap.size W1 (W1.alloc (.cells #[.int .i64 x.f7] 2)) := below_alloc (Below.refl _ _) _
        have HQ := Aside0.mk (numbersR_at W1 _ hal (some ⟨W1.heap.size, 0, none⟩) 1 [x.f7] (by intro v hv; simp at hv; subst hv; exact HG.out.2.2.2.2.2.2.2.1) (HPL.out _ (by rw [hps]; simp)) (by simp) (one_C (blk_new W1 _)) (by simp))
        clear hps hal
        go_wp2_with fail
        refine HQ.out.mono ?_
        rintro e wQ ⟨AQ, cQ, rfl, ho, hb, hy⟩
        have HOQ := Aside0.mk ho
        have HBQ := Aside0.mk hb
        have HYQ := Aside0.mk hy
        clear ho hb hy HQ
        go_wp2_with (first | (at_builtin; (refine wpList_parts_new (o := ⟨some 69, _, _, _, _, _⟩) _ [_] (by rfl) (.tmp 63) (.tmp 68) 74 (by rfl) W1.heap.size vb.ownBlock iB Tryd.underlying74 HI.out.1 HI.out.2.1 HI.out.2.2.1 HI.out.2.2.2 (.slice none 0 0) [] (by rfl) (PartsAt.nil _ _ _) 1 [numsS [x.f7]] rfl (by rfl) ?hr (by simp) ?hb ?_; (case hr => refine rows1 (own8_row1 ?_ HO1.out) <;> (repeat (with_reducible first | exact HOQ.out | ((refine own8_bytes_dr _ _ _ _ ?_ HSZ.out); exact below_size (by repeat (with_reducible first | exact Below.refl _ _ | exact HYF.out | exact HYR.out | exact HYQ.out | exact HYO.out | refine below_alloc ?_ _ | refine bytes_below1 ?_ _ _ | refine pw_below_drewN ?_ _ | refine below_drew1 ?_))) | ((refine own8_bytes _ _ _ _ ?_ HSZ.out); exact below_size (by repeat (with_reducible first | exact Below.refl _ _ | exact HYF.out | exact HYR.out | exact HYQ.out | exact HYO.out | refine below_alloc ?_ _ | refine bytes_below1 ?_ _ _ | refine pw_below_drewN ?_ _ | refine below_drew1 ?_))) | refine own8_by ?_ _ | refine own8_dr ?_ | refine own8_al ?_ _ | refine Own8.below ?_ HBQ.out (Nat.le_refl _)))); (case hb => exact below_size (by repeat (with_reducible first | exact Below.refl _ _ | exact HYF.out | exact HYR.out | exact HYQ.out | exact HYO.out | refine below_alloc ?_ _ | refine bytes_below1 ?_ _ _ | refine pw_below_drewN ?_ _ | refine below_drew1 ?_))); intro v' w' hP hg ho; have HP := Aside0.mk hP; have HYF := Aside0.mk (show Below W1.heap.size W1 w' from Below.grown (below_alloc (by repeat (with_reducible first | exact Below.refl _ _ | exact HYF.out | exact HYR.out | exact HYQ.out | exact HYO.out | refine below_alloc ?_ _ | refine bytes_below1 ?_ _ _ | refine pw_below_drewN ?_ _ | refine below_drew1 ?_)) _) hg (below_size (below_alloc (by repeat (with_reducible first | exact Below.refl _ _ | exact HYF.out | exact HYR.out | exact HYQ.out | exact HYO.out | refine below_alloc ?_ _ | refine bytes_below1 ?_ _ _ | refine pw_below_drewN ?_ _ | refine below_drew1 ?_)) _)) (fun k hk => by cases hk)); clear hP hg ho)))
        go_wp2_with fail; go_meet; exact ⟨_, rfl, ⟨by rw [HPS.out]; exact HP.out⟩, HYF⟩
    by_cases k10 : x.f0 = 10
    · as_aux_lemma =>
        have hps : partsS x = [bytesOf (opW x.f8), bytesOf x.f2, numsS x.f5] := by unfold partsS; simp [k345, k6, k7, k9, k10]
        have HPS := Aside0.mk hps
        obtain ⟨o1, o2⟩ := op_range HOW.out k10
        have HC := Aside0.mk (fun X (hX : Below W1.heap.size W1 X) => opsR_at W1 X hX x.f8 o1 (by omega))
        have HQ := Aside0.mk (fun X (hX : Below W1.heap.size W1 X) => numbersR_at W1 X hX A5 c5 x.f5 HG.out.2.2.2.2.2.1.2 (HPL.out _ (by rw [hps]; simp)) (by have := HG.out.2.2.2.2.2.1.1; omega) (Kd.C_below H59.out.1.2 (below_then HB1.out HB1.out.size hX)) H59.out.1.1)
        have HSZ := Aside0.mk (show x.f2.size ≤ maxLen by have := HG.out.2.2.1; unfold maxLen; omega)
        have HSZ1 := Aside0.mk (show (opW x.f8).size ≤ maxLen by have := HPL.out (bytesOf (opW x.f8)) (by rw [hps]; simp); rw [bytesOf_length] at this; unfold maxLen; omega)
        have HS : Aside0 (∀ W, Below W1.heap.size W1 W → W.cell? ⟨w.heap.size, 2, none⟩ = some (.string x.f2) ∧ W.cell? ⟨w.heap.size, 5, none⟩ = some (.slice A5 x.f5.length c5) ∧ W.cell? ⟨w.heap.size, 8, none⟩ = some (.int .i64 x.f8)) := ⟨fun W h => ⟨(blk_cell (blk_below HQ1.out h) 2).trans rfl, (blk_cell (blk_below HQ1.out h) 5).trans rfl, (blk_cell (blk_below HQ1.out h) 8).trans rfl⟩⟩
        obtain ⟨s2, s5, s8⟩ := HS.out W1 (Below.refl _ _)
        have o3 : x.f8 < 4 := by omega
        clear hps
        go_wp2_with fail
        refine wp_region_held_drew (S := fun w' => w'.cell? ⟨w.heap.size, 2, none⟩ = some (.string x.f2) ∧ w'.cell? ⟨w.heap.size, 5, none⟩ = some (.slice A5 x.f5.length c5) ∧ w'.cell? ⟨w.heap.size, 8, none⟩ = some (.int .i64 x.f8)) (by kernel_rfl) ?_ (fun hHeld => ?_)
        · (try dsimp only); exact HS.out _ (below_drew1 (Below.refl _ _))
        refine wpAnyH_take (i := 0) (oi := { dst := some 72, op := Op.move (Operand.tmp 4), type := 74, pos := "text.go:71", after := #[], guard := none }) (v := ?vv1) rfl (by kernel_rfl) (by kernel_rfl) (by kernel_rfl) (fun _ _ _ h => h) (Or.inl ⟨by rfl, ?hy1⟩) hHeld ?rest1
        case hy1 => (intro w hSw; (try dsimp only at hSw); go_simp; (try with_reducible rfl))
        try simp only [Act.put, List.setIfInBounds_toArray, List.set_cons_zero, List.set_cons_succ]
        refine wpAnyH_take (i := 2) (oi := { dst := some 74, op := Op.fieldAddr 25 (Operand.tmp 1) 8, type := 0, pos := "text.go:71", after := #[], guard := none }) (v := ?vv2) rfl (by kernel_rfl) (by kernel_rfl) (by kernel_rfl) (fun _ _ _ h => h) (Or.inl ⟨by rfl, ?hy2⟩) hHeld ?rest2
        case hy2 => (intro w hSw; (try dsimp only at hSw); go_simp; (try with_reducible rfl))
        try simp only [Act.put, List.setIfInBounds_toArray, List.set_cons_zero, List.set_cons_succ]
        refine wpAnyH_take (i := 3) (oi := { dst := some 75, op := Op.load 3 (Operand.tmp 74), type := 3, pos := "text.go:71", after := #[{ on := 2, ground := Ground.data }], guard := none }) (v := ?vv3) rfl (by kernel_rfl) (by kernel_rfl) (by kernel_rfl) (fun _ _ _ h => h) (Or.inl ⟨by rfl, ?hy3⟩) hHeld ?rest3
        case hy3 => (intro w hSw; (try dsimp only at hSw); go_simp; (try with_reducible rfl))
        try simp only [Act.put, List.setIfInBounds_toArray, List.set_cons_zero, List.set_cons_succ]
        refine wpAnyH_take (i := 7) (oi := { dst := some 79, op := Op.fieldAddr 25 (Operand.tmp 1) 2, type := 0, pos := "text.go:71", after := #[], guard := none }) (v := ?vv4) rfl (by kernel_rfl) (by kernel_rfl) (by kernel_rfl) (fun _ _ _ h => h) (Or.inl ⟨by rfl, ?hy4⟩) hHeld ?rest4
        case hy4 => (intro w hSw; (try dsimp only at hSw); go_simp; (try with_reducible rfl))
        try simp only [Act.put, List.setIfInBounds_toArray, List.set_cons_zero, List.set_cons_succ]
        refine wpAnyH_take (i := 8) (oi := { dst := some 80, op := Op.load 9 (Operand.tmp 79), type := 9, pos := "text.go:71", after := #[{ on := 7, ground := Ground.data }], guard := none }) (v := ?vv5) rfl (by kernel_rfl) (by kernel_rfl) (by kernel_rfl) (fun _ _ _ h => h) (Or.inl ⟨by rfl, ?hy5⟩) hHeld ?rest5
        case hy5 => (intro w hSw; (try dsimp only at hSw); go_simp; (try with_reducible rfl))
        try simp only [Act.put, List.setIfInBounds_toArray, List.set_cons_zero, List.set_cons_succ]
        refine wpAnyH_take (i := 10) (oi := { dst := some 82, op := Op.fieldAddr 25 (Operand.tmp 1) 5, type := 0, pos := "text.go:71", after := #[], guard := none }) (v := ?vv6) rfl (by kernel_rfl) (by kernel_rfl) (by kernel_rfl) (fun _ _ _ h => h) (Or.inl ⟨by rfl, ?hy6⟩) hHeld ?rest6
        case hy6 => (intro w hSw; (try dsimp only at hSw); go_simp; (try with_reducible rfl))
        try simp only [Act.put, List.setIfInBounds_toArray, List.set_cons_zero, List.set_cons_succ]
        refine wpAnyH_take (i := 11) (oi := { dst := some 83, op := Op.load 22 (Operand.tmp 82), type := 22, pos := "text.go:71", after := #[{ on := 10, ground := Ground.data }], guard := none }) (v := ?vv7) rfl (by kernel_rfl) (by kernel_rfl) (by kernel_rfl) (fun _ _ _ h => h) (Or.inl ⟨by rfl, ?hy7⟩) hHeld ?rest7
        case hy7 => (intro w hSw; (try dsimp only at hSw); go_simp; (try with_reducible rfl))
        try simp only [Act.put, List.setIfInBounds_toArray, List.set_cons_zero, List.set_cons_succ]
        refine wpAnyH_ready (rs := [1, 9]) (by kernel_rfl) (by simp) ?_
        refine AllReadyH.cons rfl (fun K hK => ?_) ?_
        · skip
          go_simp
          go_wp2_with (go_at_call 60; refine (HC.out _ ?hbx8).mono ?_; (case hbx8 => exact (by repeat (with_reducible first | exact Below.refl _ _ | exact HYF.out | exact HYR.out | exact HYQ.out | exact HYO.out | refine below_alloc ?_ _ | refine bytes_below1 ?_ _ _ | refine pw_below_drewN ?_ _ | refine below_drew1 ?_))); rintro e w1 ⟨ad, co, rfl, hc, hb, hy⟩; have HBO := Aside0.mk hb; have HYO := Aside0.mk hy; have HCC := Aside0.mk hc; clear hc hb hy)
          refine hK.out _ _ ?_ (fun hH2 => ?_)
          · (try dsimp only); exact HS.out _ (by repeat (with_reducible first | exact Below.refl _ _ | exact HYF.out | exact HYR.out | exact HYQ.out | exact HYO.out | refine below_alloc ?_ _ | refine bytes_below1 ?_ _ _ | refine pw_below_drewN ?_ _ | refine below_drew1 ?_))
          clear hK K hHeld
          have hHeld := hH2
          clear hH2
          have HSS := Aside0.mk (fun W (hW : Below w1.heap.size w1 W) => And.intro (HS.out W (below_then HYO.out HYO.out.size hW)) (pw_cell_below hW HCC.out))
          refine wpAnyH_strong (S' := fun w' => (w'.cell? ⟨w.heap.size, 2, none⟩ = some (.string x.f2) ∧ w'.cell? ⟨w.heap.size, 5, none⟩ = some (.slice A5 x.f5.length c5) ∧ w'.cell? ⟨w.heap.size, 8, none⟩ = some (.int .i64 x.f8)) ∧ w'.cell? (ad.add x.f8.toNat) = some (.string (opW x.f8))) (fun _ h => h.1) _ _ _ _ ?_
          clear hHeld
          have hHeld := HSS.out w1 (Below.refl _ _)
          refine wpAnyH_take (i := 4) (oi := { dst := some 76, op := Op.indexAddr 72 (Operand.tmp 73) (Operand.tmp 75), type := 0, pos := "text.go:71", after := #[{ on := 1, ground := Ground.data }, { on := 3, ground := Ground.data }], guard := none }) (v := ?vv9) rfl (by kernel_rfl) (by kernel_rfl) (by kernel_rfl) (fun _ _ _ h => h) (Or.inl ⟨by rfl, ?hy9⟩) hHeld ?rest9
          case hy9 => (intro w hSw; (try dsimp only at hSw); go_simp; (try with_reducible rfl))
          try simp only [Act.put, List.setIfInBounds_toArray, List.set_cons_zero, List.set_cons_succ]
          refine wpAnyH_take (i := 5) (oi := { dst := some 77, op := Op.load 9 (Operand.tmp 76), type := 9, pos := "text.go:71", after := #[{ on := 4, ground := Ground.data }], guard := none }) (v := ?vv10) rfl (by kernel_rfl) (by kernel_rfl) (by kernel_rfl) (fun _ _ _ h => h) (Or.inl ⟨by rfl, ?hy10⟩) hHeld ?rest10
          case hy10 => (intro w hSw; (try dsimp only at hSw); go_simp; (try with_reducible rfl))
          try simp only [Act.put, List.setIfInBounds_toArray, List.set_cons_zero, List.set_cons_succ]
          refine wpAnyH_ready (rs := [6, 9, 12]) (by kernel_rfl) (by simp) ?_
          refine AllReadyH.cons rfl (fun K hK => ?_) ?_
          · skip
            go_simp
            refine hK.out _ _ ?_ (fun hH2 => ?_)
            · (try dsimp only); exact HSS.out _ (by repeat (with_reducible first | exact Below.refl _ _ | exact HCF.out | exact HCQ.out | refine below_alloc ?_ _ | refine bytes_below1 ?_ _ _ | refine pw_below_drewN ?_ _ | refine below_drew1 ?_))
            clear hK K hHeld
            have hHeld := hH2
            clear hH2
            refine wpAnyH_ready (rs := [9, 12]) (by kernel_rfl) (by simp) ?_
            refine AllReadyH.cons rfl (fun K hK => ?_) ?_
            · skip
              go_simp
              refine hK.out _ _ ?_ (fun hH2 => ?_)
              · (try dsimp only); exact HSS.out _ (by repeat (with_reducible first | exact Below.refl _ _ | exact HCF.out | exact HCQ.out | refine below_alloc ?_ _ | refine bytes_below1 ?_ _ _ | refine pw_below_drewN ?_ _ | refine below_drew1 ?_))
              clear hK K hHeld
              have hHeld := hH2
              clear hH2
              refine wpAnyH_ready (rs := [12]) (by kernel_rfl) (by simp) ?_
              refine AllReadyH.cons rfl (fun K hK => ?_) ?_
              · skip
                go_simp
                go_wp2_with (go_at_call 59; refine (HQ.out _ ?hbx11).mono ?_; (case hbx11 => exact (by repeat (with_reducible first | exact Below.refl _ _ | exact HYF.out | exact HYR.out | exact HYQ.out | exact HYO.out | refine below_alloc ?_ _ | refine bytes_below1 ?_ _ _ | refine pw_below_drewN ?_ _ | refine below_drew1 ?_))); rintro e wQ ⟨AQ, cQ, rfl, ho, hb, hy⟩; have HOQ := Aside0.mk ho; have HBQ := Aside0.mk hb; have HYQ := Aside0.mk hy; have HCQ := Aside0.mk (show Below w1.heap.size w1 wQ from below_then (by repeat (with_reducible first | exact Below.refl _ _ | exact HCF.out | exact HCQ.out | refine below_alloc ?_ _ | refine bytes_below1 ?_ _ _ | refine pw_below_drewN ?_ _ | refine below_drew1 ?_)) (below_size (by repeat (with_reducible first | exact Below.refl _ _ | exact HCF.out | exact HCQ.out | refine below_alloc ?_ _ | refine bytes_below1 ?_ _ _ | refine pw_below_drewN ?_ _ | refine below_drew1 ?_))) hb); clear ho hb hy)
                refine hK.out _ _ ?_ (fun hH2 => ?_)
                · (try dsimp only); exact HSS.out _ (by repeat (with_reducible first | exact Below.refl _ _ | exact HCF.out | exact HCQ.out | refine below_alloc ?_ _ | refine bytes_below1 ?_ _ _ | refine pw_below_drewN ?_ _ | refine below_drew1 ?_))
                clear hK K hHeld
                have hHeld := hH2
                clear hH2
                refine wpAnyH_ready (rs := [13]) (by kernel_rfl) (by simp) ?_
                refine AllReadyH.cons rfl (fun K hK => ?_) ?_
                · skip
                  go_simp
                  refine hK.out _ _ ?_ (fun hH2 => ?_)
                  · (try dsimp only); exact HSS.out _ (by repeat (with_reducible first | exact Below.refl _ _ | exact HCF.out | exact HCQ.out | refine below_alloc ?_ _ | refine bytes_below1 ?_ _ _ | refine pw_below_drewN ?_ _ | refine below_drew1 ?_))
                  clear hK K hHeld
                  have hHeld := hH2
                  clear hH2
                  refine wpAnyH_ready (rs := [14]) (by kernel_rfl) (by simp) ?_
                  refine AllReadyH.cons rfl (fun K hK => ?_) ?_
                  · skip
                    refine step_parts_new (o := ⟨some 86, _, _, _, _, _⟩) _ [_, _, _] (by rfl) (.tmp 72) (.tmp 85) 74 (by rfl) W1.heap.size vb.ownBlock iB Tryd.underlying74 HI.out.1 HI.out.2.1 HI.out.2.2.1 HI.out.2.2.2 (.slice none 0 0) [] (by rfl) (PartsAt.nil _ _ _) 3 [bytesOf (opW x.f8), bytesOf x.f2, numsS x.f5] rfl (by rfl) ?hr12 (by simp) ?hb12 ?_
                    case hr12 => (refine rows3 (own8_row1 ?_ HO1.out) (own8_row1 ?_ HO1.out) (own8_row1 ?_ HO1.out) <;> (repeat (with_reducible first | exact HOQ.out | ((refine own8_bytes_dr _ _ _ _ ?_ HSZ1.out); exact below_size (by repeat (with_reducible first | exact Below.refl _ _ | exact HYF.out | exact HYR.out | exact HYQ.out | exact HYO.out | refine below_alloc ?_ _ | refine bytes_below1 ?_ _ _ | refine pw_below_drewN ?_ _ | refine below_drew1 ?_))) | ((refine own8_bytes _ _ _ _ ?_ HSZ1.out); exact below_size (by repeat (with_reducible first | exact Below.refl _ _ | exact HYF.out | exact HYR.out | exact HYQ.out | exact HYO.out | refine below_alloc ?_ _ | refine bytes_below1 ?_ _ _ | refine pw_below_drewN ?_ _ | refine below_drew1 ?_))) | ((refine own8_bytes_dr _ _ _ _ ?_ HSZ.out); exact below_size (by repeat (with_reducible first | exact Below.refl _ _ | exact HYF.out | exact HYR.out | exact HYQ.out | exact HYO.out | refine below_alloc ?_ _ | refine bytes_below1 ?_ _ _ | refine pw_below_drewN ?_ _ | refine below_drew1 ?_))) | ((refine own8_bytes _ _ _ _ ?_ HSZ.out); exact below_size (by repeat (with_reducible first | exact Below.refl _ _ | exact HYF.out | exact HYR.out | exact HYQ.out | exact HYO.out | refine below_alloc ?_ _ | refine bytes_below1 ?_ _ _ | refine pw_below_drewN ?_ _ | refine below_drew1 ?_))) | refine own8_by ?_ _ | refine own8_dr ?_ | refine own8_al ?_ _ | refine Own8.below ?_ HBO.out (Nat.le_refl _) | refine Own8.below ?_ HBQ.out (Nat.le_refl _))))
                    case hb12 => exact below_size (by repeat (with_reducible first | exact Below.refl _ _ | exact HYF.out | exact HYR.out | exact HYQ.out | exact HYO.out | refine below_alloc ?_ _ | refine bytes_below1 ?_ _ _ | refine pw_below_drewN ?_ _ | refine below_drew1 ?_))
                    intro v' w' hP hg ho
                    have HP := Aside0.mk hP
                    have HYF := Aside0.mk (show Below W1.heap.size W1 w' from Below.grown (below_alloc (by repeat (with_reducible first | exact Below.refl _ _ | exact HYF.out | exact HYR.out | exact HYQ.out | exact HYO.out | refine below_alloc ?_ _ | refine bytes_below1 ?_ _ _ | refine pw_below_drewN ?_ _ | refine below_drew1 ?_)) _) hg (below_size (below_alloc (by repeat (with_reducible first | exact Below.refl _ _ | exact HYF.out | exact HYR.out | exact HYQ.out | exact HYO.out | refine below_alloc ?_ _ | refine bytes_below1 ?_ _ _ | refine pw_below_drewN ?_ _ | refine below_drew1 ?_)) _)) (fun k hk => by cases hk))
                    have HCF := Aside0.mk (show Below w1.heap.size w1 w' from Below.grown (below_alloc (by repeat (with_reducible first | exact Below.refl _ _ | exact HCF.out | exact HCQ.out | refine below_alloc ?_ _ | refine bytes_below1 ?_ _ _ | refine pw_below_drewN ?_ _ | refine below_drew1 ?_)) _) hg (below_size (below_alloc (by repeat (with_reducible first | exact Below.refl _ _ | exact HCF.out | exact HCQ.out | refine below_alloc ?_ _ | refine bytes_below1 ?_ _ _ | refine pw_below_drewN ?_ _ | refine below_drew1 ?_)) _)) (fun k hk => by cases hk))
                    clear hP hg ho
                    refine hK.out _ _ ?_ (fun hH2 => ?_)
                    · (try dsimp only); exact HSS.out _ (by repeat (with_reducible first | exact Below.refl _ _ | exact HCF.out | exact HCQ.out | refine below_alloc ?_ _ | refine bytes_below1 ?_ _ _ | refine pw_below_drewN ?_ _ | refine below_drew1 ?_))
                    clear hK K hHeld
                    have hHeld := hH2
                    clear hH2
                    refine wpAnyH_take (i := 15) (oi := { dst := some 4, op := Op.assign (Operand.tmp 86), type := 74, pos := "text.go:71", after := #[{ on := 14, ground := Ground.data }, { on := 14, ground := Ground.chain }, { on := 0, ground := Ground.phase }, { on := 1, ground := Ground.phase }, { on := 2, ground := Ground.phase }, { on := 3, ground := Ground.phase }, { on := 4, ground := Ground.phase }, { on := 5, ground := Ground.phase }, { on := 6, ground := Ground.phase }, { on := 7, ground := Ground.phase }, { on := 8, ground := Ground.phase }, { on := 9, ground := Ground.phase }, { on := 10, ground := Ground.phase }, { on := 11, ground := Ground.phase }, { on := 12, ground := Ground.phase }, { on := 13, ground := Ground.phase }, { on := 14, ground := Ground.phase }], guard := none }) (v := ?vv13) rfl (by kernel_rfl) (by kernel_rfl) (by kernel_rfl) (fun _ _ _ h => h) (Or.inl ⟨by rfl, ?hy13⟩) hHeld ?rest13
                    case hy13 => (intro w hSw; (try dsimp only at hSw); go_simp; (try with_reducible rfl))
                    try simp only [Act.put, List.setIfInBounds_toArray, List.set_cons_zero, List.set_cons_succ]
                    refine wpAnyH_done (by kernel_rfl) ?_ _
                    (go_wp2_with fail; go_meet; exact ⟨_, rfl, ⟨by rw [HPS.out]; exact HP.out⟩, HYF⟩)
                  exact AllReadyH.nil
                exact AllReadyH.nil
              exact AllReadyH.nil
            refine AllReadyH.cons rfl (fun K hK => ?_) ?_
            · skip
              go_simp
              go_wp2_with (go_at_call 59; refine (HQ.out _ ?hbx14).mono ?_; (case hbx14 => exact (by repeat (with_reducible first | exact Below.refl _ _ | exact HYF.out | exact HYR.out | exact HYQ.out | exact HYO.out | refine below_alloc ?_ _ | refine bytes_below1 ?_ _ _ | refine pw_below_drewN ?_ _ | refine below_drew1 ?_))); rintro e wQ ⟨AQ, cQ, rfl, ho, hb, hy⟩; have HOQ := Aside0.mk ho; have HBQ := Aside0.mk hb; have HYQ := Aside0.mk hy; have HCQ := Aside0.mk (show Below w1.heap.size w1 wQ from below_then (by repeat (with_reducible first | exact Below.refl _ _ | exact HCF.out | exact HCQ.out | refine below_alloc ?_ _ | refine bytes_below1 ?_ _ _ | refine pw_below_drewN ?_ _ | refine below_drew1 ?_)) (below_size (by repeat (with_reducible first | exact Below.refl _ _ | exact HCF.out | exact HCQ.out | refine below_alloc ?_ _ | refine bytes_below1 ?_ _ _ | refine pw_below_drewN ?_ _ | refine below_drew1 ?_))) hb); clear ho hb hy)
              refine hK.out _ _ ?_ (fun hH2 => ?_)
              · (try dsimp only); exact HSS.out _ (by repeat (with_reducible first | exact Below.refl _ _ | exact HCF.out | exact HCQ.out | refine below_alloc ?_ _ | refine bytes_below1 ?_ _ _ | refine pw_below_drewN ?_ _ | refine below_drew1 ?_))
              clear hK K hHeld
              have hHeld := hH2
              clear hH2
              refine wpAnyH_ready (rs := [9]) (by kernel_rfl) (by simp) ?_
              refine AllReadyH.cons rfl (fun K hK => ?_) ?_
              · skip
                go_simp
                refine hK.out _ _ ?_ (fun hH2 => ?_)
                · (try dsimp only); exact HSS.out _ (by repeat (with_reducible first | exact Below.refl _ _ | exact HCF.out | exact HCQ.out | refine below_alloc ?_ _ | refine bytes_below1 ?_ _ _ | refine pw_below_drewN ?_ _ | refine below_drew1 ?_))
                clear hK K hHeld
                have hHeld := hH2
                clear hH2
                refine wpAnyH_ready (rs := [13]) (by kernel_rfl) (by simp) ?_
                refine AllReadyH.cons rfl (fun K hK => ?_) ?_
                · skip
                  go_simp
                  refine hK.out _ _ ?_ (fun hH2 => ?_)
                  · (try dsimp only); exact HSS.out _ (by repeat (with_reducible first | exact Below.refl _ _ | exact HCF.out | exact HCQ.out | refine below_alloc ?_ _ | refine bytes_below1 ?_ _ _ | refine pw_below_drewN ?_ _ | refine below_drew1 ?_))
                  clear hK K hHeld
                  have hHeld := hH2
                  clear hH2
                  refine wpAnyH_ready (rs := [14]) (by kernel_rfl) (by simp) ?_
                  refine AllReadyH.cons rfl (fun K hK => ?_) ?_
                  · skip
                    refine step_parts_new (o := ⟨some 86, _, _, _, _, _⟩) _ [_, _, _] (by rfl) (.tmp 72) (.tmp 85) 74 (by rfl) W1.heap.size vb.ownBlock iB Tryd.underlying74 HI.out.1 HI.out.2.1 HI.out.2.2.1 HI.out.2.2.2 (.slice none 0 0) [] (by rfl) (PartsAt.nil _ _ _) 3 [bytesOf (opW x.f8), bytesOf x.f2, numsS x.f5] rfl (by rfl) ?hr15 (by simp) ?hb15 ?_
                    case hr15 => (refine rows3 (own8_row1 ?_ HO1.out) (own8_row1 ?_ HO1.out) (own8_row1 ?_ HO1.out) <;> (repeat (with_reducible first | exact HOQ.out | ((refine own8_bytes_dr _ _ _ _ ?_ HSZ1.out); exact below_size (by repeat (with_reducible first | exact Below.refl _ _ | exact HYF.out | exact HYR.out | exact HYQ.out | exact HYO.out | refine below_alloc ?_ _ | refine bytes_below1 ?_ _ _ | refine pw_below_drewN ?_ _ | refine below_drew1 ?_))) | ((refine own8_bytes _ _ _ _ ?_ HSZ1.out); exact below_size (by repeat (with_reducible first | exact Below.refl _ _ | exact HYF.out | exact HYR.out | exact HYQ.out | exact HYO.out | refine below_alloc ?_ _ | refine bytes_below1 ?_ _ _ | refine pw_below_drewN ?_ _ | refine below_drew1 ?_))) | ((refine own8_bytes_dr _ _ _ _ ?_ HSZ.out); exact below_size (by repeat (with_reducible first | exact Below.refl _ _ | exact HYF.out | exact HYR.out | exact HYQ.out | exact HYO.out | refine below_alloc ?_ _ | refine bytes_below1 ?_ _ _ | refine pw_below_drewN ?_ _ | refine below_drew1 ?_))) | ((refine own8_bytes _ _ _ _ ?_ HSZ.out); exact below_size (by repeat (with_reducible first | exact Below.refl _ _ | exact HYF.out | exact HYR.out | exact HYQ.out | exact HYO.out | refine below_alloc ?_ _ | refine bytes_below1 ?_ _ _ | refine pw_below_drewN ?_ _ | refine below_drew1 ?_))) | refine own8_by ?_ _ | refine own8_dr ?_ | refine own8_al ?_ _ | refine Own8.below ?_ HBO.out (Nat.le_refl _) | refine Own8.below ?_ HBQ.out (Nat.le_refl _))))
                    case hb15 => exact below_size (by repeat (with_reducible first | exact Below.refl _ _ | exact HYF.out | exact HYR.out | exact HYQ.out | exact HYO.out | refine below_alloc ?_ _ | refine bytes_below1 ?_ _ _ | refine pw_below_drewN ?_ _ | refine below_drew1 ?_))
                    intro v' w' hP hg ho
                    have HP := Aside0.mk hP
                    have HYF := Aside0.mk (show Below W1.heap.size W1 w' from Below.grown (below_alloc (by repeat (with_reducible first | exact Below.refl _ _ | exact HYF.out | exact HYR.out | exact HYQ.out | exact HYO.out | refine below_alloc ?_ _ | refine bytes_below1 ?_ _ _ | refine pw_below_drewN ?_ _ | refine below_drew1 ?_)) _) hg (below_size (below_alloc (by repeat (with_reducible first | exact Below.refl _ _ | exact HYF.out | exact HYR.out | exact HYQ.out | exact HYO.out | refine below_alloc ?_ _ | refine bytes_below1 ?_ _ _ | refine pw_below_drewN ?_ _ | refine below_drew1 ?_)) _)) (fun k hk => by cases hk))
                    have HCF := Aside0.mk (show Below w1.heap.size w1 w' from Below.grown (below_alloc (by repeat (with_reducible first | exact Below.refl _ _ | exact HCF.out | exact HCQ.out | refine below_alloc ?_ _ | refine bytes_below1 ?_ _ _ | refine pw_below_drewN ?_ _ | refine below_drew1 ?_)) _) hg (below_size (below_alloc (by repeat (with_reducible first | exact Below.refl _ _ | exact HCF.out | exact HCQ.out | refine below_alloc ?_ _ | refine bytes_below1 ?_ _ _ | refine pw_below_drewN ?_ _ | refine below_drew1 ?_)) _)) (fun k hk => by cases hk))
                    clear hP hg ho
                    refine hK.out _ _ ?_ (fun hH2 => ?_)
                    · (try dsimp only); exact HSS.out _ (by repeat (with_reducible first | exact Below.refl _ _ | exact HCF.out | exact HCQ.out | refine below_alloc ?_ _ | refine bytes_below1 ?_ _ _ | refine pw_below_drewN ?_ _ | refine below_drew1 ?_))
                    clear hK K hHeld
                    have hHeld := hH2
                    clear hH2
                    refine wpAnyH_take (i := 15) (oi := { dst := some 4, op := Op.assign (Operand.tmp 86), type := 74, pos := "text.go:71", after := #[{ on := 14, ground := Ground.data }, { on := 14, ground := Ground.chain }, { on := 0, ground := Ground.phase }, { on := 1, ground := Ground.phase }, { on := 2, ground := Ground.phase }, { on := 3, ground := Ground.phase }, { on := 4, ground := Ground.phase }, { on := 5, ground := Ground.phase }, { on := 6, ground := Ground.phase }, { on := 7, ground := Ground.phase }, { on := 8, ground := Ground.phase }, { on := 9, ground := Ground.phase }, { on := 10, ground := Ground.phase }, { on := 11, ground := Ground.phase }, { on := 12, ground := Ground.phase }, { on := 13, ground := Ground.phase }, { on := 14, ground := Ground.phase }], guard := none }) (v := ?vv16) rfl (by kernel_rfl) (by kernel_rfl) (by kernel_rfl) (fun _ _ _ h => h) (Or.inl ⟨by rfl, ?hy16⟩) hHeld ?rest16
                    case hy16 => (intro w hSw; (try dsimp only at hSw); go_simp; (try with_reducible rfl))
                    try simp only [Act.put, List.setIfInBounds_toArray, List.set_cons_zero, List.set_cons_succ]
                    refine wpAnyH_done (by kernel_rfl) ?_ _
                    (go_wp2_with fail; go_meet; exact ⟨_, rfl, ⟨by rw [HPS.out]; exact HP.out⟩, HYF⟩)
                  exact AllReadyH.nil
                exact AllReadyH.nil
              exact AllReadyH.nil
            exact AllReadyH.nil
          refine AllReadyH.cons rfl (fun K hK => ?_) ?_
          · skip
            go_simp
            refine hK.out _ _ ?_ (fun hH2 => ?_)
            · (try dsimp only); exact HSS.out _ (by repeat (with_reducible first | exact Below.refl _ _ | exact HCF.out | exact HCQ.out | refine below_alloc ?_ _ | refine bytes_below1 ?_ _ _ | refine pw_below_drewN ?_ _ | refine below_drew1 ?_))
            clear hK K hHeld
            have hHeld := hH2
            clear hH2
            refine wpAnyH_ready (rs := [6, 12]) (by kernel_rfl) (by simp) ?_
            refine AllReadyH.cons rfl (fun K hK => ?_) ?_
            · skip
              go_simp
              refine hK.out _ _ ?_ (fun hH2 => ?_)
              · (try dsimp only); exact HSS.out _ (by repeat (with_reducible first | exact Below.refl _ _ | exact HCF.out | exact HCQ.out | refine below_alloc ?_ _ | refine bytes_below1 ?_ _ _ | refine pw_below_drewN ?_ _ | refine below_drew1 ?_))
              clear hK K hHeld
              have hHeld := hH2
              clear hH2
              refine wpAnyH_ready (rs := [12]) (by kernel_rfl) (by simp) ?_
              refine AllReadyH.cons rfl (fun K hK => ?_) ?_
              · skip
                go_simp
                go_wp2_with (go_at_call 59; refine (HQ.out _ ?hbx17).mono ?_; (case hbx17 => exact (by repeat (with_reducible first | exact Below.refl _ _ | exact HYF.out | exact HYR.out | exact HYQ.out | exact HYO.out | refine below_alloc ?_ _ | refine bytes_below1 ?_ _ _ | refine pw_below_drewN ?_ _ | refine below_drew1 ?_))); rintro e wQ ⟨AQ, cQ, rfl, ho, hb, hy⟩; have HOQ := Aside0.mk ho; have HBQ := Aside0.mk hb; have HYQ := Aside0.mk hy; have HCQ := Aside0.mk (show Below w1.heap.size w1 wQ from below_then (by repeat (with_reducible first | exact Below.refl _ _ | exact HCF.out | exact HCQ.out | refine below_alloc ?_ _ | refine bytes_below1 ?_ _ _ | refine pw_below_drewN ?_ _ | refine below_drew1 ?_)) (below_size (by repeat (with_reducible first | exact Below.refl _ _ | exact HCF.out | exact HCQ.out | refine below_alloc ?_ _ | refine bytes_below1 ?_ _ _ | refine pw_below_drewN ?_ _ | refine below_drew1 ?_))) hb); clear ho hb hy)
                refine hK.out _ _ ?_ (fun hH2 => ?_)
                · (try dsimp only); exact HSS.out _ (by repeat (with_reducible first | exact Below.refl _ _ | exact HCF.out | exact HCQ.out | refine below_alloc ?_ _ | refine bytes_below1 ?_ _ _ | refine pw_below_drewN ?_ _ | refine below_drew1 ?_))
                clear hK K hHeld
                have hHeld := hH2
                clear hH2
                refine wpAnyH_ready (rs := [13]) (by kernel_rfl) (by simp) ?_
                refine AllReadyH.cons rfl (fun K hK => ?_) ?_
                · skip
                  go_simp
                  refine hK.out _ _ ?_ (fun hH2 => ?_)
                  · (try dsimp only); exact HSS.out _ (by repeat (with_reducible first | exact Below.refl _ _ | exact HCF.out | exact HCQ.out | refine below_alloc ?_ _ | refine bytes_below1 ?_ _ _ | refine pw_below_drewN ?_ _ | refine below_drew1 ?_))
                  clear hK K hHeld
                  have hHeld := hH2
                  clear hH2
                  refine wpAnyH_ready (rs := [14]) (by kernel_rfl) (by simp) ?_
                  refine AllReadyH.cons rfl (fun K hK => ?_) ?_
                  · skip
                    refine step_parts_new (o := ⟨some 86, _, _, _, _, _⟩) _ [_, _, _] (by rfl) (.tmp 72) (.tmp 85) 74 (by rfl) W1.heap.size vb.ownBlock iB Tryd.underlying74 HI.out.1 HI.out.2.1 HI.out.2.2.1 HI.out.2.2.2 (.slice none 0 0) [] (by rfl) (PartsAt.nil _ _ _) 3 [bytesOf (opW x.f8), bytesOf x.f2, numsS x.f5] rfl (by rfl) ?hr18 (by simp) ?hb18 ?_
                    case hr18 => (refine rows3 (own8_row1 ?_ HO1.out) (own8_row1 ?_ HO1.out) (own8_row1 ?_ HO1.out) <;> (repeat (with_reducible first | exact HOQ.out | ((refine own8_bytes_dr _ _ _ _ ?_ HSZ1.out); exact below_size (by repeat (with_reducible first | exact Below.refl _ _ | exact HYF.out | exact HYR.out | exact HYQ.out | exact HYO.out | refine below_alloc ?_ _ | refine bytes_below1 ?_ _ _ | refine pw_below_drewN ?_ _ | refine below_drew1 ?_))) | ((refine own8_bytes _ _ _ _ ?_ HSZ1.out); exact below_size (by repeat (with_reducible first | exact Below.refl _ _ | exact HYF.out | exact HYR.out | exact HYQ.out | exact HYO.out | refine below_alloc ?_ _ | refine bytes_below1 ?_ _ _ | refine pw_below_drewN ?_ _ | refine below_drew1 ?_))) | ((refine own8_bytes_dr _ _ _ _ ?_ HSZ.out); exact below_size (by repeat (with_reducible first | exact Below.refl _ _ | exact HYF.out | exact HYR.out | exact HYQ.out | exact HYO.out | refine below_alloc ?_ _ | refine bytes_below1 ?_ _ _ | refine pw_below_drewN ?_ _ | refine below_drew1 ?_))) | ((refine own8_bytes _ _ _ _ ?_ HSZ.out); exact below_size (by repeat (with_reducible first | exact Below.refl _ _ | exact HYF.out | exact HYR.out | exact HYQ.out | exact HYO.out | refine below_alloc ?_ _ | refine bytes_below1 ?_ _ _ | refine pw_below_drewN ?_ _ | refine below_drew1 ?_))) | refine own8_by ?_ _ | refine own8_dr ?_ | refine own8_al ?_ _ | refine Own8.below ?_ HBO.out (Nat.le_refl _) | refine Own8.below ?_ HBQ.out (Nat.le_refl _))))
                    case hb18 => exact below_size (by repeat (with_reducible first | exact Below.refl _ _ | exact HYF.out | exact HYR.out | exact HYQ.out | exact HYO.out | refine below_alloc ?_ _ | refine bytes_below1 ?_ _ _ | refine pw_below_drewN ?_ _ | refine below_drew1 ?_))
                    intro v' w' hP hg ho
                    have HP := Aside0.mk hP
                    have HYF := Aside0.mk (show Below W1.heap.size W1 w' from Below.grown (below_alloc (by repeat (with_reducible first | exact Below.refl _ _ | exact HYF.out | exact HYR.out | exact HYQ.out | exact HYO.out | refine below_alloc ?_ _ | refine bytes_below1 ?_ _ _ | refine pw_below_drewN ?_ _ | refine below_drew1 ?_)) _) hg (below_size (below_alloc (by repeat (with_reducible first | exact Below.refl _ _ | exact HYF.out | exact HYR.out | exact HYQ.out | exact HYO.out | refine below_alloc ?_ _ | refine bytes_below1 ?_ _ _ | refine pw_below_drewN ?_ _ | refine below_drew1 ?_)) _)) (fun k hk => by cases hk))
                    have HCF := Aside0.mk (show Below w1.heap.size w1 w' from Below.grown (below_alloc (by repeat (with_reducible first | exact Below.refl _ _ | exact HCF.out | exact HCQ.out | refine below_alloc ?_ _ | refine bytes_below1 ?_ _ _ | refine pw_below_drewN ?_ _ | refine below_drew1 ?_)) _) hg (below_size (below_alloc (by repeat (with_reducible first | exact Below.refl _ _ | exact HCF.out | exact HCQ.out | refine below_alloc ?_ _ | refine bytes_below1 ?_ _ _ | refine pw_below_drewN ?_ _ | refine below_drew1 ?_)) _)) (fun k hk => by cases hk))
                    clear hP hg ho
                    refine hK.out _ _ ?_ (fun hH2 => ?_)
                    · (try dsimp only); exact HSS.out _ (by repeat (with_reducible first | exact Below.refl _ _ | exact HCF.out | exact HCQ.out | refine below_alloc ?_ _ | refine bytes_below1 ?_ _ _ | refine pw_below_drewN ?_ _ | refine below_drew1 ?_))
                    clear hK K hHeld
                    have hHeld := hH2
                    clear hH2
                    refine wpAnyH_take (i := 15) (oi := { dst := some 4, op := Op.assign (Operand.tmp 86), type := 74, pos := "text.go:71", after := #[{ on := 14, ground := Ground.data }, { on := 14, ground := Ground.chain }, { on := 0, ground := Ground.phase }, { on := 1, ground := Ground.phase }, { on := 2, ground := Ground.phase }, { on := 3, ground := Ground.phase }, { on := 4, ground := Ground.phase }, { on := 5, ground := Ground.phase }, { on := 6, ground := Ground.phase }, { on := 7, ground := Ground.phase }, { on := 8, ground := Ground.phase }, { on := 9, ground := Ground.phase }, { on := 10, ground := Ground.phase }, { on := 11, ground := Ground.phase }, { on := 12, ground := Ground.phase }, { on := 13, ground := Ground.phase }, { on := 14, ground := Ground.phase }], guard := none }) (v := ?vv19) rfl (by kernel_rfl) (by kernel_rfl) (by kernel_rfl) (fun _ _ _ h => h) (Or.inl ⟨by rfl, ?hy19⟩) hHeld ?rest19
                    case hy19 => (intro w hSw; (try dsimp only at hSw); go_simp; (try with_reducible rfl))
                    try simp only [Act.put, List.setIfInBounds_toArray, List.set_cons_zero, List.set_cons_succ]
                    refine wpAnyH_done (by kernel_rfl) ?_ _
                    (go_wp2_with fail; go_meet; exact ⟨_, rfl, ⟨by rw [HPS.out]; exact HP.out⟩, HYF⟩)
                  exact AllReadyH.nil
                exact AllReadyH.nil
              exact AllReadyH.nil
            refine AllReadyH.cons rfl (fun K hK => ?_) ?_
            · skip
              go_simp
              go_wp2_with (go_at_call 59; refine (HQ.out _ ?hbx20).mono ?_; (case hbx20 => exact (by repeat (with_reducible first | exact Below.refl _ _ | exact HYF.out | exact HYR.out | exact HYQ.out | exact HYO.out | refine below_alloc ?_ _ | refine bytes_below1 ?_ _ _ | refine pw_below_drewN ?_ _ | refine below_drew1 ?_))); rintro e wQ ⟨AQ, cQ, rfl, ho, hb, hy⟩; have HOQ := Aside0.mk ho; have HBQ := Aside0.mk hb; have HYQ := Aside0.mk hy; have HCQ := Aside0.mk (show Below w1.heap.size w1 wQ from below_then (by repeat (with_reducible first | exact Below.refl _ _ | exact HCF.out | exact HCQ.out | refine below_alloc ?_ _ | refine bytes_below1 ?_ _ _ | refine pw_below_drewN ?_ _ | refine below_drew1 ?_)) (below_size (by repeat (with_reducible first | exact Below.refl _ _ | exact HCF.out | exact HCQ.out | refine below_alloc ?_ _ | refine bytes_below1 ?_ _ _ | refine pw_below_drewN ?_ _ | refine below_drew1 ?_))) hb); clear ho hb hy)
              refine hK.out _ _ ?_ (fun hH2 => ?_)
              · (try dsimp only); exact HSS.out _ (by repeat (with_reducible first | exact Below.refl _ _ | exact HCF.out | exact HCQ.out | refine below_alloc ?_ _ | refine bytes_below1 ?_ _ _ | refine pw_below_drewN ?_ _ | refine below_drew1 ?_))
              clear hK K hHeld
              have hHeld := hH2
              clear hH2
              refine wpAnyH_ready (rs := [6]) (by kernel_rfl) (by simp) ?_
              refine AllReadyH.cons rfl (fun K hK => ?_) ?_
              · skip
                go_simp
                refine hK.out _ _ ?_ (fun hH2 => ?_)
                · (try dsimp only); exact HSS.out _ (by repeat (with_reducible first | exact Below.refl _ _ | exact HCF.out | exact HCQ.out | refine below_alloc ?_ _ | refine bytes_below1 ?_ _ _ | refine pw_below_drewN ?_ _ | refine below_drew1 ?_))
                clear hK K hHeld
                have hHeld := hH2
                clear hH2
                refine wpAnyH_ready (rs := [13]) (by kernel_rfl) (by simp) ?_
                refine AllReadyH.cons rfl (fun K hK => ?_) ?_
                · skip
                  go_simp
                  refine hK.out _ _ ?_ (fun hH2 => ?_)
                  · (try dsimp only); exact HSS.out _ (by repeat (with_reducible first | exact Below.refl _ _ | exact HCF.out | exact HCQ.out | refine below_alloc ?_ _ | refine bytes_below1 ?_ _ _ | refine pw_below_drewN ?_ _ | refine below_drew1 ?_))
                  clear hK K hHeld
                  have hHeld := hH2
                  clear hH2
                  refine wpAnyH_ready (rs := [14]) (by kernel_rfl) (by simp) ?_
                  refine AllReadyH.cons rfl (fun K hK => ?_) ?_
                  · skip
                    refine step_parts_new (o := ⟨some 86, _, _, _, _, _⟩) _ [_, _, _] (by rfl) (.tmp 72) (.tmp 85) 74 (by rfl) W1.heap.size vb.ownBlock iB Tryd.underlying74 HI.out.1 HI.out.2.1 HI.out.2.2.1 HI.out.2.2.2 (.slice none 0 0) [] (by rfl) (PartsAt.nil _ _ _) 3 [bytesOf (opW x.f8), bytesOf x.f2, numsS x.f5] rfl (by rfl) ?hr21 (by simp) ?hb21 ?_
                    case hr21 => (refine rows3 (own8_row1 ?_ HO1.out) (own8_row1 ?_ HO1.out) (own8_row1 ?_ HO1.out) <;> (repeat (with_reducible first | exact HOQ.out | ((refine own8_bytes_dr _ _ _ _ ?_ HSZ1.out); exact below_size (by repeat (with_reducible first | exact Below.refl _ _ | exact HYF.out | exact HYR.out | exact HYQ.out | exact HYO.out | refine below_alloc ?_ _ | refine bytes_below1 ?_ _ _ | refine pw_below_drewN ?_ _ | refine below_drew1 ?_))) | ((refine own8_bytes _ _ _ _ ?_ HSZ1.out); exact below_size (by repeat (with_reducible first | exact Below.refl _ _ | exact HYF.out | exact HYR.out | exact HYQ.out | exact HYO.out | refine below_alloc ?_ _ | refine bytes_below1 ?_ _ _ | refine pw_below_drewN ?_ _ | refine below_drew1 ?_))) | ((refine own8_bytes_dr _ _ _ _ ?_ HSZ.out); exact below_size (by repeat (with_reducible first | exact Below.refl _ _ | exact HYF.out | exact HYR.out | exact HYQ.out | exact HYO.out | refine below_alloc ?_ _ | refine bytes_below1 ?_ _ _ | refine pw_below_drewN ?_ _ | refine below_drew1 ?_))) | ((refine own8_bytes _ _ _ _ ?_ HSZ.out); exact below_size (by repeat (with_reducible first | exact Below.refl _ _ | exact HYF.out | exact HYR.out | exact HYQ.out | exact HYO.out | refine below_alloc ?_ _ | refine bytes_below1 ?_ _ _ | refine pw_below_drewN ?_ _ | refine below_drew1 ?_))) | refine own8_by ?_ _ | refine own8_dr ?_ | refine own8_al ?_ _ | refine Own8.below ?_ HBO.out (Nat.le_refl _) | refine Own8.below ?_ HBQ.out (Nat.le_refl _))))
                    case hb21 => exact below_size (by repeat (with_reducible first | exact Below.refl _ _ | exact HYF.out | exact HYR.out | exact HYQ.out | exact HYO.out | refine below_alloc ?_ _ | refine bytes_below1 ?_ _ _ | refine pw_below_drewN ?_ _ | refine below_drew1 ?_))
                    intro v' w' hP hg ho
                    have HP := Aside0.mk hP
                    have HYF := Aside0.mk (show Below W1.heap.size W1 w' from Below.grown (below_alloc (by repeat (with_reducible first | exact Below.refl _ _ | exact HYF.out | exact HYR.out | exact HYQ.out | exact HYO.out | refine below_alloc ?_ _ | refine bytes_below1 ?_ _ _ | refine pw_below_drewN ?_ _ | refine below_drew1 ?_)) _) hg (below_size (below_alloc (by repeat (with_reducible first | exact Below.refl _ _ | exact HYF.out | exact HYR.out | exact HYQ.out | exact HYO.out | refine below_alloc ?_ _ | refine bytes_below1 ?_ _ _ | refine pw_below_drewN ?_ _ | refine below_drew1 ?_)) _)) (fun k hk => by cases hk))
                    have HCF := Aside0.mk (show Below w1.heap.size w1 w' from Below.grown (below_alloc (by repeat (with_reducible first | exact Below.refl _ _ | exact HCF.out | exact HCQ.out | refine below_alloc ?_ _ | refine bytes_below1 ?_ _ _ | refine pw_below_drewN ?_ _ | refine below_drew1 ?_)) _) hg (below_size (below_alloc (by repeat (with_reducible first | exact Below.refl _ _ | exact HCF.out | exact HCQ.out | refine below_alloc ?_ _ | refine bytes_below1 ?_ _ _ | refine pw_below_drewN ?_ _ | refine below_drew1 ?_)) _)) (fun k hk => by cases hk))
                    clear hP hg ho
                    refine hK.out _ _ ?_ (fun hH2 => ?_)
                    · (try dsimp only); exact HSS.out _ (by repeat (with_reducible first | exact Below.refl _ _ | exact HCF.out | exact HCQ.out | refine below_alloc ?_ _ | refine bytes_below1 ?_ _ _ | refine pw_below_drewN ?_ _ | refine below_drew1 ?_))
                    clear hK K hHeld
                    have hHeld := hH2
                    clear hH2
                    refine wpAnyH_take (i := 15) (oi := { dst := some 4, op := Op.assign (Operand.tmp 86), type := 74, pos := "text.go:71", after := #[{ on := 14, ground := Ground.data }, { on := 14, ground := Ground.chain }, { on := 0, ground := Ground.phase }, { on := 1, ground := Ground.phase }, { on := 2, ground := Ground.phase }, { on := 3, ground := Ground.phase }, { on := 4, ground := Ground.phase }, { on := 5, ground := Ground.phase }, { on := 6, ground := Ground.phase }, { on := 7, ground := Ground.phase }, { on := 8, ground := Ground.phase }, { on := 9, ground := Ground.phase }, { on := 10, ground := Ground.phase }, { on := 11, ground := Ground.phase }, { on := 12, ground := Ground.phase }, { on := 13, ground := Ground.phase }, { on := 14, ground := Ground.phase }], guard := none }) (v := ?vv22) rfl (by kernel_rfl) (by kernel_rfl) (by kernel_rfl) (fun _ _ _ h => h) (Or.inl ⟨by rfl, ?hy22⟩) hHeld ?rest22
                    case hy22 => (intro w hSw; (try dsimp only at hSw); go_simp; (try with_reducible rfl))
                    try simp only [Act.put, List.setIfInBounds_toArray, List.set_cons_zero, List.set_cons_succ]
                    refine wpAnyH_done (by kernel_rfl) ?_ _
                    (go_wp2_with fail; go_meet; exact ⟨_, rfl, ⟨by rw [HPS.out]; exact HP.out⟩, HYF⟩)
                  exact AllReadyH.nil
                exact AllReadyH.nil
              exact AllReadyH.nil
            exact AllReadyH.nil
          refine AllReadyH.cons rfl (fun K hK => ?_) ?_
          · skip
            go_simp
            go_wp2_with (go_at_call 59; refine (HQ.out _ ?hbx23).mono ?_; (case hbx23 => exact (by repeat (with_reducible first | exact Below.refl _ _ | exact HYF.out | exact HYR.out | exact HYQ.out | exact HYO.out | refine below_alloc ?_ _ | refine bytes_below1 ?_ _ _ | refine pw_below_drewN ?_ _ | refine below_drew1 ?_))); rintro e wQ ⟨AQ, cQ, rfl, ho, hb, hy⟩; have HOQ := Aside0.mk ho; have HBQ := Aside0.mk hb; have HYQ := Aside0.mk hy; have HCQ := Aside0.mk (show Below w1.heap.size w1 wQ from below_then (by repeat (with_reducible first | exact Below.refl _ _ | exact HCF.out | exact HCQ.out | refine below_alloc ?_ _ | refine bytes_below1 ?_ _ _ | refine pw_below_drewN ?_ _ | refine below_drew1 ?_)) (below_size (by repeat (with_reducible first | exact Below.refl _ _ | exact HCF.out | exact HCQ.out | refine below_alloc ?_ _ | refine bytes_below1 ?_ _ _ | refine pw_below_drewN ?_ _ | refine below_drew1 ?_))) hb); clear ho hb hy)
            refine hK.out _ _ ?_ (fun hH2 => ?_)
            · (try dsimp only); exact HSS.out _ (by repeat (with_reducible first | exact Below.refl _ _ | exact HCF.out | exact HCQ.out | refine below_alloc ?_ _ | refine bytes_below1 ?_ _ _ | refine pw_below_drewN ?_ _ | refine below_drew1 ?_))
            clear hK K hHeld
            have hHeld := hH2
            clear hH2
            refine wpAnyH_ready (rs := [6, 9]) (by kernel_rfl) (by simp) ?_
            refine AllReadyH.cons rfl (fun K hK => ?_) ?_
            · skip
              go_simp
              refine hK.out _ _ ?_ (fun hH2 => ?_)
              · (try dsimp only); exact HSS.out _ (by repeat (with_reducible first | exact Below.refl _ _ | exact HCF.out | exact HCQ.out | refine below_alloc ?_ _ | refine bytes_below1 ?_ _ _ | refine pw_below_drewN ?_ _ | refine below_drew1 ?_))
              clear hK K hHeld
              have hHeld := hH2
              clear hH2
              refine wpAnyH_ready (rs := [9]) (by kernel_rfl) (by simp) ?_
              refine AllReadyH.cons rfl (fun K hK => ?_) ?_
              · skip
                go_simp
                refine hK.out _ _ ?_ (fun hH2 => ?_)
                · (try dsimp only); exact HSS.out _ (by repeat (with_reducible first | exact Below.refl _ _ | exact HCF.out | exact HCQ.out | refine below_alloc ?_ _ | refine bytes_below1 ?_ _ _ | refine pw_below_drewN ?_ _ | refine below_drew1 ?_))
                clear hK K hHeld
                have hHeld := hH2
                clear hH2
                refine wpAnyH_ready (rs := [13]) (by kernel_rfl) (by simp) ?_
                refine AllReadyH.cons rfl (fun K hK => ?_) ?_
                · skip
                  go_simp
                  refine hK.out _ _ ?_ (fun hH2 => ?_)
                  · (try dsimp only); exact HSS.out _ (by repeat (with_reducible first | exact Below.refl _ _ | exact HCF.out | exact HCQ.out | refine below_alloc ?_ _ | refine bytes_below1 ?_ _ _ | refine pw_below_drewN ?_ _ | refine below_drew1 ?_))
                  clear hK K hHeld
                  have hHeld := hH2
                  clear hH2
                  refine wpAnyH_ready (rs := [14]) (by kernel_rfl) (by simp) ?_
                  refine AllReadyH.cons rfl (fun K hK => ?_) ?_
                  · skip
                    refine step_parts_new (o := ⟨some 86, _, _, _, _, _⟩) _ [_, _, _] (by rfl) (.tmp 72) (.tmp 85) 74 (by rfl) W1.heap.size vb.ownBlock iB Tryd.underlying74 HI.out.1 HI.out.2.1 HI.out.2.2.1 HI.out.2.2.2 (.slice none 0 0) [] (by rfl) (PartsAt.nil _ _ _) 3 [bytesOf (opW x.f8), bytesOf x.f2, numsS x.f5] rfl (by rfl) ?hr24 (by simp) ?hb24 ?_
                    case hr24 => (refine rows3 (own8_row1 ?_ HO1.out) (own8_row1 ?_ HO1.out) (own8_row1 ?_ HO1.out) <;> (repeat (with_reducible first | exact HOQ.out | ((refine own8_bytes_dr _ _ _ _ ?_ HSZ1.out); exact below_size (by repeat (with_reducible first | exact Below.refl _ _ | exact HYF.out | exact HYR.out | exact HYQ.out | exact HYO.out | refine below_alloc ?_ _ | refine bytes_below1 ?_ _ _ | refine pw_below_drewN ?_ _ | refine below_drew1 ?_))) | ((refine own8_bytes _ _ _ _ ?_ HSZ1.out); exact below_size (by repeat (with_reducible first | exact Below.refl _ _ | exact HYF.out | exact HYR.out | exact HYQ.out | exact HYO.out | refine below_alloc ?_ _ | refine bytes_below1 ?_ _ _ | refine pw_below_drewN ?_ _ | refine below_drew1 ?_))) | ((refine own8_bytes_dr _ _ _ _ ?_ HSZ.out); exact below_size (by repeat (with_reducible first | exact Below.refl _ _ | exact HYF.out | exact HYR.out | exact HYQ.out | exact HYO.out | refine below_alloc ?_ _ | refine bytes_below1 ?_ _ _ | refine pw_below_drewN ?_ _ | refine below_drew1 ?_))) | ((refine own8_bytes _ _ _ _ ?_ HSZ.out); exact below_size (by repeat (with_reducible first | exact Below.refl _ _ | exact HYF.out | exact HYR.out | exact HYQ.out | exact HYO.out | refine below_alloc ?_ _ | refine bytes_below1 ?_ _ _ | refine pw_below_drewN ?_ _ | refine below_drew1 ?_))) | refine own8_by ?_ _ | refine own8_dr ?_ | refine own8_al ?_ _ | refine Own8.below ?_ HBO.out (Nat.le_refl _) | refine Own8.below ?_ HBQ.out (Nat.le_refl _))))
                    case hb24 => exact below_size (by repeat (with_reducible first | exact Below.refl _ _ | exact HYF.out | exact HYR.out | exact HYQ.out | exact HYO.out | refine below_alloc ?_ _ | refine bytes_below1 ?_ _ _ | refine pw_below_drewN ?_ _ | refine below_drew1 ?_))
                    intro v' w' hP hg ho
                    have HP := Aside0.mk hP
                    have HYF := Aside0.mk (show Below W1.heap.size W1 w' from Below.grown (below_alloc (by repeat (with_reducible first | exact Below.refl _ _ | exact HYF.out | exact HYR.out | exact HYQ.out | exact HYO.out | refine below_alloc ?_ _ | refine bytes_below1 ?_ _ _ | refine pw_below_drewN ?_ _ | refine below_drew1 ?_)) _) hg (below_size (below_alloc (by repeat (with_reducible first | exact Below.refl _ _ | exact HYF.out | exact HYR.out | exact HYQ.out | exact HYO.out | refine below_alloc ?_ _ | refine bytes_below1 ?_ _ _ | refine pw_below_drewN ?_ _ | refine below_drew1 ?_)) _)) (fun k hk => by cases hk))
                    have HCF := Aside0.mk (show Below w1.heap.size w1 w' from Below.grown (below_alloc (by repeat (with_reducible first | exact Below.refl _ _ | exact HCF.out | exact HCQ.out | refine below_alloc ?_ _ | refine bytes_below1 ?_ _ _ | refine pw_below_drewN ?_ _ | refine below_drew1 ?_)) _) hg (below_size (below_alloc (by repeat (with_reducible first | exact Below.refl _ _ | exact HCF.out | exact HCQ.out | refine below_alloc ?_ _ | refine bytes_below1 ?_ _ _ | refine pw_below_drewN ?_ _ | refine below_drew1 ?_)) _)) (fun k hk => by cases hk))
                    clear hP hg ho
                    refine hK.out _ _ ?_ (fun hH2 => ?_)
                    · (try dsimp only); exact HSS.out _ (by repeat (with_reducible first | exact Below.refl _ _ | exact HCF.out | exact HCQ.out | refine below_alloc ?_ _ | refine bytes_below1 ?_ _ _ | refine pw_below_drewN ?_ _ | refine below_drew1 ?_))
                    clear hK K hHeld
                    have hHeld := hH2
                    clear hH2
                    refine wpAnyH_take (i := 15) (oi := { dst := some 4, op := Op.assign (Operand.tmp 86), type := 74, pos := "text.go:71", after := #[{ on := 14, ground := Ground.data }, { on := 14, ground := Ground.chain }, { on := 0, ground := Ground.phase }, { on := 1, ground := Ground.phase }, { on := 2, ground := Ground.phase }, { on := 3, ground := Ground.phase }, { on := 4, ground := Ground.phase }, { on := 5, ground := Ground.phase }, { on := 6, ground := Ground.phase }, { on := 7, ground := Ground.phase }, { on := 8, ground := Ground.phase }, { on := 9, ground := Ground.phase }, { on := 10, ground := Ground.phase }, { on := 11, ground := Ground.phase }, { on := 12, ground := Ground.phase }, { on := 13, ground := Ground.phase }, { on := 14, ground := Ground.phase }], guard := none }) (v := ?vv25) rfl (by kernel_rfl) (by kernel_rfl) (by kernel_rfl) (fun _ _ _ h => h) (Or.inl ⟨by rfl, ?hy25⟩) hHeld ?rest25
                    case hy25 => (intro w hSw; (try dsimp only at hSw); go_simp; (try with_reducible rfl))
                    try simp only [Act.put, List.setIfInBounds_toArray, List.set_cons_zero, List.set_cons_succ]
                    refine wpAnyH_done (by kernel_rfl) ?_ _
                    (go_wp2_with fail; go_meet; exact ⟨_, rfl, ⟨by rw [HPS.out]; exact HP.out⟩, HYF⟩)
                  exact AllReadyH.nil
                exact AllReadyH.nil
              exact AllReadyH.nil
            refine AllReadyH.cons rfl (fun K hK => ?_) ?_
            · skip
              go_simp
              refine hK.out _ _ ?_ (fun hH2 => ?_)
              · (try dsimp only); exact HSS.out _ (by repeat (with_reducible first | exact Below.refl _ _ | exact HCF.out | exact HCQ.out | refine below_alloc ?_ _ | refine bytes_below1 ?_ _ _ | refine pw_below_drewN ?_ _ | refine below_drew1 ?_))
              clear hK K hHeld
              have hHeld := hH2
              clear hH2
              refine wpAnyH_ready (rs := [6]) (by kernel_rfl) (by simp) ?_
              refine AllReadyH.cons rfl (fun K hK => ?_) ?_
              · skip
                go_simp
                refine hK.out _ _ ?_ (fun hH2 => ?_)
                · (try dsimp only); exact HSS.out _ (by repeat (with_reducible first | exact Below.refl _ _ | exact HCF.out | exact HCQ.out | refine below_alloc ?_ _ | refine bytes_below1 ?_ _ _ | refine pw_below_drewN ?_ _ | refine below_drew1 ?_))
                clear hK K hHeld
                have hHeld := hH2
                clear hH2
                refine wpAnyH_ready (rs := [13]) (by kernel_rfl) (by simp) ?_
                refine AllReadyH.cons rfl (fun K hK => ?_) ?_
                · skip
                  go_simp
                  refine hK.out _ _ ?_ (fun hH2 => ?_)
                  · (try dsimp only); exact HSS.out _ (by repeat (with_reducible first | exact Below.refl _ _ | exact HCF.out | exact HCQ.out | refine below_alloc ?_ _ | refine bytes_below1 ?_ _ _ | refine pw_below_drewN ?_ _ | refine below_drew1 ?_))
                  clear hK K hHeld
                  have hHeld := hH2
                  clear hH2
                  refine wpAnyH_ready (rs := [14]) (by kernel_rfl) (by simp) ?_
                  refine AllReadyH.cons rfl (fun K hK => ?_) ?_
                  · skip
                    refine step_parts_new (o := ⟨some 86, _, _, _, _, _⟩) _ [_, _, _] (by rfl) (.tmp 72) (.tmp 85) 74 (by rfl) W1.heap.size vb.ownBlock iB Tryd.underlying74 HI.out.1 HI.out.2.1 HI.out.2.2.1 HI.out.2.2.2 (.slice none 0 0) [] (by rfl) (PartsAt.nil _ _ _) 3 [bytesOf (opW x.f8), bytesOf x.f2, numsS x.f5] rfl (by rfl) ?hr26 (by simp) ?hb26 ?_
                    case hr26 => (refine rows3 (own8_row1 ?_ HO1.out) (own8_row1 ?_ HO1.out) (own8_row1 ?_ HO1.out) <;> (repeat (with_reducible first | exact HOQ.out | ((refine own8_bytes_dr _ _ _ _ ?_ HSZ1.out); exact below_size (by repeat (with_reducible first | exact Below.refl _ _ | exact HYF.out | exact HYR.out | exact HYQ.out | exact HYO.out | refine below_alloc ?_ _ | refine bytes_below1 ?_ _ _ | refine pw_below_drewN ?_ _ | refine below_drew1 ?_))) | ((refine own8_bytes _ _ _ _ ?_ HSZ1.out); exact below_size (by repeat (with_reducible first | exact Below.refl _ _ | exact HYF.out | exact HYR.out | exact HYQ.out | exact HYO.out | refine below_alloc ?_ _ | refine bytes_below1 ?_ _ _ | refine pw_below_drewN ?_ _ | refine below_drew1 ?_))) | ((refine own8_bytes_dr _ _ _ _ ?_ HSZ.out); exact below_size (by repeat (with_reducible first | exact Below.refl _ _ | exact HYF.out | exact HYR.out | exact HYQ.out | exact HYO.out | refine below_alloc ?_ _ | refine bytes_below1 ?_ _ _ | refine pw_below_drewN ?_ _ | refine below_drew1 ?_))) | ((refine own8_bytes _ _ _ _ ?_ HSZ.out); exact below_size (by repeat (with_reducible first | exact Below.refl _ _ | exact HYF.out | exact HYR.out | exact HYQ.out | exact HYO.out | refine below_alloc ?_ _ | refine bytes_below1 ?_ _ _ | refine pw_below_drewN ?_ _ | refine below_drew1 ?_))) | refine own8_by ?_ _ | refine own8_dr ?_ | refine own8_al ?_ _ | refine Own8.below ?_ HBO.out (Nat.le_refl _) | refine Own8.below ?_ HBQ.out (Nat.le_refl _))))
                    case hb26 => exact below_size (by repeat (with_reducible first | exact Below.refl _ _ | exact HYF.out | exact HYR.out | exact HYQ.out | exact HYO.out | refine below_alloc ?_ _ | refine bytes_below1 ?_ _ _ | refine pw_below_drewN ?_ _ | refine below_drew1 ?_))
                    intro v' w' hP hg ho
                    have HP := Aside0.mk hP
                    have HYF := Aside0.mk (show Below W1.heap.size W1 w' from Below.grown (below_alloc (by repeat (with_reducible first | exact Below.refl _ _ | exact HYF.out | exact HYR.out | exact HYQ.out | exact HYO.out | refine below_alloc ?_ _ | refine bytes_below1 ?_ _ _ | refine pw_below_drewN ?_ _ | refine below_drew1 ?_)) _) hg (below_size (below_alloc (by repeat (with_reducible first | exact Below.refl _ _ | exact HYF.out | exact HYR.out | exact HYQ.out | exact HYO.out | refine below_alloc ?_ _ | refine bytes_below1 ?_ _ _ | refine pw_below_drewN ?_ _ | refine below_drew1 ?_)) _)) (fun k hk => by cases hk))
                    have HCF := Aside0.mk (show Below w1.heap.size w1 w' from Below.grown (below_alloc (by repeat (with_reducible first | exact Below.refl _ _ | exact HCF.out | exact HCQ.out | refine below_alloc ?_ _ | refine bytes_below1 ?_ _ _ | refine pw_below_drewN ?_ _ | refine below_drew1 ?_)) _) hg (below_size (below_alloc (by repeat (with_reducible first | exact Below.refl _ _ | exact HCF.out | exact HCQ.out | refine below_alloc ?_ _ | refine bytes_below1 ?_ _ _ | refine pw_below_drewN ?_ _ | refine below_drew1 ?_)) _)) (fun k hk => by cases hk))
                    clear hP hg ho
                    refine hK.out _ _ ?_ (fun hH2 => ?_)
                    · (try dsimp only); exact HSS.out _ (by repeat (with_reducible first | exact Below.refl _ _ | exact HCF.out | exact HCQ.out | refine below_alloc ?_ _ | refine bytes_below1 ?_ _ _ | refine pw_below_drewN ?_ _ | refine below_drew1 ?_))
                    clear hK K hHeld
                    have hHeld := hH2
                    clear hH2
                    refine wpAnyH_take (i := 15) (oi := { dst := some 4, op := Op.assign (Operand.tmp 86), type := 74, pos := "text.go:71", after := #[{ on := 14, ground := Ground.data }, { on := 14, ground := Ground.chain }, { on := 0, ground := Ground.phase }, { on := 1, ground := Ground.phase }, { on := 2, ground := Ground.phase }, { on := 3, ground := Ground.phase }, { on := 4, ground := Ground.phase }, { on := 5, ground := Ground.phase }, { on := 6, ground := Ground.phase }, { on := 7, ground := Ground.phase }, { on := 8, ground := Ground.phase }, { on := 9, ground := Ground.phase }, { on := 10, ground := Ground.phase }, { on := 11, ground := Ground.phase }, { on := 12, ground := Ground.phase }, { on := 13, ground := Ground.phase }, { on := 14, ground := Ground.phase }], guard := none }) (v := ?vv27) rfl (by kernel_rfl) (by kernel_rfl) (by kernel_rfl) (fun _ _ _ h => h) (Or.inl ⟨by rfl, ?hy27⟩) hHeld ?rest27
                    case hy27 => (intro w hSw; (try dsimp only at hSw); go_simp; (try with_reducible rfl))
                    try simp only [Act.put, List.setIfInBounds_toArray, List.set_cons_zero, List.set_cons_succ]
                    refine wpAnyH_done (by kernel_rfl) ?_ _
                    (go_wp2_with fail; go_meet; exact ⟨_, rfl, ⟨by rw [HPS.out]; exact HP.out⟩, HYF⟩)
                  exact AllReadyH.nil
                exact AllReadyH.nil
              exact AllReadyH.nil
            exact AllReadyH.nil
          exact AllReadyH.nil
        refine AllReadyH.cons rfl (fun K hK => ?_) ?_
        · skip
          go_simp
          refine hK.out _ _ ?_ (fun hH2 => ?_)
          · (try dsimp only); exact HS.out _ (by repeat (with_reducible first | exact Below.refl _ _ | exact HYF.out | exact HYR.out | exact HYQ.out | exact HYO.out | refine below_alloc ?_ _ | refine bytes_below1 ?_ _ _ | refine pw_below_drewN ?_ _ | refine below_drew1 ?_))
          clear hK K hHeld
          have hHeld := hH2
          clear hH2
          refine wpAnyH_ready (rs := [1]) (by kernel_rfl) (by simp) ?_
          refine AllReadyH.cons rfl (fun K hK => ?_) ?_
          · skip
            go_simp
            go_wp2_with (go_at_call 60; refine (HC.out _ ?hbx28).mono ?_; (case hbx28 => exact (by repeat (with_reducible first | exact Below.refl _ _ | exact HYF.out | exact HYR.out | exact HYQ.out | exact HYO.out | refine below_alloc ?_ _ | refine bytes_below1 ?_ _ _ | refine pw_below_drewN ?_ _ | refine below_drew1 ?_))); rintro e w1 ⟨ad, co, rfl, hc, hb, hy⟩; have HBO := Aside0.mk hb; have HYO := Aside0.mk hy; have HCC := Aside0.mk hc; clear hc hb hy)
            refine hK.out _ _ ?_ (fun hH2 => ?_)
            · (try dsimp only); exact HS.out _ (by repeat (with_reducible first | exact Below.refl _ _ | exact HYF.out | exact HYR.out | exact HYQ.out | exact HYO.out | refine below_alloc ?_ _ | refine bytes_below1 ?_ _ _ | refine pw_below_drewN ?_ _ | refine below_drew1 ?_))
            clear hK K hHeld
            have hHeld := hH2
            clear hH2
            have HSS := Aside0.mk (fun W (hW : Below w1.heap.size w1 W) => And.intro (HS.out W (below_then HYO.out HYO.out.size hW)) (pw_cell_below hW HCC.out))
            refine wpAnyH_strong (S' := fun w' => (w'.cell? ⟨w.heap.size, 2, none⟩ = some (.string x.f2) ∧ w'.cell? ⟨w.heap.size, 5, none⟩ = some (.slice A5 x.f5.length c5) ∧ w'.cell? ⟨w.heap.size, 8, none⟩ = some (.int .i64 x.f8)) ∧ w'.cell? (ad.add x.f8.toNat) = some (.string (opW x.f8))) (fun _ h => h.1) _ _ _ _ ?_
            clear hHeld
            have hHeld := HSS.out w1 (Below.refl _ _)
            refine wpAnyH_take (i := 4) (oi := { dst := some 76, op := Op.indexAddr 72 (Operand.tmp 73) (Operand.tmp 75), type := 0, pos := "text.go:71", after := #[{ on := 1, ground := Ground.data }, { on := 3, ground := Ground.data }], guard := none }) (v := ?vv29) rfl (by kernel_rfl) (by kernel_rfl) (by kernel_rfl) (fun _ _ _ h => h) (Or.inl ⟨by rfl, ?hy29⟩) hHeld ?rest29
            case hy29 => (intro w hSw; (try dsimp only at hSw); go_simp; (try with_reducible rfl))
            try simp only [Act.put, List.setIfInBounds_toArray, List.set_cons_zero, List.set_cons_succ]
            refine wpAnyH_take (i := 5) (oi := { dst := some 77, op := Op.load 9 (Operand.tmp 76), type := 9, pos := "text.go:71", after := #[{ on := 4, ground := Ground.data }], guard := none }) (v := ?vv30) rfl (by kernel_rfl) (by kernel_rfl) (by kernel_rfl) (fun _ _ _ h => h) (Or.inl ⟨by rfl, ?hy30⟩) hHeld ?rest30
            case hy30 => (intro w hSw; (try dsimp only at hSw); go_simp; (try with_reducible rfl))
            try simp only [Act.put, List.setIfInBounds_toArray, List.set_cons_zero, List.set_cons_succ]
            refine wpAnyH_ready (rs := [6, 12]) (by kernel_rfl) (by simp) ?_
            refine AllReadyH.cons rfl (fun K hK => ?_) ?_
            · skip
              go_simp
              refine hK.out _ _ ?_ (fun hH2 => ?_)
              · (try dsimp only); exact HSS.out _ (by repeat (with_reducible first | exact Below.refl _ _ | exact HCF.out | exact HCQ.out | refine below_alloc ?_ _ | refine bytes_below1 ?_ _ _ | refine pw_below_drewN ?_ _ | refine below_drew1 ?_))
              clear hK K hHeld
              have hHeld := hH2
              clear hH2
              refine wpAnyH_ready (rs := [12]) (by kernel_rfl) (by simp) ?_
              refine AllReadyH.cons rfl (fun K hK => ?_) ?_
              · skip
                go_simp
                go_wp2_with (go_at_call 59; refine (HQ.out _ ?hbx31).mono ?_; (case hbx31 => exact (by repeat (with_reducible first | exact Below.refl _ _ | exact HYF.out | exact HYR.out | exact HYQ.out | exact HYO.out | refine below_alloc ?_ _ | refine bytes_below1 ?_ _ _ | refine pw_below_drewN ?_ _ | refine below_drew1 ?_))); rintro e wQ ⟨AQ, cQ, rfl, ho, hb, hy⟩; have HOQ := Aside0.mk ho; have HBQ := Aside0.mk hb; have HYQ := Aside0.mk hy; have HCQ := Aside0.mk (show Below w1.heap.size w1 wQ from below_then (by repeat (with_reducible first | exact Below.refl _ _ | exact HCF.out | exact HCQ.out | refine below_alloc ?_ _ | refine bytes_below1 ?_ _ _ | refine pw_below_drewN ?_ _ | refine below_drew1 ?_)) (below_size (by repeat (with_reducible first | exact Below.refl _ _ | exact HCF.out | exact HCQ.out | refine below_alloc ?_ _ | refine bytes_below1 ?_ _ _ | refine pw_below_drewN ?_ _ | refine below_drew1 ?_))) hb); clear ho hb hy)
                refine hK.out _ _ ?_ (fun hH2 => ?_)
                · (try dsimp only); exact HSS.out _ (by repeat (with_reducible first | exact Below.refl _ _ | exact HCF.out | exact HCQ.out | refine below_alloc ?_ _ | refine bytes_below1 ?_ _ _ | refine pw_below_drewN ?_ _ | refine below_drew1 ?_))
                clear hK K hHeld
                have hHeld := hH2
                clear hH2
                refine wpAnyH_ready (rs := [13]) (by kernel_rfl) (by simp) ?_
                refine AllReadyH.cons rfl (fun K hK => ?_) ?_
                · skip
                  go_simp
                  refine hK.out _ _ ?_ (fun hH2 => ?_)
                  · (try dsimp only); exact HSS.out _ (by repeat (with_reducible first | exact Below.refl _ _ | exact HCF.out | exact HCQ.out | refine below_alloc ?_ _ | refine bytes_below1 ?_ _ _ | refine pw_below_drewN ?_ _ | refine below_drew1 ?_))
                  clear hK K hHeld
                  have hHeld := hH2
                  clear hH2
                  refine wpAnyH_ready (rs := [14]) (by kernel_rfl) (by simp) ?_
                  refine AllReadyH.cons rfl (fun K hK => ?_) ?_
                  · skip
                    refine step_parts_new (o := ⟨some 86, _, _, _, _, _⟩) _ [_, _, _] (by rfl) (.tmp 72) (.tmp 85) 74 (by rfl) W1.heap.size vb.ownBlock iB Tryd.underlying74 HI.out.1 HI.out.2.1 HI.out.2.2.1 HI.out.2.2.2 (.slice none 0 0) [] (by rfl) (PartsAt.nil _ _ _) 3 [bytesOf (opW x.f8), bytesOf x.f2, numsS x.f5] rfl (by rfl) ?hr32 (by simp) ?hb32 ?_
                    case hr32 => (refine rows3 (own8_row1 ?_ HO1.out) (own8_row1 ?_ HO1.out) (own8_row1 ?_ HO1.out) <;> (repeat (with_reducible first | exact HOQ.out | ((refine own8_bytes_dr _ _ _ _ ?_ HSZ1.out); exact below_size (by repeat (with_reducible first | exact Below.refl _ _ | exact HYF.out | exact HYR.out | exact HYQ.out | exact HYO.out | refine below_alloc ?_ _ | refine bytes_below1 ?_ _ _ | refine pw_below_drewN ?_ _ | refine below_drew1 ?_))) | ((refine own8_bytes _ _ _ _ ?_ HSZ1.out); exact below_size (by repeat (with_reducible first | exact Below.refl _ _ | exact HYF.out | exact HYR.out | exact HYQ.out | exact HYO.out | refine below_alloc ?_ _ | refine bytes_below1 ?_ _ _ | refine pw_below_drewN ?_ _ | refine below_drew1 ?_))) | ((refine own8_bytes_dr _ _ _ _ ?_ HSZ.out); exact below_size (by repeat (with_reducible first | exact Below.refl _ _ | exact HYF.out | exact HYR.out | exact HYQ.out | exact HYO.out | refine below_alloc ?_ _ | refine bytes_below1 ?_ _ _ | refine pw_below_drewN ?_ _ | refine below_drew1 ?_))) | ((refine own8_bytes _ _ _ _ ?_ HSZ.out); exact below_size (by repeat (with_reducible first | exact Below.refl _ _ | exact HYF.out | exact HYR.out | exact HYQ.out | exact HYO.out | refine below_alloc ?_ _ | refine bytes_below1 ?_ _ _ | refine pw_below_drewN ?_ _ | refine below_drew1 ?_))) | refine own8_by ?_ _ | refine own8_dr ?_ | refine own8_al ?_ _ | refine Own8.below ?_ HBO.out (Nat.le_refl _) | refine Own8.below ?_ HBQ.out (Nat.le_refl _))))
                    case hb32 => exact below_size (by repeat (with_reducible first | exact Below.refl _ _ | exact HYF.out | exact HYR.out | exact HYQ.out | exact HYO.out | refine below_alloc ?_ _ | refine bytes_below1 ?_ _ _ | refine pw_below_drewN ?_ _ | refine below_drew1 ?_))
                    intro v' w' hP hg ho
                    have HP := Aside0.mk hP
                    have HYF := Aside0.mk (show Below W1.heap.size W1 w' from Below.grown (below_alloc (by repeat (with_reducible first | exact Below.refl _ _ | exact HYF.out | exact HYR.out | exact HYQ.out | exact HYO.out | refine below_alloc ?_ _ | refine bytes_below1 ?_ _ _ | refine pw_below_drewN ?_ _ | refine below_drew1 ?_)) _) hg (below_size (below_alloc (by repeat (with_reducible first | exact Below.refl _ _ | exact HYF.out | exact HYR.out | exact HYQ.out | exact HYO.out | refine below_alloc ?_ _ | refine bytes_below1 ?_ _ _ | refine pw_below_drewN ?_ _ | refine below_drew1 ?_)) _)) (fun k hk => by cases hk))
                    have HCF := Aside0.mk (show Below w1.heap.size w1 w' from Below.grown (below_alloc (by repeat (with_reducible first | exact Below.refl _ _ | exact HCF.out | exact HCQ.out | refine below_alloc ?_ _ | refine bytes_below1 ?_ _ _ | refine pw_below_drewN ?_ _ | refine below_drew1 ?_)) _) hg (below_size (below_alloc (by repeat (with_reducible first | exact Below.refl _ _ | exact HCF.out | exact HCQ.out | refine below_alloc ?_ _ | refine bytes_below1 ?_ _ _ | refine pw_below_drewN ?_ _ | refine below_drew1 ?_)) _)) (fun k hk => by cases hk))
                    clear hP hg ho
                    refine hK.out _ _ ?_ (fun hH2 => ?_)
                    · (try dsimp only); exact HSS.out _ (by repeat (with_reducible first | exact Below.refl _ _ | exact HCF.out | exact HCQ.out | refine below_alloc ?_ _ | refine bytes_below1 ?_ _ _ | refine pw_below_drewN ?_ _ | refine below_drew1 ?_))
                    clear hK K hHeld
                    have hHeld := hH2
                    clear hH2
                    refine wpAnyH_take (i := 15) (oi := { dst := some 4, op := Op.assign (Operand.tmp 86), type := 74, pos := "text.go:71", after := #[{ on := 14, ground := Ground.data }, { on := 14, ground := Ground.chain }, { on := 0, ground := Ground.phase }, { on := 1, ground := Ground.phase }, { on := 2, ground := Ground.phase }, { on := 3, ground := Ground.phase }, { on := 4, ground := Ground.phase }, { on := 5, ground := Ground.phase }, { on := 6, ground := Ground.phase }, { on := 7, ground := Ground.phase }, { on := 8, ground := Ground.phase }, { on := 9, ground := Ground.phase }, { on := 10, ground := Ground.phase }, { on := 11, ground := Ground.phase }, { on := 12, ground := Ground.phase }, { on := 13, ground := Ground.phase }, { on := 14, ground := Ground.phase }], guard := none }) (v := ?vv33) rfl (by kernel_rfl) (by kernel_rfl) (by kernel_rfl) (fun _ _ _ h => h) (Or.inl ⟨by rfl, ?hy33⟩) hHeld ?rest33
                    case hy33 => (intro w hSw; (try dsimp only at hSw); go_simp; (try with_reducible rfl))
                    try simp only [Act.put, List.setIfInBounds_toArray, List.set_cons_zero, List.set_cons_succ]
                    refine wpAnyH_done (by kernel_rfl) ?_ _
                    (go_wp2_with fail; go_meet; exact ⟨_, rfl, ⟨by rw [HPS.out]; exact HP.out⟩, HYF⟩)
                  exact AllReadyH.nil
                exact AllReadyH.nil
              exact AllReadyH.nil
            refine AllReadyH.cons rfl (fun K hK => ?_) ?_
            · skip
              go_simp
              go_wp2_with (go_at_call 59; refine (HQ.out _ ?hbx34).mono ?_; (case hbx34 => exact (by repeat (with_reducible first | exact Below.refl _ _ | exact HYF.out | exact HYR.out | exact HYQ.out | exact HYO.out | refine below_alloc ?_ _ | refine bytes_below1 ?_ _ _ | refine pw_below_drewN ?_ _ | refine below_drew1 ?_))); rintro e wQ ⟨AQ, cQ, rfl, ho, hb, hy⟩; have HOQ := Aside0.mk ho; have HBQ := Aside0.mk hb; have HYQ := Aside0.mk hy; have HCQ := Aside0.mk (show Below w1.heap.size w1 wQ from below_then (by repeat (with_reducible first | exact Below.refl _ _ | exact HCF.out | exact HCQ.out | refine below_alloc ?_ _ | refine bytes_below1 ?_ _ _ | refine pw_below_drewN ?_ _ | refine below_drew1 ?_)) (below_size (by repeat (with_reducible first | exact Below.refl _ _ | exact HCF.out | exact HCQ.out | refine below_alloc ?_ _ | refine bytes_below1 ?_ _ _ | refine pw_below_drewN ?_ _ | refine below_drew1 ?_))) hb); clear ho hb hy)
              refine hK.out _ _ ?_ (fun hH2 => ?_)
              · (try dsimp only); exact HSS.out _ (by repeat (with_reducible first | exact Below.refl _ _ | exact HCF.out | exact HCQ.out | refine below_alloc ?_ _ | refine bytes_below1 ?_ _ _ | refine pw_below_drewN ?_ _ | refine below_drew1 ?_))
              clear hK K hHeld
              have hHeld := hH2
              clear hH2
              refine wpAnyH_ready (rs := [6]) (by kernel_rfl) (by simp) ?_
              refine AllReadyH.cons rfl (fun K hK => ?_) ?_
              · skip
                go_simp
                refine hK.out _ _ ?_ (fun hH2 => ?_)
                · (try dsimp only); exact HSS.out _ (by repeat (with_reducible first | exact Below.refl _ _ | exact HCF.out | exact HCQ.out | refine below_alloc ?_ _ | refine bytes_below1 ?_ _ _ | refine pw_below_drewN ?_ _ | refine below_drew1 ?_))
                clear hK K hHeld
                have hHeld := hH2
                clear hH2
                refine wpAnyH_ready (rs := [13]) (by kernel_rfl) (by simp) ?_
                refine AllReadyH.cons rfl (fun K hK => ?_) ?_
                · skip
                  go_simp
                  refine hK.out _ _ ?_ (fun hH2 => ?_)
                  · (try dsimp only); exact HSS.out _ (by repeat (with_reducible first | exact Below.refl _ _ | exact HCF.out | exact HCQ.out | refine below_alloc ?_ _ | refine bytes_below1 ?_ _ _ | refine pw_below_drewN ?_ _ | refine below_drew1 ?_))
                  clear hK K hHeld
                  have hHeld := hH2
                  clear hH2
                  refine wpAnyH_ready (rs := [14]) (by kernel_rfl) (by simp) ?_
                  refine AllReadyH.cons rfl (fun K hK => ?_) ?_
                  · skip
                    refine step_parts_new (o := ⟨some 86, _, _, _, _, _⟩) _ [_, _, _] (by rfl) (.tmp 72) (.tmp 85) 74 (by rfl) W1.heap.size vb.ownBlock iB Tryd.underlying74 HI.out.1 HI.out.2.1 HI.out.2.2.1 HI.out.2.2.2 (.slice none 0 0) [] (by rfl) (PartsAt.nil _ _ _) 3 [bytesOf (opW x.f8), bytesOf x.f2, numsS x.f5] rfl (by rfl) ?hr35 (by simp) ?hb35 ?_
                    case hr35 => (refine rows3 (own8_row1 ?_ HO1.out) (own8_row1 ?_ HO1.out) (own8_row1 ?_ HO1.out) <;> (repeat (with_reducible first | exact HOQ.out | ((refine own8_bytes_dr _ _ _ _ ?_ HSZ1.out); exact below_size (by repeat (with_reducible first | exact Below.refl _ _ | exact HYF.out | exact HYR.out | exact HYQ.out | exact HYO.out | refine below_alloc ?_ _ | refine bytes_below1 ?_ _ _ | refine pw_below_drewN ?_ _ | refine below_drew1 ?_))) | ((refine own8_bytes _ _ _ _ ?_ HSZ1.out); exact below_size (by repeat (with_reducible first | exact Below.refl _ _ | exact HYF.out | exact HYR.out | exact HYQ.out | exact HYO.out | refine below_alloc ?_ _ | refine bytes_below1 ?_ _ _ | refine pw_below_drewN ?_ _ | refine below_drew1 ?_))) | ((refine own8_bytes_dr _ _ _ _ ?_ HSZ.out); exact below_size (by repeat (with_reducible first | exact Below.refl _ _ | exact HYF.out | exact HYR.out | exact HYQ.out | exact HYO.out | refine below_alloc ?_ _ | refine bytes_below1 ?_ _ _ | refine pw_below_drewN ?_ _ | refine below_drew1 ?_))) | ((refine own8_bytes _ _ _ _ ?_ HSZ.out); exact below_size (by repeat (with_reducible first | exact Below.refl _ _ | exact HYF.out | exact HYR.out | exact HYQ.out | exact HYO.out | refine below_alloc ?_ _ | refine bytes_below1 ?_ _ _ | refine pw_below_drewN ?_ _ | refine below_drew1 ?_))) | refine own8_by ?_ _ | refine own8_dr ?_ | refine own8_al ?_ _ | refine Own8.below ?_ HBO.out (Nat.le_refl _) | refine Own8.below ?_ HBQ.out (Nat.le_refl _))))
                    case hb35 => exact below_size (by repeat (with_reducible first | exact Below.refl _ _ | exact HYF.out | exact HYR.out | exact HYQ.out | exact HYO.out | refine below_alloc ?_ _ | refine bytes_below1 ?_ _ _ | refine pw_below_drewN ?_ _ | refine below_drew1 ?_))
                    intro v' w' hP hg ho
                    have HP := Aside0.mk hP
                    have HYF := Aside0.mk (show Below W1.heap.size W1 w' from Below.grown (below_alloc (by repeat (with_reducible first | exact Below.refl _ _ | exact HYF.out | exact HYR.out | exact HYQ.out | exact HYO.out | refine below_alloc ?_ _ | refine bytes_below1 ?_ _ _ | refine pw_below_drewN ?_ _ | refine below_drew1 ?_)) _) hg (below_size (below_alloc (by repeat (with_reducible first | exact Below.refl _ _ | exact HYF.out | exact HYR.out | exact HYQ.out | exact HYO.out | refine below_alloc ?_ _ | refine bytes_below1 ?_ _ _ | refine pw_below_drewN ?_ _ | refine below_drew1 ?_)) _)) (fun k hk => by cases hk))
                    have HCF := Aside0.mk (show Below w1.heap.size w1 w' from Below.grown (below_alloc (by repeat (with_reducible first | exact Below.refl _ _ | exact HCF.out | exact HCQ.out | refine below_alloc ?_ _ | refine bytes_below1 ?_ _ _ | refine pw_below_drewN ?_ _ | refine below_drew1 ?_)) _) hg (below_size (below_alloc (by repeat (with_reducible first | exact Below.refl _ _ | exact HCF.out | exact HCQ.out | refine below_alloc ?_ _ | refine bytes_below1 ?_ _ _ | refine pw_below_drewN ?_ _ | refine below_drew1 ?_)) _)) (fun k hk => by cases hk))
                    clear hP hg ho
                    refine hK.out _ _ ?_ (fun hH2 => ?_)
                    · (try dsimp only); exact HSS.out _ (by repeat (with_reducible first | exact Below.refl _ _ | exact HCF.out | exact HCQ.out | refine below_alloc ?_ _ | refine bytes_below1 ?_ _ _ | refine pw_below_drewN ?_ _ | refine below_drew1 ?_))
                    clear hK K hHeld
                    have hHeld := hH2
                    clear hH2
                    refine wpAnyH_take (i := 15) (oi := { dst := some 4, op := Op.assign (Operand.tmp 86), type := 74, pos := "text.go:71", after := #[{ on := 14, ground := Ground.data }, { on := 14, ground := Ground.chain }, { on := 0, ground := Ground.phase }, { on := 1, ground := Ground.phase }, { on := 2, ground := Ground.phase }, { on := 3, ground := Ground.phase }, { on := 4, ground := Ground.phase }, { on := 5, ground := Ground.phase }, { on := 6, ground := Ground.phase }, { on := 7, ground := Ground.phase }, { on := 8, ground := Ground.phase }, { on := 9, ground := Ground.phase }, { on := 10, ground := Ground.phase }, { on := 11, ground := Ground.phase }, { on := 12, ground := Ground.phase }, { on := 13, ground := Ground.phase }, { on := 14, ground := Ground.phase }], guard := none }) (v := ?vv36) rfl (by kernel_rfl) (by kernel_rfl) (by kernel_rfl) (fun _ _ _ h => h) (Or.inl ⟨by rfl, ?hy36⟩) hHeld ?rest36
                    case hy36 => (intro w hSw; (try dsimp only at hSw); go_simp; (try with_reducible rfl))
                    try simp only [Act.put, List.setIfInBounds_toArray, List.set_cons_zero, List.set_cons_succ]
                    refine wpAnyH_done (by kernel_rfl) ?_ _
                    (go_wp2_with fail; go_meet; exact ⟨_, rfl, ⟨by rw [HPS.out]; exact HP.out⟩, HYF⟩)
                  exact AllReadyH.nil
                exact AllReadyH.nil
              exact AllReadyH.nil
            exact AllReadyH.nil
          exact AllReadyH.nil
        exact AllReadyH.nil
    as_aux_lemma =>
      have HPS := Aside0.mk (show partsS x = [] by unfold partsS; simp [k345, k6, k7, k9, k10])
      have e3 : (x.f0 == 3) = false := by rw [beq_eq_false_iff_ne]; omega
      have e4 : (x.f0 == 4) = false := by rw [beq_eq_false_iff_ne]; omega
      have e5 : (x.f0 == 5) = false := by rw [beq_eq_false_iff_ne]; omega
      have e6 : (x.f0 == 6) = false := by rw [beq_eq_false_iff_ne]; omega
      have e7 : (x.f0 == 7) = false := by rw [beq_eq_false_iff_ne]; omega
      have e9 : (x.f0 == 9) = false := by rw [beq_eq_false_iff_ne]; omega
      have e10 : (x.f0 == 10) = false := by rw [beq_eq_false_iff_ne]; omega
      go_wp2_with fail
      go_meet
      exact ⟨_, rfl, ⟨by rw [HPS.out]; exact PartsAt.nil _ _ _⟩, ⟨Below.refl _ _⟩⟩
  case rest =>
  obtain ⟨vp, rfl, HP1, HYP⟩ := hcut
  obtain ⟨W2, rfl⟩ : ∃ Y : World, Y = wc := ⟨_, rfl⟩
  have hi0 : Aside0 (PartsAt W1.heap.size vb.ownBlock W2 vp (partsS x ++ KT.take (0 : Int).toNat)) := ⟨by simpa using HP1.out⟩
  have HL9 := H59.out.2.2.2.1
  have HB2 := Aside0.mk (below_then HB1.out HB1.out.size HYP.out)
  have HCK := Aside0.mk (fun W (h : Below W1.heap.size W1 W) => (show W.cell? ⟨w.heap.size, 0, none⟩ = some (.int .i64 x.f0) ∧ W.cell? ⟨w.heap.size, 9, none⟩ = some (.slice A9 x.f9.length c9) from ⟨(blk_cell (blk_below HQ1.out h) 0).trans rfl, (blk_cell (blk_below HQ1.out h) 9).trans rfl⟩))
  clear g0 HP1
  go_wp2_with fail
  go_loopg [4, 5] x.f9.length (fun kq v4 v5 wr => ∃ (vq : Value) (i : Int), vq = v4 ∧ v5 = .int .i64 i ∧ 0 ≤ i ∧ i ≤ x.f9.length ∧ Aside0 (kq + i = x.f9.length) ∧ Aside0 (PartsAt W1.heap.size vb.ownBlock wr vq (partsS x ++ KT.take i.toNat)) ∧ Aside0 (Below W1.heap.size W1 wr))
  case atStart => exact ⟨_, 0, rfl, rfl, by decide, by omega, ⟨by omega⟩, hi0, HYP⟩
  case round =>
    clear hi0 HYP HB2
    obtain ⟨vq, i, rfl, rfl, h0, h1, hk, HPR, HYR⟩ := hrel
    obtain ⟨g0, g9⟩ := HCK.out wr HYR.out
    by_cases cc : i < x.f9.length
    · obtain ⟨ad, E5, e5, E6, e6, E9, e9', ea, d0, d1, d2, d3, d4, d5, d6, d7, d8, d9, m5, r5, m6, r6, m9, r9⟩ := at_T25 H59.out.2.2 i h0 cc
      subst ea
      obtain ⟨y, hy⟩ : ∃ y, y = rd_T25 x.f9 i := ⟨_, rfl⟩
      have hym : y ∈ x.f9 := by rw [hy]; exact rd_mem h0 cc
      rw [← hy] at d0 d1 d2 d3 d4 d5 d6 d7 d8 d9 r5 r6 r9 m5 m6
      have hBw := below_then HB1.out HB1.out.size HYR.out
      have hgy := HG.out.2.2.2.2.2.2.2.2.2.2 y hym
      have hfy := HKF.out y hym
      have hnx : partsS x ++ KT.take (i + 1).toNat = (partsS x ++ KT.take i.toNat) ++ [markS y.f1 ++ textN n y] := by
        rw [List.append_assoc]
        congr 1
        rw [HKT.out, ← List.map_take, ← List.map_take, take_rdQ h0 cc, ← hy, List.map_append]
        rfl
      have hpm : markS y.f1 ++ textN n y ∈ partsS x ++ KT := by
        refine List.mem_append_right _ ?_
        rw [HKT.out]
        exact List.mem_map.2 ⟨y, hym, rfl⟩
      have hpl := part_le hpm
      have hll := HL.out
      rw [List.length_append] at hpl
      have hcn : (partsS x ++ KT.take i.toNat).length ≤ x.f9.length + 3 := by
        have h2 : (partsS x).length ≤ 3 := by unfold partsS; (repeat' split) <;> simp
        rw [List.length_append, List.length_take]
        have : KT.length = x.f9.length := by rw [HKT.out, List.length_map]
        omega
      have h9l := HG.out.2.2.2.2.2.2.2.2.2.1
      have hobw : Own8 5 w.heap.size wr vb (bytesOf (wordS x.f0)) := HO1.out.below HYR.out (Nat.le_refl _)
      have hocc := occ_of hfy
      have HW := Aside0.mk (fun X (hX : Below wr.heap.size wr X) => HIH.out y hgy x.f0 hfy E5 e5 E6 e6 E9 e9' X m5 (Kd.C_below r5 (below_then hBw hBw.size hX)) m6 (Kd.C_below r6 (below_then hBw hBw.size hX)) (Kd.C_below r9 (below_then hBw hBw.size hX)) (by omega))
      have HD := Aside0.mk (fun X (hX : Below wr.heap.size wr X) => (show X.cell? ⟨(ad.add (i.toNat * 10)).block, (ad.add (i.toNat * 10)).off + 1, none⟩ = some (.int .i64 y.f1) from pw_cell_below (below_then hBw hBw.size hX) d1))
      have HF := Aside0.mk (And.intro hnx (And.intro hpl (And.intro hll (And.intro hcn h9l))))
      have HOB := Aside0.mk hobw
      have HOC := Aside0.mk hocc
      have HBW := Aside0.mk hBw
      have HDA := Aside0.mk (fun X (hX : Below wr.heap.size wr X) => (show X.cell? (ad.add (i.toNat * 10)) = some (.int .i64 y.f0) ∧ X.cell? ⟨(ad.add (i.toNat * 10)).block, (ad.add (i.toNat * 10)).off + 2, none⟩ = some (.string y.f2) ∧ X.cell? ⟨(ad.add (i.toNat * 10)).block, (ad.add (i.toNat * 10)).off + 3, none⟩ = some (.string y.f3) ∧ X.cell? ⟨(ad.add (i.toNat * 10)).block, (ad.add (i.toNat * 10)).off + 4, none⟩ = some (.string y.f4) ∧ X.cell? ⟨(ad.add (i.toNat * 10)).block, (ad.add (i.toNat * 10)).off + 5, none⟩ = some (.slice E5 y.f5.length e5) ∧ X.cell? ⟨(ad.add (i.toNat * 10)).block, (ad.add (i.toNat * 10)).off + 6, none⟩ = some (.slice E6 y.f6.length e6) ∧ X.cell? ⟨(ad.add (i.toNat * 10)).block, (ad.add (i.toNat * 10)).off + 7, none⟩ = some (.int .i64 y.f7) ∧ X.cell? ⟨(ad.add (i.toNat * 10)).block, (ad.add (i.toNat * 10)).off + 8, none⟩ = some (.int .i64 y.f8) ∧ X.cell? ⟨(ad.add (i.toNat * 10)).block, (ad.add (i.toNat * 10)).off + 9, none⟩ = some (.slice E9 y.f9.length e9') from by
        have hb := below_then hBw hBw.size hX
        exact ⟨pw_cell_below hb d0, pw_cell_below hb d2, pw_cell_below hb d3, pw_cell_below hb d4, pw_cell_below hb d5, pw_cell_below hb d6, pw_cell_below hb d7, pw_cell_below hb d8, pw_cell_below hb d9⟩))
      clear hnx hpm hpl hll hcn h9l hobw hocc hBw hgy hfy hym hy d0 d1 d2 d3 d4 d5 d6 d7 d8 d9 r5 r6 r9 m5 m6 m9
      go_upto_if 96 with fail
      go_cut [6] (fun v6 wc => ∃ vk : Value, vk = v6 ∧ Aside0 (Own8 5 wr.heap.size wc vk (markS y.f1)) ∧ Aside0 (Below wr.heap.size wr wc))
      case first =>
        by_cases k8 : x.f0 = 8
        · as_aux_lemma =>
            have ho := HOC.out
            unfold occS at ho
            rw [if_pos k8] at ho
            simp only [Bool.and_eq_true, decide_eq_true_eq] at ho
            have e8 : (x.f0 == 8) = true := by rw [beq_iff_eq]; exact k8
            have hm : markS y.f1 = [bt (⟨#[32, 43, 63, 45, 61]⟩ : ByteArray) y.f1] := by unfold markS markB; rw [if_pos (by omega)]
            have HM := Aside0.mk hm
            have p1 : (0 ≤ y.f1) = True := eq_true (by omega)
            have p2 : (y.f1 < 5) = True := eq_true (by omega)
            have hx := bt_at (⟨#[32, 43, 63, 45, 61]⟩ : ByteArray) y.f1
            have hd := HD.out wr (Below.refl _ _)
            clear ho k8 hm
            go_wp2_with (first | (at_builtin; refine wpList_append8 (o := ⟨some 106, _, _, _, _, _⟩) _ (by rfl) (.tmp 97) (.tmp 105) 43 (by rfl) wr.heap.size wr.heap.size 5 i8 Tryd.underlying43 HI8.out.1 HI8.out.2.1 HI8.out.2.2.1 HI8.out.2.2.2 (.slice none 0 0) [] (by rfl) Own8.nil none (.slice (some ⟨wr.heap.size, 0, none⟩) 1 1) [bt (⟨#[32, 43, 63, 45, 61]⟩ : ByteArray) y.f1] (by rfl) ?hr (by simp) ?hb ?_; (case hr => exact row8_lit wr 5 [bt (⟨#[32, 43, 63, 45, 61]⟩ : ByteArray) y.f1] 1 _ rfl); (case hb => rw [World.size_alloc]; omega); intro v' w' hO hg ho; have HO := Aside0.mk hO; have HYF := Aside0.mk (show Below wr.heap.size wr w' from Below.grown (below_alloc (Below.refl _ _) _) hg (by rw [World.size_alloc]; omega) (fun k hk => by cases hk)); clear hO hg ho))
            go_meet
            exact ⟨_, rfl, ⟨by rw [HM.out]; exact HO.out⟩, HYF⟩
        · as_aux_lemma =>
            have ho := HOC.out
            unfold occS at ho
            rw [if_neg k8] at ho
            simp only [beq_iff_eq] at ho
            have e8 : (x.f0 == 8) = false := by rw [beq_eq_false_iff_ne]; exact k8
            have HM := Aside0.mk (show markS y.f1 = [] by unfold markS; rw [if_neg (by omega)])
            clear ho k8
            go_wp2_with fail
            go_meet
            exact ⟨_, rfl, ⟨by rw [HM.out]; exact Own8.nil⟩, ⟨Below.refl _ _⟩⟩
      case rest =>
      obtain ⟨vk, rfl, HK, HYK⟩ := hcut
      obtain ⟨W3, rfl⟩ : ∃ Y : World, Y = wc := ⟨_, rfl⟩
      obtain ⟨d0, d2, d3, d4, d5, d6, d7, d8, d9⟩ := HDA.out W3 HYK.out
      have d1 := HD.out W3 HYK.out
      obtain ⟨-, g9'⟩ := HCK.out W3 (below_then HYR.out HYR.out.size HYK.out)
      clear g0 g9
      go_wp2_with fail
      refine (HW.out W3 HYK.out).mono ?_
      rintro e W4 ⟨v2, rfl, ho2, hb2⟩
      have HO2 := Aside0.mk ho2
      have HY2 := Aside0.mk hb2
      have HYA := Aside0.mk (below_then HYK.out HYK.out.size hb2)
      clear ho2 hb2 d0 d1 d2 d3 d4 d5 d6 d7 d8 d9 HW HDA HD
      go_wp2_with (first
        | (at_builtin; refine wpList_append8 (o := ⟨some 114, _, _, _, _, _⟩) _ (by rfl) (.tmp 107) (.tmp 113) 43 (by rfl) wr.heap.size W3.heap.size 5 i8 Tryd.underlying43 HI8.out.1 HI8.out.2.1 HI8.out.2.2.1 HI8.out.2.2.2 vk (markS y.f1) (by rfl) (HK.out.below HY2.out (Nat.le_refl _)) none v2 (textN n y) (by rfl) (HO2.out.row (by cases v2.ownBlock <;> simp)) ?hb ?hc ?_; (case hb => have := HF.out.2.1; have := HF.out.2.2.1; omega); (case hc => exact HYA.out.size); intro v5 W5 hO hg ho; obtain ⟨Ak, ck, hv5⟩ := own8_form hO; obtain ⟨nk, hnk⟩ : ∃ nk, nk = (markS y.f1 ++ textN n y).length := ⟨_, rfl⟩; rw [← hnk] at hv5; subst hv5; have HO5 := Aside0.mk hO; clear hnk; have HY5 := Aside0.mk (show Below wr.heap.size wr W5 from Below.grown HYA.out hg HYA.out.size (fun k hk => (HK.out.lt k hk).1)); clear hO hg ho)
        | (at_builtin; refine wpList_parts_new (o := ⟨some 118, _, _, _, _, _⟩) _ [_] (by rfl) (.tmp 115) (.tmp 117) 74 (by rfl) W1.heap.size vb.ownBlock iB Tryd.underlying74 HI.out.1 HI.out.2.1 HI.out.2.2.1 HI.out.2.2.2 vq (partsS x ++ KT.take i.toNat) (by rfl) (HPR.out.below HY5.out (Nat.le_refl _)) 1 [markS y.f1 ++ textN n y] rfl (by rfl) ?hr ?hb ?hc ?_; (case hr => exact rows1 (Row8.low (own8_row1 HO5.out HOB.out) HYR.out.size)); (case hb => have := HF.out.2.2.2.1; have := HF.out.2.2.2.2; simp only [List.length_singleton]; omega); (case hc => have := HYR.out.size; have := HY5.out.size; omega); intro v6 W6 hP hg ho; have HP6 := Aside0.mk hP; have HY6 := Aside0.mk (show Below W1.heap.size W1 W6 from Below.grown (below_alloc (below_then HYR.out HYR.out.size HY5.out) _) hg (by rw [World.size_alloc]; have := HYR.out.size; have := HY5.out.size; omega) (fun k hk => HPR.out.low k hk)); clear hP hg ho))
      obtain ⟨k, rfl⟩ : ∃ m, gk = m + 1 := ⟨gk - 1, by have := hk.out; omega⟩
      go_roundg k
      case measure => omega
      case rel => exact ⟨_, i + 1, rfl, by first | rfl | go_num, by omega, by omega, ⟨by have := hk.out; omega⟩, ⟨by rw [HF.out.1]; exact HP6.out⟩, HY6⟩
    · have he : partsS x ++ KT.take i.toNat = partsS x ++ KT := by
        rw [List.take_of_length_le]
        rw [HKT.out, List.length_map]
        omega
      have hP := HPR.out
      rw [he] at hP
      have HP2 := Aside0.mk hP
      clear hP he HPR
      obtain ⟨L, hL⟩ : ∃ L, L = partsS x ++ KT := ⟨_, rfl⟩
      obtain ⟨pre, hpre⟩ : ∃ q, q = bytesOf (wordS x.f0) ++ [40] := ⟨_, rfl⟩
      have hP := HP2.out
      rw [← hL] at hP
      obtain ⟨Aq, cq, rfl, -⟩ := hP.form
      have HP3 := Aside0.mk hP
      have HLE := Aside0.mk (fun (l : List (List Int)) (h : l <+: L) => (show pre.length + (sepS l).length + 1 ≤ 140737488355327 by
        have h1 := prefix_len h
        have h2 := HL.out
        rw [← hL] at h2
        rw [hpre, List.length_append, List.length_singleton]
        omega))
      have HTX2 := Aside0.mk (show textN (n + 1) x = pre ++ sepS L ++ [41] by rw [HT2.out, ← hL, hpre]; simp)
      have HPR2 := Aside0.mk hpre
      have HLN2 := Aside0.mk (show L.length ≤ 9223372036854775806 by
        have h2 : (partsS x).length ≤ 3 := by unfold partsS; (repeat' split) <;> simp
        have h3 : KT.length = x.f9.length := by rw [HKT.out, List.length_map]
        have := HG.out.2.2.2.2.2.2.2.2.2.1
        rw [hL, List.length_append]
        omega)
      clear hP HP2 hL hpre
      have hbig := HLN2.out
      go_wp2_with (at_builtin; refine wpList_append8 (o := ⟨some 121, _, _, _, _, _⟩) _ (by rfl) (.tmp 119) (.tmp 120) 43 (by rfl) w.heap.size wr.heap.size 5 i8 Tryd.underlying43 HI8.out.1 HI8.out.2.1 HI8.out.2.2.1 HI8.out.2.2.2 vb (bytesOf (wordS x.f0)) (by rfl) (own8_al (HO1.out.below HYR.out (Nat.le_refl _)) _) none (.slice (some ⟨wr.heap.size, 0, none⟩) 1 1) [40] (by rfl) (row8_lit wr 5 [40] 1 _ rfl) ?hb ?hc ?_; (case hb => have := HLE.out [] (List.nil_prefix); rw [HPR2.out] at this; simp only [List.length_append, List.length_singleton] at this ⊢; omega); (case hc => rw [World.size_alloc]; have := HYR.out.size; omega); intro v7 W7 hO hg ho; have HO7 := Aside0.mk (show Own8 5 w.heap.size W7 v7 (pre ++ sepS (L.take (0 : Int).toNat)) from by (rw [HPR2.out]; simpa [sepS] using hO)); have HP7 := Aside0.mk ((HP3.out.below (below_alloc (Below.refl _ _) _) (Nat.le_refl _)).kept hg (own8_al (HO1.out.below HYR.out (Nat.le_refl _)) _).block ho); have HY7 := Aside0.mk (show Below w.heap.size w W7 from Below.grown (below_alloc (below_then HB1.out HB1.out.size HYR.out) _) hg (by rw [World.size_alloc]; have := HYR.out.size; omega) (fun k hk => (HO1.out.lt k hk).1)); clear hO hg ho)
      go_loopg [3, 7] L.length (fun kq v3 v7 wz => ∃ (vz : Value) (i : Int), vz = v3 ∧ v7 = .int .i64 i ∧ 0 ≤ i ∧ i ≤ L.length ∧ Aside0 (kq + i = L.length) ∧ Aside0 (Own8 5 w.heap.size wz vz (pre ++ sepS (L.take i.toNat))) ∧ Aside0 (PartsAt W1.heap.size vz.ownBlock wz (.slice Aq L.length cq) L) ∧ Aside0 (Below w.heap.size w wz))
      case atStart => exact ⟨_, 0, rfl, rfl, by decide, by omega, ⟨by omega⟩, HO7, HP7, HY7⟩
      case round =>
        clear HO7 HP7 HY7 HP3
        obtain ⟨vz, j, rfl, rfl, j0, j1, hkj, HOZ, HPZ, HYZ⟩ := hrel
        by_cases cj : j < L.length
        · obtain ⟨g, Au0, cu0, eA, hcell0, hR0⟩ := HPZ.out.at_ j0 cj
          subst eA
          obtain ⟨p, hp⟩ : ∃ p, p = L.getD j.toNat [] := ⟨_, rfl⟩
          have hlt : j.toNat < L.length := by omega
          have htk : L.take (j + 1).toNat = L.take j.toNat ++ [p] := by
            rw [show (j + 1).toNat = j.toNat + 1 by omega, List.take_succ_eq_append_getElem hlt, hp, List.getD_eq_getElem?_getD, List.getElem?_eq_getElem hlt]
            rfl
          have hsn := sepS_snoc (L.take j.toNat) p
          rw [← htk] at hsn
          have hle := HLE.out (L.take (j + 1).toNat) (List.take_prefix _ _)
          by_cases c0 : 0 < j
          · have hne : ¬ L.take j.toNat = [] := by
              intro e
              have := congrArg List.length e
              rw [List.length_take] at this
              simp only [List.length_nil] at this
              omega
            rw [if_neg hne] at hsn
            have HNX := Aside0.mk hsn
            have HPL2 := Aside0.mk (show (pre ++ (sepS (L.take j.toNat) ++ ([44, 32] ++ p))).length ≤ 140737488355327 by rw [← hsn, List.length_append]; omega)
            have HPD := Aside0.mk hp
            clear hsn htk hle hlt hcell0 hR0 hne hp
            go_wp2_with (first
              | (at_builtin; refine wpList_append8 (o := ⟨some 132, _, _, _, _, _⟩) _ (by rfl) (.tmp 130) (.tmp 131) 43 (by rfl) w.heap.size wr.heap.size 5 i8 Tryd.underlying43 HI8.out.1 HI8.out.2.1 HI8.out.2.2.1 HI8.out.2.2.2 vz (pre ++ sepS (L.take j.toNat)) (by rfl) (own8_al HOZ.out _) none (.slice (some ⟨wr.heap.size, 0, none⟩) 2 2) [44, 32] (by rfl) (row8_lit wr 5 [44, 32] 2 _ rfl) ?hb ?hc ?_; (case hb => have := HPL2.out; simp only [List.length_append, List.length_cons, List.length_nil] at this ⊢; omega); (case hc => rw [World.size_alloc]; have := HYZ.out.size; omega); intro v8 W8 hO hg ho; have HO8 := Aside0.mk hO; have HP8 := Aside0.mk ((HPZ.out.below (below_alloc (Below.refl _ _) _) (Nat.le_refl _)).kept hg (own8_al HOZ.out _).block ho); have HY8 := Aside0.mk (show Below w.heap.size w W8 from Below.grown (below_alloc HYZ.out _) hg (by rw [World.size_alloc]; have := HYZ.out.size; omega) (fun k hk => (HOZ.out.lt k hk).1)); clear hO hg ho; obtain ⟨g8, Au, cu, eA, hcell, hR⟩ := HP8.out.at_ j0 cj; rw [← HPD.out] at hcell hR; simp only [Option.some.injEq, Addr.mk.injEq, and_true] at eA; subst eA; have HRU := Aside0.mk hR; clear hR)
              | (at_builtin; refine wpList_append8 (o := ⟨some 138, _, _, _, _, _⟩) _ (by rfl) (.tmp 133) (.tmp 137) 43 (by rfl) w.heap.size W1.heap.size 5 i8 Tryd.underlying43 HI8.out.1 HI8.out.2.1 HI8.out.2.2.1 HI8.out.2.2.2 v8 (pre ++ sepS (L.take j.toNat) ++ [44, 32]) (by rfl) HO8.out v8.ownBlock (.slice Au p.length cu) p (by rfl) HRU.out ?hb ?hc ?_; (case hb => have := HPL2.out; simp only [List.length_append, List.length_cons, List.length_nil] at this ⊢; omega); (case hc => exact HY8.out.size); intro v9 W9 hO hg ho; have HO9 := Aside0.mk (show Own8 5 w.heap.size W9 v9 (pre ++ sepS (L.take (j + 1).toNat)) from by (rw [HNX.out]; simpa [List.append_assoc] using hO)); have HP9 := Aside0.mk (HP8.out.kept hg HO8.out.block ho); have HY9 := Aside0.mk (show Below w.heap.size w W9 from Below.grown HY8.out hg HY8.out.size (fun k hk => (HO8.out.lt k hk).1)); clear hO hg ho))
            obtain ⟨k, rfl⟩ : ∃ m, gk = m + 1 := ⟨gk - 1, by have := hkj.out; omega⟩
            go_roundg k
            case measure => omega
            case rel => exact ⟨_, j + 1, rfl, by first | rfl | go_num, by omega, by omega, ⟨by have := hkj.out; omega⟩, HO9, HP9, HY9⟩
          · have h0' : L.take j.toNat = [] := by rw [show j.toNat = 0 by omega]; rfl
            rw [if_pos h0'] at hsn
            have HNX := Aside0.mk (show sepS (L.take (j + 1).toNat) = sepS (L.take j.toNat) ++ p by rw [hsn, h0'])
            have HPL2 := Aside0.mk (show (pre ++ (sepS (L.take j.toNat) ++ p)).length ≤ 140737488355327 by rw [← HNX.out, List.length_append]; omega)
            obtain ⟨Au, hAu⟩ : ∃ A, A = Au0 := ⟨_, rfl⟩
            obtain ⟨cu, hcu⟩ : ∃ A, A = cu0 := ⟨_, rfl⟩
            rw [← hp, ← hAu, ← hcu] at hcell0 hR0
            have HRU := Aside0.mk hR0
            clear hsn htk hle hlt hR0 hp hAu hcu h0'
            go_wp2_with (at_builtin; refine wpList_append8 (o := ⟨some 138, _, _, _, _, _⟩) _ (by rfl) (.tmp 133) (.tmp 137) 43 (by rfl) w.heap.size W1.heap.size 5 i8 Tryd.underlying43 HI8.out.1 HI8.out.2.1 HI8.out.2.2.1 HI8.out.2.2.2 vz (pre ++ sepS (L.take j.toNat)) (by rfl) HOZ.out vz.ownBlock (.slice Au p.length cu) p (by rfl) HRU.out ?hb ?hc ?_; (case hb => have := HPL2.out; simp only [List.length_append, List.length_cons, List.length_nil] at this ⊢; omega); (case hc => exact HYZ.out.size); intro v9 W9 hO hg ho; have HO9 := Aside0.mk (show Own8 5 w.heap.size W9 v9 (pre ++ sepS (L.take (j + 1).toNat)) from by (rw [HNX.out]; simpa [List.append_assoc] using hO)); have HP9 := Aside0.mk (HPZ.out.kept hg HOZ.out.block ho); have HY9 := Aside0.mk (show Below w.heap.size w W9 from Below.grown HYZ.out hg HYZ.out.size (fun k hk => (HOZ.out.lt k hk).1)); clear hO hg ho)
            obtain ⟨k, rfl⟩ : ∃ m, gk = m + 1 := ⟨gk - 1, by have := hkj.out; omega⟩
            go_roundg k
            case measure => omega
            case rel => exact ⟨_, j + 1, rfl, by first | rfl | go_num, by omega, by omega, ⟨by have := hkj.out; omega⟩, HO9, HP9, HY9⟩
        · have he : L.take j.toNat = L := List.take_of_length_le (by omega)
          have hO := HOZ.out
          rw [he] at hO
          have HOE := Aside0.mk hO
          have hle := HLE.out L (List.prefix_refl _)
          clear he hO
          go_wp2_with (at_builtin; refine wpList_append8 (o := ⟨some 141, _, _, _, _, _⟩) _ (by rfl) (.tmp 139) (.tmp 140) 43 (by rfl) w.heap.size wr.heap.size 5 i8 Tryd.underlying43 HI8.out.1 HI8.out.2.1 HI8.out.2.2.1 HI8.out.2.2.2 vz (pre ++ sepS L) (by rfl) (own8_al HOE.out _) none (.slice (some ⟨wr.heap.size, 0, none⟩) 1 1) [41] (by rfl) (row8_lit wr 5 [41] 1 _ rfl) ?hb ?hc ?_; (case hb => simp only [List.length_append, List.length_singleton]; omega); (case hc => rw [World.size_alloc]; have := HYZ.out.size; omega); intro v9 W9 hO hg ho; have HO9 := Aside0.mk hO; have HY9 := Aside0.mk (show Below w.heap.size w W9 from Below.grown (below_alloc HYZ.out _) hg (by rw [World.size_alloc]; have := HYZ.out.size; omega) (fun k hk => (HOE.out.lt k hk).1)); clear hO hg ho)
          go_ret
          exact ⟨_, rfl, by rw [HTX2.out]; exact HO9.out, HY9.out⟩
theorem writeR_calls : ∀ n, WriteRAt n
  | 0 => fun x h => h.elim
  | n + 1 => writeR_step n (writeR_calls n)
end Go.Proofs.YteppilognoigjaaDoor.LQ
