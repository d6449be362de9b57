/- The walk of the program's write. The walks of the closures of the program's write, but for the kids'. The walks of the closures of the program's write that write the boost and the operation. The state of the program's write, and a part more. The closure of the program's write that writes a kid. -/
import Derived.Test.YteppilognoigjaaDoorPS
namespace Go.Proofs.YteppilognoigjaaDoor.LQ
open Go.RowKit Go.Proofs.YteppilognoigjaaDoorW.PrintWords Go.Proofs.YteppilognoigjaaDoorW.PrintLast Go.Proofs.YteppilognoigjaaDoorW.PrintMore Go.Proofs.YteppilognoigjaaDoor.PQueryForms Go.Proofs.YteppilognoigjaaDoor.QK
set_option linter.unusedVariables false
set_option linter.unusedSimpArgs false

/-- What stays while a builder is written and a counter counts. -/
def StaysC (B b cn : Nat) (w w' : World) : Prop := Below B w w' ∧ ∀ (k : Nat) (o : Obj), w.heap[k]? = some o → k ≠ b → k ≠ cn → (∀ c fz, o ≠ .cells c 5 fz) → w'.heap[k]? = some o
theorem Stays.toC {B b : Nat} {w w' : World} (cn : Nat) (h : Stays B b w w') : StaysC B b cn w w' := ⟨h.1, fun k o hk hb _ hu => h.2 k o hk (fun e => hb (Option.some.inj e)) hu⟩
theorem StaysC.trans {B b cn : Nat} {u v w : World} (h : StaysC B b cn u v) (k : StaysC B b cn v w) : StaysC B b cn u w := ⟨h.1.trans k.1, fun i o hi hb hc hu => k.2 i o (h.2 i o hi hb hc hu) hb hc hu⟩
/-- The counter is new: so it is as if nothing but the builder were written. -/
theorem Stays.ofC {B b cn : Nat} {u v w : World} (h : Stays B b u v) (k : StaysC B b cn v w) (hc : u.heap.size ≤ cn) : Stays B b u w := by
  refine ⟨h.1.trans k.1, fun i o hi hb hu => ?_⟩
  have hlt := blk_lt hi
  exact k.2 i o (h.2 i o hi hb hu) (fun e => hb (by rw [e])) (by omega) hu
theorem StaysC.blk {B b cn k : Nat} {w w' : World} {cs : Array Value} {t : TypeId} (h : StaysC B b cn w w') (hk : w.heap[k]? = some (.cells cs t (0, 0))) (hb : k ≠ b) (hc : k ≠ cn) (ht : t ≠ 5) : w'.heap[k]? = some (.cells cs t (0, 0)) :=
  h.2 k _ hk hb hc (fun c fz e => ht (by injection e))
theorem Stays.blk {B b k : Nat} {w w' : World} {cs : Array Value} {t : TypeId} (h : Stays B b w w') (hk : w.heap[k]? = some (.cells cs t (0, 0))) (hb : k ≠ b) (ht : t ≠ 5) : w'.heap[k]? = some (.cells cs t (0, 0)) :=
  h.2 k _ hk (fun e => hb (Option.some.inj e)) (fun c fz e => ht (by injection e))
theorem staysC_set {B b cn : Nat} {w : World} (hB : B ≤ cn) (v : Value) : StaysC B b cn w (w.setCell ⟨cn, 0, none⟩ v) :=
  ⟨(Below.refl B w).setCell hB _, fun k o hk _ hc _ => (Below.heap_setCell w ⟨cn, 0, none⟩ v k hc).trans hk⟩
theorem bld_setC {B b cn : Nat} {bs : List Value} {w : World} (h : Bld B b bs w) (hb : cn ≠ b) {cs : Array Value} {t : TypeId} (hc : w.heap[cn]? = some (.cells cs t (0, 0))) (ht : t ≠ 5) (v : Value) : Bld B b bs (w.setCell ⟨cn, 0, none⟩ v) := by
  have far : ∀ k, k ≠ cn → (w.setCell ⟨cn, 0, none⟩ v).heap[k]? = w.heap[k]? := fun k hk => Below.heap_setCell w ⟨cn, 0, none⟩ v k hk
  have key : ∀ p, Lib.BuilderAtF 45 5 B b p bs w → Lib.BuilderAtF 45 5 B b p bs (w.setCell ⟨cn, 0, none⟩ v) := by
    rintro p ⟨hB, u, hbk, hown, hne⟩
    refine ⟨hB, u, (far b (fun e => hb e.symm)).trans hbk, ?_, hne⟩
    refine ⟨hown.1, ?_⟩
    rcases hown.2 with h0 | ⟨g, cap, cur, fz, hv, hbg, hg, rest⟩
    · exact .inl h0
    · refine .inr ⟨g, cap, cur, fz, hv, hbg, (far g ?_).trans hg, rest⟩
      rintro rfl
      rw [hc] at hg
      injection hg with hg
      injection hg with _ e _
      exact ht e
  rcases h with h | h
  · exact .inl (key _ h)
  · exact .inr (key _ h)

/-- What a part leaves. -/
def PartDone (B b cn : Nat) (acc piece : List Int) (cnt : Int) (bs : List Value) (w w' : World) : Prop :=
  Bld B b (bs ++ c8 (acc ++ ((if cnt = 0 then [] else [44, 32]) ++ piece))) w' ∧ w'.heap[cn]? = some (.cells #[.int .i64 (cnt + 1)] 3 (0, 0)) ∧ StaysC B b cn w w'
set_option maxHeartbeats 8000000 in
set_option maxRecDepth 100000 in
/-- One part is written: ", " ahead of it, but for the first. -/
theorem part_calls (F : Nat) (cap : Array Value) (piece : List Int) (B b bb cn : Nat) (acc : List Int) (cnt : Int) (bs : List Value) (w : World)
    (hE : ∀ args w, (callFunc F args).run Tryd.prog w = .ok (.enter F args) w) (hc0 : 0 ≤ cnt) (hc1 : cnt ≤ 9000000000000000000) (hcn : w.heap[cn]? = some (.cells #[.int .i64 cnt] 3 (0, 0))) (hbb : w.heap[bb]? = some (.cells #[.pointer (some ⟨b, 0, none⟩)] 42 (0, 0)))
    (hb : Bld B b (bs ++ c8 acc) w) (hBw : B ≤ w.heap.size) (hBc : B ≤ cn) (hcb : cn ≠ b) (hbc : bb ≠ cn) (hbb' : bb ≠ b) (hlen : ¬ cnt = 0 → bs.length + acc.length + 2 ≤ 140737488355328)
    (hF : ∀ W acc', StaysC B b cn w W → Bld B b (bs ++ c8 acc') W → acc'.length + piece.length ≤ (acc ++ ((if cnt = 0 then [] else [44, 32]) ++ piece)).length → Calls Tryd.prog F cap W fun e w' => e = .returned (.tuple #[]) ∧ Wrote B b ((bs ++ c8 acc') ++ c8 piece) W w') :
    Calls Tryd.prog 42 #[.func (.func F) #[] cap, .pointer (some ⟨cn, 0, none⟩), .pointer (some ⟨bb, 0, none⟩)] w fun e w' => e = .returned (.tuple #[]) ∧ PartDone B b cn acc piece cnt bs w w' := by
  have z0 : w.frozen? ⟨cn, 0, none⟩ = false := blk_frozen hcn 0
  have f0 : w.cell? ⟨cn, 0, none⟩ = some (.int .i64 cnt) := (blk_cell hcn 0).trans rfl
  have hw : wrap64 (cnt + 1) = cnt + 1 := by unfold wrap64; omega
  have hcn1 : (w.setCell ⟨cn, 0, none⟩ (.int .i64 (cnt + 1))).heap[cn]? = some (.cells #[.int .i64 (cnt + 1)] 3 (0, 0)) := blk_set hcn 0 _
  have hs1 : StaysC B b cn w (w.setCell ⟨cn, 0, none⟩ (.int .i64 (cnt + 1))) := staysC_set hBc _
  have hb1 := bld_setC hb hcb hcn (by decide) (.int .i64 (cnt + 1))
  have hbb1 : (w.setCell ⟨cn, 0, none⟩ (.int .i64 (cnt + 1))).heap[bb]? = some (.cells #[.pointer (some ⟨b, 0, none⟩)] 42 (0, 0)) := hs1.blk hbb hbb' hbc (by decide)
  have HF := Aside0.mk hF
  have HLN := Aside0.mk hlen
  clear hF hcn hbb hb hlen
  go_enter Tryd.func42, Tryd.ntmps42
  go_upto_region 1 with fail
  generalize w.setCell ⟨cn, 0, none⟩ (.int .i64 (cnt + 1)) = W1 at *
  have g0 : W1.cell? ⟨cn, 0, none⟩ = some (.int .i64 (cnt + 1)) := (blk_cell hcn1 0).trans rfl
  have g1 : W1.cell? ⟨bb, 0, none⟩ = some (.pointer (some ⟨b, 0, none⟩)) := (blk_cell hbb1 0).trans rfl
  have HS1 := Aside0.mk hs1
  have HB1 := Aside0.mk hb1
  have HC1 := Aside0.mk hcn1
  have hBW1 : B ≤ W1.heap.size := by have := hs1.1.size; omega
  clear hs1 hb1 hcn1 hbb1 z0 f0 hw
  by_cases c0 : cnt = 0
  · have hq : ¬ 1 < cnt + 1 := by omega
    have HF1 := Aside0.mk (HF.out W1 acc HS1.out HB1.out (by rw [if_pos c0]; simp))
    have c0' := Aside0.mk c0
    clear HF c0
    go_wp2_with fail
    refine HF1.out.mono ?_
    rintro e W2 ⟨rfl, hW2⟩
    have HE := Aside0.mk hW2
    clear hW2 HF1
    go_wp2_with fail
    go_end0
    refine ⟨rfl, ?_, HE.out.stays.blk HC1.out hcb (by decide), HS1.out.trans (HE.out.stays.toC cn)⟩
    rw [if_pos c0'.out, List.nil_append, c8_append, ← List.append_assoc]
    exact HE.out.1
  · have hq : 1 < cnt + 1 := by omega
    have c0' := Aside0.mk c0
    have hlen := HLN.out c0
    clear c0
    go_wp2_with fail
    refine (wstr_calls B b _ ⟨#[44, 32]⟩ W1 HB1.out (by show _ + 2 ≤ _; simp; omega) hBW1).mono ?_
    rintro e W2 ⟨rfl, hW2⟩
    have hb2 : Bld B b (bs ++ c8 (acc ++ [44, 32])) W2 := by
      have := hW2.1
      rw [List.append_assoc, c8_str] at this
      rw [c8_append]
      exact this
    have HS2 := Aside0.mk hW2.stays
    have HF2 := Aside0.mk (HF.out W2 (acc ++ [44, 32]) (HS1.out.trans (hW2.stays.toC cn)) hb2 (by rw [if_neg c0'.out]; simp; omega))
    clear hW2 HF hb2
    go_wp2_with fail
    refine HF2.out.mono ?_
    rintro e W3 ⟨rfl, hW3⟩
    have HE := Aside0.mk hW3
    clear hW3 HF2
    go_wp2_with fail
    go_end0
    refine ⟨rfl, ?_, (HS2.out.trans HE.out.stays).blk HC1.out hcb (by decide), HS1.out.trans ((HS2.out.trans HE.out.stays).toC cn)⟩
    rw [if_neg c0'.out, ← List.append_assoc, c8_append, ← List.append_assoc]
    exact HE.out.1
end Go.Proofs.YteppilognoigjaaDoor.LQ
namespace Go.Proofs.YteppilognoigjaaDoor.LQ
open Go.RowKit Go.Proofs.YteppilognoigjaaDoorW.PrintWords Go.Proofs.YteppilognoigjaaDoorW.PrintLast Go.Proofs.YteppilognoigjaaDoorW.PrintMore Go.Proofs.YteppilognoigjaaDoor.PQueryForms Go.Proofs.YteppilognoigjaaDoor.QK
set_option linter.unusedVariables false
set_option linter.unusedSimpArgs false

/-- The boxes of the builder's address and of the query. -/
abbrev boxB (b : Nat) : Obj := .cells #[.pointer (some ⟨b, 0, none⟩)] 42
abbrev boxQ (x : S25) (A5 : Option Addr) (c5 : Nat) (A6 : Option Addr) (c6 : Nat) (A9 : Option Addr) (c9 : Nat) : Obj := .cells #[.int .i64 x.f0, .int .i64 x.f1, .string x.f2, .string x.f3, .string x.f4, .slice A5 x.f5.length c5, .slice A6 x.f6.length c6, .int .i64 x.f7, .int .i64 x.f8, .slice A9 x.f9.length c9] 25
/-- A closure writes a piece. -/
def Writes (F : Nat) (cap : Array Value) (piece : List Int) (B b : Nat) (W : World) : Prop := ∀ (bs : List Value), Bld B b bs W → bs.length + piece.length ≤ 140737488355328 → Calls Tryd.prog F cap W fun e w' => e = .returned (.tuple #[]) ∧ Wrote B b (bs ++ c8 piece) W w'
section
variable (x : S25) (A5 : Option Addr) (c5 : Nat) (A6 : Option Addr) (c6 : Nat) (A9 : Option Addr) (c9 : Nat) (B b bb qb : Nat) (W : World) (hbb : W.heap[bb]? = some (boxB b)) (hqb : W.heap[qb]? = some (boxQ x A5 c5 A6 c6 A9 c9)) (hBw : B ≤ W.heap.size)
include hbb hqb hBw
set_option maxHeartbeats 8000000 in
set_option maxRecDepth 100000 in
theorem w4_calls : Writes 48 #[.pointer (some ⟨bb, 0, none⟩), .pointer (some ⟨qb, 0, none⟩)] (bytesOf x.f2) B b W := by
  intro bs hb hlen
  have g0 : W.cell? ⟨bb, 0, none⟩ = some (.pointer (some ⟨b, 0, none⟩)) := (blk_cell hbb 0).trans rfl
  have g1 : W.cell? ⟨qb, 2, none⟩ = some (.string x.f2) := (blk_cell hqb 2).trans rfl
  have HW := Aside0.mk (wstr_calls B b bs x.f2 W hb (by rw [bytesOf_length] at hlen; exact hlen) hBw)
  clear hbb hqb hb hlen
  go_enter Tryd.func48, Tryd.ntmps48
  go_wp2_with fail
  refine HW.out.mono ?_
  rintro e w' ⟨rfl, h⟩
  rw [c8_str] at h
  have HE := Aside0.mk h
  clear h HW
  go_wp2_with fail
  go_end0
  exact ⟨rfl, HE.out⟩
set_option maxHeartbeats 8000000 in
set_option maxRecDepth 100000 in
theorem w5_calls (hs : x.f3.size ≤ 9223372036854775806) : Writes 49 #[.pointer (some ⟨bb, 0, none⟩), .pointer (some ⟨qb, 0, none⟩)] (quotedS x.f3) B b W := by
  intro bs hb hlen
  have g0 : W.cell? ⟨bb, 0, none⟩ = some (.pointer (some ⟨b, 0, none⟩)) := (blk_cell hbb 0).trans rfl
  have g1 : W.cell? ⟨qb, 3, none⟩ = some (.string x.f3) := (blk_cell hqb 3).trans rfl
  have HW := Aside0.mk (quote_calls B b bs x.f3 W hb hlen hBw hs)
  clear hbb hqb hb hlen
  go_enter Tryd.func49, Tryd.ntmps49
  go_wp2_with fail
  refine HW.out.mono ?_
  rintro e w' ⟨rfl, h⟩
  have HE := Aside0.mk h
  clear h HW
  go_wp2_with fail
  go_end0
  exact ⟨rfl, HE.out⟩
set_option maxHeartbeats 8000000 in
set_option maxRecDepth 100000 in
theorem w6_calls (hs : x.f4.size ≤ 9223372036854775806) : Writes 51 #[.pointer (some ⟨bb, 0, none⟩), .pointer (some ⟨qb, 0, none⟩)] (quotedS x.f4) B b W := by
  intro bs hb hlen
  have g0 : W.cell? ⟨bb, 0, none⟩ = some (.pointer (some ⟨b, 0, none⟩)) := (blk_cell hbb 0).trans rfl
  have g1 : W.cell? ⟨qb, 4, none⟩ = some (.string x.f4) := (blk_cell hqb 4).trans rfl
  have HW := Aside0.mk (quote_calls B b bs x.f4 W hb hlen hBw hs)
  clear hbb hqb hb hlen
  go_enter Tryd.func51, Tryd.ntmps51
  go_wp2_with fail
  refine HW.out.mono ?_
  rintro e w' ⟨rfl, h⟩
  have HE := Aside0.mk h
  clear h HW
  go_wp2_with fail
  go_end0
  exact ⟨rfl, HE.out⟩
set_option maxHeartbeats 8000000 in
set_option maxRecDepth 100000 in
theorem w7_calls (hs : x.f3.size ≤ 9223372036854775806) : Writes 52 #[.pointer (some ⟨bb, 0, none⟩), .pointer (some ⟨qb, 0, none⟩)] (quotedS x.f3) B b W := by
  intro bs hb hlen
  have g0 : W.cell? ⟨bb, 0, none⟩ = some (.pointer (some ⟨b, 0, none⟩)) := (blk_cell hbb 0).trans rfl
  have g1 : W.cell? ⟨qb, 3, none⟩ = some (.string x.f3) := (blk_cell hqb 3).trans rfl
  have HW := Aside0.mk (quote_calls B b bs x.f3 W hb hlen hBw hs)
  clear hbb hqb hb hlen
  go_enter Tryd.func52, Tryd.ntmps52
  go_wp2_with fail
  refine HW.out.mono ?_
  rintro e w' ⟨rfl, h⟩
  have HE := Aside0.mk h
  clear h HW
  go_wp2_with fail
  go_end0
  exact ⟨rfl, HE.out⟩
set_option maxHeartbeats 8000000 in
set_option maxRecDepth 100000 in
theorem w8_calls (hw : ∀ v ∈ x.f5, (Lit.int .i64 v).wf = true) (hr : ∀ V, Stays B b W V → Kd.C (Kd.int .i64) V A5 x.f5.length x.f5) (ht : ∀ V, Stays B b W V → PowTab V) : Writes 53 #[.pointer (some ⟨bb, 0, none⟩), .pointer (some ⟨qb, 0, none⟩)] (numsS x.f5) B b W := by
  intro bs hb hlen
  have g0 : W.cell? ⟨bb, 0, none⟩ = some (.pointer (some ⟨b, 0, none⟩)) := (blk_cell hbb 0).trans rfl
  have g1 : W.cell? ⟨qb, 5, none⟩ = some (.slice A5 x.f5.length c5) := (blk_cell hqb 5).trans rfl
  have HW := Aside0.mk (numsP_calls B b bs A5 c5 x.f5 W hb hlen hBw hw hr ht)
  clear hbb hqb hb hlen hw hr ht
  go_enter Tryd.func53, Tryd.ntmps53
  go_wp2_with fail
  refine HW.out.mono ?_
  rintro e w' ⟨rfl, h⟩
  have HE := Aside0.mk h
  clear h HW
  go_wp2_with fail
  go_end0
  exact ⟨rfl, HE.out⟩
set_option maxHeartbeats 8000000 in
set_option maxRecDepth 100000 in
theorem w9_calls (hw : ∀ v ∈ x.f6, (Lit.int .i64 v).wf = true) (hr : ∀ V, Stays B b W V → Kd.C (Kd.int .i64) V A6 x.f6.length x.f6) (ht : ∀ V, Stays B b W V → PowTab V) : Writes 54 #[.pointer (some ⟨bb, 0, none⟩), .pointer (some ⟨qb, 0, none⟩)] (numsS x.f6) B b W := by
  intro bs hb hlen
  have g0 : W.cell? ⟨bb, 0, none⟩ = some (.pointer (some ⟨b, 0, none⟩)) := (blk_cell hbb 0).trans rfl
  have g1 : W.cell? ⟨qb, 6, none⟩ = some (.slice A6 x.f6.length c6) := (blk_cell hqb 6).trans rfl
  have HW := Aside0.mk (numsP_calls B b bs A6 c6 x.f6 W hb hlen hBw hw hr ht)
  clear hbb hqb hb hlen hw hr ht
  go_enter Tryd.func54, Tryd.ntmps54
  go_wp2_with fail
  refine HW.out.mono ?_
  rintro e w' ⟨rfl, h⟩
  have HE := Aside0.mk h
  clear h HW
  go_wp2_with fail
  go_end0
  exact ⟨rfl, HE.out⟩
set_option maxHeartbeats 8000000 in
set_option maxRecDepth 100000 in
theorem w10_calls (hw : ∀ v ∈ x.f5, (Lit.int .i64 v).wf = true) (hr : ∀ V, Stays B b W V → Kd.C (Kd.int .i64) V A5 x.f5.length x.f5) (ht : ∀ V, Stays B b W V → PowTab V) : Writes 55 #[.pointer (some ⟨bb, 0, none⟩), .pointer (some ⟨qb, 0, none⟩)] (numsS x.f5) B b W := by
  intro bs hb hlen
  have g0 : W.cell? ⟨bb, 0, none⟩ = some (.pointer (some ⟨b, 0, none⟩)) := (blk_cell hbb 0).trans rfl
  have g1 : W.cell? ⟨qb, 5, none⟩ = some (.slice A5 x.f5.length c5) := (blk_cell hqb 5).trans rfl
  have HW := Aside0.mk (numsP_calls B b bs A5 c5 x.f5 W hb hlen hBw hw hr ht)
  clear hbb hqb hb hlen hw hr ht
  go_enter Tryd.func55, Tryd.ntmps55
  go_wp2_with fail
  refine HW.out.mono ?_
  rintro e w' ⟨rfl, h⟩
  have HE := Aside0.mk h
  clear h HW
  go_wp2_with fail
  go_end0
  exact ⟨rfl, HE.out⟩
end
end Go.Proofs.YteppilognoigjaaDoor.LQ
namespace Go.Proofs.YteppilognoigjaaDoor.LQ
open Go.RowKit Go.Proofs.YteppilognoigjaaDoorW.PrintWords Go.Proofs.YteppilognoigjaaDoorW.PrintLast Go.Proofs.YteppilognoigjaaDoorW.PrintMore Go.Proofs.YteppilognoigjaaDoor.PQueryForms Go.Proofs.YteppilognoigjaaDoor.QK
set_option linter.unusedVariables false
set_option linter.unusedSimpArgs false

theorem one_C {V : World} {g : Nat} {v : Int} {t : TypeId} (h : V.heap[g]? = some (.cells #[.int .i64 v] t (0, 0))) : Kd.C (Kd.int .i64) V (some ⟨g, 0, none⟩) [v].length [v] := by
  refine ⟨rfl, by simp, fun _ => ⟨_, rfl, fun j p hj => ?_⟩⟩
  match j, hj with
  | 0, hj =>
    simp at hj
    subst hj
    refine ⟨[.int .i64 v], rfl, rfl, fun i u hu => ?_⟩
    match i, hu with
    | 0, hu =>
      simp at hu
      subst hu
      rw [add_plain]
      exact (blk_cell h _).trans rfl
    | i + 1, hu => simp at hu
  | j + 1, hj => simp at hj
theorem stays_drew (B b : Nat) (W : World) : Stays B b W W.drew := ⟨(Below.refl B W).drew, (Lib.OthersKept.refl _ _ W).drew⟩
section
variable (x : S25) (A5 : Option Addr) (c5 : Nat) (A6 : Option Addr) (c6 : Nat) (A9 : Option Addr) (c9 : Nat) (B b bb qb : Nat) (W : World) (hbb : W.heap[bb]? = some (boxB b)) (hqb : W.heap[qb]? = some (boxQ x A5 c5 A6 c6 A9 c9)) (hBw : B ≤ W.heap.size)
include hbb hqb hBw
set_option maxHeartbeats 8000000 in
set_option maxRecDepth 100000 in
theorem w2_calls (hbl : b < W.heap.size) (hw : (Lit.int .i64 x.f7).wf = true) (ht : ∀ V, Stays B b W V → PowTab V) : Writes 44 #[.pointer (some ⟨bb, 0, none⟩), .pointer (some ⟨qb, 0, none⟩)] (numsS [x.f7]) B b W := by
  intro bs hb hlen
  have g0 : W.cell? ⟨bb, 0, none⟩ = some (.pointer (some ⟨b, 0, none⟩)) := (blk_cell hbb 0).trans rfl
  have g1 : W.cell? ⟨qb, 7, none⟩ = some (.int .i64 x.f7) := (blk_cell hqb 7).trans rfl
  have hsa : Stays B b W (W.alloc (.cells #[.int .i64 x.f7] 2)) := stays_alloc hBw _
  have hr : ∀ V, Stays B b (W.alloc (.cells #[.int .i64 x.f7] 2)) V → Kd.C (Kd.int .i64) V (some ⟨W.heap.size, 0, none⟩) [x.f7].length [x.f7] := fun V hV =>
    one_C (hV.blk (blk_new W (.cells #[.int .i64 x.f7] 2)) (by omega) (by decide))
  have HW := Aside0.mk (numsP_calls B b bs (some ⟨W.heap.size, 0, none⟩) 1 [x.f7] (W.alloc (.cells #[.int .i64 x.f7] 2)) (bld_alloc hb _) hlen (hsa.size hBw) (by intro v hv; simp at hv; subst hv; exact hw) hr (fun V hV => ht V (hsa.trans hV)))
  have HSA := Aside0.mk hsa
  clear hbb hqb hb hlen hw hr ht hsa
  go_enter Tryd.func44, Tryd.ntmps44
  go_wp2_with fail
  refine HW.out.mono ?_
  rintro e w' ⟨rfl, h⟩
  have HE := Aside0.mk (show Wrote B b (bs ++ c8 (numsS [x.f7])) W w' from ⟨h.1, (HSA.out.trans h.stays).1, (HSA.out.trans h.stays).2⟩)
  clear h HW
  go_wp2_with fail
  go_end0
  exact ⟨rfl, HE.out⟩
set_option maxHeartbeats 8000000 in
set_option maxRecDepth 100000 in
theorem w3_calls (h0 : 0 ≤ x.f8) (h1 : x.f8 ≤ 3) : Writes 46 #[.pointer (some ⟨bb, 0, none⟩), .pointer (some ⟨qb, 0, none⟩)] (bytesOf (opW x.f8)) B b W := by
  intro bs hb hlen
  have g0 : W.cell? ⟨bb, 0, none⟩ = some (.pointer (some ⟨b, 0, none⟩)) := (blk_cell hbb 0).trans rfl
  have g1 : W.cell? ⟨qb, 8, none⟩ = some (.int .i64 x.f8) := (blk_cell hqb 8).trans rfl
  have HO := Aside0.mk (fun V => op_calls x.f8 h0 h1 V)
  have HB := Aside0.mk hb
  have HL := Aside0.mk hlen
  clear hbb hqb hb hlen h0 h1
  go_enter Tryd.func46, Tryd.ntmps46
  have hbd : Bld B b bs W.drew := HB.out
  have HW := Aside0.mk (wstr_calls B b bs (opW x.f8) W.drew hbd (by have := HL.out; rw [bytesOf_length] at this; exact this) hBw)
  clear hbd
  go_region_with (first
    | (go_at_call 47; refine (HO.out _).mono ?_; rintro e w' ⟨rfl, rfl⟩)
    | (go_at_call 40; refine HW.out.mono ?_; rintro e w' ⟨rfl, h⟩; have HE := Aside0.mk h; clear h))
  all_goals
    have h := HE.out
    rw [c8_str] at h
    have hs : Stays B b W w' := (stays_drew B b W).trans h.stays
    have HF := Aside0.mk (show Wrote B b (bs ++ c8 (bytesOf (opW x.f8))) W w' from ⟨h.1, hs.1, hs.2⟩)
    clear h hs
    go_end0
    exact ⟨rfl, HF.out⟩
end
end Go.Proofs.YteppilognoigjaaDoor.LQ
namespace Go.Proofs.YteppilognoigjaaDoor.LQ
open Go.RowKit Go.Proofs.YteppilognoigjaaDoorW.PrintWords Go.Proofs.YteppilognoigjaaDoorW.PrintLast Go.Proofs.YteppilognoigjaaDoorW.PrintMore Go.Proofs.YteppilognoigjaaDoor.PQueryForms Go.Proofs.YteppilognoigjaaDoor.QK
set_option linter.unusedVariables false
set_option linter.unusedSimpArgs false

theorem below_low {B C : Nat} {w V : World} (h : Below B w V) (hC : C ≤ B) : Below C w V := ⟨h.1, h.2, h.3, h.4, fun i hi => h.5 i (by omega)⟩
/-- The numbers' lengths fit. -/
theorem sepS_take_le (l : List (List Int)) (p : List Int) : (sepS l).length ≤ (sepS (l ++ [p])).length := by
  rw [sepS_snoc, List.length_append]; omega
theorem sepS_app_le : ∀ (r l : List (List Int)), (sepS l).length ≤ (sepS (l ++ r)).length
  | [], l => by simp
  | p :: r, l => by
    have h1 := sepS_take_le l p
    have h2 := sepS_app_le r (l ++ [p])
    rw [List.append_assoc] at h2
    have : [p] ++ r = p :: r := rfl
    rw [this] at h2
    omega
section
variable (x : S25) (A5 : Option Addr) (c5 : Nat) (A6 : Option Addr) (c6 : Nat) (A9 : Option Addr) (c9 : Nat) (B b bb qb cn : Nat) (pre : List Value)
/-- So many parts are written behind pre. w: the world at the entry. -/
structure St (w : World) (acc : List (List Int)) (W : World) : Prop where
  bld : Bld B b (pre ++ c8 (sepS acc)) W
  cnt : W.heap[cn]? = some (.cells #[.int .i64 (acc.length : Int)] 3 (0, 0))
  box : W.heap[bb]? = some (boxB b)
  q : W.heap[qb]? = some (boxQ x A5 c5 A6 c6 A9 c9)
  stays : Stays B b w W
/-- The numbers of the blocks. -/
structure Blocks (w : World) : Prop where
  bW : B ≤ w.heap.size
  bl : b < w.heap.size
  cb : cn ≠ b
  bc : bb ≠ cn
  bb' : bb ≠ b
  qc : qb ≠ cn
  qb' : qb ≠ b
  cw : w.heap.size ≤ cn
theorem part_step (F : Nat) (cap : Array Value) (piece : List Int) (w : World) (acc : List (List Int)) (W : World) (hK : Blocks B b bb qb cn w) (hS : St x A5 c5 A6 c6 A9 c9 B b bb qb cn pre w acc W)
    (hE : ∀ args w, (callFunc F args).run Tryd.prog w = .ok (.enter F args) w) (hn : (acc.length : Int) ≤ 9000000000000000000) (hlen : pre.length + (sepS (acc ++ [piece])).length ≤ 140737488355328)
    (hF : ∀ V, Stays B b w V → StaysC B b cn W V → V.heap[bb]? = some (boxB b) → V.heap[qb]? = some (boxQ x A5 c5 A6 c6 A9 c9) → Writes F cap piece B b V) :
    Calls Tryd.prog 42 #[.func (.func F) #[] cap, .pointer (some ⟨cn, 0, none⟩), .pointer (some ⟨bb, 0, none⟩)] W fun e w' => e = .returned (.tuple #[]) ∧ St x A5 c5 A6 c6 A9 c9 B b bb qb cn pre w (acc ++ [piece]) w' := by
  have hsn := sepS_snoc acc piece
  have hl1 : (sepS acc).length ≤ (sepS (acc ++ [piece])).length := sepS_take_le acc piece
  have e0 : ((acc.length : Int) = 0) = (acc = []) := by
    apply propext
    constructor
    · intro h; exact List.eq_nil_of_length_eq_zero (by omega)
    · rintro rfl; rfl
  have epc : sepS acc ++ ((if (acc.length : Int) = 0 then [] else [44, 32]) ++ piece) = sepS (acc ++ [piece]) := by
    rw [hsn]
    simp only [e0]
    by_cases c : acc = []
    · rw [if_pos c, if_pos c]; rfl
    · rw [if_neg c, if_neg c]
  have hpl : (sepS acc).length + piece.length ≤ (sepS (acc ++ [piece])).length := by
    rw [← epc]; simp only [List.length_append]; omega
  refine (part_calls F cap piece B b bb cn (sepS acc) acc.length pre W hE (by omega) hn hS.cnt hS.box hS.bld (hS.stays.size hK.bW) (by have := hK.cw; have := hK.bW; omega) hK.cb hK.bc hK.bb' ?_ ?_).mono ?_
  · intro h0
    have hne : ¬ acc = [] := by rw [← e0]; exact h0
    rw [hsn, if_neg hne] at hlen
    simp only [List.length_append, List.length_cons, List.length_nil] at hlen
    omega
  · intro V acc' hC hb hl
    have hst : Stays B b w V := hS.stays.ofC hC hK.cw
    have hbox : V.heap[bb]? = some (boxB b) := hC.blk hS.box hK.bb' hK.bc (by decide)
    have hq : V.heap[qb]? = some (boxQ x A5 c5 A6 c6 A9 c9) := hC.blk hS.q hK.qb' hK.qc (by decide)
    exact hF V hst hC hbox hq _ hb (by rw [epc] at hl; simp only [List.length_append, List.length_map]; omega)
  · rintro e w' ⟨rfl, hb, hc, hst⟩
    refine ⟨rfl, ?_, ?_, hst.blk hS.box hK.bb' hK.bc (by decide), hst.blk hS.q hK.qb' hK.qc (by decide), hS.stays.ofC hst hK.cw⟩
    · rw [epc] at hb; exact hb
    · rw [hc]; simp
theorem St.alloc {w : World} {acc : List (List Int)} {W : World} (h : St x A5 c5 A6 c6 A9 c9 B b bb qb cn pre w acc W) (hB : B ≤ W.heap.size) (o : Obj) : St x A5 c5 A6 c6 A9 c9 B b bb qb cn pre w acc (W.alloc o) :=
  ⟨bld_alloc h.bld o, blk_alloc h.cnt o, blk_alloc h.box o, blk_alloc h.q o, h.stays.trans (stays_alloc hB o)⟩
end
end Go.Proofs.YteppilognoigjaaDoor.LQ
namespace Go.Proofs.YteppilognoigjaaDoor.LQ
open Go.RowKit Go.Proofs.YteppilognoigjaaDoorW.PrintWords Go.Proofs.YteppilognoigjaaDoorW.PrintLast Go.Proofs.YteppilognoigjaaDoorW.PrintMore Go.Proofs.YteppilognoigjaaDoor.PQueryForms Go.Proofs.YteppilognoigjaaDoor.QK
set_option linter.unusedVariables false
set_option linter.unusedSimpArgs false

/-- What the program's write promises of queries nested at most n deep. w0: a world in which the query's memory lies. -/
def WriteAt (n : Nat) : Prop := ∀ (x : S25), Good n x → ∀ (u : Int), formedN n x u = true → ∀ (A5 : Option Addr) (c5 : Nat) (A6 : Option Addr) (c6 : Nat) (A9 : Option Addr) (c9 : Nat) (B b : Nat) (bs : List Value) (w0 w : World),
  w0.heap.size ≤ B → Below w0.heap.size w0 w → Kd.C (Kd.int .i64) w0 A5 x.f5.length x.f5 → Kd.C (Kd.int .i64) w0 A6 x.f6.length x.f6 → Kd.C k25 w0 A9 x.f9.length x.f9 → PowTab w0 →
  b < w.heap.size → B ≤ w.heap.size → Bld B b bs w → bs.length + (textN n x).length ≤ 140737488355328 →
  Calls Tryd.prog 26 #[.pointer (some ⟨b, 0, none⟩), .agg #[.int .i64 x.f0, .int .i64 x.f1, .string x.f2, .string x.f3, .string x.f4, .slice A5 x.f5.length c5, .slice A6 x.f6.length c6, .int .i64 x.f7, .int .i64 x.f8, .slice A9 x.f9.length c9]] w fun e w' => e = .returned (.tuple #[]) ∧ Wrote B b (bs ++ c8 (textN n x)) w w'
theorem occ_range {x : S25} {u : Int} (h : occS x u = true) : 0 ≤ x.f1 ∧ x.f1 ≤ 4 := by
  unfold occS at h
  by_cases c : u = 8
  · rw [if_pos c] at h
    simp only [Bool.and_eq_true, decide_eq_true_eq] at h
    omega
  · rw [if_neg c] at h
    simp at h
    omega
set_option maxHeartbeats 8000000 in
set_option maxRecDepth 100000 in
theorem w11_calls (n : Nat) (hW : WriteAt n) (x : S25) (hg : Good n x) (u : Int) (hf : formedN n x u = true) (ho : occS x u = true) (A5 : Option Addr) (c5 : Nat) (A6 : Option Addr) (c6 : Nat) (A9 : Option Addr) (c9 : Nat) (B b bb qb : Nat) (w0 W : World)
    (h0B : w0.heap.size ≤ B) (hbw : Below w0.heap.size w0 W) (h5 : Kd.C (Kd.int .i64) w0 A5 x.f5.length x.f5) (h6 : Kd.C (Kd.int .i64) w0 A6 x.f6.length x.f6) (h9 : Kd.C k25 w0 A9 x.f9.length x.f9) (ht : PowTab w0)
    (hbl : b < W.heap.size) (hBw : B ≤ W.heap.size) (hqb' : qb ≠ b) (hbb' : bb ≠ b) (hbb : W.heap[bb]? = some (boxB b)) (hqb : W.heap[qb]? = some (boxQ x A5 c5 A6 c6 A9 c9)) :
    Writes 56 #[.pointer (some ⟨qb, 0, none⟩), .pointer (some ⟨bb, 0, none⟩)] (markS x.f1 ++ textN n x) B b W := by
  intro bs hb hlen
  have hu25 := Tryd.underlying25
  obtain ⟨o0, o1⟩ := occ_range ho
  -- the last step, from whatever world
  have hlast : ∀ V bs', Stays B b W V → Bld B b bs' V → bs'.length + (textN n x).length ≤ 140737488355328 → Calls Tryd.prog 26 #[.pointer (some ⟨b, 0, none⟩), .agg #[.int .i64 x.f0, .int .i64 x.f1, .string x.f2, .string x.f3, .string x.f4, .slice A5 x.f5.length c5, .slice A6 x.f6.length c6, .int .i64 x.f7, .int .i64 x.f8, .slice A9 x.f9.length c9]] V fun e w' => e = .returned (.tuple #[]) ∧ Wrote B b (bs' ++ c8 (textN n x)) V w' := by
    intro V bs' hV hb' hl'
    exact hW x hg u hf A5 c5 A6 c6 A9 c9 B b bs' w0 V h0B (hbw.trans (below_low hV.1 h0B)) h5 h6 h9 ht (by have := hV.1.size; omega) (hV.size hBw) hb' hl'
  have facts : ∀ V, Stays B b W V → V.heap[bb]? = some (boxB b) ∧ V.heap[qb]? = some (boxQ x A5 c5 A6 c6 A9 c9) := fun V hV => ⟨hV.blk hbb hbb' (by decide), hV.blk hqb hqb' (by decide)⟩
  have HL := Aside0.mk hlast
  have HFC := Aside0.mk facts
  have HB := Aside0.mk hb
  have HLN := Aside0.mk hlen
  have g0 : W.cell? ⟨bb, 0, none⟩ = some (.pointer (some ⟨b, 0, none⟩)) := (blk_cell hbb 0).trans rfl
  have q1 : W.cell? ⟨qb, 1, none⟩ = some (.int .i64 x.f1) := (blk_cell hqb 1).trans rfl
  by_cases c0 : 0 < x.f1
  · have hm : markS x.f1 = [markB x.f1] := by unfold markS; rw [if_pos c0]
    have hl1 : bs.length + 1 + (textN n x).length ≤ 140737488355328 := by
      rw [hm] at hlen
      simp only [List.length_append, List.length_singleton] at hlen
      omega
    have HW := Aside0.mk (wbyte_calls B b bs (bt (⟨#[32, 43, 63, 45, 61]⟩ : ByteArray) x.f1) W.drew (show Bld B b bs W.drew from hb) (by omega) hBw)
    have HL1 := Aside0.mk hl1
    have HM := Aside0.mk hm
    have p1 : (0 ≤ x.f1) = True := eq_true o0
    have p2 : (x.f1 < 5) = True := eq_true (by omega)
    have hx := bt_at (⟨#[32, 43, 63, 45, 61]⟩ : ByteArray) x.f1
    clear hW hf hg ho hlast facts hb hlen hbb hqb hl1 hm h5 h6 h9 ht hbw
    go_enter Tryd.func56, Tryd.ntmps56
    go_wp2_with fail
    go_region_with (go_at_call 43; refine HW.out.mono ?_; rintro e w' ⟨rfl, h⟩; have HE := Aside0.mk h; clear h)
    all_goals
      have hs : Stays B b W w' := (stays_drew B b W).trans HE.out.stays
      obtain ⟨k1, k2⟩ := HFC.out w' hs
      have j0 : w'.cell? ⟨bb, 0, none⟩ = some (.pointer (some ⟨b, 0, none⟩)) := (blk_cell k1 0).trans rfl
      have i0 : w'.cell? ⟨qb, 0, none⟩ = some (.int .i64 x.f0) := (blk_cell k2 0).trans rfl
      have i1 : w'.cell? ⟨qb, 1, none⟩ = some (.int .i64 x.f1) := (blk_cell k2 1).trans rfl
      have i2 : w'.cell? ⟨qb, 2, none⟩ = some (.string x.f2) := (blk_cell k2 2).trans rfl
      have i3 : w'.cell? ⟨qb, 3, none⟩ = some (.string x.f3) := (blk_cell k2 3).trans rfl
      have i4 : w'.cell? ⟨qb, 4, none⟩ = some (.string x.f4) := (blk_cell k2 4).trans rfl
      have i5 : w'.cell? ⟨qb, 5, none⟩ = some (.slice A5 x.f5.length c5) := (blk_cell k2 5).trans rfl
      have i6 : w'.cell? ⟨qb, 6, none⟩ = some (.slice A6 x.f6.length c6) := (blk_cell k2 6).trans rfl
      have i7 : w'.cell? ⟨qb, 7, none⟩ = some (.int .i64 x.f7) := (blk_cell k2 7).trans rfl
      have i8 : w'.cell? ⟨qb, 8, none⟩ = some (.int .i64 x.f8) := (blk_cell k2 8).trans rfl
      have i9 : w'.cell? ⟨qb, 9, none⟩ = some (.slice A9 x.f9.length c9) := (blk_cell k2 9).trans rfl
      have hL := HL.out w' (bs ++ [Value.int .u8 (bt (⟨#[32, 43, 63, 45, 61]⟩ : ByteArray) x.f1)]) hs HE.out.1 (by have := HL1.out; simp only [List.length_append, List.length_singleton]; omega)
      have HLW := Aside0.mk hL
      have HST := Aside0.mk hs
      clear hL hs k1 k2
      go_wp2_with fail
      refine HLW.out.mono ?_
      rintro e w2 ⟨rfl, h⟩
      have HE2 := Aside0.mk h
      clear h
      go_wp2_with fail
      go_end0
      refine ⟨rfl, ?_, (HST.out.trans HE2.out.stays).1, (HST.out.trans HE2.out.stays).2⟩
      rw [HM.out]
      have := HE2.out.1
      rw [List.append_assoc] at this
      exact this
  · have c1 : x.f1 = 0 := by omega
    have HM := Aside0.mk (show markS x.f1 = [] by unfold markS; rw [if_neg c0])
    obtain ⟨k1, k2⟩ := HFC.out W (Stays.refl _ _ _)
    have i0 : W.cell? ⟨qb, 0, none⟩ = some (.int .i64 x.f0) := (blk_cell k2 0).trans rfl
    have i2 : W.cell? ⟨qb, 2, none⟩ = some (.string x.f2) := (blk_cell k2 2).trans rfl
    have i3 : W.cell? ⟨qb, 3, none⟩ = some (.string x.f3) := (blk_cell k2 3).trans rfl
    have i4 : W.cell? ⟨qb, 4, none⟩ = some (.string x.f4) := (blk_cell k2 4).trans rfl
    have i5 : W.cell? ⟨qb, 5, none⟩ = some (.slice A5 x.f5.length c5) := (blk_cell k2 5).trans rfl
    have i6 : W.cell? ⟨qb, 6, none⟩ = some (.slice A6 x.f6.length c6) := (blk_cell k2 6).trans rfl
    have i7 : W.cell? ⟨qb, 7, none⟩ = some (.int .i64 x.f7) := (blk_cell k2 7).trans rfl
    have i8 : W.cell? ⟨qb, 8, none⟩ = some (.int .i64 x.f8) := (blk_cell k2 8).trans rfl
    have i9 : W.cell? ⟨qb, 9, none⟩ = some (.slice A9 x.f9.length c9) := (blk_cell k2 9).trans rfl
    have hL := HL.out W bs (Stays.refl _ _ _) HB.out (by have := HLN.out; simp only [List.length_append] at this; omega)
    have HLW := Aside0.mk hL
    have C1 := Aside0.mk c1
    clear hL k1 k2 hW hf hg ho hlast facts hb hlen hbb hqb h5 h6 h9 ht hbw c1
    go_enter Tryd.func56, Tryd.ntmps56
    go_wp2_with fail
    refine HLW.out.mono ?_
    rintro e w2 ⟨rfl, h⟩
    have HE2 := Aside0.mk h
    clear h
    go_wp2_with fail
    go_end0
    refine ⟨rfl, ?_⟩
    rw [HM.out, List.nil_append]
    exact HE2.out
end Go.Proofs.YteppilognoigjaaDoor.LQ
