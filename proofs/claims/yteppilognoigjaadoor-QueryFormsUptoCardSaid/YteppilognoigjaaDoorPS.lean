/- The walks of the program's numbers, quote, word, operation: onto a builder. The walks of the program's quote, word, operation. The plain text of a query. -/
import Derived.Test.YteppilognoigjaaDoorBW
import Derived.Test.YteppilognoigjaaDoorPT
import Derived.Test.YteppilognoigjaaDoorShelf
import Derived.Sort.Grow
import Derived.Lib.SmallJoins
import Derived.StillTailTactics
namespace Go.Proofs.YteppilognoigjaaDoor.LQ
open Go.RowKit Go.Proofs.YteppilognoigjaaDoorW.PrintWords Go.Proofs.YteppilognoigjaaDoorW.PrintLast Go.Proofs.YteppilognoigjaaDoorW.PrintMore Go.Proofs.YteppilognoigjaaDoor.PQueryForms Go.Proofs.YteppilognoigjaaDoor.QK
set_option linter.unusedVariables false
set_option linter.unusedSimpArgs false

/-- Bytes as cells. -/
abbrev c8 (l : List Int) : List Value := l.map (Value.int .u8)
theorem c8_str (s : ByteArray) : Lib.strCells s = c8 (bytesOf s) := by unfold Lib.strCells bytesOf c8; rw [List.map_map]; rfl
theorem c8_append (a b : List Int) : c8 (a ++ b) = c8 a ++ c8 b := List.map_append
/-- What stays of a world while a builder is written. -/
def Stays (B b : Nat) (w w' : World) : Prop := Below B w w' ∧ Lib.OthersKept 5 (some b) w w'
theorem Stays.refl (B b : Nat) (w : World) : Stays B b w w := ⟨Below.refl _ _, Lib.OthersKept.refl _ _ _⟩
theorem Stays.trans {B b : Nat} {u v w : World} (h : Stays B b u v) (k : Stays B b v w) : Stays B b u w := ⟨h.1.trans k.1, h.2.trans k.2⟩
theorem Wrote.stays {B b : Nat} {bs : List Value} {w w' : World} (h : Wrote B b bs w w') : Stays B b w w' := h.2
theorem Stays.size {B b : Nat} {w w' : World} (h : Stays B b w w') (hB : B ≤ w.heap.size) : B ≤ w'.heap.size := by have := h.1.size; omega
theorem bld_grown {B b : Nat} {bs : List Value} {w w' : World} (h : Bld B b bs w) (hg : w.grownBy w' none) : Bld B b bs w' := by
  have key : ∀ p, Lib.BuilderAtF 45 5 B b p bs w → Lib.BuilderAtF 45 5 B b p bs w' := by
    rintro p ⟨hB, v, hbk, hown, hne⟩
    refine ⟨hB, v, (hg.block b (blk_lt hbk) (by simp)).trans hbk, hown.kept hg ?_, hne⟩
    cases hv : v.ownBlock with
    | none => exact .inl rfl
    | some g => exact .inr (by simp)
  rcases h with h | h
  · exact .inl (key _ h)
  · exact .inr (key _ h)
theorem grow_grown (w : World) (k : Nat) (os : Array Obj) : w.grownBy («Sort».grow (w.drewN k) os) none :=
  ⟨rfl, rfl, rfl, by simp, fun i hi _ => «Sort».heap_grow_old (w.drewN k) os hi⟩
theorem stays_grown {B b : Nat} {w w' : World} (hB : B ≤ w.heap.size) (hg : w.grownBy w' none) : Stays B b w w' :=
  ⟨(Below.refl B w).grown hg hB (fun k h => by cases h), (Lib.OthersKept.refl _ _ w).grown hg (fun k h => by cases h)⟩
theorem stays_alloc {B b : Nat} {w : World} (hB : B ≤ w.heap.size) (o : Obj) : Stays B b w (w.alloc o) := stays_grown hB (World.grownBy_alloc w o none)
theorem bld_alloc {B b : Nat} {bs : List Value} {w : World} (h : Bld B b bs w) (o : Obj) : Bld B b bs (w.alloc o) := bld_grown h (World.grownBy_alloc w o none)

/-- The powers of ten that strconv reads. -/
abbrev PowTab (w : World) : Prop := Lib.TabIs Tryd.prog w "internal/strconv.uint64pow10" .u64 Lib.pow10Tab
set_option maxHeartbeats 8000000 in
set_option maxRecDepth 100000 in
theorem numsP_calls (B b : Nat) (bs : List Value) (A : Option Addr) (c : Nat) (l : List Int) (w : World) (h : Bld B b bs w) (hlen : bs.length + (numsS l).length ≤ 140737488355328) (hBw : B ≤ w.heap.size) (hw : ∀ v ∈ l, (Lit.int .i64 v).wf = true)
    (hr : ∀ W, Stays B b w W → Kd.C (Kd.int .i64) W A l.length l) (ht : ∀ W, Stays B b w W → PowTab W) :
    Calls Tryd.prog 45 #[.pointer (some ⟨b, 0, none⟩), .slice A l.length c] w fun e w' => e = .returned (.tuple #[]) ∧ Wrote B b (bs ++ c8 (numsS l)) w w' := by
  have HR := Aside0.mk hr
  have HT := Aside0.mk ht
  have HW := Aside0.mk hw
  have HLN := Aside0.mk hlen
  have HBW := Aside0.mk hBw
  have HL := (hr w (Stays.refl _ _ _)).2.1
  have hs : Aside0 (Bld B b (bs ++ c8 (numsS (l.take (0 : Int).toNat))) w ∧ Stays B b w w) := ⟨by simpa [numsS] using h, Stays.refl _ _ _⟩
  clear hr ht hw h hlen hBw
  go_enter Tryd.func45, Tryd.ntmps45
  go_wp2_with fail
  go_loopg [8] l.length (fun kq v8 wr => ∃ i : Int, v8 = .int .i64 i ∧ 0 ≤ i ∧ i ≤ l.length ∧ Aside0 (kq + i = l.length) ∧ Aside0 (Bld B b (bs ++ c8 (numsS (l.take i.toNat))) wr ∧ Stays B b w wr))
  case atStart => exact ⟨0, rfl, by decide, by omega, ⟨by omega⟩, hs⟩
  case round =>
    clear hs
    obtain ⟨i, rfl, h0, h1, hk, hst⟩ := hrel
    by_cases cc : i < l.length
    · obtain ⟨ad, e1, hx⟩ := Kd.at_int (HR.out wr hst.out.2) i h0 cc
      subst e1
      have hsn := numsS_snoc (l.take i.toNat) (rd l i)
      rw [← take_rdI l i h0 cc] at hsn
      have hle := nums_len_take l (i + 1).toNat
      obtain ⟨b0, b1⟩ := wf64 (HW.out _ (rd_memI h0 cc))
      have HSN := Aside0.mk hsn
      have HLE := Aside0.mk hle
      have HV := Aside0.mk (And.intro b0 b1)
      clear hsn hle b0 b1
      -- what is written ahead of the number's digits
      have hfin : ∀ (pre : List Int) (W : World), (numsS (l.take i.toNat) ++ pre ++ decS (rd l i) = numsS (l.take (i + 1).toNat)) → Bld B b (bs ++ c8 (numsS (l.take i.toNat) ++ pre)) W → Stays B b w W →
          Calls Tryd.prog 74 #[.int .i64 (rd l i), .int .i64 10] W fun e W1 => e = .returned (.string (mkS (Lib.itoa (rd l i)))) ∧ Bld B b (bs ++ c8 (numsS (l.take i.toNat) ++ pre)) W1 ∧ Stays B b w W1 := by
        intro pre W _ hb hs'
        refine (Tryd.strconv_FormatInt_10 (rd l i) HV.out.1 HV.out.2 W (HT.out W hs')).mono ?_
        rintro e W1 ⟨rfl, k, os, rfl⟩
        exact ⟨rfl, bld_grown hb (grow_grown W k os), hs'.trans (stays_grown (hs'.size HBW.out) (grow_grown W k os))⟩
      have HF := Aside0.mk hfin
      clear hfin
      have hsize : ∀ W, Stays B b w W → B ≤ W.heap.size := fun W hW => hW.size HBW.out
      have HZ := Aside0.mk hsize
      clear hsize
      have hdl : (mkS (Lib.itoa (rd l i))).size = (decS (rd l i)).length := by rw [mkS_size]; simp [decS]
      have HDL := Aside0.mk hdl
      have hdc : Lib.strCells (mkS (Lib.itoa (rd l i))) = c8 (decS (rd l i)) := by rw [c8_str, bytes_mkS]; rfl
      have HDC := Aside0.mk hdc
      clear hdl hdc
      by_cases ci : 0 < i
      · have hne : ¬ l.take i.toNat = [] := by
          intro e
          have := congrArg List.length e
          rw [List.length_take] at this
          simp only [List.length_nil] at this
          omega
        have hq := HSN.out
        rw [if_neg hne] at hq
        have HQ := Aside0.mk (show numsS (l.take i.toNat) ++ [32] ++ decS (rd l i) = numsS (l.take (i + 1).toNat) by rw [hq]; simp)
        have hll : (numsS (l.take i.toNat)).length + 1 + (decS (rd l i)).length ≤ (numsS l).length := by
          have := HLE.out
          rw [hq] at this
          simp only [List.length_append, List.length_cons] at this
          omega
        have HLL := Aside0.mk hll
        clear hq hll hne
        go_wp2_with fail
        refine (wbyte_calls B b (bs ++ c8 (numsS (l.take i.toNat))) 32 wr hst.out.1 (by have := HLL.out; have := HLN.out; simp; omega) (HZ.out wr hst.out.2)).mono ?_
        rintro e W1 ⟨rfl, hW1⟩
        have hb1 : Bld B b (bs ++ c8 (numsS (l.take i.toNat) ++ [32])) W1 := by
          have := hW1.1
          rw [List.append_assoc] at this
          rwa [c8_append]
        have HS1 := Aside0.mk (hst.out.2.trans hW1.stays)
        have HB1 := Aside0.mk hb1
        clear hW1 hb1
        go_wp2_with fail
        refine (HF.out [32] W1 HQ.out HB1.out HS1.out).mono ?_
        rintro e W2 ⟨rfl, hb2, hs2⟩
        have HS2 := Aside0.mk hs2
        have HB2 := Aside0.mk hb2
        clear hb2 hs2
        go_wp2_with fail
        refine (wstr_calls B b _ (mkS (Lib.itoa (rd l i))) W2 HB2.out (by rw [HDL.out]; have := HLL.out; have := HLN.out; simp; omega) (HZ.out W2 HS2.out)).mono ?_
        rintro e W3 ⟨rfl, hW3⟩
        have hb3 : Bld B b (bs ++ c8 (numsS (l.take (i + 1).toNat))) W3 := by
          have := hW3.1
          rw [HDC.out, List.append_assoc, ← c8_append, HQ.out] at this
          exact this
        have HNX := Aside0.mk (And.intro hb3 (HS2.out.trans hW3.stays))
        clear hb3 hW3
        go_wp2_with fail
        obtain ⟨k, rfl⟩ : ∃ m, gk = m + 1 := ⟨gk - 1, by have := hk.out; omega⟩
        go_roundg k
        case measure => omega
        case rel => exact ⟨i + 1, by first | rfl | go_num, by omega, by omega, ⟨by have := hk.out; omega⟩, HNX⟩
      · have e0 : l.take i.toNat = [] := by
          have : i.toNat = 0 := by omega
          rw [this]; rfl
        have hq := HSN.out
        rw [if_pos e0] at hq
        have HQ := Aside0.mk (show numsS (l.take i.toNat) ++ [] ++ decS (rd l i) = numsS (l.take (i + 1).toNat) by rw [hq]; simp)
        have hll : (numsS (l.take i.toNat)).length + (decS (rd l i)).length ≤ (numsS l).length := by
          have := HLE.out
          rw [hq] at this
          simp only [List.length_append] at this
          omega
        have HLL := Aside0.mk hll
        have HB1 := Aside0.mk (show Bld B b (bs ++ c8 (numsS (l.take i.toNat) ++ [])) wr by rw [List.append_nil]; exact hst.out.1)
        clear hq hll e0
        go_wp2_with fail
        refine (HF.out [] wr HQ.out HB1.out hst.out.2).mono ?_
        rintro e W2 ⟨rfl, hb2, hs2⟩
        have HS2 := Aside0.mk hs2
        have HB2 := Aside0.mk hb2
        clear hb2 hs2
        go_wp2_with fail
        refine (wstr_calls B b _ (mkS (Lib.itoa (rd l i))) W2 HB2.out (by rw [HDL.out]; have := HLL.out; have := HLN.out; simp; omega) (HZ.out W2 HS2.out)).mono ?_
        rintro e W3 ⟨rfl, hW3⟩
        have hb3 : Bld B b (bs ++ c8 (numsS (l.take (i + 1).toNat))) W3 := by
          have := hW3.1
          rw [HDC.out, List.append_assoc, ← c8_append, HQ.out] at this
          exact this
        have HNX := Aside0.mk (And.intro hb3 (HS2.out.trans hW3.stays))
        clear hb3 hW3
        go_wp2_with fail
        obtain ⟨k, rfl⟩ : ∃ m, gk = m + 1 := ⟨gk - 1, by have := hk.out; omega⟩
        go_roundg k
        case measure => omega
        case rel => exact ⟨i + 1, by first | rfl | go_num, by omega, by omega, ⟨by have := hk.out; omega⟩, HNX⟩
    · have e : l.take i.toNat = l := List.take_of_length_le (by omega)
      have hb := hst.out
      rw [e] at hb
      have HB := Aside0.mk hb
      clear hb hst
      go_wp2_with fail
      go_end0
      exact ⟨rfl, HB.out⟩
end Go.Proofs.YteppilognoigjaaDoor.LQ
namespace Go.Proofs.YteppilognoigjaaDoor.LQ
open Go.RowKit Go.Proofs.YteppilognoigjaaDoorW.PrintWords Go.Proofs.YteppilognoigjaaDoorW.PrintLast Go.Proofs.YteppilognoigjaaDoorW.PrintMore Go.Proofs.YteppilognoigjaaDoor.PQueryForms Go.Proofs.YteppilognoigjaaDoor.QK
set_option linter.unusedVariables false
set_option linter.unusedSimpArgs false

/-- The text of the first bytes, quoted, without the end. -/
def qPre (s : ByteArray) (i : Int) : List Int := [34] ++ ((bytesOf s).take i.toNat).flatMap qb
theorem qPre_next (s : ByteArray) (i : Int) (h0 : 0 ≤ i) (h : i < s.size) : qPre s (i + 1) = qPre s i ++ qb (bt s i) := by
  unfold qPre
  rw [take_rdI (bytesOf s) i h0 (by rw [bytesOf_length]; exact h), rd_bytesOf, List.flatMap_append]
  simp
theorem qPre_len (s : ByteArray) (i : Int) : (qPre s i).length + 1 ≤ (quotedS s).length := by
  have : ((bytesOf s).flatMap qb).length = (((bytesOf s).take i.toNat).flatMap qb).length + (((bytesOf s).drop i.toNat).flatMap qb).length := by
    rw [← List.length_append, ← List.flatMap_append, List.take_append_drop]
  unfold qPre quotedS
  simp only [List.length_append, List.length_singleton]
  omega
/-- One more byte. -/
theorem bld_more {B b : Nat} {bs : List Value} {w W W' : World} {acc : List Int} {c : Int} (h : Wrote B b ((bs ++ c8 acc) ++ [.int .u8 c]) W W') (hs : Stays B b w W) : Bld B b (bs ++ c8 (acc ++ [c])) W' ∧ Stays B b w W' := by
  refine ⟨?_, hs.trans h.stays⟩
  have := h.1
  rw [List.append_assoc] at this
  rwa [c8_append]
theorem bld_mores {B b : Nat} {bs : List Value} {w W W' : World} {acc : List Int} {s : ByteArray} (h : Wrote B b ((bs ++ c8 acc) ++ Lib.strCells s) W W') (hs : Stays B b w W) : Bld B b (bs ++ c8 (acc ++ bytesOf s)) W' ∧ Stays B b w W' := by
  refine ⟨?_, hs.trans h.stays⟩
  have := h.1
  rw [List.append_assoc, c8_str] at this
  rwa [c8_append]
set_option maxHeartbeats 8000000 in
set_option maxRecDepth 100000 in
theorem quote_calls (B b : Nat) (bs : List Value) (s : ByteArray) (w : World) (h : Bld B b bs w) (hlen : bs.length + (quotedS s).length ≤ 140737488355328) (hBw : B ≤ w.heap.size) (hs : s.size ≤ 9223372036854775806) :
    Calls Tryd.prog 50 #[.pointer (some ⟨b, 0, none⟩), .string s] w fun e w' => e = .returned (.tuple #[]) ∧ Wrote B b (bs ++ c8 (quotedS s)) w w' := by
  have HLN := Aside0.mk hlen
  have HBW := Aside0.mk hBw
  have HS := Aside0.mk hs
  have HB := Aside0.mk h
  have HQ := Aside0.mk (fun i => qPre_len s i)
  have hq0 : 2 ≤ (quotedS s).length := by have := qPre_len s 0; unfold qPre at this; simp only [List.length_append, List.length_singleton] at this; omega
  have HQ0 := Aside0.mk hq0
  clear h hlen hBw hs hq0
  go_enter Tryd.func50, Tryd.ntmps50
  go_wp2_with fail
  refine (wbyte_calls B b bs 34 w HB.out (by have := HLN.out; have := HQ0.out; omega) HBW.out).mono ?_
  rintro e W1 ⟨rfl, hW1⟩
  have hs : Aside0 (Bld B b (bs ++ c8 (qPre s 0)) W1 ∧ Stays B b w W1) := ⟨by have := hW1.1; simpa [qPre, c8] using this, hW1.stays⟩
  clear hW1 HB
  go_wp2_with fail
  go_loopg [10] s.size (fun kq v10 wr => ∃ i : Int, v10 = .int .i64 i ∧ 0 ≤ i ∧ i ≤ s.size ∧ Aside0 (kq + i = s.size) ∧ Aside0 (Bld B b (bs ++ c8 (qPre s i)) wr ∧ Stays B b w wr))
  case atStart => exact ⟨0, rfl, by decide, by omega, ⟨by omega⟩, hs⟩
  case round =>
    clear hs
    obtain ⟨i, rfl, h0, h1, hk, hst⟩ := hrel
    by_cases cc : i < s.size
    · have hx := bt_at s i
      have hbig := HS.out
      obtain ⟨r0, r1⟩ := bt_range s i
      have HNX := Aside0.mk (qPre_next s i h0 cc)
      have HLE := Aside0.mk (HQ.out (i + 1))
      have p0 := eq_true h0
      have q0 := eq_true cc
      obtain ⟨k, rfl⟩ : ∃ m, gk = m + 1 := ⟨gk - 1, by have := hk.out; omega⟩
      generalize hch : bt s i = ch at *
      by_cases c1 : ch = 34 ∨ ch = 92
      · rcases c1 with rfl | rfl
        · have HN2 := Aside0.mk (show qPre s (i + 1) = (qPre s i ++ [92]) ++ [34] by rw [HNX.out]; simp [qb])
          have hl : (qPre s i).length + 2 + 1 ≤ (quotedS s).length := by have := HLE.out; rw [HN2.out] at this; simp only [List.length_append, List.length_cons, List.length_nil] at this; omega
          have HL := Aside0.mk hl
          clear hl HNX HLE
          go_wp2_with fail
          refine (wbyte_calls B b _ 92 wr hst.out.1 (by have := HL.out; have := HLN.out; simp; omega) (hst.out.2.size HBW.out)).mono ?_
          rintro e W2 ⟨rfl, hW2⟩
          have HB2 := Aside0.mk (bld_more hW2 hst.out.2)
          clear hW2 hst
          go_wp2_with fail
          refine (wbyte_calls B b _ 34 W2 HB2.out.1 (by have := HL.out; have := HLN.out; simp; omega) (HB2.out.2.size HBW.out)).mono ?_
          rintro e W3 ⟨rfl, hW3⟩
          have hb3 := bld_more hW3 HB2.out.2
          rw [← HN2.out] at hb3
          have HB3 := Aside0.mk hb3
          clear hW3 HB2 hb3
          go_wp2_with fail
          go_roundg k
          case measure => omega
          case rel => exact ⟨i + 1, by first | rfl | go_num, by omega, by omega, ⟨by have := hk.out; omega⟩, HB3⟩
        · have HN2 := Aside0.mk (show qPre s (i + 1) = (qPre s i ++ [92]) ++ [92] by rw [HNX.out]; simp [qb])
          have hl : (qPre s i).length + 2 + 1 ≤ (quotedS s).length := by have := HLE.out; rw [HN2.out] at this; simp only [List.length_append, List.length_cons, List.length_nil] at this; omega
          have HL := Aside0.mk hl
          clear hl HNX HLE
          go_wp2_with fail
          refine (wbyte_calls B b _ 92 wr hst.out.1 (by have := HL.out; have := HLN.out; simp; omega) (hst.out.2.size HBW.out)).mono ?_
          rintro e W2 ⟨rfl, hW2⟩
          have HB2 := Aside0.mk (bld_more hW2 hst.out.2)
          clear hW2 hst
          go_wp2_with fail
          refine (wbyte_calls B b _ 92 W2 HB2.out.1 (by have := HL.out; have := HLN.out; simp; omega) (HB2.out.2.size HBW.out)).mono ?_
          rintro e W3 ⟨rfl, hW3⟩
          have hb3 := bld_more hW3 HB2.out.2
          rw [← HN2.out] at hb3
          have HB3 := Aside0.mk hb3
          clear hW3 HB2 hb3
          go_wp2_with fail
          go_roundg k
          case measure => omega
          case rel => exact ⟨i + 1, by first | rfl | go_num, by omega, by omega, ⟨by have := hk.out; omega⟩, HB3⟩
      · have e1 : (ch == 34) = false := by rw [beq_eq_false_iff_ne]; omega
        have e2 : (ch == 92) = false := by rw [beq_eq_false_iff_ne]; omega
        by_cases c2 : 32 ≤ ch ∧ ch < 127
        · obtain ⟨c3, c4⟩ := c2
          have HN2 := Aside0.mk (show qPre s (i + 1) = qPre s i ++ [ch] by rw [HNX.out]; unfold qb; rw [if_neg c1, if_pos ⟨c3, c4⟩])
          have hl : (qPre s i).length + 1 + 1 ≤ (quotedS s).length := by have := HLE.out; rw [HN2.out] at this; simp only [List.length_append, List.length_cons, List.length_nil] at this; omega
          have HL := Aside0.mk hl
          clear hl HNX HLE c1
          go_wp2_with fail
          refine (wbyte_calls B b _ ch wr hst.out.1 (by have := HL.out; have := HLN.out; simp; omega) (hst.out.2.size HBW.out)).mono ?_
          rintro e W3 ⟨rfl, hW3⟩
          have hb3 := bld_more hW3 hst.out.2
          rw [← HN2.out] at hb3
          have HB3 := Aside0.mk hb3
          clear hW3 hst hb3
          go_wp2_with fail
          go_roundg k
          case measure => omega
          case rel => exact ⟨i + 1, by first | rfl | go_num, by omega, by omega, ⟨by have := hk.out; omega⟩, HB3⟩
        · have HN2 := Aside0.mk (show qPre s (i + 1) = ((qPre s i ++ [92, 120]) ++ [bt hexS (ch / 16)]) ++ [bt hexS (ch % 16)] by rw [HNX.out]; unfold qb; rw [if_neg c1, if_neg (by omega)]; simp)
          have hl : (qPre s i).length + 4 + 1 ≤ (quotedS s).length := by have := HLE.out; rw [HN2.out] at this; simp only [List.length_append, List.length_cons, List.length_nil] at this; omega
          have HL := Aside0.mk hl
          clear hl HNX HLE
          have hcl : ch < 32 ∨ (32 ≤ ch ∧ 127 ≤ ch) := by omega
          clear c1 c2
          rcases hcl with c3 | ⟨c3, c4⟩
          all_goals go_wp2_with fail
          all_goals refine (wstr_calls B b _ ⟨#[92, 120]⟩ wr hst.out.1 (by have := HL.out; have := HLN.out; show _ + 2 ≤ _; simp; omega) (hst.out.2.size HBW.out)).mono ?_
          all_goals rintro e W2 ⟨rfl, hW2⟩
          all_goals have HB2 := Aside0.mk (bld_mores hW2 hst.out.2)
          all_goals clear hW2 hst
          all_goals have hx2 := bt_at (⟨#[48, 49, 50, 51, 52, 53, 54, 55, 56, 57, 65, 66, 67, 68, 69, 70]⟩ : ByteArray) (ch / 16)
          all_goals have p2 : (0 ≤ ch / 16) = True := eq_true (by omega)
          all_goals have q2 : (ch / 16 < 16) = True := eq_true (by omega)
          all_goals have hx3 := bt_at (⟨#[48, 49, 50, 51, 52, 53, 54, 55, 56, 57, 65, 66, 67, 68, 69, 70]⟩ : ByteArray) (ch % 16)
          all_goals have p3 : (0 ≤ ch % 16) = True := eq_true (by omega)
          all_goals have q3 : (ch % 16 < 16) = True := eq_true (by omega)
          all_goals go_wp2_with fail
          all_goals refine (wbyte_calls B b _ (bt hexS (ch / 16)) W2 HB2.out.1 (by have := HL.out; have := HLN.out; have e : (bytesOf (⟨#[92, 120]⟩ : ByteArray)).length = 2 := rfl; simp [e]; omega) (HB2.out.2.size HBW.out)).mono ?_
          all_goals rintro e W3 ⟨rfl, hW3⟩
          all_goals have HB3 := Aside0.mk (bld_more hW3 HB2.out.2)
          all_goals clear hW3 HB2
          all_goals go_wp2_with fail
          all_goals refine (wbyte_calls B b _ (bt hexS (ch % 16)) W3 HB3.out.1 (by have := HL.out; have := HLN.out; have e : (bytesOf (⟨#[92, 120]⟩ : ByteArray)).length = 2 := rfl; simp [e]; omega) (HB3.out.2.size HBW.out)).mono ?_
          all_goals rintro e W4 ⟨rfl, hW4⟩
          all_goals have hb4 := bld_more hW4 HB3.out.2
          all_goals have hb5 : Bld B b (bs ++ c8 (qPre s (i + 1))) W4 ∧ Stays B b w W4 := (by rw [HN2.out]; exact hb4)
          all_goals have HB4 := Aside0.mk hb5
          all_goals clear hW4 HB3 hb4 hb5
          all_goals go_wp2_with fail
          all_goals go_roundg k
          all_goals first | omega | exact ⟨i + 1, by first | rfl | go_num, by omega, by omega, ⟨by have := hk.out; omega⟩, HB4⟩
    · have : i = s.size := by omega
      have he : qPre s i ++ [34] = quotedS s := by
        unfold qPre quotedS
        rw [List.take_of_length_le (by rw [bytesOf_length]; omega)]
      have HE := Aside0.mk he
      have HL := Aside0.mk (HQ.out i)
      clear he
      go_wp2_with fail
      refine (wbyte_calls B b _ 34 wr hst.out.1 (by have := HL.out; have := HLN.out; simp; omega) (hst.out.2.size HBW.out)).mono ?_
      rintro e W2 ⟨rfl, hW2⟩
      have hb := bld_more hW2 hst.out.2
      rw [HE.out] at hb
      have HB := Aside0.mk hb
      clear hb hW2
      go_wp2_with fail
      go_end0
      exact ⟨rfl, HB.out⟩

/-! ### the words -/
def wordT : List ByteArray := [⟨#[]⟩, ⟨#[97, 108, 108]⟩, ⟨#[110, 111, 110, 101]⟩, ⟨#[116, 101, 114, 109]⟩, ⟨#[112, 104, 114, 97, 115, 101]⟩, ⟨#[112, 114, 101, 102, 105, 120]⟩, ⟨#[116, 101, 114, 109, 115]⟩, ⟨#[114, 97, 110, 103, 101]⟩, ⟨#[98, 111, 111, 108]⟩, ⟨#[98, 111, 111, 115, 116]⟩, ⟨#[119, 101, 105, 103, 104]⟩]
def opT : List ByteArray := [⟨#[]⟩, ⟨#[97, 100, 100]⟩, ⟨#[109, 117, 108]⟩, ⟨#[109, 97, 120]⟩]
def wordS (k : Int) : ByteArray := wordT.getD k.toNat ⟨#[]⟩
def opW (k : Int) : ByteArray := opT.getD k.toNat ⟨#[]⟩
set_option maxRecDepth 100000 in
theorem idx_word (W : World) : (Instr.index 86 (.agg #[.string ⟨#[]⟩, .string ⟨#[97, 108, 108]⟩, .string ⟨#[110, 111, 110, 101]⟩, .string ⟨#[116, 101, 114, 109]⟩, .string ⟨#[112, 104, 114, 97, 115, 101]⟩, .string ⟨#[112, 114, 101, 102, 105, 120]⟩, .string ⟨#[116, 101, 114, 109, 115]⟩, .string ⟨#[114, 97, 110, 103, 101]⟩, .string ⟨#[98, 111, 111, 108]⟩, .string ⟨#[98, 111, 111, 115, 116]⟩, .string ⟨#[119, 101, 105, 103, 104]⟩]) (.int .i64 0)).run Tryd.prog W = .ok (.string ⟨#[]⟩) W ∧ (Instr.index 86 (.agg #[.string ⟨#[]⟩, .string ⟨#[97, 108, 108]⟩, .string ⟨#[110, 111, 110, 101]⟩, .string ⟨#[116, 101, 114, 109]⟩, .string ⟨#[112, 104, 114, 97, 115, 101]⟩, .string ⟨#[112, 114, 101, 102, 105, 120]⟩, .string ⟨#[116, 101, 114, 109, 115]⟩, .string ⟨#[114, 97, 110, 103, 101]⟩, .string ⟨#[98, 111, 111, 108]⟩, .string ⟨#[98, 111, 111, 115, 116]⟩, .string ⟨#[119, 101, 105, 103, 104]⟩]) (.int .i64 1)).run Tryd.prog W = .ok (.string ⟨#[97, 108, 108]⟩) W ∧ (Instr.index 86 (.agg #[.string ⟨#[]⟩, .string ⟨#[97, 108, 108]⟩, .string ⟨#[110, 111, 110, 101]⟩, .string ⟨#[116, 101, 114, 109]⟩, .string ⟨#[112, 104, 114, 97, 115, 101]⟩, .string ⟨#[112, 114, 101, 102, 105, 120]⟩, .string ⟨#[116, 101, 114, 109, 115]⟩, .string ⟨#[114, 97, 110, 103, 101]⟩, .string ⟨#[98, 111, 111, 108]⟩, .string ⟨#[98, 111, 111, 115, 116]⟩, .string ⟨#[119, 101, 105, 103, 104]⟩]) (.int .i64 2)).run Tryd.prog W = .ok (.string ⟨#[110, 111, 110, 101]⟩) W ∧ (Instr.index 86 (.agg #[.string ⟨#[]⟩, .string ⟨#[97, 108, 108]⟩, .string ⟨#[110, 111, 110, 101]⟩, .string ⟨#[116, 101, 114, 109]⟩, .string ⟨#[112, 104, 114, 97, 115, 101]⟩, .string ⟨#[112, 114, 101, 102, 105, 120]⟩, .string ⟨#[116, 101, 114, 109, 115]⟩, .string ⟨#[114, 97, 110, 103, 101]⟩, .string ⟨#[98, 111, 111, 108]⟩, .string ⟨#[98, 111, 111, 115, 116]⟩, .string ⟨#[119, 101, 105, 103, 104]⟩]) (.int .i64 3)).run Tryd.prog W = .ok (.string ⟨#[116, 101, 114, 109]⟩) W ∧ (Instr.index 86 (.agg #[.string ⟨#[]⟩, .string ⟨#[97, 108, 108]⟩, .string ⟨#[110, 111, 110, 101]⟩, .string ⟨#[116, 101, 114, 109]⟩, .string ⟨#[112, 104, 114, 97, 115, 101]⟩, .string ⟨#[112, 114, 101, 102, 105, 120]⟩, .string ⟨#[116, 101, 114, 109, 115]⟩, .string ⟨#[114, 97, 110, 103, 101]⟩, .string ⟨#[98, 111, 111, 108]⟩, .string ⟨#[98, 111, 111, 115, 116]⟩, .string ⟨#[119, 101, 105, 103, 104]⟩]) (.int .i64 4)).run Tryd.prog W = .ok (.string ⟨#[112, 104, 114, 97, 115, 101]⟩) W ∧ (Instr.index 86 (.agg #[.string ⟨#[]⟩, .string ⟨#[97, 108, 108]⟩, .string ⟨#[110, 111, 110, 101]⟩, .string ⟨#[116, 101, 114, 109]⟩, .string ⟨#[112, 104, 114, 97, 115, 101]⟩, .string ⟨#[112, 114, 101, 102, 105, 120]⟩, .string ⟨#[116, 101, 114, 109, 115]⟩, .string ⟨#[114, 97, 110, 103, 101]⟩, .string ⟨#[98, 111, 111, 108]⟩, .string ⟨#[98, 111, 111, 115, 116]⟩, .string ⟨#[119, 101, 105, 103, 104]⟩]) (.int .i64 5)).run Tryd.prog W = .ok (.string ⟨#[112, 114, 101, 102, 105, 120]⟩) W ∧ (Instr.index 86 (.agg #[.string ⟨#[]⟩, .string ⟨#[97, 108, 108]⟩, .string ⟨#[110, 111, 110, 101]⟩, .string ⟨#[116, 101, 114, 109]⟩, .string ⟨#[112, 104, 114, 97, 115, 101]⟩, .string ⟨#[112, 114, 101, 102, 105, 120]⟩, .string ⟨#[116, 101, 114, 109, 115]⟩, .string ⟨#[114, 97, 110, 103, 101]⟩, .string ⟨#[98, 111, 111, 108]⟩, .string ⟨#[98, 111, 111, 115, 116]⟩, .string ⟨#[119, 101, 105, 103, 104]⟩]) (.int .i64 6)).run Tryd.prog W = .ok (.string ⟨#[116, 101, 114, 109, 115]⟩) W ∧ (Instr.index 86 (.agg #[.string ⟨#[]⟩, .string ⟨#[97, 108, 108]⟩, .string ⟨#[110, 111, 110, 101]⟩, .string ⟨#[116, 101, 114, 109]⟩, .string ⟨#[112, 104, 114, 97, 115, 101]⟩, .string ⟨#[112, 114, 101, 102, 105, 120]⟩, .string ⟨#[116, 101, 114, 109, 115]⟩, .string ⟨#[114, 97, 110, 103, 101]⟩, .string ⟨#[98, 111, 111, 108]⟩, .string ⟨#[98, 111, 111, 115, 116]⟩, .string ⟨#[119, 101, 105, 103, 104]⟩]) (.int .i64 7)).run Tryd.prog W = .ok (.string ⟨#[114, 97, 110, 103, 101]⟩) W ∧ (Instr.index 86 (.agg #[.string ⟨#[]⟩, .string ⟨#[97, 108, 108]⟩, .string ⟨#[110, 111, 110, 101]⟩, .string ⟨#[116, 101, 114, 109]⟩, .string ⟨#[112, 104, 114, 97, 115, 101]⟩, .string ⟨#[112, 114, 101, 102, 105, 120]⟩, .string ⟨#[116, 101, 114, 109, 115]⟩, .string ⟨#[114, 97, 110, 103, 101]⟩, .string ⟨#[98, 111, 111, 108]⟩, .string ⟨#[98, 111, 111, 115, 116]⟩, .string ⟨#[119, 101, 105, 103, 104]⟩]) (.int .i64 8)).run Tryd.prog W = .ok (.string ⟨#[98, 111, 111, 108]⟩) W ∧ (Instr.index 86 (.agg #[.string ⟨#[]⟩, .string ⟨#[97, 108, 108]⟩, .string ⟨#[110, 111, 110, 101]⟩, .string ⟨#[116, 101, 114, 109]⟩, .string ⟨#[112, 104, 114, 97, 115, 101]⟩, .string ⟨#[112, 114, 101, 102, 105, 120]⟩, .string ⟨#[116, 101, 114, 109, 115]⟩, .string ⟨#[114, 97, 110, 103, 101]⟩, .string ⟨#[98, 111, 111, 108]⟩, .string ⟨#[98, 111, 111, 115, 116]⟩, .string ⟨#[119, 101, 105, 103, 104]⟩]) (.int .i64 9)).run Tryd.prog W = .ok (.string ⟨#[98, 111, 111, 115, 116]⟩) W ∧ (Instr.index 86 (.agg #[.string ⟨#[]⟩, .string ⟨#[97, 108, 108]⟩, .string ⟨#[110, 111, 110, 101]⟩, .string ⟨#[116, 101, 114, 109]⟩, .string ⟨#[112, 104, 114, 97, 115, 101]⟩, .string ⟨#[112, 114, 101, 102, 105, 120]⟩, .string ⟨#[116, 101, 114, 109, 115]⟩, .string ⟨#[114, 97, 110, 103, 101]⟩, .string ⟨#[98, 111, 111, 108]⟩, .string ⟨#[98, 111, 111, 115, 116]⟩, .string ⟨#[119, 101, 105, 103, 104]⟩]) (.int .i64 10)).run Tryd.prog W = .ok (.string ⟨#[119, 101, 105, 103, 104]⟩) W := by
  refine ⟨?_, ?_, ?_, ?_, ?_, ?_, ?_, ?_, ?_, ?_, ?_⟩ <;> kernel_rfl
set_option maxRecDepth 100000 in
theorem idx_op (W : World) : (Instr.index 88 (.agg #[.string ⟨#[]⟩, .string ⟨#[97, 100, 100]⟩, .string ⟨#[109, 117, 108]⟩, .string ⟨#[109, 97, 120]⟩]) (.int .i64 0)).run Tryd.prog W = .ok (.string ⟨#[]⟩) W ∧ (Instr.index 88 (.agg #[.string ⟨#[]⟩, .string ⟨#[97, 100, 100]⟩, .string ⟨#[109, 117, 108]⟩, .string ⟨#[109, 97, 120]⟩]) (.int .i64 1)).run Tryd.prog W = .ok (.string ⟨#[97, 100, 100]⟩) W ∧ (Instr.index 88 (.agg #[.string ⟨#[]⟩, .string ⟨#[97, 100, 100]⟩, .string ⟨#[109, 117, 108]⟩, .string ⟨#[109, 97, 120]⟩]) (.int .i64 2)).run Tryd.prog W = .ok (.string ⟨#[109, 117, 108]⟩) W ∧ (Instr.index 88 (.agg #[.string ⟨#[]⟩, .string ⟨#[97, 100, 100]⟩, .string ⟨#[109, 117, 108]⟩, .string ⟨#[109, 97, 120]⟩]) (.int .i64 3)).run Tryd.prog W = .ok (.string ⟨#[109, 97, 120]⟩) W := by
  refine ⟨?_, ?_, ?_, ?_⟩ <;> kernel_rfl
set_option maxHeartbeats 8000000 in
set_option maxRecDepth 100000 in
theorem word_calls (k : Int) (h0 : 0 ≤ k) (h1 : k ≤ 10) (w : World) : Calls Tryd.prog 41 #[.int .i64 k] w fun e w' => e = .returned (.string (wordS k)) ∧ w' = w := by
  obtain ⟨i0, i1, i2, i3, i4, i5, i6, i7, i8, i9, i10⟩ := idx_word w
  have hk : k = 0 ∨ k = 1 ∨ k = 2 ∨ k = 3 ∨ k = 4 ∨ k = 5 ∨ k = 6 ∨ k = 7 ∨ k = 8 ∨ k = 9 ∨ k = 10 := by omega
  rcases hk with rfl | rfl | rfl | rfl | rfl | rfl | rfl | rfl | rfl | rfl | rfl
  all_goals
    go_enter Tryd.func41, Tryd.ntmps41
    go_wp2_with fail
    go_ret
    exact ⟨rfl, rfl⟩
set_option maxHeartbeats 8000000 in
set_option maxRecDepth 100000 in
theorem op_calls (k : Int) (h0 : 0 ≤ k) (h1 : k ≤ 3) (w : World) : Calls Tryd.prog 47 #[.int .i64 k] w fun e w' => e = .returned (.string (opW k)) ∧ w' = w := by
  obtain ⟨i0, i1, i2, i3⟩ := idx_op w
  have hk : k = 0 ∨ k = 1 ∨ k = 2 ∨ k = 3 := by omega
  rcases hk with rfl | rfl | rfl | rfl
  all_goals
    go_enter Tryd.func47, Tryd.ntmps47
    go_wp2_with fail
    go_ret
    exact ⟨rfl, rfl⟩
end Go.Proofs.YteppilognoigjaaDoor.LQ
namespace Go.Proofs.YteppilognoigjaaDoor.LQ
open Go.RowKit Go.Proofs.YteppilognoigjaaDoorW.PrintWords Go.Proofs.YteppilognoigjaaDoorW.PrintLast Go.Proofs.YteppilognoigjaaDoorW.PrintMore Go.Proofs.YteppilognoigjaaDoor.PQueryForms Go.Proofs.YteppilognoigjaaDoor.QK
set_option linter.unusedVariables false
set_option linter.unusedSimpArgs false

/-- Parts, with ", " between. -/
def sepS : List (List Int) → List Int
  | [] => []
  | p :: r => p ++ r.flatMap fun q => [44, 32] ++ q
theorem sepS_snoc (l : List (List Int)) (p : List Int) : sepS (l ++ [p]) = sepS l ++ (if l = [] then p else [44, 32] ++ p) := by
  cases l with
  | nil => simp [sepS]
  | cons a r => simp [sepS]
/-- The parts of a query but for its kids. -/
def partsS (x : S25) : List (List Int) :=
  if x.f0 = 3 ∨ x.f0 = 4 ∨ x.f0 = 5 then [bytesOf x.f2, quotedS x.f3]
  else if x.f0 = 6 then [bytesOf x.f2, quotedS x.f3, quotedS x.f4]
  else if x.f0 = 7 then [bytesOf x.f2, numsS x.f5, numsS x.f6]
  else if x.f0 = 9 then [numsS [x.f7]]
  else if x.f0 = 10 then [bytesOf (opW x.f8), bytesOf x.f2, numsS x.f5]
  else []
/-- The byte that tells how a kid occurs. -/
def markB (o : Int) : Int := bt ⟨#[32, 43, 63, 45, 61]⟩ o
def markS (o : Int) : List Int := if 0 < o then [markB o] else []
def textN : Nat → S25 → List Int
  | 0, _ => []
  | n + 1, x => bytesOf (wordS x.f0) ++ (if x.f0 = 1 ∨ x.f0 = 2 then [] else [40] ++ sepS (partsS x ++ x.f9.map fun k => markS k.f1 ++ textN n k) ++ [41])
end Go.Proofs.YteppilognoigjaaDoor.LQ
