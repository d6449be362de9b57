/- The walk of the program's Text. -/
import Derived.Test.YteppilognoigjaaDoorQD
import Derived.Test.YteppilognoigjaaDoorFF
namespace Go.Proofs.YteppilognoigjaaDoor.LQ
open Go.RowKit Go.Proofs.YteppilognoigjaaDoorW.PrintWords Go.Proofs.YteppilognoigjaaDoorW.PrintLast Go.Proofs.YteppilognoigjaaDoorW.PrintMore Go.Proofs.YteppilognoigjaaDoor.PQueryForms Go.Proofs.YteppilognoigjaaDoor.QK
set_option linter.unusedVariables false
set_option linter.unusedSimpArgs false

/-! ### a text's numbers are bytes -/
def isB (v : Int) : Prop := 0 ≤ v ∧ v < 256
theorem isB_bytesOf (s : ByteArray) : ∀ v ∈ bytesOf s, isB v := by
  intro v hv
  unfold bytesOf at hv
  obtain ⟨b, _, rfl⟩ := List.mem_map.1 hv
  have := b.toNat_lt
  exact ⟨by omega, by omega⟩
theorem isB_dec (v : Int) : ∀ u ∈ decS v, isB u := by
  intro u hu
  unfold decS at hu
  obtain ⟨b, _, rfl⟩ := List.mem_map.1 hu
  have := b.toNat_lt
  exact ⟨by omega, by omega⟩
theorem isB_nums (l : List Int) : ∀ u ∈ numsS l, isB u := by
  intro u hu
  cases l with
  | nil => cases hu
  | cons a r =>
    rcases List.mem_append.1 hu with h | h
    · exact isB_dec a u h
    · obtain ⟨x, _, hx⟩ := List.mem_flatMap.1 h
      rcases List.mem_cons.1 hx with rfl | h2
      · exact ⟨by decide, by decide⟩
      · exact isB_dec x u h2
theorem isB_quoted (s : ByteArray) : ∀ u ∈ quotedS s, isB u := by
  intro u hu
  unfold quotedS at hu
  rcases List.mem_append.1 hu with h | h
  · rcases List.mem_append.1 h with h | h
    · rw [List.mem_singleton.1 h]; exact ⟨by decide, by decide⟩
    · obtain ⟨x, hx, hq⟩ := List.mem_flatMap.1 h
      have hxB := isB_bytesOf s x hx
      unfold qb at hq
      split at hq
      · simp only [List.mem_cons, List.not_mem_nil, or_false] at hq
        rcases hq with rfl | rfl
        · exact ⟨by decide, by decide⟩
        · exact hxB
      · split at hq
        · rw [List.mem_singleton.1 hq]; exact hxB
        · simp only [List.mem_cons, List.not_mem_nil, or_false] at hq
          rcases hq with rfl | rfl | rfl | rfl
          · exact ⟨by decide, by decide⟩
          · exact ⟨by decide, by decide⟩
          · obtain ⟨a, b⟩ := bt_range hexS (x / 16); exact ⟨a, by omega⟩
          · obtain ⟨a, b⟩ := bt_range hexS (x % 16); exact ⟨a, by omega⟩
  · rw [List.mem_singleton.1 h]; exact ⟨by decide, by decide⟩
theorem isB_sep : ∀ (l : List (List Int)), (∀ p ∈ l, ∀ u ∈ p, isB u) → ∀ u ∈ sepS l, isB u
  | [], _, u, hu => by cases hu
  | p :: r, h, u, hu => by
    rcases List.mem_append.1 hu with h1 | h1
    · exact h p List.mem_cons_self u h1
    · obtain ⟨q, hq, hu2⟩ := List.mem_flatMap.1 h1
      simp only [List.mem_append, List.mem_cons, List.not_mem_nil, or_false] at hu2
      rcases hu2 with (rfl | rfl) | h2
      · exact ⟨by decide, by decide⟩
      · exact ⟨by decide, by decide⟩
      · exact h q (List.mem_cons_of_mem _ hq) u h2
theorem isB_parts (x : S25) : ∀ p ∈ partsS x, ∀ u ∈ p, isB u := by
  intro p hp u hu
  unfold partsS at hp
  (repeat' split at hp) <;> simp only [List.mem_cons, List.not_mem_nil, or_false] at hp
  · rcases hp with rfl | rfl
    · exact isB_bytesOf _ _ hu
    · exact isB_quoted _ _ hu
  · rcases hp with rfl | rfl | rfl
    · exact isB_bytesOf _ _ hu
    · exact isB_quoted _ _ hu
    · exact isB_quoted _ _ hu
  · rcases hp with rfl | rfl | rfl
    · exact isB_bytesOf _ _ hu
    · exact isB_nums _ _ hu
    · exact isB_nums _ _ hu
  · rcases hp with rfl
    exact isB_nums _ _ hu
  · rcases hp with rfl | rfl | rfl
    · exact isB_bytesOf _ _ hu
    · exact isB_bytesOf _ _ hu
    · exact isB_nums _ _ hu
theorem isB_text : ∀ (n : Nat) (x : S25), ∀ u ∈ textN n x, isB u
  | 0, _, u, hu => by cases hu
  | n + 1, x, u, hu => by
    unfold textN at hu
    rcases List.mem_append.1 hu with h | h
    · exact isB_bytesOf _ _ h
    · split at h
      · cases h
      · rcases List.mem_append.1 h with h | h
        · rcases List.mem_append.1 h with h | h
          · rw [List.mem_singleton.1 h]; exact ⟨by decide, by decide⟩
          · refine isB_sep _ (fun p hp v hv => ?_) u h
            rcases List.mem_append.1 hp with hp | hp
            · exact isB_parts x p hp v hv
            · obtain ⟨k, _, rfl⟩ := List.mem_map.1 hp
              rcases List.mem_append.1 hv with hv | hv
              · unfold markS at hv
                split at hv
                · rw [List.mem_singleton.1 hv]
                  obtain ⟨a, b⟩ := bt_range ⟨#[32, 43, 63, 45, 61]⟩ k.f1
                  exact ⟨a, by unfold markB; omega⟩
                · cases hv
              · exact isB_text n k v hv
        · rw [List.mem_singleton.1 h]; exact ⟨by decide, by decide⟩
/-- Numbers as bytes. -/
def toB (l : List Int) : List UInt8 := l.map fun v => UInt8.ofNat v.toNat
theorem toB_cells {l : List Int} (h : ∀ v ∈ l, isB v) : Lib.byteCells (toB l) = c8 l := by
  unfold Lib.byteCells toB c8
  rw [List.map_map]
  refine List.map_congr_left fun v hv => ?_
  obtain ⟨h0, h1⟩ := h v hv
  show Value.int .u8 _ = _
  congr 1
  rw [UInt8.toNat_ofNat']
  omega
/-- What a query's text is. -/
def textS (n : Nat) (x : S25) : ByteArray := if formedN n x 0 = true then mkS (toB (textN n x)) else ⟨#[]⟩
theorem bld_new (w : World) : Bld w.heap.size w.heap.size [] (w.alloc (.cells #[.pointer none, .slice none 0 0] 45)) :=
  .inl ⟨Nat.le_refl _, _, blk_new w _, World.ownsRowF_nil _ _ _ _, by simp [Value.ownBlock]⟩
set_option maxHeartbeats 8000000 in
set_option maxRecDepth 100000 in
theorem TextP_calls (n : Nat) (x : S25) (hg : Good n x) (A5 : Option Addr) (c5 : Nat) (A6 : Option Addr) (c6 : Nat) (A9 : Option Addr) (c9 : Nat) (w : World)
    (h5 : Kd.C (Kd.int .i64) w A5 x.f5.length x.f5) (h6 : Kd.C (Kd.int .i64) w A6 x.f6.length x.f6) (h9 : Kd.C k25 w A9 x.f9.length x.f9) (ht : PowTab w) (hlen : formedN n x 0 = true → (textN n x).length ≤ 140737488355328) :
    Calls Tryd.prog 13 #[.agg #[.int .i64 x.f0, .int .i64 x.f1, .string x.f2, .string x.f3, .string x.f4, .slice A5 x.f5.length c5, .slice A6 x.f6.length c6, .int .i64 x.f7, .int .i64 x.f8, .slice A9 x.f9.length c9]] w fun e w' => e = .returned (.string (textS n x)) ∧ Below w.heap.size w w' := by
  have hu25 := Tryd.underlying25
  have HF := Aside0.mk (fun W (hW : Below w.heap.size w W) => FormedP_calls n x hg A5 c5 A6 c6 A9 c9 W (Kd.C_below h9 hW))
  have HW := Aside0.mk (fun (hf : formedN n x 0 = true) (W : World) (hW : Below w.heap.size w W) (B b : Nat) (h1 : w.heap.size ≤ B) (h2 : b < W.heap.size) (h3 : B ≤ W.heap.size) (hb : Bld B b [] W) => write_calls n x hg 0 hf A5 c5 A6 c6 A9 c9 B b [] w W h1 hW h5 h6 h9 ht h2 h3 hb (by simpa using hlen hf))
  have hb0 : Below w.heap.size w (w.alloc (boxQ x A5 c5 A6 c6 A9 c9)) := below_alloc (Below.refl _ _) _
  have hk0 : (w.alloc (boxQ x A5 c5 A6 c6 A9 c9)).heap[w.heap.size]? = some (boxQ x A5 c5 A6 c6 A9 c9) := blk_new _ _
  clear hg h5 h6 h9 ht hlen
  go_enter Tryd.func13, Tryd.ntmps13
  go_wp2_with fail
  generalize w.alloc (boxQ x A5 c5 A6 c6 A9 c9) = W0 at *
  have HB := Aside0.mk hb0
  have BK := Aside0.mk hk0
  clear hb0 hk0
  refine (HF.out W0 HB.out).mono ?_
  rintro e W1 ⟨rfl, hB1⟩
  have bk1 := blk_below BK.out hB1
  have HB1 := Aside0.mk (below_then HB.out HB.out.size hB1)
  have HZ1 := Aside0.mk (show w.heap.size < W1.heap.size from by have := blk_lt bk1; exact this)
  clear hB1 HF
  cases hf : formedN n x 0
  · clear bk1
    have HT := Aside0.mk (show textS n x = ⟨#[]⟩ by unfold textS; rw [hf]; rfl)
    clear hf HW
    go_wp2_with fail
    go_ret
    exact ⟨by rw [HT.out]; rfl, HB1.out⟩
  · have bka : (W1.alloc (.cells #[.pointer none, .slice none 0 0] 45)).heap[w.heap.size]? = some (boxQ x A5 c5 A6 c6 A9 c9) := blk_alloc bk1 _
    have f0 := (blk_cell bka 0).trans rfl
    have f1 := (blk_cell bka 1).trans rfl
    have f2 := (blk_cell bka 2).trans rfl
    have f3 := (blk_cell bka 3).trans rfl
    have f4 := (blk_cell bka 4).trans rfl
    have f5 := (blk_cell bka 5).trans rfl
    have f6 := (blk_cell bka 6).trans rfl
    have f7 := (blk_cell bka 7).trans rfl
    have f8 := (blk_cell bka 8).trans rfl
    have f9 := (blk_cell bka 9).trans rfl
    have HT := Aside0.mk (show textS n x = mkS (toB (textN n x)) by unfold textS; rw [if_pos hf])
    have HWW := Aside0.mk (HW.out hf _ (below_alloc HB1.out (.cells #[.pointer none, .slice none 0 0] 45)) W1.heap.size W1.heap.size (by have := HZ1.out; omega) (by rw [World.size_alloc]; omega) (by rw [World.size_alloc]; omega) (bld_new W1))
    have HBA := Aside0.mk (below_alloc HB1.out (.cells #[.pointer none, .slice none 0 0] 45))
    clear hf HW bk1 bka
    go_wp2_with fail
    refine HWW.out.mono ?_
    rintro e W2 ⟨rfl, hw2⟩
    have hst := hw2.1
    rw [List.nil_append, ← toB_cells (isB_text n x)] at hst
    have HS := Aside0.mk (Tryd.Builder_String_any_f W1.heap.size W1.heap.size (toB (textN n x)) W2 hst (by have := hw2.2.1.size; rw [World.size_alloc] at this; omega))
    have HB2 := Aside0.mk (show Below w.heap.size w W2 from HBA.out.trans (below_low hw2.2.1 (by have := HZ1.out; omega)))
    clear hw2 hst HWW
    go_wp2_with fail
    refine HS.out.mono ?_
    rintro e W3 ⟨rfl, -, hB3⟩
    have HB3 := Aside0.mk (show Below w.heap.size w W3 from HB2.out.trans (below_low hB3 (by have := HZ1.out; omega)))
    clear hB3 HS
    go_wp2_with fail
    go_ret
    exact ⟨by rw [HT.out]; rfl, HB3.out⟩
end Go.Proofs.YteppilognoigjaaDoor.LQ
