/- What a query's datum holds is at least what the query holds. -/
import Derived.Test.YteppilognoigjaaDoorRows
import Derived.Test.YteppilognoigjaaDoorQL
namespace Go.Proofs.YteppilognoigjaaDoor.LQ
open Go.RowKit Go.Proofs.YteppilognoigjaaDoorW.PrintWords Go.Proofs.YteppilognoigjaaDoorW.PrintLast Go.Proofs.YteppilognoigjaaDoorW.PrintMore Go.Proofs.YteppilognoigjaaDoor.PQueryForms Go.Proofs.YteppilognoigjaaDoor.QK
set_option linter.unusedVariables false
set_option linter.unusedSimpArgs false

theorem bulk_one {H : Type} (d : DataW H) : 1 ≤ Rows.uptoBulk d := by
  cases d with
  | lit l => cases l <;> simp [Rows.uptoBulk]
  | _ => simp [Rows.uptoBulk]
theorem bulk_len {H : Type} (l : List (DataW H)) : l.length ≤ Rows.uptoBulkAll l := by
  induction l with
  | nil => simp [Rows.uptoBulkAll]
  | cons x r ih => have := bulk_one x; simp only [Rows.uptoBulkAll, List.length_cons]; omega
theorem bulk_sum {H : Type} {α : Type} (f : α → Nat) : ∀ (xs : List α) (l : List (DataW H)), l.length = xs.length → (∀ (j : Nat) x d, xs[j]? = some x → l[j]? = some d → f x + 1 ≤ Rows.uptoBulk d) → xs.length + (xs.map f).sum ≤ Rows.uptoBulkAll l
  | [], _, _, _ => by simp
  | x :: xs, [], h, _ => by simp at h
  | x :: xs, d :: l, h, hk => by
    have h1 := hk 0 x d rfl rfl
    have h2 := bulk_sum f xs l (by simpa using h) (fun j y e hy he => hk (j + 1) y e (by simpa using hy) (by simpa using he))
    simp only [Rows.uptoBulkAll, List.map_cons, List.sum_cons, List.length_cons]
    omega
theorem tenA {α : Type} {cs : List α} (h : cs.length = 10) : ∃ a b c d e f g i j k, cs = [a, b, c, d, e, f, g, i, j, k] := by
  match cs, h with
  | [a, b, c, d, e, f, g, i, j, k], _ => exact ⟨a, b, c, d, e, f, g, i, j, k, rfl⟩
section
variable {H : Type} (enc : TypeId × Value → H)
set_option maxRecDepth 100000 in
theorem bulk_Q (w : World) : ∀ fuel cs d ps x, DataW.trod enc Tryd.prog w 0 (fun _ => true) true fuel 25 cs = some (d, ps) → k25.K w x cs → ∀ N, bkN N x + 1 ≤ Rows.uptoBulk d := by
  intro fuel
  induction fuel using Nat.strongRecOn with
  | _ fuel ih =>
  intro cs d ps x h hK N
  cases N with
  | zero => exact bulk_one d
  | succ N =>
  obtain ⟨xs, n, rfl, hx, hcl, hxl, hf⟩ := DataW.trod_struct Tryd.underlying25 h
  simp only [Prod.mk.injEq] at hx
  obtain ⟨rfl, _⟩ := hx
  have hxl' : xs.length = 10 := hxl
  obtain ⟨A5, c5, A6, c6, A9, c9, rfl, l5, r5, l6, r6, l9, r9⟩ := k25_open hK
  obtain ⟨y0, y1, y2, y3, y4, y5, y6, y7, y8, y9, rfl⟩ := tenA hxl'
  have t2 : DataW.trod enc Tryd.prog w 0 (fun _ => true) true n 9 [.string x.f2] = some y2 := hf 2 _ rfl
  have t3 : DataW.trod enc Tryd.prog w 0 (fun _ => true) true n 9 [.string x.f3] = some y3 := hf 3 _ rfl
  have t4 : DataW.trod enc Tryd.prog w 0 (fun _ => true) true n 9 [.string x.f4] = some y4 := hf 4 _ rfl
  have t5 : DataW.trod enc Tryd.prog w 0 (fun _ => true) true n 22 [.slice A5 x.f5.length c5] = some y5 := hf 5 _ rfl
  have t6 : DataW.trod enc Tryd.prog w 0 (fun _ => true) true n 22 [.slice A6 x.f6.length c6] = some y6 := hf 6 _ rfl
  have t9 : DataW.trod enc Tryd.prog w 0 (fun _ => true) true n 23 [.slice A9 x.f9.length c9] = some y9 := hf 9 _ rfl
  have str : ∀ (s : ByteArray) y, DataW.trod enc Tryd.prog w 0 (fun _ => true) true n 9 [.string s] = some y → Rows.uptoBulk y.1 = s.size + 1 := by
    intro s y hy
    obtain ⟨s', he, hx, _⟩ := DataW.trod_string Tryd.underlying9 hy
    simp only [List.cons.injEq, Value.string.injEq, and_true] at he
    subst he; subst hx
    simp only [Rows.uptoBulk, Array.length_toList]
    rfl
  have b2 := str _ _ t2
  have b3 := str _ _ t3
  have b4 := str _ _ t4
  have ints : ∀ (A : Option Addr) (c : Nat) (l : List Int) y, DataW.trod enc Tryd.prog w 0 (fun _ => true) true n 22 [.slice A l.length c] = some y → l.length + 1 ≤ Rows.uptoBulk y.1 := by
    intro A c l y hy
    rcases DataW.trod_slice Tryd.underlying22 hy with ⟨he, hx⟩ | ⟨a, len, cap, elems, rest, m, rfl, he, hx, _, hlc, hm, hlen, hel, _, _⟩
    · simp only [List.cons.injEq, Value.slice.injEq, and_true] at he
      subst hx
      rw [he.2.1]
      exact bulk_one _
    · simp only [List.cons.injEq, Value.slice.injEq, and_true] at he
      subst hx
      have h1 := bulk_len (elems.map fun p => p.1)
      rw [List.length_map] at h1
      simp only [Rows.uptoBulk]
      omega
  have b5 := ints _ _ _ _ t5
  have b6 := ints _ _ _ _ t6
  have b9 : x.f9.length + (x.f9.map (bkN N)).sum + 1 ≤ Rows.uptoBulk y9.1 := by
    rcases DataW.trod_slice Tryd.underlying23 t9 with ⟨he, hx⟩ | ⟨a, len, cap, elems, rest, m, rfl, he, hx, _, hlc, hm, hlen, hel, _, _⟩
    · simp only [List.cons.injEq, Value.slice.injEq, and_true] at he
      subst hx
      have : x.f9 = [] := List.eq_nil_of_length_eq_zero he.2.1
      rw [this]
      exact bulk_one _
    · simp only [List.cons.injEq, Value.slice.injEq, and_true] at he
      subst hx
      obtain ⟨rfl, e2, e3⟩ := he
      have h1 := bulk_sum (bkN N) x.f9 (elems.map fun p => p.1) (by rw [List.length_map]; omega) (fun j y e hy hd => by
        have hjl := (List.getElem?_eq_some_iff.1 hy).1
        rw [List.getElem?_map] at hd
        obtain ⟨q, hq, rfl⟩ := Option.map_eq_some_iff.1 hd
        obtain ⟨ad, ea, hcell⟩ := r9.2.2 (by omega)
        simp only [Option.some.injEq] at ea
        subst ea
        obtain ⟨c, hcl, hk, hcc⟩ := hcell j y hy
        have h3 := hel j (by omega)
        rw [hq] at h3
        obtain ⟨c', hc', hr⟩ := Option.bind_eq_some_iff.1 h3
        obtain ⟨_, hcl', hat⟩ := World.cells?_some hc'
        have hs : k25.sz = 10 := rfl
        have hso : Tryd.prog.cellsOf 25 = 10 := by kernel_rfl
        have hce : c' = c := by
          apply List.ext_getElem?
          intro i
          rcases Nat.lt_or_ge i 10 with hi | hi
          · have e1 := hat i (by omega)
            have hcl2 : c.length = 10 := by rw [hcl, hs]
            have e2 := hcc i _ (List.getElem?_eq_getElem (by omega))
            rw [hs] at e2
            rw [hso, Deep.add_add] at e1
            rw [List.getElem?_eq_getElem (by omega : i < c.length), ← e2, ← e1]
          · rw [List.getElem?_eq_none (by omega), List.getElem?_eq_none (by omega)]
        subst hce
        exact ih m (by omega) c' q.1 q.2 y hr hk N)
      simp only [Rows.uptoBulk]
      omega
  have h0 := bulk_one y0.1
  have h1 := bulk_one y1.1
  have h7 := bulk_one y7.1
  have h8 := bulk_one y8.1
  simp only [Rows.uptoBulk, Rows.uptoBulkAll, List.map_cons, List.map_nil, bkN]
  omega
end
end Go.Proofs.YteppilognoigjaaDoor.LQ
