import Derived.Test.YtpddchnapcmmkaaA13
import Derived.Test.YtpddchnapcmmkaaSy15
namespace Go.Proofs.Ytpddchnapcmmkaa
open Go Go.Sy
set_option linter.unusedSimpArgs false
set_option linter.unusedVariables false
theorem cl3 : Try.prog.cellsOf 3 = 1 := by kernel_rfl
theorem cl4 : Try.prog.cellsOf 4 = 1 := by kernel_rfl
theorem cl5 : Try.prog.cellsOf 5 = 1 := by kernel_rfl
theorem cl9 : Try.prog.cellsOf 9 = 1 := by kernel_rfl
theorem cl22 : Try.prog.cellsOf 22 = 1 := by kernel_rfl
theorem cl24 : Try.prog.cellsOf 24 = 2 := by kernel_rfl
theorem cl25 : Try.prog.cellsOf 25 = 1 := by kernel_rfl
theorem cl27 : Try.prog.cellsOf 27 = 5 := by kernel_rfl
theorem cl29 : Try.prog.cellsOf 29 = 10 := by kernel_rfl
theorem cl30 : Try.prog.cellsOf 30 = 1 := by kernel_rfl
theorem cl31 : Try.prog.cellsOf 31 = 1 := by kernel_rfl
theorem cl32 : Try.prog.cellsOf 32 = 1 := by kernel_rfl
theorem cl34 : Try.prog.cellsOf 34 = 6 := by kernel_rfl
theorem cl37 : Try.prog.cellsOf 37 = 1 := by kernel_rfl
theorem cl42 : Try.prog.cellsOf 42 = 1 := by kernel_rfl
theorem cl54 : Try.prog.cellsOf 54 = 1 := by kernel_rfl
theorem cl56 : Try.prog.cellsOf 56 = 5 := by kernel_rfl
theorem cl58 : Try.prog.cellsOf 58 = 3 := by kernel_rfl
theorem cl130 : Try.prog.cellsOf 130 = 3 := by kernel_rfl
theorem len2 {cs : List Value} (h : cs.length = 2) : ∃ v0 v1, cs = [v0, v1] := by
  match cs, h with
  | [v0, v1], _ => exact ⟨_, _, rfl⟩
theorem len3 {cs : List Value} (h : cs.length = 3) : ∃ v0 v1 v2, cs = [v0, v1, v2] := by
  match cs, h with
  | [v0, v1, v2], _ => exact ⟨_, _, _, rfl⟩
theorem len5 {cs : List Value} (h : cs.length = 5) : ∃ v0 v1 v2 v3 v4, cs = [v0, v1, v2, v3, v4] := by
  match cs, h with
  | [v0, v1, v2, v3, v4], _ => exact ⟨_, _, _, _, _, rfl⟩
theorem len6 {cs : List Value} (h : cs.length = 6) : ∃ v0 v1 v2 v3 v4 v5, cs = [v0, v1, v2, v3, v4, v5] := by
  match cs, h with
  | [v0, v1, v2, v3, v4, v5], _ => exact ⟨_, _, _, _, _, _, rfl⟩
theorem len10 {cs : List Value} (h : cs.length = 10) : ∃ v0 v1 v2 v3 v4 v5 v6 v7 v8 v9, cs = [v0, v1, v2, v3, v4, v5, v6, v7, v8, v9] := by
  match cs, h with
  | [v0, v1, v2, v3, v4, v5, v6, v7, v8, v9], _ => exact ⟨_, _, _, _, _, _, _, _, _, _, rfl⟩
section
variable {G : Stab} {n : Nat} {cs : List Value}
theorem rd24 (h : Rd Try.prog G n 24 cs) : ∃ m v0 v1, cs = [v0, v1] ∧ Rd Try.prog G m 22 [v0] ∧ Rd Try.prog G m 22 [v1] := by
  obtain ⟨m, hl, hf⟩ := rd_struct Try.underlying24 h
  replace hl := hl.trans cl24
  obtain ⟨v0, v1, rfl⟩ := len2 hl
  simp [cl22] at hf
  exact ⟨m, v0, v1, rfl, hf.1, hf.2⟩
theorem rd130 (h : Rd Try.prog G n 130 cs) : ∃ m v0 v1 v2, cs = [v0, v1, v2] ∧ Rd Try.prog G m 3 [v0] ∧ Rd Try.prog G m 3 [v1] ∧ Rd Try.prog G m 3 [v2] := by
  obtain ⟨m, hl, hf⟩ := rd_struct Try.underlying130 h
  replace hl := hl.trans cl130
  obtain ⟨v0, v1, v2, rfl⟩ := len3 hl
  simp [cl3, cl37] at hf
  exact ⟨m, v0, v1, v2, rfl, hf⟩
theorem rd56 (h : Rd Try.prog G n 56 cs) : ∃ m v0 v1 v2 v3 v4, cs = [v0, v1, v2, v3, v4] ∧ Rd Try.prog G m 3 [v0] ∧ Rd Try.prog G m 37 [v1] ∧ Rd Try.prog G m 37 [v2] ∧ Rd Try.prog G m 42 [v3] ∧ Rd Try.prog G m 54 [v4] := by
  obtain ⟨m, hl, hf⟩ := rd_struct Try.underlying56 h
  replace hl := hl.trans cl56
  obtain ⟨v0, v1, v2, v3, v4, rfl⟩ := len5 hl
  simp [cl3, cl37, cl42, cl54] at hf
  exact ⟨m, v0, v1, v2, v3, v4, rfl, hf⟩
theorem rd58 (h : Rd Try.prog G n 58 cs) : ∃ m v0 v1 v2, cs = [v0, v1, v2] ∧ Rd Try.prog G m 9 [v0] ∧ Rd Try.prog G m 3 [v1] ∧ Rd Try.prog G m 37 [v2] := by
  obtain ⟨m, hl, hf⟩ := rd_struct Try.underlying58 h
  replace hl := hl.trans cl58
  obtain ⟨v0, v1, v2, rfl⟩ := len3 hl
  simp [cl3, cl37, cl9] at hf
  exact ⟨m, v0, v1, v2, rfl, hf⟩
theorem rd27 (h : Rd Try.prog G n 27 cs) : ∃ m v0 v1 v2 v3 v4, cs = [v0, v1, v2, v3, v4] ∧ Rd Try.prog G m 3 [v0] ∧ Rd Try.prog G m 3 [v1] ∧ Rd Try.prog G m 22 [v2] ∧ Rd Try.prog G m 25 [v3] ∧ Rd Try.prog G m 3 [v4] := by
  obtain ⟨m, hl, hf⟩ := rd_struct Try.underlying27 h
  replace hl := hl.trans cl27
  obtain ⟨v0, v1, v2, v3, v4, rfl⟩ := len5 hl
  simp [cl3, cl22, cl25] at hf
  exact ⟨m, v0, v1, v2, v3, v4, rfl, hf⟩
theorem rd29 (h : Rd Try.prog G n 29 cs) : ∃ m v0 v1 v2 v3 v4 v5 v6 v7 v8 v9, cs = [v0, v1, v2, v3, v4, v5, v6, v7, v8, v9] ∧ Rd Try.prog G m 24 [v0, v1] ∧ Rd Try.prog G m 4 [v2] ∧ Rd Try.prog G m 9 [v3] ∧ Rd Try.prog G m 3 [v4] ∧ Rd Try.prog G m 27 [v5, v6, v7, v8, v9] := by
  obtain ⟨m, hl, hf⟩ := rd_struct Try.underlying29 h
  replace hl := hl.trans cl29
  obtain ⟨v0, v1, v2, v3, v4, v5, v6, v7, v8, v9, rfl⟩ := len10 hl
  simp [cl3, cl24, cl4, cl9, cl27] at hf
  exact ⟨m, v0, v1, v2, v3, v4, v5, v6, v7, v8, v9, rfl, hf⟩
theorem rd34 (h : Rd Try.prog G n 34 cs) : ∃ m v0 v1 v2 v3 v4 v5, cs = [v0, v1, v2, v3, v4, v5] ∧ Rd Try.prog G m 30 [v0] ∧ Rd Try.prog G m 31 [v1] ∧ Rd Try.prog G m 31 [v2] ∧ Rd Try.prog G m 31 [v3] ∧ Rd Try.prog G m 31 [v4] ∧ Rd Try.prog G m 32 [v5] := by
  obtain ⟨m, hl, hf⟩ := rd_struct Try.underlying34 h
  replace hl := hl.trans cl34
  obtain ⟨v0, v1, v2, v3, v4, v5, rfl⟩ := len6 hl
  simp [cl30, cl31, cl32] at hf
  exact ⟨m, v0, v1, v2, v3, v4, v5, rfl, hf⟩
theorem by5 : Try.prog.bytesOf 5 = 1 := by kernel_rfl
theorem by3 : Try.prog.bytesOf 3 = 8 := by kernel_rfl
theorem by24 : Try.prog.bytesOf 24 = 48 := by kernel_rfl
theorem by56 : Try.prog.bytesOf 56 = 48 := by kernel_rfl
theorem by58 : Try.prog.bytesOf 58 = 32 := by kernel_rfl
theorem by130 : Try.prog.bytesOf 130 = 24 := by kernel_rfl
theorem rdB (h : Rd Try.prog G n 22 cs) : ∃ A len cap, ∃ bs : List Int, cs = [.slice A len cap] ∧ Row G 1 1 A len (bs.map (Value.int .u8)) := by
  obtain ⟨A, len, cap, m, rows, rfl, hr, hl, hrows⟩ := rd_slice 1 1 Try.underlying22 cl5 by5 h (rd_one_int Try.underlying5)
  obtain ⟨bs, hb⟩ := rows_map rows fun r hr => by obtain ⟨i, h, _⟩ := rd_int Try.underlying5 (hrows r hr).2; exact ⟨i, h⟩
  exact ⟨A, len, cap, bs, rfl, hb ▸ hr⟩
theorem rdI (h : Rd Try.prog G n 31 cs) : ∃ A len cap, ∃ bs : List Int, cs = [.slice A len cap] ∧ Row G 1 8 A len (bs.map (Value.int .i64)) := by
  obtain ⟨A, len, cap, m, rows, rfl, hr, hl, hrows⟩ := rd_slice 1 8 Try.underlying31 cl3 by3 h (rd_one_int Try.underlying3)
  obtain ⟨bs, hb⟩ := rows_map rows fun r hr => by obtain ⟨i, h, _⟩ := rd_int Try.underlying3 (hrows r hr).2; exact ⟨i, h⟩
  exact ⟨A, len, cap, bs, rfl, hb ▸ hr⟩
theorem one24 : ∀ (m : Nat) r, Rd Try.prog G m 24 r → ∀ u ∈ r, u.oneCell' = true := fun m r h u hu => by
  obtain ⟨m', v0, v1, rfl, h0, h1⟩ := rd24 h
  obtain ⟨A, l, c, _, e0, _⟩ := rdB h0
  obtain ⟨A', l', c', _, e1, _⟩ := rdB h1
  simp at e0 e1; subst e0; subst e1
  simp at hu; rcases hu with rfl | rfl <;> rfl
theorem one130 : ∀ (m : Nat) r, Rd Try.prog G m 130 r → ∀ u ∈ r, u.oneCell' = true := fun m r h u hu => by
  obtain ⟨m', v0, v1, v2, rfl, h0, h1, h2⟩ := rd130 h
  obtain ⟨_, e0, _⟩ := rd_int Try.underlying3 h0
  obtain ⟨_, e1, _⟩ := rd_int Try.underlying3 h1
  obtain ⟨_, e2, _⟩ := rd_int Try.underlying3 h2
  simp at e0 e1 e2; subst e0; subst e1; subst e2
  simp at hu; rcases hu with rfl | rfl | rfl <;> rfl
theorem rdJ (h : Rd Try.prog G n 54 cs) : ∃ A len cap js, cs = [.slice A len cap] ∧ Row G 3 24 A len js := by
  obtain ⟨A, len, cap, m, rows, rfl, hr, _⟩ := rd_slice 3 24 Try.underlying54 cl130 by130 h one130
  exact ⟨A, len, cap, _, rfl, hr⟩
theorem one56 : ∀ (m : Nat) r, Rd Try.prog G m 56 r → ∀ u ∈ r, u.oneCell' = true := fun m r h u hu => by
  obtain ⟨m', v0, v1, v2, v3, v4, rfl, h0, h1, h2, h3, h4⟩ := rd56 h
  obtain ⟨_, e0, _⟩ := rd_int Try.underlying3 h0
  obtain ⟨_, e1, _⟩ := rd_int Try.underlying37 h1
  obtain ⟨_, e2, _⟩ := rd_int Try.underlying37 h2
  obtain ⟨_, e3, _⟩ := rd_int Try.underlying42 h3
  obtain ⟨A, l, c, _, e4, _⟩ := rdJ h4
  simp at e0 e1 e2 e3 e4; subst e0; subst e1; subst e2; subst e3; subst e4
  simp at hu; rcases hu with rfl | rfl | rfl | rfl | rfl <;> rfl
theorem one58 : ∀ (m : Nat) r, Rd Try.prog G m 58 r → ∀ u ∈ r, u.oneCell' = true := fun m r h u hu => by
  obtain ⟨m', v0, v1, v2, rfl, h0, h1, h2⟩ := rd58 h
  obtain ⟨_, e0, _⟩ := rd_str Try.underlying9 h0
  obtain ⟨_, e1, _⟩ := rd_int Try.underlying3 h1
  obtain ⟨_, e2, _⟩ := rd_int Try.underlying37 h2
  simp at e0 e1 e2; subst e0; subst e1; subst e2
  simp at hu; rcases hu with rfl | rfl | rfl <;> rfl
theorem rdSt (h : Rd Try.prog G n 25 cs) : ∃ A len cap st, cs = [.slice A len cap] ∧ Row G 5 48 A len st ∧ Steps G len st := by
  obtain ⟨A, len, cap, m, rows, rfl, hr, hl, hrows⟩ := rd_slice 5 48 Try.underlying25 cl56 by56 h one56
  refine ⟨A, len, cap, _, rfl, hr, hr.len, fun j hj => ?_, fun j hj => ?_, hr.one⟩
  · obtain ⟨r, hm, he⟩ := flatten_row rows j (fun r h => (hrows r h).1) (by omega)
    obtain ⟨m', v0, v1, v2, v3, v4, rfl, h0, _⟩ := rd56 (hrows r hm).2
    obtain ⟨i, e0, _⟩ := rd_int Try.underlying3 h0
    simp at e0; subst e0
    have := he 0 (by omega)
    exact ⟨i, by simpa using this⟩
  · obtain ⟨r, hm, he⟩ := flatten_row rows j (fun r h => (hrows r h).1) (by omega)
    obtain ⟨m', v0, v1, v2, v3, v4, rfl, h0, h1, h2, h3, h4⟩ := rd56 (hrows r hm).2
    obtain ⟨A', l, c, js, e4, hj⟩ := rdJ h4
    simp at e4; subst e4
    have := he 4 (by omega)
    exact ⟨A', l, c, js, by simpa using this, hj⟩
theorem rdTy (h : Rd Try.prog G n 30 cs) : ∃ A len cap ts, cs = [.slice A len cap] ∧ Row G 2 48 A len ts ∧ Types G len ts := by
  obtain ⟨A, len, cap, m, rows, rfl, hr, hl, hrows⟩ := rd_slice 2 48 Try.underlying30 cl24 by24 h one24
  refine ⟨A, len, cap, _, rfl, hr, hr.len, fun j hj => ?_, hr.one⟩
  obtain ⟨r, hm, he⟩ := flatten_row rows j (fun r h => (hrows r h).1) (by omega)
  obtain ⟨m', v0, v1, rfl, h0, h1⟩ := rd24 (hrows r hm).2
  obtain ⟨A', l, c, bs, e0, r0⟩ := rdB h0
  obtain ⟨A'', l', c', bs', e1, r1⟩ := rdB h1
  simp at e0 e1; subst e0; subst e1
  have x0 := he 0 (by omega)
  have x1 := he 1 (by omega)
  exact ⟨A', l, c, _, A'', l', c', _, by simpa using x0, r0, by simpa using x1, r1⟩
theorem fnOk (h : Rd Try.prog G n 29 cs) : ∃ f : FnD, cs = f.cells ∧ f.Ok G ∧ ∃ bs : List Int, f.p0 = bs.map (Value.int .u8) := by
  obtain ⟨m, v0, v1, v2, v3, v4, v5, v6, v7, v8, v9, rfl, h0, h2, h3, h4, h5⟩ := rd29 h
  obtain ⟨_, w0, w1, e, k0, k1⟩ := rd24 h0
  simp at e; obtain ⟨rfl, rfl⟩ := e
  obtain ⟨A0, n0, c0, b0, e0, r0⟩ := rdB k0
  obtain ⟨A1, n1, c1, b1, e1, r1⟩ := rdB k1
  obtain ⟨hs, e2⟩ := rd_bool Try.underlying4 h2
  obtain ⟨nm, e3, _⟩ := rd_str Try.underlying9 h3
  obtain ⟨i4, e4, _⟩ := rd_int Try.underlying3 h4
  obtain ⟨_, w5, w6, w7, w8, w9, e, k5, k6, k7, k8, k9⟩ := rd27 h5
  simp at e; obtain ⟨rfl, rfl, rfl, rfl, rfl⟩ := e
  obtain ⟨i5, e5, _⟩ := rd_int Try.underlying3 k5
  obtain ⟨i6, e6, _⟩ := rd_int Try.underlying3 k6
  obtain ⟨A7, n7, c7, b7, e7, r7⟩ := rdB k7
  obtain ⟨A8, n8, c8, st, e8, r8, rs⟩ := rdSt k8
  obtain ⟨i9, e9, _⟩ := rd_int Try.underlying3 k9
  simp at e0 e1 e2 e3 e4 e5 e6 e7 e8 e9
  subst e0; subst e1; subst e2; subst e3; subst e4; subst e5; subst e6; subst e7; subst e8; subst e9
  exact ⟨⟨A0, A1, A7, A8, n0, n1, n7, n8, c0, c1, c7, c8, _, _, _, st, hs, nm, i4, i5, i6, i9⟩, rfl, ⟨r0, r1, r7, r8, rs⟩, b0, rfl⟩
theorem inOk (h : Rd Try.prog G n 34 cs) : ∃ x : InD, cs = x.cells ∧ x.Ok G ∧ (∀ j, j < x.n1 → ∃ i, x.fs[j]? = some (.int .i64 i)) ∧
    (∀ j, j < x.n5 → ∃ s a b, x.es[j * 3]? = some (.string s) ∧ x.es[j * 3 + 1]? = some a ∧ x.es[j * 3 + 2]? = some b ∧ s.size ≤ 140737488351232) := by
  obtain ⟨m, v0, v1, v2, v3, v4, v5, rfl, h0, h1, h2, h3, h4, h5⟩ := rd34 h
  obtain ⟨A0, n0, c0, ts, e0, r0, rt⟩ := rdTy h0
  obtain ⟨A1, n1, c1, b1, e1, r1⟩ := rdI h1
  obtain ⟨A2, n2, c2, b2, e2, r2⟩ := rdI h2
  obtain ⟨A3, n3, c3, b3, e3, r3⟩ := rdI h3
  obtain ⟨A4, n4, c4, b4, e4, r4⟩ := rdI h4
  obtain ⟨A5, n5, c5, m', rows, e5, r5, hl, hrows⟩ := rd_slice 3 32 Try.underlying32 cl58 by58 h5 one58
  simp at e0 e1 e2 e3 e4 e5
  subst e0; subst e1; subst e2; subst e3; subst e4; subst e5
  refine ⟨⟨A0, A1, A2, A3, A4, A5, n0, n1, n2, n3, n4, n5, c0, c1, c2, c3, c4, c5, ts, _, _, _, _, _⟩, rfl, ⟨r0, rt, r1, r2, r3, r4, r5⟩, fun j hj => ?_, fun j hj => ?_⟩
  · have hl1 := r1.len
    rw [List.length_map] at hl1
    have hj' : j < n1 := hj
    exact ⟨b1[j]'(by omega), by show (b1.map _)[j]? = _; rw [List.getElem?_map, List.getElem?_eq_getElem (by omega)]; rfl⟩
  · obtain ⟨r, hm, he⟩ := flatten_row rows j (fun r h => (hrows r h).1) (by have hj' : j < n5 := hj; omega)
    obtain ⟨m', w0, w1, w2, rfl, k0, k1, k2⟩ := rd58 (hrows r hm).2
    obtain ⟨s, e, hz⟩ := rd_str Try.underlying9 k0
    simp at e; subst e
    have x0 := he 0 (by omega)
    have x1 := he 1 (by omega)
    have x2 := he 2 (by omega)
    exact ⟨s, w1, w2, by simpa using x0, by simpa using x1, by simpa using x2, hz⟩
end
end Go.Proofs.Ytpddchnapcmmkaa
