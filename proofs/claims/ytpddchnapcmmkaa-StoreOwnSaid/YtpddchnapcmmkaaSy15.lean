import Derived.Test.YtpddchnapcmmkaaSy14
import Derived.Carry
import Derived.SizedLaws
import Derived.DataReads
import Derived.DataElems
namespace Go.Sy
open Go Go.RowKit

/-! ### The call, from its arguments' readings -/
/-- All cells that there are. -/
def heapStab (w : World) : Stab := fun b => match w.heap[b]? with | some (.cells cs _ _) => cs.toList | _ => []
theorem heapStab_inst (w : World) : Inst (heapStab w) [] w :=
  ⟨fun b hb => by
    unfold heapStab at hb ⊢
    split at hb
    · rename_i cs e fz h; rw [h]; exact ⟨cs, e, fz, rfl, List.prefix_refl _⟩
    · exact absurd rfl hb, fun _ h => (by cases h), List.Pairwise.nil, fun _ h => (by cases h)⟩
theorem heapStab_cell {w : World} {a : Addr} {u : Value} (h : w.cell? a = some u) : a.spot = none ∧ (heapStab w a.block)[a.off]? = some u := by
  unfold World.cell? at h
  unfold heapStab
  split at h
  · rename_i c e fz hc
    rw [hc]
    split at h
    · cases h
    · rename_i hs
      exact ⟨by simpa using hs, by simpa using h⟩
  · cases h
theorem heapStab_has {w : World} {a : Addr} {us : List Value} (h : ∀ i u, us[i]? = some u → w.cell? (a.add i) = some u) : (heapStab w).has a us := by
  intro i u hu
  have hl : i < us.length := (List.getElem?_eq_some_iff.1 hu).1
  have h0 := h 0 _ (List.getElem?_eq_getElem (by omega))
  rw [add_zero_of] at h0
  have hs := (heapStab_cell h0).1
  have h1 := heapStab_cell (h i u hu)
  rw [add_norm hs] at h1
  exact ⟨hs, h1.2⟩
theorem cells?_get {w : World} {base n : Nat} {a : Addr} {us : List Value} (h : w.cells? base a n = some us) : us.length = n ∧ ∀ i u, us[i]? = some u → w.cell? (a.add i) = some u := by
  unfold World.cells? at h
  split at h
  · have hl := mapM_some_length h
    rw [List.length_range] at hl
    refine ⟨hl, fun i u hu => ?_⟩
    have hi : i < n := by rw [← hl]; exact (List.getElem?_eq_some_iff.1 hu).1
    rw [mapM_some_get h i i (by simp [hi]), hu]
  · cases h
/-- What a value holds, at its type: as far as this kit reads it. -/
def Rd (P : Program) (G : Stab) : Nat → TypeId → List Value → Prop
  | 0, _, _ => False
  | n + 1, t, cs => match P.underlying t with
    | some .bool => ∃ b, cs = [.bool b]
    | some (.int k) => ∃ i, cs = [.int k i] ∧ (Lit.int k i).wf = true
    | some .string => ∃ s, cs = [.string s] ∧ s.size ≤ 140737488351232
    | some (.pointer e) => cs = [.pointer none] ∨ ∃ a us, cs = [.pointer (some a)] ∧ us.length = P.cellsOf e ∧ G.has a us ∧ Rd P G n e us
    | some (.slice e) => cs = [.slice none 0 0] ∨ ∃ a len cap, ∃ rows : List (List Value), cs = [.slice (some a) len cap] ∧ len ≤ cap ∧ cap ≤ maxLen ∧ rows.length = len ∧ (∀ r ∈ rows, r.length = P.cellsOf e ∧ Rd P G n e r) ∧ G.has a rows.flatten ∧ len * P.bytesOf e ≤ 140737488351232
    | some (.struct fs) => cs.length = P.cellsOf t ∧ ∀ f ∈ fs.toList, Rd P G n f.type ((cs.drop f.offset).take (P.cellsOf f.type))
    | some (.array m e) => cs.length = P.cellsOf t ∧ ∀ i, i < m → Rd P G n e ((cs.drop (i * P.cellsOf e)).take (P.cellsOf e))
    | _ => True
theorem weightsAll_mem {H : Type} {P : Program} {e : TypeId} : ∀ {l : List (DataW H)} {d : DataW H}, d ∈ l → ∀ n ∈ d.weights P e, n ∈ DataW.weightsAll P e l
  | x :: l, d, hd, n, hn => by
    simp only [DataW.weightsAll, List.mem_append]
    rcases List.mem_cons.1 hd with rfl | hd
    · exact .inl hn
    · exact .inr (weightsAll_mem hd n hn)
theorem flatten_cell {w : World} {a : Addr} {sz : Nat} : ∀ (rows : List (List Value)) (o : Nat), (∀ i r, rows[i]? = some r → r.length = sz ∧ ∀ j u, r[j]? = some u → w.cell? (a.add (o + i * sz + j)) = some u) → ∀ k u, rows.flatten[k]? = some u → w.cell? (a.add (o + k)) = some u
  | [], o, _, k, u, hu => by simp at hu
  | r :: rows, o, h, k, u, hu => by
    obtain ⟨hl, hc⟩ := h 0 r rfl
    rw [List.flatten_cons] at hu
    rcases Nat.lt_or_ge k r.length with hk | hk
    · rw [List.getElem?_append_left hk] at hu
      have := hc k u hu
      simpa using this
    · rw [List.getElem?_append_right hk] at hu
      have := flatten_cell rows (o + sz) (fun i r' hr => by
        have := h (i + 1) r' (by simpa using hr)
        refine ⟨this.1, fun j u hu => ?_⟩
        have h2 := this.2 j u hu
        rwa [Nat.add_mul, Nat.one_mul, show o + (i * sz + sz) + j = o + sz + i * sz + j by omega] at h2) _ _ hu
      rwa [show o + sz + (k - r.length) = o + k by omega] at this
theorem rd_of_trod {H : Type} {enc : TypeId × Value → H} {P : Program} {w : World} {spare : Nat → Bool} : ∀ (fuel : Nat) (t : TypeId) (cs : List Value) (d : DataW H) (ps : List MemPlace),
    DataW.trod enc P w 0 spare true fuel t cs = some (d, ps) → (∀ n ∈ d.weights P t, n ≤ reachBytes) → Rd P (heapStab w) fuel t cs
  | 0, _, _, _, _, h, _ => by simp [DataW.trod] at h
  | fuel + 1, t, cs, d, ps, h, hw => by
    unfold DataW.trod at h
    unfold Rd
    split at h
    · rename_i b ht; rw [ht]; exact ⟨b, rfl⟩
    · rename_i k k' n ht
      rw [ht]
      split at h
      · rename_i hk; obtain ⟨rfl, hk⟩ := hk; exact ⟨n, rfl, hk⟩
      · cases h
    · rename_i k k' b ht; rw [ht]; trivial
    · rename_i s ht
      rw [ht]
      split at h
      · simp only [Option.some.injEq, Prod.mk.injEq] at h
        obtain ⟨rfl, rfl⟩ := h
        refine ⟨s, rfl, ?_⟩
        have := hw s.data.toList.length (by simp [DataW.weights])
        rw [Array.length_toList] at this
        exact this
      · cases h
    · rename_i e ht; rw [ht]; exact .inl rfl
    · rename_i e a ht
      rw [ht]
      rw [Option.map_eq_some_iff] at h
      obtain ⟨⟨d', p'⟩, hb, hd⟩ := h
      rw [Option.bind_eq_some_iff] at hb
      obtain ⟨us, hus, hd'⟩ := hb
      simp only [Prod.mk.injEq] at hd
      obtain ⟨rfl, rfl⟩ := hd
      obtain ⟨hl, hc⟩ := cells?_get hus
      exact .inr ⟨a, us, rfl, hl, heapStab_has hc, rd_of_trod fuel e us d' p' hd' fun n hn => hw n (by simpa [DataW.weights, ht] using hn)⟩
    · rename_i e ht; rw [ht]; exact .inl rfl
    · rename_i e a len cap ht
      rw [ht]
      simp only at h
      split at h
      · rename_i hlc
        rw [Option.bind_eq_some_iff] at h
        obtain ⟨elems, hel, h⟩ := h
        rw [Option.map_eq_some_iff] at h
        obtain ⟨rest, hrest, hd⟩ := h
        simp only [Prod.mk.injEq] at hd
        obtain ⟨rfl, rfl⟩ := hd
        have hlen := mapM_some_length hel
        rw [List.length_range] at hlen
        have hget := mapM_some_get hel
        have hone : ∀ i, i < len → ∃ us x, w.cells? 0 (a.add (i * P.cellsOf e)) (P.cellsOf e) = some us ∧ elems[i]? = some x ∧ DataW.trod enc P w 0 spare true fuel e us = some x := by
          intro i hi
          have h1 := hget i i (by simp [hi])
          have hx : elems[i]? = some (elems[i]'(by omega)) := List.getElem?_eq_getElem (by omega)
          rw [hx, Option.bind_eq_some_iff] at h1
          obtain ⟨us, h2, h3⟩ := h1
          exact ⟨us, _, h2, hx, h3⟩
        have hrows : ∃ rows : List (List Value), rows.length = len ∧ ∀ i, i < len → rows[i]? = w.cells? 0 (a.add (i * P.cellsOf e)) (P.cellsOf e) := by
          refine ⟨(List.range len).map fun i => (w.cells? 0 (a.add (i * P.cellsOf e)) (P.cellsOf e)).getD [], by simp, fun i hi => ?_⟩
          obtain ⟨us, x, h1, _, _⟩ := hone i hi
          simp [hi, h1]
        obtain ⟨rows, hrl, hrg⟩ := hrows
        refine .inr ⟨a, len, cap, rows, rfl, hlc.2.1, hlc.2.2, hrl, fun r hr => ?_, ?_, ?_⟩
        · obtain ⟨i, hi, hri⟩ := List.getElem_of_mem hr
          obtain ⟨us, x, h1, h2, h3⟩ := hone i (by omega)
          have h4 := hrg i (by omega)
          rw [List.getElem?_eq_getElem hi, h1, hri] at h4
          cases h4
          refine ⟨(cells?_get h1).1, rd_of_trod fuel e r x.1 x.2 h3 fun n hn => hw n ?_⟩
          simp only [DataW.weights, ht, List.mem_cons, List.mem_append]
          exact .inr (.inl (weightsAll_mem (List.mem_map_of_mem (List.mem_of_getElem? h2)) n hn))
        · refine heapStab_has fun k u hu => ?_
          have := flatten_cell (w := w) (a := a) (sz := P.cellsOf e) rows 0 (fun i r hr => ?_) k u hu
          · simpa using this
          · have hi : i < len := by rw [← hrl]; exact (List.getElem?_eq_some_iff.1 hr).1
            have h4 := hrg i hi
            rw [hr] at h4
            obtain ⟨hl, hc⟩ := cells?_get h4.symm
            refine ⟨hl, fun j u hu => ?_⟩
            have := hc j u hu
            rwa [Addr.add_add, ← Nat.zero_add (i * _)] at this
        · have := hw ((elems.length + rest.length) * P.bytesOf e) (by simp [DataW.weights, ht])
          rw [hlen] at this
          exact Nat.le_trans (Nat.mul_le_mul_right _ (Nat.le_add_right _ _)) this
      · cases h
    · rename_i fs ht
      rw [ht]
      split at h
      · rename_i hl
        rw [Option.map_eq_some_iff] at h
        obtain ⟨xs, hxs, hd⟩ := h
        simp only [Prod.mk.injEq] at hd
        obtain ⟨rfl, rfl⟩ := hd
        refine ⟨hl, fun f hf => ?_⟩
        obtain ⟨i, hi, hfi⟩ := List.getElem_of_mem hf
        have h1 := mapM_some_get hxs i f (by rw [List.getElem?_eq_getElem hi, hfi])
        have hlx := mapM_some_length hxs
        have hx : xs[i]? = some (xs[i]'(by omega)) := List.getElem?_eq_getElem (by omega)
        rw [hx] at h1
        refine rd_of_trod fuel f.type _ _ _ h1 fun n hn => hw n ?_
        simp only [DataW.weights, ht]
        exact DataW.weights_mem_each (j := i) (t := f.type) (by simp [List.getElem?_eq_getElem hi, hfi]) (by simp [hx]) n hn
      · cases h
    · rename_i m e ht
      rw [ht]
      split at h
      · rename_i hl
        rw [Option.map_eq_some_iff] at h
        obtain ⟨xs, hxs, hd⟩ := h
        simp only [Prod.mk.injEq] at hd
        obtain ⟨rfl, rfl⟩ := hd
        refine ⟨hl, fun i hi => ?_⟩
        have h1 := mapM_some_get hxs i i (by simp [hi])
        have hlx := mapM_some_length hxs
        rw [List.length_range] at hlx
        have hx : xs[i]? = some (xs[i]'(by omega)) := List.getElem?_eq_getElem (by omega)
        rw [hx] at h1
        refine rd_of_trod fuel e _ _ _ h1 fun n hn => hw n ?_
        simp only [DataW.weights, ht]
        exact weightsAll_mem (List.mem_map_of_mem (List.mem_of_getElem? hx)) n hn
      · cases h
    all_goals (rename_i ht; split <;> first | trivial | (rename_i ht'; rw [ht] at ht'; cases ht'))
/-- A law whose call hands back v and leaves all old blocks alone. -/
theorem Con.calls {P : Program} {f : FuncId} {args : List Value} {w : World} {Φ : (Value → Stab → List Ent → Prop) → Prop} {v : Value} (h : Con P f ⟨args⟩ (heapStab w) [] (Gives Φ)) (hv : Φ fun u _ _ => u = v) :
    Calls P f ⟨args⟩ w fun e w' => e = .returned v ∧ Below w.heap.size w w' := by
  refine (h.run w (heapStab_inst w)).mono fun e w' ⟨G', L', hs, M, L'', _, _, u, he, hk⟩ => ?_
  subst he
  have := hk _ hv
  subst this
  exact ⟨rfl, hs.ext.os, hs.ext.tape, hs.ext.output, hs.ext.size, fun k hk => hs.ext.keep k hk (by simp [blks])⟩
end Go.Sy
namespace Go.Sy
section
variable {P : Program} {G : Stab} {n : Nat} {t e : TypeId} {cs : List Value}
theorem rd_int {k : IntKind} (hu : P.underlying t = some (.int k)) (h : Rd P G n t cs) : ∃ i, cs = [.int k i] ∧ (Lit.int k i).wf = true := by
  cases n with
  | zero => exact h.elim
  | succ n => unfold Rd at h; rw [hu] at h; exact h
theorem rd_bool (hu : P.underlying t = some .bool) (h : Rd P G n t cs) : ∃ b, cs = [.bool b] := by
  cases n with
  | zero => exact h.elim
  | succ n => unfold Rd at h; rw [hu] at h; exact h
theorem rd_str (hu : P.underlying t = some .string) (h : Rd P G n t cs) : ∃ s, cs = [.string s] ∧ s.size ≤ 140737488351232 := by
  cases n with
  | zero => exact h.elim
  | succ n => unfold Rd at h; rw [hu] at h; exact h
theorem rd_struct {fs : Array Field} (hu : P.underlying t = some (.struct fs)) (h : Rd P G n t cs) : ∃ m, cs.length = P.cellsOf t ∧ ∀ f ∈ fs.toList, Rd P G m f.type ((cs.drop f.offset).take (P.cellsOf f.type)) := by
  cases n with
  | zero => exact h.elim
  | succ n => unfold Rd at h; rw [hu] at h; exact ⟨n, h⟩
theorem rd_slice (sz by_ : Nat) (hu : P.underlying t = some (.slice e)) (hs : P.cellsOf e = sz) (hb : P.bytesOf e = by_) (h : Rd P G n t cs) (hone : ∀ (m : Nat) r, Rd P G m e r → ∀ u ∈ r, u.oneCell' = true) :
    ∃ A len cap m, ∃ rows : List (List Value), cs = [.slice A len cap] ∧ Row G sz by_ A len rows.flatten ∧ rows.length = len ∧ ∀ r ∈ rows, r.length = sz ∧ Rd P G m e r := by
  cases n with
  | zero => exact h.elim
  | succ n =>
    unfold Rd at h; rw [hu] at h
    rcases h with rfl | ⟨a, len, cap, rows, rfl, h1, h2, h3, h4, h5, h6⟩
    · exact ⟨none, 0, 0, 0, [], rfl, ⟨by simp, fun _ => rfl, fun _ h => (by cases h), fun _ h => (by cases h), by simp, by simp⟩, rfl, fun _ h => (by cases h)⟩
    · refine ⟨some a, len, cap, n, rows, rfl, ⟨?_, fun h => (by cases h), fun ad h => (by cases h; exact h5), ?_, by rw [← hb]; exact h6, by simp only [maxLen] at h2; omega⟩, h3, fun r hr => by rw [← hs]; exact h4 r hr⟩
      · rw [List.length_flatten, ← h3]
        have : ∀ l : List (List Value), (∀ r ∈ l, r.length = sz) → (l.map List.length).sum = l.length * sz := by
          intro l
          induction l with
          | nil => intro _; simp
          | cons r l ih =>
            intro hr
            simp only [List.map_cons, List.sum_cons, List.length_cons]
            rw [hr r (by simp), ih fun r' h' => hr r' (by simp [h']), Nat.succ_mul, Nat.add_comm]
        exact this rows fun r hr => by rw [← hs]; exact (h4 r hr).1
      · intro u hu'
        obtain ⟨r, hr, hur⟩ := List.mem_flatten.1 hu'
        exact hone n r (h4 r hr).2 u hur
/-- A cell of a row of rows. -/
theorem flatten_get {sz : Nat} : ∀ (rows : List (List Value)) (j i : Nat), (∀ r ∈ rows, r.length = sz) → i < sz → j < rows.length → ∃ r ∈ rows, rows.flatten[j * sz + i]? = r[i]?
  | [], j, i, _, _, hj => by simp at hj
  | r :: rows, j, i, h, hi, hj => by
    have hl := h r (by simp)
    cases j with
    | zero =>
      refine ⟨r, by simp, ?_⟩
      rw [List.flatten_cons, Nat.zero_mul, Nat.zero_add, List.getElem?_append_left (by omega)]
    | succ j =>
      obtain ⟨r', hr', he⟩ := flatten_get rows j i (fun r' h' => h r' (by simp [h'])) hi (by simpa using hj)
      refine ⟨r', by simp [hr'], ?_⟩
      rw [List.flatten_cons, List.getElem?_append_right (by rw [hl, Nat.succ_mul]; omega), hl, ← he]
      congr 1
      rw [Nat.succ_mul]; omega
/-- .. all cells of the same row. -/
theorem flatten_row {sz : Nat} : ∀ (rows : List (List Value)) (j : Nat), (∀ r ∈ rows, r.length = sz) → j < rows.length → ∃ r ∈ rows, ∀ i, i < sz → rows.flatten[j * sz + i]? = r[i]?
  | [], j, _, hj => by simp at hj
  | r :: rows, j, h, hj => by
    have hl := h r (by simp)
    cases j with
    | zero =>
      refine ⟨r, by simp, fun i hi => ?_⟩
      rw [List.flatten_cons, Nat.zero_mul, Nat.zero_add, List.getElem?_append_left (by omega)]
    | succ j =>
      obtain ⟨r', hr', he⟩ := flatten_row rows j (fun r' h' => h r' (by simp [h'])) (by simpa using hj)
      refine ⟨r', by simp [hr'], fun i hi => ?_⟩
      rw [List.flatten_cons, List.getElem?_append_right (by rw [hl, Nat.succ_mul]; omega), hl, ← he i hi]
      congr 1
      rw [Nat.succ_mul]; omega
end
end Go.Sy
namespace Go.Sy
theorem rows_map {k : IntKind} : ∀ (rows : List (List Value)), (∀ r ∈ rows, ∃ i, r = [.int k i]) → ∃ is : List Int, rows.flatten = is.map (Value.int k)
  | [], _ => ⟨[], rfl⟩
  | r :: rows, h => by
    obtain ⟨i, rfl⟩ := h r (by simp)
    obtain ⟨is, hi⟩ := rows_map rows fun r' h' => h r' (by simp [h'])
    exact ⟨i :: is, by simp [hi]⟩
theorem rd_one_int {P : Program} {G : Stab} {t : TypeId} {k : IntKind} (hu : P.underlying t = some (.int k)) : ∀ (m : Nat) r, Rd P G m t r → ∀ u ∈ r, u.oneCell' = true := fun m r h u hu' => by
  obtain ⟨i, rfl, _⟩ := rd_int hu h
  simp at hu'; subst hu'; rfl
end Go.Sy
