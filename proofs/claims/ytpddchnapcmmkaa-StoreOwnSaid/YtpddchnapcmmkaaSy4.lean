import Derived.Test.YtpddchnapcmmkaaSy3
namespace Go.Sy
open Go Go.RowKit
section
variable {P : Program}
theorem run_typeInfo {t : TypeId} {i : TypeInfo} (h : P.info? t = some i) (w : World) : (typeInfo t).run P w = .ok i w := by simp [typeInfo, h]
theorem run_sizeOf {t : TypeId} {i : TypeInfo} (h : P.info? t = some i) (w : World) : (sizeOf t).run P w = .ok i.size w := by simp [sizeOf, run_typeInfo h]
theorem run_isAgg {t : TypeId} {d : TypeDesc} (h : P.underlying t = some d) (w : World) : (isAgg t).run P w = .ok (isAggD d) w := by
  simp only [isAgg, Sem.run_bind, run_underlying h, Result.andThen_ok]
  cases d <;> rfl
theorem fieldOf_spec {t : TypeId} {f off sz : Nat} {g : Bool} (h : fieldOf P t f = some (off, sz, g)) : ∃ fs fd i d, P.underlying t = some (.struct fs) ∧ fs[f]? = some fd ∧ P.info? fd.type = some i ∧ P.underlying fd.type = some d ∧ off = fd.offset ∧ sz = i.size ∧ g = isAggD d := by
  unfold fieldOf at h
  split at h
  · rename_i fs h1
    split at h
    · rename_i fd h2
      split at h
      · rename_i i d h3 h4
        simp only [Option.some.injEq, Prod.mk.injEq] at h
        obtain ⟨rfl, rfl, rfl⟩ := h
        exact ⟨fs, fd, i, d, h1, h2, h3, h4, rfl, rfl, rfl⟩
      · cases h
    · cases h
  · cases h
/-- Filling a row of cells with parts. -/
theorem zip_fold (off : Nat) : ∀ (new : List Value) (j : Nat) (cs : Array Value), off + j + new.length ≤ cs.size →
    ((new.zipIdx j).foldl (fun (cs : Array Value) (p : Value × Nat) => cs.setIfInBounds (off + p.2) p.1) cs).toList = replAt cs.toList (off + j) new
  | [], j, cs, h => by simp [replAt]
  | v :: new, j, cs, h => by
    simp only [List.zipIdx_cons, List.foldl_cons]
    have ih := zip_fold off new (j + 1) (cs.setIfInBounds (off + j) v) (by simp at h ⊢; omega)
    rw [ih]
    have hlt : off + j < cs.toList.length := by simp at h ⊢; omega
    simp only [replAt, Array.toList_setIfInBounds, List.length_cons, List.append_assoc]
    rw [show off + (j + 1) = (off + j) + 1 from by omega]
    apply List.ext_getElem?
    intro i
    rw [List.getElem?_append, List.getElem?_append, List.getElem?_append]
    simp only [List.length_take, List.length_set]
    rw [Nat.min_eq_left (by omega), Nat.min_eq_left (by omega)]
    by_cases h1 : i < off + j
    · rw [if_pos h1, if_pos (by omega), List.getElem?_take, List.getElem?_take, if_pos h1, if_pos (by omega), List.getElem?_set_ne (by omega)]
    · rw [if_neg h1]
      by_cases h2 : i = off + j
      · subst h2
        rw [if_pos (by omega), List.getElem?_take, if_pos (by omega), List.getElem?_set_self hlt]
        simp
      · rw [if_neg (by omega)]
        rw [show i - (off + j) = (i - (off + j + 1)) + 1 from by omega, List.cons_append, List.getElem?_cons_succ]
        rw [List.getElem?_append]
        by_cases h3 : i - (off + j + 1) < new.length
        · rw [if_pos h3, if_pos h3]
        · rw [if_neg h3, if_neg h3, List.getElem?_drop, List.getElem?_drop, List.getElem?_set_ne (by omega)]
          congr 1
          omega
theorem partsOf_spec {pl : List (Nat × Nat)} : ∀ {ps : List (Nat × Operand)} {q : List (Nat × Nat × VX)}, partsOf pl ps = some q →
    ∀ {n : Nat} {a : Act} {env : Env} (_ : Agree n a env) (cs : List Value) (k : List Value → Prop), fillP env cs q k → ∃ cs', Instr.fill (pl[·]?) cs.toArray (ps.map fun p => (p.1, a.eval p.2)) = some cs'.toArray ∧ k cs'
  | [], q, h, n, a, env, hA, cs, k, hf => by
    simp only [partsOf, Option.some.injEq] at h; subst h
    exact ⟨cs, by simp [Instr.fill], hf⟩
  | (i, x) :: r, q, h, n, a, env, hA, cs, k, hf => by
    simp only [partsOf] at h
    split at h
    · rename_i off sz q' h1 h2
      simp only [Option.some.injEq] at h; subst h
      obtain ⟨v, hv, h3, h4, hf⟩ := onV_elim hf
      obtain ⟨cs', h5, h6⟩ := partsOf_spec h2 hA _ k hf
      refine ⟨cs', ?_, h6⟩
      have hz : v.cells.size = sz := by simpa [cellsL] using h3
      simp only [List.map_cons, Instr.fill, h1, hA.ev hv]
      rw [if_neg (by simp [hz]; omega)]
      rw [← h5]
      congr 1
      have := zip_fold off v.cells.toList 0 cs.toArray (by simp [hz]; omega)
      simp only [Nat.add_zero] at this
      have e2 : replAt cs off (cellsL v) = (List.foldl (fun (cs : Array Value) (p : Value × Nat) => cs.setIfInBounds (off + p.2) p.1) cs.toArray v.cells.toList.zipIdx).toList := this.symm
      rw [e2, ← Array.foldl_toList]
      simp
    · cases h
theorem placesOf_run {t : TypeId} {pl : List (Nat × Nat)} (h : placesOf P t = some pl) {zs : List Value} (hz : zeroOf P t = some zs) (parts : Array (Nat × Value)) (cs' : List Value)
    (hf : Instr.fill (pl[·]?) zs.toArray parts.toList = some cs'.toArray) (w : World) : (Instr.build t parts).run P w = .ok (.agg cs'.toArray) w := by
  unfold zeroOf at hz
  rw [Option.bind_eq_some_iff] at hz
  obtain ⟨inf, hi, hz⟩ := hz
  rw [Option.map_eq_some_iff] at hz
  obtain ⟨z, hz, rfl⟩ := hz
  have hzv : (zeroValue t).run P w = .ok z w := by simp [zeroValue, run_typeInfo hi, hz]
  simp only [Instr.build, Sem.run_bind, hzv, Result.andThen_ok]
  have hzc : (cellsL z).toArray = z.cells := by simp [cellsL]
  rw [hzc] at hf
  unfold placesOf at h
  split at h
  · rename_i fs hu
    rw [run_underlying hu]
    simp only [Result.andThen_ok, Sem.run_bind]
    have key : ∀ (l : List Field) (pl : List (Nat × Nat)), (l.mapM fun fd => (P.info? fd.type).map fun i => (fd.offset, i.size)) = some pl → ∀ w, (l.mapM fun (f : Field) => do pure (f.offset, ← sizeOf f.type)).run P w = .ok pl w := by
      intro l
      induction l with
      | nil => intro pl h w; simp only [List.mapM_nil] at h ⊢; cases h; rfl
      | cons fd l ih =>
        intro pl h w
        simp only [List.mapM_cons, Option.bind_eq_bind, Option.bind_eq_some_iff, Option.map_eq_some_iff] at h
        obtain ⟨p, ⟨i, hi, rfl⟩, r, hr, h⟩ := h
        cases h
        simp only [List.mapM_cons, Sem.run_bind, run_sizeOf hi, Result.andThen_ok, Sem.run_pure, ih r hr]
    have hm : (fs.mapM fun (f : Field) => do pure (f.offset, ← sizeOf f.type)).run P w = .ok pl.toArray w := by
      rw [Array.mapM_eq_mapM_toList, Sem.run_map, key _ _ h]
      rfl
    rw [hm]
    simp only [Result.andThen_ok, List.getElem?_toArray, hf, Sem.run_pure]
  · rename_i n e hu
    rw [Option.map_eq_some_iff] at h
    obtain ⟨i, hi', rfl⟩ := h
    rw [run_underlying hu]
    simp only [Result.andThen_ok, Sem.run_bind, run_sizeOf hi']
    have mono : ∀ (ps : List (Nat × Value)) (cs : Array Value) (cs' : Array Value), Instr.fill (fun m => ((List.range n).map (fun j => (j * i.size, i.size)))[m]?) cs ps = some cs' → Instr.fill (fun j => some (j * i.size, i.size)) cs ps = some cs' := by
      intro ps
      induction ps with
      | nil => intro cs cs' h; exact h
      | cons p ps ih =>
        obtain ⟨j, v⟩ := p
        intro cs cs' h
        simp only [Instr.fill, List.getElem?_map] at h ⊢
        cases hj : (List.range n)[j]? with
        | none => simp [hj] at h
        | some x =>
          have : x = j := by
            obtain ⟨hl, he⟩ := List.getElem?_eq_some_iff.1 hj
            simp at he; omega
          subst this
          simp only [hj, Option.map_some] at h
          split at h
          · cases h
          · rename_i hc; rw [if_neg hc]; refine ih _ _ ?_; simpa only [List.getElem?_map] using h
    rw [mono _ _ _ hf]
    simp
  · cases h
theorem run_bytesToString {w : World} {a : Option Addr} {bs : List Int} {c : Nat} (h1 : ∀ ad, a = some ad → ∀ (j : Nat) (u : Value), (bs.map (Value.int IntKind.u8))[j]? = some u → w.cell? (ad.add j) = some u) (h2 : a = none → bs.length = 0) :
    (Conv.bytesToString (.slice a bs.length c)).run P w = .ok (.string (bytesStr bs)) w := by
  cases a with
  | none =>
    have : bs = [] := List.eq_nil_of_length_eq_zero (h2 rfl)
    subst this
    simp [Conv.bytesToString, bytesStr]
    rfl
  | some ad =>
    have hl : (loadCells ad bs.length).run P w = .ok (bs.map (Value.int IntKind.u8)).toArray w := by
      have := run_loadCells' (P := P) (h1 ad rfl)
      simpa using this
    simp only [Conv.bytesToString, Sem.run_bind, hl, Result.andThen_ok]
    have loop : ∀ (f : Value → ByteArray → Sem (ForInStep ByteArray)) (_ : ∀ n s, f (Value.int IntKind.u8 n) s = pure (ForInStep.yield (s.push (UInt8.ofNat n.toNat)))) (bs : List Int) (s : ByteArray),
        (forIn (bs.map (Value.int IntKind.u8)) s f).run P w = .ok ⟨s.data ++ (bs.map fun n => UInt8.ofNat n.toNat).toArray⟩ w := by
      intro f hf bs
      induction bs with
      | nil => intro s; simp
      | cons b bs ih =>
        intro s
        simp only [List.map_cons, List.forIn_cons, Sem.run_bind, hf, Sem.run_pure, Result.andThen_ok]
        rw [ih]
        simp [ByteArray.push]
    simp only [List.forIn_toArray]
    rw [loop _ (fun _ _ => rfl)]
    simp [bytesStr]
end
end Go.Sy
