import Derived.Test.YtpddchnapcmmkaaSy8
namespace Go.Sy
open Go Go.RowKit
section
variable {P : Program} {w0 : World} {G0 : Stab} {F : List Nat} {G : Stab} {L R : List Ent} {w : World} {n : Nat} {a : Act} {env : Env}
theorem evs_eq (hA : Agree n a env) {xs : List Operand} {k : List Value → Prop} (h : evs env (xs.map VX.of) k) : k (xs.map a.eval) := hA.evs h
theorem callFunc_run {f : FuncId} (h : okCall P f = true) (vs : Array Value) (w : World) : (callFunc f vs).run P w = .ok (.enter f vs) w := by
  unfold okCall at h
  split at h
  · rename_i fn hf
    simp only [Bool.and_eq_true, Bool.not_eq_true'] at h
    obtain ⟨h1, h2⟩ := h
    have h1' : fn.name ≠ "runtime.NumGoroutine" := by simpa using h1
    have h3 : fn.body ≠ none := fun hb => by simp [hb] at h2
    simp [callFunc, hf, h1', h3]
  · cases h
theorem call_sound (hs : St w0 G0 F G (L ++ R) w) {f : FuncId} {vs : List Value} {k : Value → Stab → List Ent → Prop} {q : List PanicEntry → Stab → List Ent → Prop} (h : callK P f vs G L k q)
    {o : Oper} {K : Act → World → Prop} {Q : Exit → Act → World → Prop}
    (hq : ∀ c G' L' w', St w0 G0 F G' (L' ++ R) w' → G.Le G' → q c G' L' → Q (.panic c) a w')
    (hk : ∀ v G' L' w', St w0 G0 F G' (L' ++ R) w' → G.Le G' → k v G' L' → K (a.put o.dst v) w')
    (hr : (execOp a.eval o).run P w = .ok (.enter f ⟨vs⟩) w) : o.wp P a w K Q := by
  obtain ⟨L1, R1, Post, hsp, hp, h⟩ := h
  unfold Oper.wp
  rw [hr]
  simp only [Oper.upon]
  have hp' : (L ++ R).Perm (L1 ++ (R1 ++ R)) := by rw [← List.append_assoc]; exact hp.append_right R
  refine (hsp.call hs hp').mono ?_
  rintro e w' ⟨G', L', h1, h2, h3⟩
  have := h e G' L' h2 h3
  rw [← List.append_assoc] at h1
  cases e with
  | returned v =>
    obtain ⟨L'', hpp, hkk⟩ := this
    exact hk v G' L'' w' (h1.perm (hpp.append_right R)) h2 hkk
  | panicked c => exact hq c G' (L' ++ R1) w' h1 h2 this
  | outgrown => exact this.elim
theorem ef_sound (hA : Agree n a env) {o : Oper} {f : Eop} (ht : trE P o.op = some f) (hs : St w0 G0 F G (L ++ R) w) {k : Value → Stab → List Ent → Prop} {q : List PanicEntry → Stab → List Ent → Prop} (h : efK P G L env k q f)
    {K : Act → World → Prop} {Q : Exit → Act → World → Prop}
    (hq : ∀ c G' L' w', St w0 G0 F G' (L' ++ R) w' → G.Le G' → q c G' L' → Q (.panic c) a w')
    (hk : ∀ v G' L' w', St w0 G0 F G' (L' ++ R) w' → G.Le G' → k v G' L' → K (a.put o.dst v) w') : o.wp P a w K Q := by
  obtain ⟨dst, op, type, pos, after, guard⟩ := o
  simp only at ht
  have val : ∀ (v : Value) (w' : World), (execOp a.eval ⟨dst, op, type, pos, after, guard⟩).run P w = .ok (.value v) w' → (∃ G' L', St w0 G0 F G' (L' ++ R) w' ∧ G.Le G' ∧ k v G' L') → Oper.wp P ⟨dst, op, type, pos, after, guard⟩ a w K Q := by
    rintro v w' hr ⟨G', L', h1, h2, h3⟩
    unfold Oper.wp; rw [hr]; exact hk v G' L' w' h1 h2 h3
  cases op with
  | box e x =>
    simp only [trE, Option.some.injEq] at ht; subst ht
    obtain ⟨v, h1, h⟩ := onV_elim h
    obtain ⟨G', L', h2, h3, h4⟩ := newB_sound hs h
    refine val _ _ ?_ ⟨G', L', h2, h3, h4⟩
    simp [execOp, hA.ev h1, Instr.box, newVar, newRow, cellsL]
  | alloc e =>
    simp only [trE, Option.map_eq_some_iff] at ht
    obtain ⟨zs, hz, rfl⟩ := ht
    simp only [efK] at h
    obtain ⟨G', L', h2, h3, h4⟩ := newB_sound hs h
    refine val _ _ ?_ ⟨G', L', h2, h3, h4⟩
    unfold zeroOf at hz
    rw [Option.bind_eq_some_iff] at hz
    obtain ⟨inf, hi, hz⟩ := hz
    rw [Option.map_eq_some_iff] at hz
    obtain ⟨z, hz, rfl⟩ := hz
    simp [execOp, Instr.alloc, zeroValue, run_typeInfo hi, hz, newVar, newRow, cellsL]
  | buildSlice t len parts =>
    simp only [trE] at ht
    split at ht
    · rename_i e he
      split at ht
      · rename_i i zs hi hz
        split at ht
        · rename_i hc
          split at ht
          · rename_i pq hpq
            simp only [Option.some.injEq] at ht; subst ht
            obtain ⟨cs', hf, h⟩ := partsOf_spec hpq hA _ _ h
            have hfin : ∃ G' L', St w0 G0 F G' (L' ++ R) { w with heap := w.heap.push (.cells ⟨cs'⟩ e (0, 0)) } ∧ G.Le G' ∧ k (.slice (some ⟨w.heap.size, 0, none⟩) len len) G' L' := by
              rcases h with h | ⟨sz, hl, hle, h⟩
              · exact newB_sound hs h
              · refine ⟨G, _, ?_, Stab.Le.refl _, h w.heap.size⟩
                refine hs.push _ ?_
                refine St.more hs (hs.alloc _) ⟨hl, .inr ⟨w.heap.size, len, ⟨cs'⟩, rfl, Nat.zero_le _, by simp, Nat.le_refl _, by simp only [maxLen]; omega, by simpa using hl, by rw [← hl]; simp⟩⟩ fun b hb => by simp [Ent.blk, Value.ownBlock] at hb; omega
            obtain ⟨G', L', h2, h3, h4⟩ := hfin
            refine val _ _ ?_ ⟨G', L', h2, h3, h4⟩
            unfold zeroOf at hz
            rw [Option.bind_eq_some_iff] at hz
            obtain ⟨inf, hi', hz⟩ := hz
            rw [Option.map_eq_some_iff] at hz
            obtain ⟨z, hz, rfl⟩ := hz
            have : inf = i := by rw [hi] at hi'; exact (Option.some.inj hi').symm
            subst this
            have mono : ∀ (ps : List (Nat × Value)) (cs : Array Value) (cs' : Array Value), Instr.fill (fun m => ((List.range len).map (fun j => (j * inf.size, inf.size)))[m]?) cs ps = some cs' → Instr.fill (fun j => some (j * inf.size, inf.size)) cs ps = some cs' := by
              intro ps
              induction ps with
              | nil => intro cs cs' h; exact h
              | cons p ps ih =>
                obtain ⟨j, v⟩ := p
                intro cs cs' h
                simp only [Instr.fill, List.getElem?_map] at h ⊢
                cases hj : (List.range len)[j]? with
                | none => simp [hj] at h
                | some x =>
                  have : x = j := by
                    obtain ⟨hl, he⟩ := List.getElem?_eq_some_iff.1 hj
                    simp at he; omega
                  subst this
                  simp only [hj, Option.map_some] at h
                  split at h
                  · cases h
                  · rename_i hc; rw [if_neg hc]; refine ih _ _ ?_; simpa only [List.getElem?_map] using h
            have hfl : ((Array.range (len * inf.size)).map (fun j => (if len * inf.size = 0 then #[] else z.cells)[j % (if len * inf.size = 0 then #[] else z.cells).size]!)) = (List.replicate len (cellsL z)).flatten.toArray := by
              by_cases h0 : len * inf.size = 0
              · have e0 : (List.replicate len (cellsL z)).flatten = [] := by
                  apply List.eq_nil_of_length_eq_zero
                  simp only [List.length_flatten, List.map_replicate, List.sum_replicate_nat]
                  rw [← hc.1]; exact h0
                rw [e0, h0]; apply Array.ext'; simp
              · simp only [if_neg h0]
                have hp : 0 < (cellsL z).length := by rw [← hc.1]; exact Nat.pos_of_ne_zero fun e => h0 (by rw [e]; simp)
                have := flat_zero hp z.cells rfl len
                rw [show z.cells.size = inf.size from by rw [hc.1]; simp [cellsL]] at this
                rw [← this]
                rw [show z.cells.size = inf.size from by rw [hc.1]; simp [cellsL]]
            have hbs : (Instr.buildSlice t len (parts.map fun (i, x) => (i, a.eval x))).run P w = .ok (.slice (some ⟨w.heap.size, 0, none⟩) len len) { w with heap := w.heap.push (.cells ⟨cs'⟩ e (0, 0)) } := by
              have hfill := mono _ _ _ (show Instr.fill (fun m => ((List.range len).map (fun j => (j * inf.size, inf.size)))[m]?) (List.replicate len (cellsL z)).flatten.toArray (parts.map fun (i, x) => (i, a.eval x)).toList = some cs'.toArray from by rw [← hf]; simp)
              simp only [Instr.buildSlice, Sem.run_bind, run_underlying he, Result.andThen_ok, run_sizeOf hi]
              rw [if_neg (by omega)]
              by_cases h0 : len * inf.size = 0
              · simp only [if_pos h0] at hfl ⊢
                simp only [Sem.run_bind, Sem.run_pure, Result.andThen_ok, hfl, hfill]
                rfl
              · simp only [if_neg h0] at hfl ⊢
                have hzv : (zeroValue e).run P w = .ok z w := by simp [zeroValue, run_typeInfo hi, hz]
                simp only [Sem.run_bind, hzv, Sem.run_pure, Result.andThen_ok, hfl, hfill]
                rfl
            simp only [execOp]
            rw [Sem.run_bind, hbs]
            rfl
          · cases ht
        · cases ht
      · cases ht
    · cases ht
  | store t x y =>
    simp only [trE, Option.map_eq_some_iff] at ht
    obtain ⟨inf, hi, rfl⟩ := ht
    obtain ⟨ad, h1, h⟩ := onP_elim h
    obtain ⟨v, h2, h3, h4, h5, h⟩ := onV_elim h
    obtain ⟨w', L', r1, r2, r3⟩ := sto_sound (P := P) hs h4 h5 h
    unfold Oper.wp
    have hv : v.cells.size = inf.size := by rw [← h3]; simp [cellsL]
    have : (execOp a.eval ⟨dst, .store t x y, type, pos, after, guard⟩).run P w = .ok .skip w' := by
      simp only [execOp, hA.ev h1, hA.ev h2, Instr.storeAt, Instr.sureAddr, storeVar, Sem.run_bind, Sem.run_pure, Result.andThen_ok, run_sizeOf hi, hv]
      simp only [ne_eq, not_true_eq_false, if_false]
      have r1' : (storeCells ad v.cells.toList).run P w = .ok () w' := r1
      simp [r1']
    rw [this]
    exact hk undef G L' w' r2 (Stab.Le.refl _) r3
  | call c =>
    obtain ⟨callee, args, argTypes⟩ := c
    cases callee with
    | value g =>
      have tmpcase : ∀ f', g = f' → Eop.callv (VX.of f') (args.toList.map VX.of) = f → Oper.wp P ⟨dst, .call ⟨.value g, args, argTypes⟩, type, pos, after, guard⟩ a w K Q := by
        rintro f' rfl rfl
        simp only [efK] at h
        obtain ⟨f, first, cap, h1, h2, h⟩ := onF_elim h
        have h := hA.evs h
        refine call_sound hs h hq hk ?_
        have e1 : first ++ args.map a.eval ++ cap = ⟨first.toList ++ args.toList.map a.eval ++ cap.toList⟩ := by apply Array.ext'; simp
        simp only [execOp, resolve, hA.ev h1, Deferred.ofValue, Sem.run_bind, Sem.run_pure, Result.andThen_ok, invoke, callFunc_run h2]
        rw [e1]
      cases g with
      | func g =>
        simp only [trE] at ht
        split at ht
        · rename_i hc
          simp only [Option.some.injEq] at ht; subst ht
          have h := hA.evs h
          refine call_sound hs h hq hk ?_
          have e1 : args.map a.eval ++ #[] = ⟨args.toList.map a.eval⟩ := by apply Array.ext'; simp
          simp only [execOp, resolve, Act.eval, Deferred.ofValue, Sem.run_bind, Sem.run_pure, Result.andThen_ok, invoke, Array.empty_append, callFunc_run hc]
          rw [← e1]
        · cases ht
      | tmp t => simp only [trE, Option.some.injEq] at ht; exact tmpcase _ rfl ht
      | const v => simp only [trE, Option.some.injEq] at ht; exact tmpcase _ rfl ht
      | global v => simp only [trE, Option.some.injEq] at ht; exact tmpcase _ rfl ht
    | invoke r m => simp [trE] at ht
    | builtin b =>
      obtain ⟨args⟩ := args
      obtain ⟨argTypes⟩ := argTypes
      cases b <;> simp only [trE, reduceCtorEq] at ht
      split at ht
      · rename_i _ _ s x t t'
        split at ht
        · rename_i htt
          subst htt
          split at ht
          · rename_i e he
            split at ht
            · rename_i i zs hi hz
              split at ht
              · rename_i hc
                simp only [Option.some.injEq] at ht; subst ht
                obtain ⟨sv, h1, h⟩ := onV_elim h
                obtain ⟨ax, m, c, h2, news, hl, h3, h⟩ := onL_elim h
                unfold zeroOf at hz
                rw [Option.bind_eq_some_iff] at hz
                obtain ⟨inf, hi', hz⟩ := hz
                rw [Option.map_eq_some_iff] at hz
                obtain ⟨z, hz, rfl⟩ := hz
                have : inf = i := by rw [hi] at hi'; exact (Option.some.inj hi').symm
                subst this
                have hzs : z.cells.size = inf.size := by rw [← hc.2]; simp [cellsL]
                have fin : ∀ (v : Value) (w' : World) (M' : List Ent), (Builtin.append_ #[t, t] type #[sv, .slice ax m c]).run P w = .ok v w' → St w0 G0 F G (M' ++ R) w' → k v G M' → Oper.wp P ⟨dst, .call ⟨.builtin .append, ⟨[s, x]⟩, ⟨[t, t]⟩⟩, type, pos, after, guard⟩ a w K Q := by
                  intro v w' M' r1 r2 r3
                  refine val v w' ?_ ⟨G, M', r2, Stab.Le.refl _, r3⟩
                  simp [execOp, resolve, invoke, builtin, hA.ev h1, hA.ev h2, r1]
                rcases h with ⟨h4, h5, h⟩ | ⟨M, b, ty, rfl, rfl, h⟩
                · obtain ⟨v, w', M', r1, r2, r3⟩ := appT_sound (ty := type) (c := c) he hi hz hzs hc.1 hs hl h4 (fun ad e j u hu => (h5 ad e).cell hs.inst.sat (fun y hy => hs.inst.oks y (List.mem_append_left _ hy)) hu) h3 h
                  exact fin v w' M' r1 r2 r3
                · have hblk : w.heap[b]? = some (.cells ⟨news⟩ ty (0, 0)) := hs.inst.oks (.obj b news ty) (by simp)
                  have hs' : St w0 G0 F G (M ++ R) w := hs.drop (by simp)
                  obtain ⟨v, w', M', r1, r2, r3⟩ := appT_sound (ty := type) (c := c) (ax := some ⟨b, 0, none⟩) he hi hz hzs hc.1 hs' hl (by simp) (fun ad e j u hu => by
                    cases e
                    rw [add_norm rfl]
                    simp only [World.cell?, hblk, Option.isSome_none, Bool.false_eq_true, if_false]
                    simpa using hu) h3 h
                  exact fin v w' M' r1 r2 r3
              · cases ht
            · cases ht
          · cases ht
        · cases ht
      · cases ht
  | makeSlice t l c =>
    simp only [trE] at ht
    split at ht
    · rename_i e he
      split at ht
      · rename_i i zs hi hz
        split at ht
        · rename_i hc
          simp only [Option.some.injEq] at ht; subst ht
          simp only [efK] at h
          obtain ⟨kl, lv, h1, h⟩ := onI_elim h
          obtain ⟨kc, cv, h2, h3, h4, h5, h6, h⟩ := onI_elim h
          obtain ⟨G', L', h7, h8, h9⟩ := newB_sound hs h
          refine val _ _ ?_ ⟨G', L', h7, h8, h9⟩
          unfold zeroOf at hz
          rw [Option.bind_eq_some_iff] at hz
          obtain ⟨inf, hi', hz⟩ := hz
          rw [Option.map_eq_some_iff] at hz
          obtain ⟨z, hz, rfl⟩ := hz
          have : inf = i := by rw [hi] at hi'; exact (Option.some.inj hi').symm
          subst this
          have wl : IntKind.i64.wrap lv = lv := IntWalk.i64_in _ (by omega)
          have wc : IntKind.i64.wrap cv = cv := IntWalk.i64_in _ (by omega)
          have hzc : z.cells.size = inf.size := by rw [← hc.2]; simp [cellsL]
          have hb : ¬ (inf.bytes * cv > 281474976710656) := by
            have : (inf.bytes * cv.toNat : Nat) ≤ 281474976710656 := h6
            have e1 : (inf.bytes : Int) * cv = ((inf.bytes * cv.toNat : Nat) : Int) := by rw [Int.natCast_mul, Int.toNat_of_nonneg (by omega)]
            rw [e1]; omega
          have hfl := flat_zero (zs := cellsL z) (by rw [hc.2]; exact hc.1) z.cells rfl cv.toNat
          rw [hzc] at hfl
          have h0 : (if cv.toNat * inf.size = 0 then pure #[] else do pure (← zeroValue e).cells : Sem (Array Value)).run P w = .ok (if cv.toNat * inf.size = 0 then #[] else z.cells) w := by
            split
            · rfl
            · simp [zeroValue, run_typeInfo hi, hz]
          have hms : (Instr.makeSlice t (a.eval l) (a.eval c)).run P w = .ok (.slice (some ⟨w.heap.size, 0, none⟩) lv.toNat cv.toNat) { w with heap := w.heap.push (.cells ⟨(List.replicate cv.toNat (cellsL z)).flatten⟩ e (0, 0)) } := by
            simp only [Instr.makeSlice, Sem.run_bind, run_underlying he, Result.andThen_ok, hA.ev h1, hA.ev h2, asInt, asIntOf, Sem.run_pure, run_typeInfo hi, wl, wc]
            have hcond : (decide (cv < 0) || decide (inf.bytes * cv > 2 ^ 48) || decide (lv < 0) || decide (lv > cv)) = false := by
              simp only [Bool.or_eq_false_iff, decide_eq_false_iff_not]
              exact ⟨⟨⟨by omega, by simpa using hb⟩, by omega⟩, by omega⟩
            rw [if_neg (by rw [hcond]; simp)]
            simp only [Sem.run_bind, run_askRoom, Result.andThen_ok, run_sizeOf hi]
            by_cases h0' : cv.toNat * inf.size = 0
            · rw [if_pos h0']
              have : cv.toNat = 0 := by rcases Nat.mul_eq_zero.1 h0' with h | h <;> omega
              simp only [this, Nat.zero_mul, Sem.run_pure, Result.andThen_ok, newRow, Sem.run_bind, run_newObj]
              congr 4
              apply Array.ext'
              simp
            · rw [if_neg h0']
              have hzv : (zeroValue e).run P w = .ok z w := by simp [zeroValue, run_typeInfo hi, hz]
              simp only [Sem.run_bind, hzv, Result.andThen_ok, Sem.run_pure, hzc, hfl, newRow]
              rfl
          simp only [execOp]
          rw [Sem.run_bind, hms]
          rfl
        · cases ht
      · cases ht
    · cases ht
  | panic x =>
    simp only [trE, Option.some.injEq] at ht; subst ht
    obtain ⟨v, h1, t, u, rfl, h⟩ := onV_elim h
    unfold Oper.wp
    have : (execOp a.eval ⟨dst, .panic x, type, pos, after, guard⟩).run P w = .halt (.panic (.iface t u)) w := by
      simp [execOp, hA.ev h1, Instr.panic]
    rw [this]
    exact hq _ G L w hs (Stab.Le.refl _) h
  | _ => simp [trE] at ht
end
end Go.Sy
