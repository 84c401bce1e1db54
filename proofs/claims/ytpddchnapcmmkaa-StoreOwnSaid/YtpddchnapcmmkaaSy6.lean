import Derived.Test.YtpddchnapcmmkaaSy5
namespace Go.Sy
open Go Go.RowKit
section
variable {P : Program} {n : Nat} {a : Act} {env : Env}
theorem run_part {t : TypeId} {i : TypeInfo} {d : TypeDesc} (hi : P.info? t = some i) (hd : P.underlying t = some d) (cs : Array Value) (off : Nat) (w : World) :
    (part t cs off).run P w = if isAggD d then .ok (.agg (cs.extract off (off + i.size))) w else match cs[off]? with | some v => .ok v w | none => .halt (.stuck "part: no such cell") w := by
  simp only [part, Sem.run_bind, run_isAgg hd, Result.andThen_ok]
  cases isAggD d
  · simp; cases cs[off]? <;> rfl
  · simp [run_sizeOf hi]
theorem eqIn_bool (d : Nat) {t : TypeId} (he : P.underlying t = some .bool) (x y : Bool) (w : World) : (Op.equalIn (d + 1) t (.bool x) (.bool y)).run P w = .ok (x == y) w := by
  simp only [Op.equalIn, Sem.run_bind, run_underlying he, Result.andThen_ok, Sem.run_pure]
theorem eq_bool {t : TypeId} (he : P.underlying t = some .bool) (x y : Bool) (w : World) : (Op.equal t (.bool x) (.bool y)).run P w = .ok (x == y) w := eqIn_bool 9999 he x y w
theorem eqIn_ptr (d : Nat) {t e : TypeId} (he : P.underlying t = some (.pointer e)) (x y : Option Addr) (h : x = none ∨ y = none) (w : World) : (Op.equalIn (d + 1) t (.pointer x) (.pointer y)).run P w = .ok (x.isNone && y.isNone) w := by
  simp only [Op.equalIn, Sem.run_bind, run_underlying he, Result.andThen_ok]
  rcases h with rfl | rfl
  · simp
  · cases x <;> simp
theorem eq_ptr {t e : TypeId} (he : P.underlying t = some (.pointer e)) (x y : Option Addr) (h : x = none ∨ y = none) (w : World) : (Op.equal t (.pointer x) (.pointer y)).run P w = .ok (x.isNone && y.isNone) w := eqIn_ptr 9999 he x y h w
theorem eqIn_slice (d : Nat) {t e : TypeId} (he : P.underlying t = some (.slice e)) (x y : Option Addr) (n c n' c' : Nat) (h : x = none ∨ y = none) (w : World) : (Op.equalIn (d + 1) t (.slice x n c) (.slice y n' c')).run P w = .ok (x.isNone && y.isNone) w := by
  simp only [Op.equalIn, Sem.run_bind, run_underlying he, Result.andThen_ok]
  rcases h with rfl | rfl
  · simp
  · cases x <;> simp
theorem eq_slice {t e : TypeId} (he : P.underlying t = some (.slice e)) (x y : Option Addr) (n c n' c' : Nat) (h : x = none ∨ y = none) (w : World) : (Op.equal t (.slice x n c) (.slice y n' c')).run P w = .ok (x.isNone && y.isNone) w := eqIn_slice 9999 he x y n c n' c' h w
/-- An operation that only reads does what 'rdK' says. -/
theorem rd_sound (hA : Agree n a env) {o : Oper} {r : Rop} (ht : trR P o.op = some r) {G : Stab} {L : List Ent} {k : Value → Prop} (h : rdK G L env r k) :
    ∃ v, k v ∧ ∀ w, Sat G w → (∀ x ∈ L, x.ok w) → (execOp a.eval o).run P w = .ok (.value v) w := by
  obtain ⟨dst, op, type, pos, after, guard⟩ := o
  simp only at ht
  cases op with
  | move x =>
    simp only [trR, Option.some.injEq] at ht; subst ht
    obtain ⟨u, h1, h2⟩ := onV_elim h
    exact ⟨u, h2, fun w _ _ => by simp [execOp, hA.ev h1]⟩
  | assign x =>
    simp only [trR, Option.some.injEq] at ht; subst ht
    obtain ⟨u, h1, h2⟩ := onV_elim h
    exact ⟨u, h2, fun w _ _ => by simp [execOp, hA.ev h1]⟩
  | pick c x y =>
    simp only [trR, Option.some.injEq] at ht; subst ht
    obtain ⟨t, h1, h⟩ := onB_elim h
    obtain ⟨u, h2, h⟩ := onV_elim h
    obtain ⟨v, h3, h⟩ := onV_elim h
    exact ⟨_, h, fun w _ _ => by cases t <;> simp [execOp, hA.ev h1, hA.ev h2, hA.ev h3, asBool]⟩
  | nilCheck x =>
    simp only [trR, Option.some.injEq] at ht; subst ht
    obtain ⟨u, h1, h2⟩ := onP_elim h
    exact ⟨_, h2, fun w _ _ => by simp [execOp, hA.ev h1]⟩
  | load t x =>
    simp only [trR] at ht
    split at ht
    · rename_i d i hd hi
      split at ht
      · rename_i hg
        simp only [Option.some.injEq] at ht; subst ht
        obtain ⟨ad, h1, cs, hl, hr, hk⟩ := onP_elim h
        refine ⟨_, hk, fun w hs hL => ?_⟩
        have := run_loadCells' (P := P) (a := ad) (fun j u hu => hr.cell hs hL hu)
        rw [hl] at this
        simp [execOp, hA.ev h1, Instr.loadAt, Instr.sureAddr, loadVar, run_isAgg hd, hg, run_sizeOf hi, this]
      · rename_i hg
        simp only [Option.some.injEq] at ht; subst ht
        obtain ⟨ad, h1, v, hr, hk⟩ := onP_elim h
        refine ⟨_, hk, fun w hs hL => ?_⟩
        have := hr.cell hs hL (i := 0) (u := v) rfl
        rw [add_zero_of] at this
        simp [execOp, hA.ev h1, Instr.loadAt, Instr.sureAddr, loadVar, run_isAgg hd, hg, this]
    · cases ht
  | fieldAddr t x f =>
    simp only [trR] at ht
    split at ht
    · rename_i off sz g hf
      split at ht
      · cases ht
      · rename_i hz
        simp only [Option.some.injEq] at ht; subst ht
        obtain ⟨ad, h1, hk⟩ := onP_elim h
        obtain ⟨fs, fd, i, d, e1, e2, e3, e4, rfl, rfl, rfl⟩ := fieldOf_spec hf
        exact ⟨_, hk, fun w _ _ => by simp [execOp, hA.ev h1, Instr.fieldAt, run_underlying e1, e2, Instr.sureAddr, fieldPlace, run_sizeOf e3, hz]⟩
    · cases ht
  | field t x f =>
    simp only [trR] at ht
    split at ht
    · rename_i off sz g hf
      obtain ⟨fs, fd, i, d, e1, e2, e3, e4, rfl, rfl, rfl⟩ := fieldOf_spec hf
      split at ht
      · rename_i hg
        simp only [Option.some.injEq] at ht; subst ht
        simp only [rdK] at h
        obtain ⟨cs, h1, hk⟩ := onA_elim h
        refine ⟨_, hk, fun w _ _ => ?_⟩
        simp [execOp, hA.ev h1, Instr.field, run_underlying e1, e2, asAgg, run_part e3 e4, hg]
        apply Array.ext'
        simp
      · rename_i hg
        simp only [Option.some.injEq] at ht; subst ht
        simp only [rdK] at h
        obtain ⟨cs, h1, v, hv, hk⟩ := onA_elim h
        refine ⟨_, hk, fun w _ _ => ?_⟩
        have hv' : cs[fd.offset]? = some v := by simpa using hv
        simp [execOp, hA.ev h1, Instr.field, run_underlying e1, e2, asAgg, run_part e3 e4, hg, hv']
    · cases ht
  | indexAddr t x ix =>
    simp only [trR] at ht
    split at ht
    · rename_i e he
      rw [Option.map_eq_some_iff] at ht
      obtain ⟨inf, hi, rfl⟩ := ht
      obtain ⟨ad, l, c, h1, h⟩ := onL_elim h
      obtain ⟨kk, j, h2, ad', rfl, hj0, hj1, hk⟩ := onI_elim h
      refine ⟨_, hk, fun w _ _ => ?_⟩
      simp [execOp, hA.ev h1, hA.ev h2, Instr.indexAt, run_underlying he, asIntOf, hj0, hj1, run_sizeOf hi]
    · cases ht
  | index t x ix =>
    simp only [trR] at ht
    split at ht
    · rename_i he
      simp only [Option.some.injEq] at ht; subst ht
      obtain ⟨s, h1, h⟩ := onS_elim h
      obtain ⟨kk, j, h2, hj0, hj1, hk⟩ := onI_elim h
      refine ⟨_, hk, fun w _ _ => ?_⟩
      simp [execOp, hA.ev h1, hA.ev h2, Instr.index, run_underlying he, asIntOf, hj0, hj1]
    · cases ht
  | binOp bop t x y ty =>
    simp only [trR] at ht
    split at ht
    · simp only [Option.some.injEq] at ht; subst ht
      obtain ⟨ka, i, h1, h⟩ := onI_elim h
      obtain ⟨kb, j, h2, h⟩ := onI_elim h
      obtain ⟨v, hk, hr⟩ := iop_run (t := t) (P := P) h
      exact ⟨v, hk, fun w _ _ => rd_bin (by simp) (by simp) (hA.ev h1) (hA.ev h2) (hr w) rfl⟩
    · rename_i he
      split at ht
      · simp only [Option.some.injEq] at ht; subst ht
        obtain ⟨i, h1, h⟩ := onB_elim h
        obtain ⟨j, h2, hk⟩ := onB_elim h
        refine ⟨_, hk, fun w _ _ => rd_bin (by simp) (by simp) (hA.ev h1) (hA.ev h2) ?_ rfl⟩
        simp [binOp, eq_bool he]
      · simp only [Option.some.injEq] at ht; subst ht
        obtain ⟨i, h1, h⟩ := onB_elim h
        obtain ⟨j, h2, hk⟩ := onB_elim h
        refine ⟨_, hk, fun w _ _ => rd_bin (by simp) (by simp) (hA.ev h1) (hA.ev h2) ?_ rfl⟩
        simp [binOp, eq_bool he]
      · cases ht
    · simp only [Option.some.injEq] at ht; subst ht
      obtain ⟨i, h1, h⟩ := onS_elim h
      obtain ⟨j, h2, h⟩ := onS_elim h
      cases bop <;> simp only at h
      case eql => exact ⟨_, h, fun w _ _ => rd_bin (by simp) (by simp) (hA.ev h1) (hA.ev h2) (by simp [binOp, Op.stringOp]) rfl⟩
      case neq => exact ⟨_, h, fun w _ _ => rd_bin (by simp) (by simp) (hA.ev h1) (hA.ev h2) (by simp [binOp, Op.stringOp]) rfl⟩
      case add =>
        refine ⟨_, h.2, fun w _ _ => rd_bin (by simp) (by simp) (hA.ev h1) (hA.ev h2) ?_ rfl⟩
        simp only [binOp, Op.stringOp]
        rw [if_neg (by have := h.1; have e : IntKind.max .i64 = 9223372036854775807 := by decide
                       rw [e]; omega)]
        simp
    · rename_i el he
      split at ht
      · simp only [Option.some.injEq] at ht; subst ht
        obtain ⟨i, h1, h⟩ := onQ_elim h
        obtain ⟨j, h2, hn, hk⟩ := onQ_elim h
        refine ⟨_, hk, fun w _ _ => rd_bin (by simp) (by simp) (hA.ev h1) (hA.ev h2) ?_ rfl⟩
        simp [binOp, eq_ptr he _ _ hn]
      · simp only [Option.some.injEq] at ht; subst ht
        obtain ⟨i, h1, h⟩ := onQ_elim h
        obtain ⟨j, h2, hn, hk⟩ := onQ_elim h
        refine ⟨_, hk, fun w _ _ => rd_bin (by simp) (by simp) (hA.ev h1) (hA.ev h2) ?_ rfl⟩
        simp [binOp, eq_ptr he _ _ hn]
      · cases ht
    · rename_i el he
      split at ht
      · simp only [Option.some.injEq] at ht; subst ht
        obtain ⟨i, l, c, h1, h⟩ := onL_elim h
        obtain ⟨j, l', c', h2, hn, hk⟩ := onL_elim h
        refine ⟨_, hk, fun w _ _ => rd_bin (by simp) (by simp) (hA.ev h1) (hA.ev h2) ?_ rfl⟩
        simp [binOp, eq_slice he _ _ _ _ _ _ hn]
      · simp only [Option.some.injEq] at ht; subst ht
        obtain ⟨i, l, c, h1, h⟩ := onL_elim h
        obtain ⟨j, l', c', h2, hn, hk⟩ := onL_elim h
        refine ⟨_, hk, fun w _ _ => rd_bin (by simp) (by simp) (hA.ev h1) (hA.ev h2) ?_ rfl⟩
        simp [binOp, eq_slice he _ _ _ _ _ _ hn]
      · cases ht
    · cases ht
  | unOp uop t x =>
    cases uop <;> simp only [trR, Option.some.injEq, reduceCtorEq] at ht
    case not =>
      subst ht
      obtain ⟨b, h1, hk⟩ := onB_elim h
      exact ⟨_, hk, fun w _ _ => by simp [execOp, hA.ev h1, Op.unary]⟩
    case neg =>
      subst ht
      simp only [rdK] at h
      obtain ⟨ka, i, h1, hk⟩ := onI_elim h
      exact ⟨_, hk, fun w _ _ => by simp [execOp, hA.ev h1, Op.unary, Op.intArith]⟩
  | convert s t x =>
    simp only [trR] at ht
    split at ht
    · rename_i d kk hd hkk
      simp only [Option.some.injEq] at ht; subst ht
      obtain ⟨ka, i, h1, hk⟩ := onI_elim h
      exact ⟨_, hk, fun w _ _ => by simp [execOp, hA.ev h1, convert, run_underlying hd, run_underlying hkk, Conv.intToInt]⟩
    · rename_i e hs hst
      split at ht
      · rename_i hu
        simp only [Option.some.injEq] at ht; subst ht
        obtain ⟨ad, l, c, h1, bs, hl, hr, hn, hk⟩ := onL_elim h
        refine ⟨_, hk, fun w hsat hL => ?_⟩
        subst hl
        have := run_bytesToString (P := P) (w := w) (c := c) (fun ad' e j u hu => (hr ad' e).cell hsat hL hu) hn
        simp [execOp, hA.ev h1, convert, run_underlying hs, run_underlying hst, run_underlying hu, this]
      · cases ht
    · cases ht
  | makeFunc f first cap =>
    cases f <;> simp only [trR, reduceCtorEq] at ht
    simp only [Option.some.injEq] at ht; subst ht
    simp only [rdK] at h
    have h1 := hA.evs h
    have h2 := hA.evs h1
    refine ⟨_, h2, fun w _ _ => ?_⟩
    simp only [execOp, Instr.makeFunc, Sem.run_bind, Sem.run_pure, Result.andThen_ok]
    congr 3 <;> (apply Array.ext'; simp)
  | slice t x lo hi mx =>
    simp only [trR] at ht
    split at ht
    · rename_i e he
      rw [Option.map_eq_some_iff] at ht
      obtain ⟨inf, hi', rfl⟩ := ht
      obtain ⟨ad, l, c, h1, h⟩ := onL_elim h
      obtain ⟨v, hk, hr⟩ := slc_run he hi' hA (hA.ev h1) h
      exact ⟨v, hk, fun w _ _ => by simp [execOp, hr]⟩
    · rename_i he
      split at ht
      · simp only [Option.some.injEq] at ht; subst ht
        obtain ⟨s, h1, h⟩ := onS_elim h
        obtain ⟨v, hk, hr⟩ := slcs_run he hA (hA.ev h1) h
        exact ⟨v, hk, fun w _ _ => by simp [execOp, hr]⟩
      · cases ht
    · cases ht
  | build t parts =>
    simp only [trR] at ht
    split at ht
    · rename_i zs pl hz hp
      rw [Option.map_eq_some_iff] at ht
      obtain ⟨q, hq, rfl⟩ := ht
      obtain ⟨cs', hf, hk⟩ := partsOf_spec hq hA zs _ h
      refine ⟨_, hk, fun w _ _ => ?_⟩
      have := placesOf_run hp hz (parts.map fun (i, x) => (i, a.eval x)) cs' (by rw [← hf]; simp) w
      simp only [execOp]
      rw [Sem.run_bind, this]
      rfl
    · cases ht
  | extract x ix =>
    simp only [trR, Option.some.injEq] at ht; subst ht
    simp only [rdK] at h
    obtain ⟨cs, h1, v, hv, hk⟩ := onT_elim h
    have hv' : cs[ix]? = some v := by simpa using hv
    exact ⟨_, hk, fun w _ _ => by simp [execOp, hA.ev h1, Instr.extract, hv']⟩
  | makeInterface t x =>
    simp only [trR] at ht
    split at ht
    · cases ht
    · cases ht
    · rename_i d hni he
      simp only [Option.some.injEq] at ht; subst ht
      obtain ⟨v, h1, hk⟩ := onV_elim h
      refine ⟨_, hk, fun w _ _ => ?_⟩
      simp only [execOp, hA.ev h1, Sem.run_bind, Instr.makeInterface, run_underlying he, Result.andThen_ok]
      cases d <;> first | rfl | exact absurd he (hni _)
  | call c =>
    obtain ⟨callee, args, argTypes⟩ := c
    cases callee with
    | value f => simp [trR] at ht
    | invoke r m => simp [trR] at ht
    | builtin b =>
      obtain ⟨args⟩ := args
      obtain ⟨argTypes⟩ := argTypes
      cases b <;> simp only [trR, reduceCtorEq] at ht
      case len =>
        split at ht
        · rename_i _ _ x t
          split at ht
          · rename_i he
            simp only [Option.some.injEq] at ht; subst ht
            obtain ⟨ad, l, c, h1, hk⟩ := onL_elim h
            exact ⟨_, hk, fun w _ _ => by simp [execOp, hA.ev h1, resolve, invoke, builtin, Builtin.len_, run_underlying he, goInt]⟩
          · rename_i he
            simp only [Option.some.injEq] at ht; subst ht
            obtain ⟨s, h1, hk⟩ := onS_elim h
            exact ⟨_, hk, fun w _ _ => by simp [execOp, hA.ev h1, resolve, invoke, builtin, Builtin.len_, run_underlying he, goInt]⟩
          · cases ht
        · cases ht
      case max =>
        split at ht
        · rename_i _ x y
          simp only [Option.some.injEq] at ht; subst ht
          obtain ⟨ka, i, h1, h⟩ := onI_elim h
          obtain ⟨kb, j, h2, hk⟩ := onI_elim h
          exact ⟨_, hk, fun w _ _ => by simp [execOp, hA.ev h1, hA.ev h2, resolve, invoke, builtin, Builtin.max_, Builtin.max2]⟩
        · cases ht
      case min =>
        split at ht
        · rename_i _ x y
          simp only [Option.some.injEq] at ht; subst ht
          obtain ⟨ka, i, h1, h⟩ := onI_elim h
          obtain ⟨kb, j, h2, hk⟩ := onI_elim h
          exact ⟨_, hk, fun w _ _ => by simp [execOp, hA.ev h1, hA.ev h2, resolve, invoke, builtin, Builtin.min_, Builtin.min2]⟩
        · cases ht
  | _ => simp [trR] at ht
end
end Go.Sy
