import Derived.Test.YtpddchnapcmmkaaSy4
namespace Go.Sy
open Go Go.RowKit
section
variable {P : Program} {n : Nat} {a : Act} {env : Env}
theorem val_of {v : Value} {w : World} {s : Sem Value} (h : s.run P w = .ok v w) : (do pure (Next.value (← s)) : Sem Next).run P w = .ok (.value v) w := by
  simp [h]
theorem eqGuard_other (op : BinOp) (t : TypeId) (x y : Operand) (u v : Value) (w : World) (h : ∀ l, u ≠ .agg l) (h2 : u ≠ .nilIface) : (eqGuard op t x y u v).run P w = .ok () w := by
  cases u <;> first
    | exact absurd rfl h2
    | exact absurd rfl (h _)
    | (cases op <;> simp [eqGuard])
theorem rd_bin {op : BinOp} {t : TypeId} {x y : Operand} {ty : TypeId} {u v r : Value} {w : World} (h : ∀ l, u ≠ .agg l) (h2 : u ≠ .nilIface) (hx : a.eval x = u) (hy : a.eval y = v) (hb : (binOp op t u v).run P w = .ok r w) {o : Oper} (ho : o.op = .binOp op t x y ty) :
    (execOp a.eval o).run P w = .ok (.value r) w := by
  simp [execOp, ho, hx, hy, eqGuard_other op t x y u v w h h2, hb]
theorem iop_run {op : BinOp} {t : TypeId} {ka kb : IntKind} {i j : Int} {k : Value → Prop} (h : iop op ka i kb j k) : ∃ v, k v ∧ ∀ w, (binOp op t (.int ka i) (.int kb j)).run P w = .ok v w := by
  cases op <;> simp only [iop] at h
  case shl => exact ⟨_, h.2, fun w => by simp [binOp, Op.shift, show ¬ j < 0 from by omega]⟩
  case shr => exact ⟨_, h.2, fun w => by simp [binOp, Op.shift, show ¬ j < 0 from by omega]⟩
  case quo => obtain ⟨rfl, h0, h⟩ := h; exact ⟨_, h, fun w => by simp [binOp, Op.intDiv, h0]⟩
  case rem => obtain ⟨rfl, h0, h⟩ := h; exact ⟨_, h, fun w => by simp [binOp, Op.intDiv, h0]⟩
  case and => obtain ⟨rfl, h⟩ := h; exact ⟨_, h, fun w => by simp [binOp]; rfl⟩
  case or => obtain ⟨rfl, h⟩ := h; exact ⟨_, h, fun w => by simp [binOp]; rfl⟩
  case xor => obtain ⟨rfl, h⟩ := h; exact ⟨_, h, fun w => by simp [binOp]; rfl⟩
  case andNot => obtain ⟨rfl, h⟩ := h; exact ⟨_, h, fun w => by simp [binOp]; rfl⟩
  all_goals (obtain ⟨rfl, h⟩ := h; exact ⟨_, h, fun w => by simp [binOp, Op.intArith, Op.intCmp]⟩)
theorem sliceBound_ok {k : IntKind} {i : Int} {y : Nat} {c : BoundsCode} {w : World} (h0 : 0 ≤ i) (h1 : i ≤ y) : (Instr.sliceBound (.int k i) y c).run P w = .ok i.toNat w := by
  simp [Instr.sliceBound, asIntOf, h0, h1]
/-- What an operand of a slice expression is. -/
theorem optI_elim {x : Option Operand} {d : Nat} {k : Int → Prop} (hA : Agree n a env) (h : optI env (x.map VX.of) d k) : (x = none ∧ k d) ∨ ∃ y kk i, x = some y ∧ a.eval y = .int kk i ∧ k i := by
  cases x with
  | none => exact .inl ⟨rfl, h⟩
  | some y =>
    obtain ⟨kk, i, h1, h2⟩ := onI_elim h
    exact .inr ⟨y, kk, i, rfl, hA.ev h1, h2⟩
theorem slc_run {t e : TypeId} {inf : TypeInfo} (ht : P.underlying t = some (.slice e)) (hi : P.info? e = some inf) {ad : Option Addr} {l c : Nat} {lo hi' mx : Option Operand} {x : Operand} {k : Value → Prop} (hA : Agree n a env) (hx : a.eval x = .slice ad l c)
    (h : optI env (mx.map VX.of) c fun m => optI env (hi'.map VX.of) l fun h => optI env (lo.map VX.of) 0 fun lw => 0 ≤ lw ∧ lw ≤ h ∧ h ≤ m ∧ m ≤ c ∧ (mx.map VX.of ≠ none → hi'.map VX.of ≠ none) ∧ k (.slice (if m.toNat = lw.toNat then ad else ad.map (·.add (lw.toNat * inf.size))) (h.toNat - lw.toNat) (m.toNat - lw.toNat))) :
    ∃ v, k v ∧ ∀ w, (Instr.sliceAt t (a.eval x) (lo.map a.eval) (hi'.map a.eval) (mx.map a.eval)).run P w = .ok v w := by
  rcases optI_elim hA h with ⟨q1, ha⟩ | ⟨ym, km, im, q1, em, ha⟩ <;> rcases optI_elim hA ha with ⟨q2, hb⟩ | ⟨yh, kh, ih, q2, eh, hb⟩ <;> rcases optI_elim hA hb with ⟨q3, hc⟩ | ⟨yl, kl, il, q3, el, hc⟩ <;>
    obtain ⟨h1, h2, h3, h4, h5, h6⟩ := hc <;> clear h ha hb <;> subst q1 <;> subst q2 <;> subst q3
  all_goals first
    | (exfalso; simp at h5; done)
    | refine ⟨_, h6, fun w => ?_⟩
      simp only [Instr.sliceAt, Sem.run_bind, run_underlying ht, Result.andThen_ok, Instr.slice, Option.map_some, Option.map_none, Instr.sliceBounds, *, Sem.run_pure, Option.isSome_some, Option.isSome_none]
      first
        | (simp [sliceBound_ok, run_sizeOf hi, *]; done)
        | (rw [sliceBound_ok (by omega) (by omega)]; simp [run_sizeOf hi]; done)
        | (rw [sliceBound_ok (by omega) (by omega)]; simp only [Result.andThen_ok]; rw [sliceBound_ok (by omega) (by omega)]; simp [run_sizeOf hi]; done)
        | (rw [sliceBound_ok (by omega) (by omega)]; simp only [Result.andThen_ok]; rw [sliceBound_ok (by omega) (by omega)]; simp only [Result.andThen_ok]; rw [sliceBound_ok (by omega) (by omega)]; simp [run_sizeOf hi]; done)
theorem slcs_run {t : TypeId} (ht : P.underlying t = some .string) {s : ByteArray} {lo hi' : Option Operand} {x : Operand} {k : Value → Prop} (hA : Agree n a env) (hx : a.eval x = .string s)
    (h : optI env (hi'.map VX.of) s.size fun h => optI env (lo.map VX.of) 0 fun lw => 0 ≤ lw ∧ lw ≤ h ∧ h ≤ s.size ∧ k (.string (s.extract lw.toNat h.toNat))) :
    ∃ v, k v ∧ ∀ w, (Instr.sliceAt t (a.eval x) (lo.map a.eval) (hi'.map a.eval) none).run P w = .ok v w := by
  rcases optI_elim hA h with ⟨q1, ha⟩ | ⟨yh, kh, ih, q1, eh, ha⟩ <;> rcases optI_elim hA ha with ⟨q2, hb⟩ | ⟨yl, kl, il, q2, el, hb⟩ <;>
    obtain ⟨h1, h2, h3, h6⟩ := hb <;> clear h ha <;> subst q1 <;> subst q2
  all_goals
    refine ⟨_, h6, fun w => ?_⟩
    simp only [Instr.sliceAt, Sem.run_bind, run_underlying ht, Result.andThen_ok, Instr.slice, Option.map_some, Option.map_none, Instr.sliceBounds, *, Sem.run_pure, Option.isSome_some, Option.isSome_none, Bool.false_eq_true, if_false, Sem.run_bind]
    first
      | (simp; done)
      | (rw [sliceBound_ok (by omega) (by omega)]; simp; done)
      | (rw [sliceBound_ok (by omega) (by omega)]; simp only [Result.andThen_ok]; rw [sliceBound_ok (by omega) (by omega)]; simp; done)
end
end Go.Sy
