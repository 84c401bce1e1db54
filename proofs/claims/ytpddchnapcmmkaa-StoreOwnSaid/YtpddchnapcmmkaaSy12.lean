import Derived.Test.YtpddchnapcmmkaaSy11
namespace Go.Sy
open Go Go.RowKit
section
variable {P : Program} {n : Nat} {pk : List Nat} {code : Code}
theorem trC_skip (h : trC P n pk code = some .skip) : code = .skip := by
  unfold trC at h; split at h <;> (try split at h) <;> first | rfl | (simp at h; done)
theorem trC_ret (h : trC P n pk code = some .ret) : code = .ret := by
  unfold trC at h; split at h <;> (try split at h) <;> first | rfl | (simp at h; done)
theorem trC_exit {i : Nat} (h : trC P n pk code = some (.exit i)) : code = .exit i := by
  unfold trC at h; split at h <;> (try split at h) <;> first | (simp at h; done) | (simp only [Option.some.injEq, VCode.exit.injEq] at h; rw [h])
theorem trC_seq {a b : VCode} (h : trC P n pk code = some (.seq a b)) : ∃ x y, code = .seq x y ∧ trC P n pk x = some a ∧ trC P n pk y = some b := by
  unfold trC at h; split at h <;> (try split at h) <;> first | (simp at h; done) | (rename_i x y _ _ _ _ hx hy; simp only [Option.some.injEq, VCode.seq.injEq] at h; obtain ⟨rfl, rfl⟩ := h; exact ⟨x, y, rfl, hx, hy⟩)
theorem trC_cond {c : VX} {a b : VCode} (h : trC P n pk code = some (.cond c a b)) : ∃ o x y, code = .cond o x y ∧ c = VX.of o ∧ trC P n pk x = some a ∧ trC P n pk y = some b := by
  unfold trC at h; split at h <;> (try split at h) <;> first | (simp at h; done) | (rename_i o x y _ _ _ _ hx hy; simp only [Option.some.injEq, VCode.cond.injEq] at h; obtain ⟨rfl, rfl, rfl⟩ := h; exact ⟨o, x, y, rfl, rfl, hx, hy⟩)
theorem trC_block {i : Nat} {a : VCode} (h : trC P n pk code = some (.block i a)) : ∃ x, code = .block i x ∧ trC P n pk x = some a := by
  unfold trC at h; split at h <;> (try split at h) <;> first | (simp at h; done) | (rename_i j x; rw [Option.map_eq_some_iff] at h; obtain ⟨p, hp, h⟩ := h; simp only [VCode.block.injEq] at h; obtain ⟨rfl, rfl⟩ := h; exact ⟨x, rfl, hp⟩)
theorem trC_loop {a : VCode} (h : trC P n pk code = some (.loop a)) : ∃ x, code = .loop x ∧ trC P n pk x = some a := by
  unfold trC at h; split at h <;> (try split at h) <;> first | (simp at h; done) | (rename_i x; rw [Option.map_eq_some_iff] at h; obtain ⟨p, hp, h⟩ := h; simp only [VCode.loop.injEq] at h; obtain rfl := h; exact ⟨x, rfl, hp⟩)
theorem trC_reg {ops : List VO} (h : trC P n pk code = some (.reg ops)) : ∃ id oo, code = .region id oo false ∧ (List.range oo.size).mapM (fun i => (oo[i]?).bind (trO P n pk oo)) = some ops := by
  unfold trC at h; split at h <;> (try split at h) <;> first | (simp at h; done) | (rename_i id oo; rw [Option.map_eq_some_iff] at h; obtain ⟨p, hp, h⟩ := h; simp only [VCode.reg.injEq] at h; obtain rfl := h; exact ⟨id, oo, rfl, hp⟩)
theorem trC_draw {s : Sched} (h : trC P n pk code = some (.draw s)) : ∃ id oo, code = .region id oo true ∧ Region.noSelect oo = true ∧ mkS P n pk oo oo.size (Array.replicate oo.size false) = some s := by
  unfold trC at h; split at h <;> (try split at h) <;> first | (simp at h; done) | (rename_i id oo hs; rw [Option.map_eq_some_iff] at h; obtain ⟨p, hp, h⟩ := h; simp only [VCode.draw.injEq] at h; obtain rfl := h; exact ⟨id, oo, rfl, hs, hp⟩)
end
section
variable {Γ : Ctx} {env : Env} {G : Stab} {L : List Ent} {Q : Post}
theorem VC.sub {c : VCode} (e : Env) (hs : e.Sub env) (h : VC Γ c e G L Q) : VC Γ c env G L Q := fun code ht a w hA hS => h code ht a w (hA.sub hs) hS
theorem VC.perm {c : VCode} {L' : List Ent} (hp : L.Perm L') (h : VC Γ c env G L' Q) : VC Γ c env G L Q := fun code ht a w hA hS => h code ht a w hA (hS.perm hp)
theorem VC.drop {c : VCode} {L' : List Ent} (hp : L'.Sublist L) (h : VC Γ c env G L' Q) : VC Γ c env G L Q := fun code ht a w hA hS => h code ht a w hA (hS.drop hp)
/-- What is known of the state. -/
theorem VC.facts {c : VCode} {φ : Prop} (hf : ∀ w, Inst G L w → φ) (h : φ → VC Γ c env G L Q) : VC Γ c env G L Q := fun code ht a w hA hS => h (hf w hS.inst) code ht a w hA hS
/-- One's own, not written any more: it stands fast. -/
theorem VC.fixObj {c : VCode} {b : Nat} {cs : List Value} {ty : TypeId} {L1 : List Ent} (hp : L.Perm (L1 ++ [.obj b cs ty])) (h : ∀ G', G.Le G' → G'.has ⟨b, 0, none⟩ cs → VC Γ c env G' L1 Q) : VC Γ c env G L Q := by
  intro code ht a w hA hS
  have hS' := hS.perm hp
  have hok : w.heap[b]? = some (.cells ⟨cs⟩ ty (0, 0)) := hS'.inst.oks (.obj b cs ty) (by simp)
  exact h (G.put b cs) (Stab.put_le (hS'.inst.away (.obj b cs ty) (by simp) b rfl)) (Stab.put_has _ _ _) code ht a w hA (St.fix hS' rfl ⟨_, _, _, hok, List.prefix_refl _⟩)
theorem VC.fixAcc {c : VCode} {v : Value} {n : Nat} {xs : List Value} {e : TypeId} {sz : Nat} {L1 : List Ent} (hp : L.Perm (L1 ++ [.acc v n xs e sz]))
    (h : ∀ G' A cap, G.Le G' → v = .slice A n cap → n ≤ cap → (A = none → n = 0) → xs.length = n * sz → (∀ ad, A = some ad → G'.has ad xs) → VC Γ c env G' L1 Q) : VC Γ c env G L Q := by
  intro code ht a w hA hS
  have hS' := hS.perm hp
  have hok : w.ownsRow 0 e sz v n xs := hS'.inst.oks (.acc v n xs e sz) (by simp)
  rcases hok.2 with ⟨rfl, rfl⟩ | ⟨g, cap, cur, rfl, _, hg, hn, hm, hcs, htk⟩
  · exact h G none 0 (Stab.Le.refl _) rfl (Nat.le_refl _) (fun _ => rfl) hok.1 (fun ad e => by cases e) code ht a w hA (hS'.drop (by simp))
  · exact h (G.put g xs) (some ⟨g, 0, none⟩) cap (Stab.put_le (hS'.inst.away (.acc (.slice (some ⟨g, 0, none⟩) n cap) n xs e sz) (by simp) g rfl)) rfl hn (fun e => by cases e) hok.1 (fun ad e => by cases e; exact Stab.put_has _ _ _) code ht a w hA
      (St.fix hS' rfl ⟨_, _, _, hg, by rw [← htk]; exact List.take_prefix _ _⟩)
/-- A nil slice is one's own. -/
theorem VC.nilAcc {c : VCode} (e : TypeId) (sz : Nat) (h : VC Γ c env G (L ++ [.acc (.slice none 0 0) 0 [] e sz]) Q) : VC Γ c env G L Q := fun code ht a w hA hS => by
  have := (show St Γ.w0 Γ.G0 Γ.F G (L ++ []) w from by simpa using hS).nilAcc e sz
  exact h code ht a w hA (by simpa using this)
/-- A block of one's own is a row to which one may append. -/
theorem VC.toAcc {c : VCode} {b : Nat} {cs : List Value} {ty : TypeId} {sz n : Nat} {L1 : List Ent} (hp : L.Perm (L1 ++ [.obj b cs ty])) (hn : cs.length = n * sz) (hm : n ≤ 9223372036854775807)
    (h : VC Γ c env G (L1 ++ [.acc (.slice (some ⟨b, 0, none⟩) n n) n cs ty sz]) Q) : VC Γ c env G L Q := by
  intro code ht a w hA hS
  have hS' := hS.perm hp
  have hok : w.heap[b]? = some (.cells ⟨cs⟩ ty (0, 0)) := hS'.inst.oks (.obj b cs ty) (by simp)
  refine h code ht a w hA ⟨⟨hS'.inst.sat, fun x hx => ?_, ?_, fun x hx c hc => ?_⟩, hS'.ext, fun x hx c hc => ?_⟩
  · rcases List.mem_append.1 hx with hx | hx
    · exact hS'.inst.oks x (List.mem_append_left _ hx)
    · rw [List.mem_singleton.1 hx]
      exact ⟨hn, .inr ⟨b, n, ⟨cs⟩, rfl, Nat.zero_le _, hok, Nat.le_refl _, by simpa [maxLen] using hm, by simpa using hn, by rw [← hn]; simp⟩⟩
  · refine List.pairwise_append.2 ⟨(List.pairwise_append.1 hS'.inst.dis).1, List.pairwise_singleton _ _, fun y hy z hz c hyc hzc => ?_⟩
    rw [List.mem_singleton.1 hz] at hzc
    exact (List.pairwise_append.1 hS'.inst.dis).2.2 y hy (.obj b cs ty) (by simp) c hyc (by simpa [Ent.blk, Value.ownBlock] using hzc)
  · rcases List.mem_append.1 hx with hx | hx
    · exact hS'.inst.away x (List.mem_append_left _ hx) c hc
    · rw [List.mem_singleton.1 hx] at hc
      exact hS'.inst.away (.obj b cs ty) (by simp) c (by simpa [Ent.blk, Value.ownBlock] using hc)
  · rcases List.mem_append.1 hx with hx | hx
    · exact hS'.own x (List.mem_append_left _ hx) c hc
    · rw [List.mem_singleton.1 hx] at hc
      exact hS'.own (.obj b cs ty) (by simp) c (by simpa [Ent.blk, Value.ownBlock] using hc)

theorem lft_mono {Q Q' : Post} {e : Exit} {a : Act} {w : World} (h : lft Γ Q e a w) (hq : ∀ env G L, Q e env G L → Q' e env G L) : lft Γ Q' e a w := by
  obtain ⟨env, G, L, h1, h2, h3, h4⟩ := h
  exact ⟨env, G, L, h1, h2, h3, hq _ _ _ h4⟩
theorem VC.mono {c : VCode} {Q' : Post} (h : VC Γ c env G L Q) (hq : ∀ e env G L, Q e env G L → Q' e env G L) : VC Γ c env G L Q' := fun code ht a w hA hS => wp_mono (h code ht a w hA hS) fun _ _ _ h => lft_mono h (hq _)
theorem VC.skip (h : Q .normal env G L) : VC Γ .skip env G L Q := by
  intro code ht a w hA hS
  obtain rfl := trC_skip ht
  exact wp_skip ⟨env, G, L, hA, hS, trivial, h⟩
theorem VC.ret (h : Q .ret env G L) : VC Γ .ret env G L Q := by
  intro code ht a w hA hS
  obtain rfl := trC_ret ht
  exact wp_ret ⟨env, G, L, hA, hS, trivial, h⟩
theorem VC.exit {id : Nat} (h : Q (.exit id) env G L) : VC Γ (.exit id) env G L Q := by
  intro code ht a w hA hS
  obtain rfl := trC_exit ht
  exact wp_exit ⟨env, G, L, hA, hS, trivial, h⟩
def thn (K : Env → Stab → List Ent → Prop) (Q : Post) : Post := fun e env G L => match e with | .normal => K env G L | e => Q e env G L
@[go_sem] theorem thn_normal (K : Env → Stab → List Ent → Prop) (Q : Post) : thn K Q .normal = K := rfl
@[go_sem] theorem thn_ret (K : Env → Stab → List Ent → Prop) (Q : Post) : thn K Q .ret = Q .ret := rfl
@[go_sem] theorem thn_exit (K : Env → Stab → List Ent → Prop) (Q : Post) (i : Nat) : thn K Q (.exit i) = Q (.exit i) := rfl
@[go_sem] theorem thn_panic (K : Env → Stab → List Ent → Prop) (Q : Post) (c : List PanicEntry) : thn K Q (.panic c) = Q (.panic c) := rfl
theorem VC.seq {x y : VCode} (h : VC Γ x env G L (thn (fun env G L => VC Γ y env G L Q) Q)) : VC Γ (.seq x y) env G L Q := by
  intro code ht a w hA hS
  obtain ⟨c, d, rfl, hp, hq⟩ := trC_seq ht
  refine wp_seq (wp_mono (h c hp a w hA hS) ?_)
  intro e a' w' hh
  obtain ⟨env', G', L', h1, h2, h3, h4⟩ := hh
  cases e with
  | normal => exact h4 d hq a' w' h1 h2
  | _ => exact ⟨env', G', L', h1, h2, h3, h4⟩
theorem VC.cond {x y : VCode} {c : VX} (h : onB (env.ev c) fun b => (b = true → VC Γ x env G L Q) ∧ (b = false → VC Γ y env G L Q)) : VC Γ (.cond c x y) env G L Q := by
  intro code ht a w hA hS
  obtain ⟨o, c, d, rfl, rfl, hp, hq⟩ := trC_cond ht
  obtain ⟨b, hb, h1, h2⟩ := onB_elim h
  refine wp_cond (hA.ev hb) ?_
  cases b with
  | true => exact h1 rfl c hp a w hA hS
  | false => exact h2 rfl d hq a w hA hS
def blkQ (id : Nat) (Q : Post) : Post := fun e env G L => match e with | .exit i => if i = id then Q .normal env G L else Q (.exit i) env G L | e => Q e env G L
@[go_sem] theorem blkQ_normal (id : Nat) (Q : Post) : blkQ id Q .normal = Q .normal := rfl
@[go_sem] theorem blkQ_ret (id : Nat) (Q : Post) : blkQ id Q .ret = Q .ret := rfl
@[go_sem] theorem blkQ_panic (id : Nat) (Q : Post) (c : List PanicEntry) : blkQ id Q (.panic c) = Q (.panic c) := rfl
@[go_sem] theorem blkQ_exit (id : Nat) (Q : Post) (i : Nat) : blkQ id Q (.exit i) = if i = id then Q .normal else Q (.exit i) := by funext env G L; simp only [blkQ]; split <;> rfl
theorem VC.block {b : VCode} {id : Nat} (h : VC Γ b env G L (blkQ id Q)) : VC Γ (.block id b) env G L Q := by
  intro code ht a w hA hS
  obtain ⟨c, rfl, hp⟩ := trC_block ht
  refine wp_block (wp_mono (h c hp a w hA hS) ?_)
  intro e a' w' hh
  obtain ⟨env', G', L', h1, h2, h3, h4⟩ := hh
  cases e with
  | exit j =>
    simp only [blkQ] at h4
    simp only [Exit.inBlock]
    split
    · rename_i hj; rw [if_pos hj] at h4; exact ⟨env', G', L', h1, h2, trivial, h4⟩
    · rename_i hj; rw [if_neg hj] at h4; exact ⟨env', G', L', h1, h2, trivial, h4⟩
  | _ => exact ⟨env', G', L', h1, h2, h3, h4⟩
/-- A loop: what holds of each round's head, by a name x for the round; a number that falls. -/
theorem VC.loop {b : VCode} {X : Type} (E : X → Env) (I : X → Stab → List Ent → Prop) (m : X → Nat) (x0 : X) (hE : (E x0).Sub env) (h0 : I x0 G L)
    (h : ∀ x G L, I x G L → VC Γ b (E x) G L (thn (fun env' G' L' => ∃ x', m x' < m x ∧ (E x').Sub env' ∧ I x' G' L') Q)) : VC Γ (.loop b) env G L Q := by
  intro code ht a w hA hS
  obtain ⟨c, rfl, hp⟩ := trC_loop ht
  have key : ∀ (k : Nat) (x : X) (a : Act) (w : World), m x = k → Agree Γ.n a (E x) → (∃ G L, St Γ.w0 Γ.G0 Γ.F G L w ∧ I x G L) →
      ∀ (fb : Frame) (kk : List Item) (cs : List Frame), ∃ e a' w', lft Γ Q e a' w' ∧ Arrives Γ.P (lone (fb.at a (.code c :: .inLoop c :: kk)) cs w) fb kk cs e a' w' := by
    intro k
    induction k using Nat.strongRecOn with
    | _ k ih =>
      rintro x a w hk hA ⟨G, L, hS, hI⟩ fb kk cs
      obtain ⟨e, a₁, w₁, ⟨env', G', L', h1, h2, h3, h4⟩, harr⟩ := h x G L hI c hp a w hA hS fb (.inLoop c :: kk) cs
      cases e with
      | normal =>
        obtain ⟨x', hlt, hsub, hI'⟩ := h4
        obtain ⟨e₂, a₂, w₂, hq₂, harr₂⟩ := ih (m x') (hk ▸ hlt) x' a₁ w₁ rfl (h1.sub hsub) ⟨G', L', h2, hI'⟩ fb kk cs
        exact ⟨e₂, a₂, w₂, hq₂, .of_steps (Steps.trans harr (.one step_inLoop)) harr₂⟩
      | exit id => exact ⟨_, a₁, w₁, ⟨env', G', L', h1, h2, h3, h4⟩, .pass (x := .inLoop c) rfl (fun _ _ => .inl (by simp)) harr⟩
      | goto l => exact ⟨_, a₁, w₁, ⟨env', G', L', h1, h2, h3, h4⟩, .pass (x := .inLoop c) rfl (fun _ _ => .inl (by simp)) harr⟩
      | ret => exact ⟨_, a₁, w₁, ⟨env', G', L', h1, h2, h3, h4⟩, .pass (x := .inLoop c) rfl (fun _ _ => .inl (by simp)) harr⟩
      | panic ch => exact ⟨_, a₁, w₁, ⟨env', G', L', h1, h2, h3, h4⟩, .pass (x := .inLoop c) rfl (fun _ _ => .inl (by simp)) harr⟩
      | outgrown => exact ⟨_, a₁, w₁, ⟨env', G', L', h1, h2, h3, h4⟩, .pass (x := .inLoop c) rfl (fun _ _ => .inl (by simp)) harr⟩
  intro fb kk cs
  obtain ⟨e, a', w', hq, harr⟩ := key (m x0) x0 a w rfl (hA.sub hE) ⟨G, L, hS, h0⟩ fb kk cs
  exact ⟨e, a', w', hq, .of_steps (.one step_loop) harr⟩
theorem lft_panic {Q : Post} {c : List PanicEntry} {env : Env} {G : Stab} {L : List Ent} {a : Act} {w : World} (hA : Agree Γ.n a env) (hS : St Γ.w0 Γ.G0 Γ.F G L w) (h : Q (.panic c) (env.only Γ.pk) G L) : lft Γ Q (.panic c) a w :=
  ⟨env.only Γ.pk, G, L, hA.only _, hS, fun _ hp => only_mem hp, h⟩
/-- A row of operations in the order of the text. -/
theorem VC.reg {ops : List VO} (h : ∀ K : Env → Stab → List Ent → Prop, (∀ env' G' L', Q .normal (env'.only Γ.keep) G' L' → K env' G' L') → vops Γ.P ops env G L K (fun c env' G' L' => Q (.panic c) (env'.only Γ.pk) G' L')) : VC Γ (.reg ops) env G L Q := by
  intro code ht a w hA hS
  obtain ⟨id, oo, rfl, hv⟩ := trC_reg ht
  refine wp_region ?_
  have := h (fun env' G' L' => Q .normal (env'.only Γ.keep) G' L') (fun _ _ _ h => h)
  exact vops_sound (R := []) _ _ hv env G L a w hA (by simpa using hS) this (fun env' G' L' a' w' h1 h2 h3 => ⟨_, _, _, h1.only _, by simpa using h2, trivial, h3⟩)
    (fun c env' G' L' a' w' h1 h2 h3 => lft_panic h1 (by simpa using h2) h3)
/-- A row of operations in whatever order: what LR names is not touched before its operation. -/
theorem VC.draw {s : Sched} (LE : List Ent) (LR : List Lent) (hp : L.Perm (LE ++ lent LR)) (h : ∀ K : Env → Stab → List Ent → Prop, (∀ env' G' L', Q .normal (env'.only Γ.keep) G' L' → K env' G' L') → vsch Γ.P G LR s env G LE K (fun c env' G' L' => Q (.panic c) (env'.only Γ.pk) G' L')) : VC Γ (.draw s) env G L Q := by
  intro code ht a w hA hS
  obtain ⟨id, oo, rfl, hsel, hv⟩ := trC_draw ht
  have := h (fun env' G' L' => Q .normal (env'.only Γ.keep) G' L') (fun _ _ _ h => h)
  refine wp_region_any Γ.mixed (wpAny_of_J _ _ _ _ (mkS_sound (pk := Γ.pk) (LR0 := LR) hsel (K := fun env' G' L' => Q .normal (env'.only Γ.keep) G' L') (q := fun c env' G' L' => Q (.panic c) (env'.only Γ.pk) G' L')
    (fun env' G' L' a' w' h1 h2 h3 => ⟨_, _, _, h1.only _, h2, trivial, h3⟩) (fun c env' G' L' a' w' h1 h2 h3 => lft_panic h1 h2 h3) ?_ _ _ _ hv env G LE LR a _ hA ((hS.perm hp).same rfl rfl rfl rfl) (Stab.Le.refl _) (fun _ h => h) (fun _ h _ => h) this))
  rintro c a w d v hd ⟨env', G', L', h1, h2, h3, h4⟩
  exact ⟨env', G', L', h1.unput h3 hd, h2, h3, h4⟩
end

/-! ### Functions -/
/-- Where a result lies. -/
inductive VR where
  | tmp (t : Nat)
  | cell1 (t : Nat)
  | cellN (t n : Nat)
structure VFun where
  n : Nat
  res : List VR
  body : VCode
def resOf (P : Program) : List ResultVar → Option (List VR)
  | [] => some []
  | .tmp t :: r => (resOf P r).map (VR.tmp t :: ·)
  | .cell a t :: r => match P.underlying t, P.info? t with
    | some d, some i => (resOf P r).map ((if isAggD d then VR.cellN a i.size else VR.cell1 a) :: ·)
    | _, _ => none
def comp (P : Program) (f : FuncId) : Option VFun :=
  match P.funcs[f]? with
  | some fn => match fn.body with
    | some c => match trC P fn.ntmps [] c, resOf P fn.results.toList with
      | some b, some r => some ⟨fn.ntmps, r, b⟩
      | _, _ => none
    | none => none
  | none => none
def initE : Nat → List Value → Env
  | _, [] => []
  | i, v :: vs => (i, v) :: initE (i + 1) vs
def getAll (G : Stab) (L : List Ent) (env : Env) : List VR → (List Value → Prop) → Prop
  | [], k => k []
  | .tmp t :: r, k => onV (env.get t) fun v => getAll G L env r fun vs => k (v :: vs)
  | .cell1 t :: r, k => onP (env.get t) fun a => ∃ v, Rds G L a [v] ∧ getAll G L env r fun vs => k (v :: vs)
  | .cellN t n :: r, k => onP (env.get t) fun a => ∃ cs, cs.length = n ∧ Rds G L a cs ∧ getAll G L env r fun vs => k (.agg ⟨cs⟩ :: vs)
def resV : List Value → Value
  | [v] => v
  | vs => .tuple ⟨vs⟩
/-- What a function's end must bring. -/
def fin (res : List VR) (Post : Ending → Stab → List Ent → Prop) : Sy.Post := fun e env G L => match e with
  | .normal | .ret => getAll G L env res fun vs => Post (.returned (resV vs)) G L
  | .panic c => Post (.panicked c) G L
  | _ => False
theorem initE_get : ∀ (vs : List Value) (i j : Nat) (v : Value), (initE i vs).get j = some v → i ≤ j ∧ vs[j - i]? = some v
  | [], i, j, v, h => by simp [initE, Env.get] at h
  | u :: vs, i, j, v, h => by
    simp only [initE, Env.get] at h
    split at h
    · rename_i hk; subst hk; simp at h; exact ⟨Nat.le_refl _, by simpa using h⟩
    · rename_i hk
      obtain ⟨h1, h2⟩ := initE_get vs (i + 1) j v h
      exact ⟨by omega, by rw [show j - i = (j - (i + 1)) + 1 from by omega]; simpa using h2⟩
theorem getAll_run {P : Program} {G : Stab} {L : List Ent} {env : Env} {n : Nat} {a : Act} {w : World} (hA : Agree n a env) (hI : Inst G L w) : ∀ (l : List ResultVar) (r : List VR) (k : List Value → Prop), resOf P l = some r → getAll G L env r k →
    ∃ vs, k vs ∧ (l.mapM (m := Sem) fun (x : ResultVar) => match x with | .tmp t => pure (a.tmps.getD t undef) | .cell ad t => do loadVar t (← asAddr (a.tmps.getD ad undef))).run P w = .ok vs w
  | [], r, k, h1, h2 => by simp only [resOf, Option.some.injEq] at h1; subst h1; exact ⟨[], h2, rfl⟩
  | .tmp t :: l, r, k, h1, h2 => by
    simp only [resOf, Option.map_eq_some_iff] at h1
    obtain ⟨r', hr', rfl⟩ := h1
    obtain ⟨v, hv, h2⟩ := onV_elim h2
    obtain ⟨vs, hk, hrun⟩ := getAll_run hA hI l r' _ hr' h2
    have hval := hA.val _ _ hv
    have e1 : a.tmps.getD t undef = v := by rw [Array.getD_eq_getD_getElem?, hval]; rfl
    exact ⟨v :: vs, hk, by rw [List.mapM_cons, Sem.run_bind]; simp only [e1, Sem.run_bind, Sem.run_pure, Result.andThen_ok]; rw [hrun]; rfl⟩
  | .cell ad t :: l, r, k, h1, h2 => by
    simp only [resOf] at h1
    split at h1
    · rename_i d i hd hi
      rw [Option.map_eq_some_iff] at h1
      obtain ⟨r', hr', rfl⟩ := h1
      by_cases hg : isAggD d
      · rw [if_pos hg] at h2
        obtain ⟨p, hp, cs, hl, hr, h2⟩ := onP_elim h2
        obtain ⟨vs, hk, hrun⟩ := getAll_run hA hI l r' _ hr' h2
        have hval := hA.val _ _ hp
        have e1 : a.tmps.getD ad undef = .pointer (some p) := by rw [Array.getD_eq_getD_getElem?, hval]; rfl
        have := run_loadCells' (P := P) (a := p) (fun j u hu => hr.cell hI.sat hI.oks hu)
        rw [hl] at this
        have e2 : (loadVar t p).run P w = .ok (.agg cs.toArray) w := by simp [loadVar, run_isAgg hd, hg, run_sizeOf hi, this]
        have e4 : ((do loadVar t (← asAddr (a.tmps.getD ad undef)) : Sem Value)).run P w = .ok (.agg cs.toArray) w := by rw [e1]; simp only [asAddr, Sem.run_bind, Sem.run_pure, Result.andThen_ok]; exact e2
        refine ⟨_, hk, ?_⟩
        rw [List.mapM_cons, Sem.run_bind]
        refine (congrArg (fun r => Result.andThen r _) e4).trans ?_
        simp only [Result.andThen_ok, Sem.run_bind]
        rw [hrun]
        rfl
      · rw [if_neg hg] at h2
        obtain ⟨p, hp, v, hr, h2⟩ := onP_elim h2
        obtain ⟨vs, hk, hrun⟩ := getAll_run hA hI l r' _ hr' h2
        have hval := hA.val _ _ hp
        have e1 : a.tmps.getD ad undef = .pointer (some p) := by rw [Array.getD_eq_getD_getElem?, hval]; rfl
        have := hr.cell hI.sat hI.oks (i := 0) (u := v) rfl
        rw [add_zero_of] at this
        have e2 : (loadVar t p).run P w = .ok v w := by simp [loadVar, run_isAgg hd, hg, this]
        have e4 : ((do loadVar t (← asAddr (a.tmps.getD ad undef)) : Sem Value)).run P w = .ok v w := by rw [e1]; simp only [asAddr, Sem.run_bind, Sem.run_pure, Result.andThen_ok]; exact e2
        refine ⟨_, hk, ?_⟩
        rw [List.mapM_cons, Sem.run_bind]
        refine (congrArg (fun r => Result.andThen r _) e4).trans ?_
        simp only [Result.andThen_ok, Sem.run_bind]
        rw [hrun]
        rfl
    · cases h1
theorem Con.of_vc {P : Program} {f : FuncId} {vf : VFun} (hc : comp P f = some vf) (keep : List Nat) (hm : P.follows .mixedOrders = true) {args : List Value} {G0 : Stab} {L0 : List Ent} {Post : Ending → Stab → List Ent → Prop}
    (hl : args.length ≤ vf.n)
    (h : ∀ Γ : Ctx, Γ.P = P → Γ.keep = keep → VC Γ vf.body (initE 0 args) G0 L0 (fin vf.res Post)) : Con P f ⟨args⟩ G0 L0 Post := by
  refine ⟨fun w0 hI => ?_⟩
  unfold comp at hc
  split at hc
  · rename_i fn hf
    split at hc
    · rename_i c hb
      split at hc
      · rename_i b r htr hr
        simp only [Option.some.injEq] at hc
        subst hc
        refine calls_of_wp hf hb ?_
        refine wp_mono (h ⟨P, fn.ntmps, keep, [], w0, G0, blks L0, hm⟩ rfl rfl c htr _ w0 ?_ (St.begin hI)) ?_
        · refine ⟨by simp at hl ⊢; omega, rfl, fun i v hi => ?_⟩
          obtain ⟨_, h2⟩ := initE_get args 0 i v hi
          simp only [Nat.sub_zero] at h2
          have hlt : i < args.length := (List.getElem?_eq_some_iff.1 h2).1
          rw [Array.getElem?_append_left (by simpa using hlt)]
          simpa using h2
        · intro e a w hh
          obtain ⟨env, G, L, hA, hS, _, hq⟩ := hh
          have hres : ∀ k, getAll G L env r k → ∃ vs, k vs ∧ (results fn a.tmps).run P w = .ok (resV vs) w := by
            intro k hv
            obtain ⟨vs, hk, hrun⟩ := getAll_run (P := P) hA hS.inst _ _ _ hr hv
            refine ⟨vs, hk, ?_⟩
            unfold results
            rw [Array.mapM_eq_mapM_toList]
            simp only [Sem.run_bind, Sem.run_map]
            refine (congrArg (fun r => Result.andThen (Result.andThen r _) _) hrun).trans ?_
            match vs with
            | [] => rfl
            | [v] => rfl
            | v :: u :: vs => simp [resV]
          cases e with
          | normal => obtain ⟨vs, h1, h2⟩ := hres _ hq; exact ⟨hA.defers, _, h2, G, L, hS, h1⟩
          | ret => obtain ⟨vs, h1, h2⟩ := hres _ hq; exact ⟨hA.defers, _, h2, G, L, hS, h1⟩
          | panic c => exact ⟨hA.defers, G, L, hS, hq⟩
          | exit i => exact hq.elim
          | goto l => exact hq.elim
          | outgrown => exact hq.elim
      · cases hc
    · cases hc
  · cases hc

/-! ### Rules for the driver -/
/-- A fact that simp is not to look into. -/
structure Nx (p : Prop) : Prop where
  out : p
section
variable {Γ : Ctx} {P : Program} {ks : List Nat} {env : Env} {G : Stab} {L : List Ent} {Q : Post}
theorem VC.rseq (hP : Γ.P = P) (hk : Γ.keep = ks) {ops : List VO} {c : VCode}
    (h : ∀ (K : Env → Stab → List Ent → Prop) (q : List PanicEntry → Env → Stab → List Ent → Prop), Nx (∀ env' env'' G' L', env'.only ks = env'' → VC Γ c env'' G' L' Q → K env' G' L') → Nx (∀ c env' G' L', Q (.panic c) (env'.only Γ.pk) G' L' → q c env' G' L') → vops P ops env G L K q) : VC Γ (.seq (.reg ops) c) env G L Q := by
  subst hP; subst hk
  refine VC.seq (VC.reg fun K hK => ?_)
  exact h K _ ⟨fun env' env'' G' L' he hv => hK env' G' L' (by subst he; exact hv)⟩ ⟨fun c env' G' L' hq => hq⟩
theorem VC.rend (hP : Γ.P = P) (hk : Γ.keep = ks) {ops : List VO}
    (h : ∀ (K : Env → Stab → List Ent → Prop) (q : List PanicEntry → Env → Stab → List Ent → Prop), Nx (∀ env' env'' G' L', env'.only ks = env'' → Q .normal env'' G' L' → K env' G' L') → Nx (∀ c env' G' L', Q (.panic c) (env'.only Γ.pk) G' L' → q c env' G' L') → vops P ops env G L K q) : VC Γ (.reg ops) env G L Q := by
  subst hP; subst hk
  refine VC.reg fun K hK => ?_
  exact h K _ ⟨fun env' env'' G' L' he hv => hK env' G' L' (by subst he; exact hv)⟩ ⟨fun c env' G' L' hq => hq⟩
theorem VC.dseq (hP : Γ.P = P) (hk : Γ.keep = ks) {s : Sched} {c : VCode} (LE : List Ent) (LR : List Lent) (hp : L.Perm (LE ++ lent LR))
    (h : ∀ (K : Env → Stab → List Ent → Prop) (q : List PanicEntry → Env → Stab → List Ent → Prop), Nx (∀ env' env'' G' L', env'.only ks = env'' → VC Γ c env'' G' L' Q → K env' G' L') → Nx (∀ c env' G' L', Q (.panic c) (env'.only Γ.pk) G' L' → q c env' G' L') → vsch P G LR s env G LE K q) : VC Γ (.seq (.draw s) c) env G L Q := by
  subst hP; subst hk
  refine VC.seq (VC.draw LE LR hp fun K hK => ?_)
  exact h K _ ⟨fun env' env'' G' L' he hv => hK env' G' L' (by subst he; exact hv)⟩ ⟨fun c env' G' L' hq => hq⟩
theorem VC.dend (hP : Γ.P = P) (hk : Γ.keep = ks) {s : Sched} (LE : List Ent) (LR : List Lent) (hp : L.Perm (LE ++ lent LR))
    (h : ∀ (K : Env → Stab → List Ent → Prop) (q : List PanicEntry → Env → Stab → List Ent → Prop), Nx (∀ env' env'' G' L', env'.only ks = env'' → Q .normal env'' G' L' → K env' G' L') → Nx (∀ c env' G' L', Q (.panic c) (env'.only Γ.pk) G' L' → q c env' G' L') → vsch P G LR s env G LE K q) : VC Γ (.draw s) env G L Q := by
  subst hP; subst hk
  refine VC.draw LE LR hp fun K hK => ?_
  exact h K _ ⟨fun env' env'' G' L' he hv => hK env' G' L' (by subst he; exact hv)⟩ ⟨fun c env' G' L' hq => hq⟩
theorem VC.condb {x y : VCode} {c : VX} {b : Bool} (hb : env.ev c = some (.bool b)) (h1 : b = true → VC Γ x env G L Q) (h2 : b = false → VC Γ y env G L Q) : VC Γ (.cond c x y) env G L Q :=
  VC.cond (by rw [hb]; exact ⟨h1, h2⟩)
theorem VC.condt {x y : VCode} {c : VX} (hb : env.ev c = some (.bool true)) (h : VC Γ x env G L Q) : VC Γ (.cond c x y) env G L Q := VC.condb hb (fun _ => h) (fun e => by cases e)
theorem VC.condf {x y : VCode} {c : VX} (hb : env.ev c = some (.bool false)) (h : VC Γ y env G L Q) : VC Γ (.cond c x y) env G L Q := VC.condb hb (fun e => by cases e) (fun _ => h)
theorem VC.condd {x y : VCode} {c : VX} {p : Prop} [Decidable p] (hb : env.ev c = some (.bool (decide p))) (h1 : p → VC Γ x env G L Q) (h2 : ¬p → VC Γ y env G L Q) : VC Γ (.cond c x y) env G L Q :=
  VC.condb hb (fun e => h1 (of_decide_eq_true e)) (fun e => h2 (of_decide_eq_false e))
theorem Rds.hd {b : Nat} {c : List Value} {ty : TypeId} {o : Nat} {v : Value} (h : c[o]? = some v) : Rds G (.obj b c ty :: L) ⟨b, o, none⟩ [v] :=
  .inr ⟨.obj b c ty, by simp, rfl, rfl, fun i u hu => by cases i with | zero => simp at hu; subst hu; simpa using h | succ i => simp at hu⟩
theorem Rds.hdN {b : Nat} {c cs : List Value} {ty : TypeId} {o : Nat} (h : (c.drop o).take cs.length = cs) : Rds G (.obj b c ty :: L) ⟨b, o, none⟩ cs :=
  .inr ⟨.obj b c ty, by simp, rfl, rfl, fun i u hu => by
    rw [← h, List.getElem?_take] at hu
    split at hu
    · simpa using hu
    · cases hu⟩
theorem Rds.tl {x : Ent} {a : Addr} {cs : List Value} (h : Rds G L a cs) : Rds G (x :: L) a cs := h.sub fun _ hy => List.mem_cons_of_mem _ hy
theorem Rds.st {a : Addr} {cs : List Value} (h : G.has a cs) : Rds G L a cs := .inl h
/-- A part of a row. -/
theorem Stab.has.sub {a : Addr} {cs new : List Value} (h : G.has a cs) (o : Nat) (hn : ∀ i u, new[i]? = some u → cs[o + i]? = some u) : G.has ⟨a.block, a.off + o, none⟩ new :=
  fun i u hu => ⟨rfl, by have := (h (o + i) u (hn i u hu)).2; rwa [← Nat.add_assoc] at this⟩
theorem Stab.has.one {a : Addr} {cs : List Value} {v : Value} (h : G.has a cs) (o : Nat) (hv : cs[o]? = some v) : G.has ⟨a.block, a.off + o, none⟩ [v] :=
  h.sub o fun i u hu => by cases i with | zero => simp at hu; subst hu; simpa using hv | succ i => simp at hu
theorem Stab.has.add {a : Addr} {cs new : List Value} (h : G.has a cs) (o : Nat) (hn : ∀ i u, new[i]? = some u → cs[o + i]? = some u) : G.has (a.add o) new := by
  intro i u hu
  have h1 := h (o + i) u (hn i u hu)
  rw [add_norm h1.1]
  exact ⟨rfl, by have := h1.2; rwa [← Nat.add_assoc] at this⟩
end
attribute [go_sem] vop1 rdK efK evs fillP iop optI Env.get Env.put Env.ev Env.only initE getAll resV usable freed still lent noStop inL
section
variable {P : Program} {Gs G : Stab} {LR : List Lent} {L : List Ent} {env : Env} {K : Env → Stab → List Ent → Prop} {q : List PanicEntry → Env → Stab → List Ent → Prop} {d : Option Nat} {o : VOp} {r : List VO} {t i : Nat} {w b : Bool} {deps : List Nat} {rd : Rop} {s : Sched} {l : List (Nat × VO × Sched)}
@[go_sem] theorem vops_nil : vops P [] env G L K q = K env G L := rfl
@[go_sem] theorem vops_n : vops P (⟨d, none, o⟩ :: r) env G L K q = vop1 P o env G L (fun v G' L' => vops P r (env.put d v) G' L' K q) (fun c G' L' => q c env G' L') := rfl
theorem vops_gt (h : env.get t = some (.bool w)) (hA : vop1 P o env G L (fun v G' L' => vops P r (env.put d v) G' L' K q) (fun c G' L' => q c env G' L')) : vops P (⟨d, some (t, w), o⟩ :: r) env G L K q := by
  simp only [vops, gdK, h, onB]; cases w <;> exact ⟨fun _ => hA, fun e => absurd e (by decide)⟩
theorem vops_gf (h : env.get t = some (.bool (!w))) (hB : vops P r (env.put d undef) G L K q) : vops P (⟨d, some (t, w), o⟩ :: r) env G L K q := by
  simp only [vops, gdK, h, onB]; cases w <;> exact ⟨fun e => absurd e (by decide), fun _ => hB⟩
theorem vops_gb (h : env.get t = some (.bool b)) (hA : b = w → vop1 P o env G L (fun v G' L' => vops P r (env.put d v) G' L' K q) (fun c G' L' => q c env G' L')) (hB : b = (!w) → vops P r (env.put d undef) G L K q) : vops P (⟨d, some (t, w), o⟩ :: r) env G L K q := by
  simp only [vops, gdK, h, onB]; exact ⟨hA, hB⟩
@[go_sem] theorem vsch_done : vsch P Gs LR .done env G L K q = K env G (L ++ lent LR) := by simp only [vsch]
@[go_sem] theorem vsch_take : vsch P Gs LR (.take i deps ⟨d, none, .rd rd⟩ s) env G L K q = (noStop i LR ∧ rdK Gs (usable deps LR) env rd fun v => vsch P Gs LR s (env.put d v) G L K q) := by simp only [vsch, gdK]
theorem vsch_gt (h : env.get t = some (.bool w)) (hA : noStop i LR ∧ rdK Gs (usable deps LR) env rd fun v => vsch P Gs LR s (env.put d v) G L K q) : vsch P Gs LR (.take i deps ⟨d, some (t, w), .rd rd⟩ s) env G L K q := by
  simp only [vsch, gdK, h, onB]; cases w <;> exact ⟨hA.1, fun _ => hA.2, fun e => absurd e (by decide)⟩
theorem vsch_gf (h : env.get t = some (.bool (!w))) (hB : noStop i LR ∧ vsch P Gs LR s (env.put d undef) G L K q) : vsch P Gs LR (.take i deps ⟨d, some (t, w), .rd rd⟩ s) env G L K q := by
  simp only [vsch, gdK, h, onB]; refine ⟨hB.1, ?_⟩; cases w <;> first | exact ⟨fun e => absurd e (by decide), fun _ => hB.2⟩ | exact ⟨fun e => absurd e (by decide), fun _ => hB.2⟩
theorem vsch_gb (h : env.get t = some (.bool b)) (hN : noStop i LR) (hA : b = w → rdK Gs (usable deps LR) env rd fun v => vsch P Gs LR s (env.put d v) G L K q) (hB : b = (!w) → vsch P Gs LR s (env.put d undef) G L K q) : vsch P Gs LR (.take i deps ⟨d, some (t, w), .rd rd⟩ s) env G L K q := by
  simp only [vsch, gdK, h, onB]; exact ⟨hN, hA, hB⟩
@[go_sem] theorem vsch_all : vsch P Gs LR (.all l) env G L K q = vall P Gs LR l env G L K q := by simp only [vsch]
@[go_sem] theorem vall_nil : vall P Gs LR [] env G L K q = True := by simp only [vall]
@[go_sem] theorem vall_n : vall P Gs LR ((i, ⟨d, none, o⟩, s) :: l) env G L K q = (vop1 P o env G (L ++ freed i LR) (fun v G' L' => vsch P Gs (still i LR) s (env.put d v) G' L' K q) (fun c G' L' => q c env G' (L' ++ lent (still i LR))) ∧ vall P Gs LR l env G L K q) := by simp only [vall, gdK]
theorem vall_gt (h : env.get t = some (.bool w)) (hA : vop1 P o env G (L ++ freed i LR) (fun v G' L' => vsch P Gs (still i LR) s (env.put d v) G' L' K q) (fun c G' L' => q c env G' (L' ++ lent (still i LR)))) (hr : vall P Gs LR l env G L K q) : vall P Gs LR ((i, ⟨d, some (t, w), o⟩, s) :: l) env G L K q := by
  simp only [vall, gdK, h, onB]; refine ⟨?_, hr⟩; cases w <;> exact ⟨fun _ => hA, fun e => absurd e (by decide)⟩
theorem vall_gf (h : env.get t = some (.bool (!w))) (hB : vsch P Gs (still i LR) s (env.put d undef) G (L ++ freed i LR) K q) (hr : vall P Gs LR l env G L K q) : vall P Gs LR ((i, ⟨d, some (t, w), o⟩, s) :: l) env G L K q := by
  simp only [vall, gdK, h, onB]; refine ⟨?_, hr⟩; cases w <;> exact ⟨fun e => absurd e (by decide), fun _ => hB⟩
theorem vall_gb (h : env.get t = some (.bool b)) (hA : b = w → vop1 P o env G (L ++ freed i LR) (fun v G' L' => vsch P Gs (still i LR) s (env.put d v) G' L' K q) (fun c G' L' => q c env G' (L' ++ lent (still i LR)))) (hB : b = (!w) → vsch P Gs (still i LR) s (env.put d undef) G (L ++ freed i LR) K q)
    (hr : vall P Gs LR l env G L K q) : vall P Gs LR ((i, ⟨d, some (t, w), o⟩, s) :: l) env G L K q := by
  simp only [vall, gdK, h, onB]; exact ⟨⟨hA, hB⟩, hr⟩
end
end Go.Sy
