import Derived.Test.YtpddchnapcmmkaaSy10
namespace Go.Sy
open Go Go.RowKit
section
variable {P : Program} {ops : Array Oper} {Q : Exit → Act → World → Prop} {S : Array Bool → World → Prop}
/-- Whatever order is picked; behind every operation a condition holds that goes by what has come up. -/
def wpJ (P : Program) (ops : Array Oper) (Q : Exit → Act → World → Prop) (S : Array Bool → World → Prop) : Nat → Array Bool → Act → World → Prop
  | 0, listed, a, w => Region.ready .any ops listed = [] ∧ Q .normal a w
  | fuel + 1, listed, a, w =>
    (Region.ready .any ops listed = [] → Q .normal a w) ∧
    ∀ i ∈ Region.ready .any ops listed, wpOp P ops Q i (fun a' w' => S (listed.setIfInBounds i true) w' ∧ wpJ P ops Q S fuel (listed.setIfInBounds i true) a' w') a w
theorem wpAny_of_J : ∀ (fuel : Nat) (listed : Array Bool) (a : Act) (w : World), wpJ P ops Q S fuel listed a w → wpAny P .any ops Q fuel listed a w
  | 0, _, _, _, h => h
  | fuel + 1, _, _, _, h => ⟨h.1, fun i hi => wpOp_mono (fun a' w' h' => wpAny_of_J fuel _ a' w' h'.2) (h.2 i hi)⟩
/-- An operation that only reads may be taken first, if what it reads stays till something comes up that waits for it. -/
theorem wpJ_first {i : Nat} {oi : Oper} {v : Value} {T : World → Prop} {D : Nat → Prop} (hi : ops[i]? = some oi) (hsel : ∀ (j : Nat) (o : Oper) cs b, ops[j]? = some o → o.op ≠ .select cs b)
    (hQ : ∀ c a w, Q (.panic c) (a.put oi.dst v) w → Q (.panic c) a w)
    (hD : ∀ j, D j → ∃ oj, ops[j]? = some oj ∧ ∃ e ∈ oj.after, Region.binds .any e = true ∧ (e.on = i ∨ D e.on))
    (hT : ∀ (listed : Array Bool) w, (∀ j, D j → listed.getD j false = false) → S listed w → T w)
    (hS : ∀ (listed : Array Bool) w, S (listed.setIfInBounds i true) w → S listed w) :
    ∀ (fuel : Nat) (listed : Array Bool) (a : Act) (w : World),
      (∀ j oj, ops[j]? = some oj → j ≠ i → listed.getD j true = false → (∀ e ∈ oj.after, Region.binds .any e = true → e.on ≠ i) → oi.apart ops oj = true) →
      i ∈ Region.ready .any ops listed → (∀ j, D j → listed.getD j false = false) → YieldsIf P ops T oi v a → T w → S (listed.setIfInBounds i true) w →
      wpJ P ops Q S fuel (listed.setIfInBounds i true) (a.put oi.dst v) w → wpJ P ops Q S (fuel + 1) listed a w := by
  intro fuel
  induction fuel with
  | zero =>
    intro listed a w _ hr _ hy hTw hSw H
    refine ⟨fun h => (by rw [h] at hr; cases hr), fun j hj => ?_⟩
    by_cases hji : j = i
    · subst hji; exact hy.wpOp hi hTw ⟨hSw, H⟩
    · have := ready_mono hj hji
      rw [H.1] at this
      cases this
  | succ fuel ih =>
    intro listed a w hfree hr hDl hy hTw hSw H
    refine ⟨fun h => (by rw [h] at hr; cases hr), fun j hj => ?_⟩
    by_cases hji : j = i
    · subst hji; exact hy.wpOp hi hTw ⟨hSw, H⟩
    · have h1 := H.2 j (ready_mono hj hji)
      obtain ⟨hjun, oj, hoj, hall⟩ := mem_ready.1 hj
      have hiun : listed.getD i false = false := by
        have h0 := (mem_ready.1 hr).1
        rcases Nat.lt_or_ge i listed.size with h' | h'
        · simp [h'] at h0 ⊢; exact h0
        · simp [Array.getElem?_eq_none h'] at h0
      have hnot : ∀ e ∈ oj.after, Region.binds .any e = true → e.on ≠ i := fun e he hb heq => by
        have h2 := hall e he hb
        rw [heq, hiun] at h2; cases h2
      have hjD : ¬ D j := fun hd => by
        obtain ⟨oj', hoj', e, he, hb, hor⟩ := hD j hd
        rw [hoj] at hoj'; cases hoj'
        rcases hor with h4 | h4
        · exact hnot e he hb h4
        · have h5 := hall e he hb; rw [hDl _ h4] at h5; cases h5
      have hDl' : ∀ k, D k → (listed.setIfInBounds j true).getD k false = false := fun k hk => by
        have : j ≠ k := fun e => hjD (e ▸ hk)
        rw [getD_set_ne false this]; exact hDl k hk
      have h2 := wpOp_putIf hoj (hfree j oj hoj hji hjun hnot) (fun cs b => hsel i oi cs b hi) (fun cs b => hsel j oj cs b hoj) hQ hy h1
      have hfree' : ∀ k ok, ops[k]? = some ok → k ≠ i → (listed.setIfInBounds j true).getD k true = false →
          (∀ e ∈ ok.after, Region.binds .any e = true → e.on ≠ i) → oi.apart ops ok = true := fun k ok hk hki hun hno => by
        refine hfree k ok hk hki ?_ hno
        by_cases hjk : j = k
        · subst hjk; exact hjun
        · rw [getD_set_ne true hjk] at hun; exact hun
      refine wpOp_mono (fun a' w' h3 => ?_) h2
      have hcomm := Array.setIfInBounds_comm (xs := listed) true true hji
      have hS1 : S ((listed.setIfInBounds j true).setIfInBounds i true) w' := by rw [hcomm]; exact h3.2.1
      have hSj : S (listed.setIfInBounds j true) w' := hS _ _ hS1
      refine ⟨hSj, ih (listed.setIfInBounds j true) a' w' hfree' (ready_mono hr (Ne.symm hji)) hDl' h3.1 (hT _ _ hDl' hSj) hS1 ?_⟩
      rw [hcomm]
      exact h3.2.2
end
section
variable {P : Program} {w0 : World} {G0 : Stab} {F : List Nat} {n : Nat} {pk : List Nat} {ops : Array Oper}
/-- What holds behind each operation. -/
def Held (w0 : World) (G0 : Stab) (F : List Nat) (Gs : Stab) (LR0 : List Lent) (listed : Array Bool) (w : World) : Prop :=
  (∃ G' L', St w0 G0 F G' L' w ∧ Gs.Le G') ∧ ∀ p ∈ LR0, (∀ s, p.2 = some s → listed.getD s false = false) → p.1.ok w
theorem Held.mono {Gs : Stab} {LR0 : List Lent} {listed : Array Bool} {i : Nat} {w : World} (h : Held w0 G0 F Gs LR0 (listed.setIfInBounds i true) w) (hi : ∀ p ∈ LR0, p.2 ≠ some i) : Held w0 G0 F Gs LR0 listed w :=
  ⟨h.1, fun p hp hs => h.2 p hp fun s he => by rw [getD_set_ne false (fun e => hi p hp (by rw [he, e]))]; exact hs s he⟩
theorem Held.of {Gs G : Stab} {LR0 LR : List Lent} {L : List Ent} {listed : Array Bool} {w : World} (hs : St w0 G0 F G (L ++ lent LR) w) (hg : Gs.Le G) (hl : ∀ p ∈ LR0, (∀ s, p.2 = some s → listed.getD s false = false) → p ∈ LR) : Held w0 G0 F Gs LR0 listed w :=
  ⟨⟨G, _, hs, hg⟩, fun p hp hn => hs.inst.oks p.1 (List.mem_append_right _ (lent_mem.2 ⟨p, hl p hp hn, rfl⟩))⟩
theorem mkS_sound (hsel : Region.noSelect ops = true) {Gs : Stab} {LR0 : List Lent} {K : Env → Stab → List Ent → Prop} {q : List PanicEntry → Env → Stab → List Ent → Prop} {Q : Exit → Act → World → Prop}
    (hK : ∀ env' G' L' a' w', Agree n a' env' → St w0 G0 F G' L' w' → K env' G' L' → Q .normal a' w')
    (hq : ∀ c env' G' L' a' w', Agree n a' env' → St w0 G0 F G' L' w' → q c env' G' L' → Q (.panic c) a' w')
    (hQp : ∀ c (a : Act) w d v, (∀ k, d = some k → k ∉ pk) → Q (.panic c) (a.put d v) w → Q (.panic c) a w) :
    ∀ (fuel : Nat) (listed : Array Bool) (s : Sched) (_ : mkS P n pk ops fuel listed = some s) (env : Env) (G : Stab) (L : List Ent) (LR : List Lent) (a : Act) (w : World) (_ : Agree n a env) (_ : St w0 G0 F G (L ++ lent LR) w) (_ : Gs.Le G)
      (_ : ∀ p ∈ LR, p ∈ LR0) (_ : ∀ p ∈ LR0, (∀ s, p.2 = some s → listed.getD s false = false) → p ∈ LR)
      (_ : vsch P Gs LR s env G L K q), wpJ P ops Q (Held w0 G0 F Gs LR0) fuel listed a w := by
  intro fuel
  induction fuel with
  | zero =>
    intro listed s hm env G L LR a w hA hs hg _ _ h
    unfold mkS at hm
    split at hm
    · rename_i hr
      cases hm
      exact ⟨hr, hK _ _ _ _ _ hA hs h⟩
    · cases hm
  | succ fuel ih =>
    intro listed s hm env G L LR a w hA hs hg hl1 hl2 h
    unfold mkS at hm
    split at hm
    · rename_i hr
      cases hm
      exact ⟨fun _ => hK _ _ _ _ _ hA hs h, by rw [hr]; simp⟩
    · rename_i r0 rs hr
      simp only at hm
      split at hm
      · rename_i i hf
        split at hm
        · rename_i v t hv ht
          split at hm
          · rename_i hdeps
            cases hm
            rw [Option.bind_eq_some_iff] at hv
            obtain ⟨o, ho, hv⟩ := hv
            have hcond := List.find?_some hf
            have hmem := List.mem_of_find?_eq_some hf
            simp only [ho, Option.bind_some, hv] at hcond
            simp only [Bool.and_eq_true] at hdeps
            obtain ⟨hback, hunl⟩ := hdeps
            obtain ⟨d, gd, op⟩ := v
            cases op with
            | ef e => simp at hcond
            | rd r =>
              simp only [Bool.and_eq_true] at hcond
              obtain ⟨h1, h2, h3, h4⟩ := trO_spec hv
              simp only [vsch] at h
              obtain ⟨hns, h⟩ := h
              have hstop : ∀ p ∈ LR0, p.2 ≠ some i := fun p hp he => by
                have hiun : listed.getD i false = false := by
                  have h0 := (mem_ready.1 (show i ∈ Region.ready .any ops listed from by rw [hr]; exact hmem)).1
                  rcases Nat.lt_or_ge i listed.size with h' | h'
                  · simp [h'] at h0 ⊢; exact h0
                  · simp [Array.getElem?_eq_none h'] at h0
                exact noStop_mem hns p (hl2 p hp fun s hs => by rw [he] at hs; cases hs; exact hiun) he
              have hunl' : ∀ j, j ∈ depsOf ops i → listed.getD j false = false := fun j hj => by
                have := List.all_eq_true.1 hunl j hj
                simp only [Bool.and_eq_true, Bool.not_eq_true'] at this
                exact this.2
              let T : World → Prop := fun w => (∃ G' L', St w0 G0 F G' L' w ∧ Gs.Le G') ∧ ∀ p ∈ LR0, (∀ s, p.2 = some s → s ∈ depsOf ops i) → p.1.ok w
              have hrd : ∀ {k : Value → Prop}, rdK Gs (usable (depsOf ops i) LR) env r k → ∃ v, k v ∧ ∀ w, T w → (execOp a.eval o).run P w = .ok (.value v) w := by
                intro k hk
                have hr : trR P o.op = some r := by
                  unfold trV at h3
                  split at h3
                  · rename_i r' hr'; simp only [Option.some.injEq, VOp.rd.injEq] at h3; rw [hr', h3]
                  · rw [Option.map_eq_some_iff] at h3; obtain ⟨_, _, h3⟩ := h3; cases h3
                obtain ⟨v, hv, hrun⟩ := rd_sound hA hr hk
                refine ⟨v, hv, fun w ⟨⟨G', L', hs', hg'⟩, hok⟩ => hrun w (hs'.inst.sat.anti hg') fun x hx => ?_⟩
                obtain ⟨p, hp, rfl, hps⟩ := usable_mem hx
                exact hok p (hl1 p hp) hps
              have hTof : ∀ (listed : Array Bool) w, (∀ j, j ∈ depsOf ops i → listed.getD j false = false) → Held w0 G0 F Gs LR0 listed w → T w :=
                fun listed w hu hh => ⟨hh.1, fun p hp hps => hh.2 p hp fun s hs => hu s (hps s hs)⟩
              have hH : Held w0 G0 F Gs LR0 listed w := Held.of hs hg hl2
              have fin : ∀ v, YieldsIf P ops T o v a → vsch P Gs LR t (env.put d v) G L K q → wpJ P ops Q (Held w0 G0 F Gs LR0) (fuel + 1) listed a w := by
                intro v hy hv
                refine wpJ_first (D := fun j => j ∈ depsOf ops i) ho (Region.noSelect_spec hsel) (fun c a w => hQp c a w o.dst v fun k hk => (h2 k hk).2) ?_ hTof (fun l w hh => hh.mono hstop) fuel listed a w (Region.free_spec ho hcond.2) (by rw [hr]; simpa using hmem) hunl' hy (hTof _ _ hunl' hH) ?_ ?_
                · intro j hj
                  have := List.all_eq_true.1 hback j hj
                  split at this
                  · rename_i oj hoj
                    obtain ⟨e, he, hb⟩ := Array.any_eq_true'.1 this
                    simp only [Bool.and_eq_true, Bool.or_eq_true, beq_iff_eq, List.contains_eq_mem, decide_eq_true_eq] at hb
                    exact ⟨oj, hoj, e, he, hb.1, hb.2⟩
                  · cases this
                · exact ⟨hH.1, fun p hp hn => hH.2 p hp fun s he => by have := hn s he; rwa [getD_set_ne false (fun e => hstop p hp (by rw [he, e]))] at this⟩
                · have h1' : d = o.dst := h1
                  subst h1'
                  exact ih _ _ ht _ _ _ _ _ _ (hA.put _ _ fun k hk => (h2 k hk).1) hs hg hl1 (fun p hp hn => hl2 p hp fun s he => by have := hn s he; rwa [getD_set_ne false (fun e => hstop p hp (by rw [he, e]))] at this) hv
              rcases h4 with ⟨hgd, hgd'⟩ | ⟨j, want, tt, hgd, htt, hgd'⟩
              · simp only at hgd'
                rw [hgd'] at h
                obtain ⟨v, hv, hrun⟩ := hrd h
                exact fin v (.inl ⟨by simp [Region.wanted, hgd], hrun⟩) hv
              · simp only at hgd'
                rw [hgd'] at h
                obtain ⟨b, hb, hy, hn⟩ := onB_elim h
                by_cases hbw : b = want
                · obtain ⟨v, hv, hrun⟩ := hrd (hy hbw)
                  exact fin v (.inl ⟨by rw [wanted_of hA hgd htt hb]; simp [hbw], hrun⟩) hv
                · exact fin undef (.inr ⟨by rw [wanted_of hA hgd htt hb]; simp [hbw], rfl⟩) (hn (by cases b <;> cases want <;> simp_all))
          · cases hm
        · cases hm
      · rename_i hf
        rw [Option.map_eq_some_iff] at hm
        obtain ⟨l, hl, rfl⟩ := hm
        simp only [vsch] at h
        refine ⟨fun h0 => (by rw [hr] at h0; cases h0), ?_⟩
        rw [hr]
        have key : ∀ (is : List Nat) (l : List (Nat × VO × Sched)), (is.mapM fun i => match (ops[i]?).bind (trO P n pk ops), mkS P n pk ops fuel (listed.setIfInBounds i true) with
            | some v, some t => some (i, v, t)
            | _, _ => none) = some l → (∀ i ∈ is, i ∈ Region.ready .any ops listed) → vall P Gs LR l env G L K q → ∀ i ∈ is, wpOp P ops Q i (fun a' w' => Held w0 G0 F Gs LR0 (listed.setIfInBounds i true) w' ∧ wpJ P ops Q (Held w0 G0 F Gs LR0) fuel (listed.setIfInBounds i true) a' w') a w := by
          intro is
          induction is with
          | nil => intro l _ _ _ i hi; cases hi
          | cons i0 is ihl =>
            intro l hl hrd hv i hi
            simp only [List.mapM_cons, Option.bind_eq_bind, Option.bind_eq_some_iff] at hl
            obtain ⟨p, hp, r, hr', hl⟩ := hl
            cases hl
            split at hp
            · rename_i v t hv' ht
              cases hp
              simp only [vall] at hv
              rcases List.mem_cons.1 hi with rfl | hi
              · rw [Option.bind_eq_some_iff] at hv'
                obtain ⟨o, ho, hv'⟩ := hv'
                obtain ⟨h1, h2, h3, h4⟩ := trO_spec hv'
                have hs' : St w0 G0 F G ((L ++ freed i LR) ++ lent (still i LR)) w := hs.perm (by rw [List.append_assoc]; exact (freed_perm i LR).append_left L)
                have hm1 : ∀ p ∈ still i LR, p ∈ LR0 := fun p hp => hl1 p (by
                  have : ∀ (l : List Lent), p ∈ still i l → p ∈ l := by
                    intro l
                    induction l with
                    | nil => intro h; simp [still] at h
                    | cons x l ih =>
                      obtain ⟨x, o⟩ := x
                      intro h
                      cases o with
                      | none =>
                        simp only [still] at h
                        rcases List.mem_cons.1 h with rfl | h
                        · simp
                        · exact List.mem_cons_of_mem _ (ih h)
                      | some s =>
                        simp only [still] at h
                        split at h
                        · exact List.mem_cons_of_mem _ (ih h)
                        · rcases List.mem_cons.1 h with rfl | h
                          · simp
                          · exact List.mem_cons_of_mem _ (ih h)
                  exact this LR hp)
                have hilt : i < listed.size ∨ listed.size ≤ i := Nat.lt_or_ge _ _
                have hm2 : ∀ p ∈ LR0, (∀ s, p.2 = some s → (listed.setIfInBounds i true).getD s false = false) → p ∈ still i LR := fun p hp hn => by
                  refine still_mem (hl2 p hp fun s he => ?_) fun he => ?_
                  · have := hn s he
                    by_cases hsi : i = s
                    · subst hsi
                      rcases hilt with h' | h'
                      · simp [h'] at this
                      · simp [Array.getElem?_eq_none h']
                    · rwa [getD_set_ne false hsi] at this
                  · have := hn i he
                    have hin : i < listed.size := by
                      have h0 := (mem_ready.1 (hrd i (by simp))).1
                      rcases hilt with h' | h'
                      · exact h'
                      · simp [Array.getElem?_eq_none h'] at h0
                    simp [hin] at this
                refine vop_sound hA ho hv' hs' hv.1 (fun c G' L' w' e1 _ e2 => hq c _ _ _ _ _ hA e1 e2) (fun v' G' L' w' e1 e3 e2 => ?_) fun e2 => ?_
                · exact ⟨Held.of e1 (hg.trans e3) hm2, ih _ _ ht _ _ _ _ _ _ (by rw [h1]; exact hA.put _ _ fun k hk => (h2 k hk).1) e1 (hg.trans e3) hm1 hm2 e2⟩
                · exact ⟨Held.of hs' hg hm2, ih _ _ ht _ _ _ _ _ _ (by rw [h1]; exact hA.put _ _ fun k hk => (h2 k hk).1) hs' hg hm1 hm2 e2⟩
              · exact ihl r hr' (fun k hk => hrd k (by simp [hk])) hv.2 i hi
            · cases hp
        exact key _ _ hl (fun k hk => by rw [hr]; exact hk) h
end

/-! ### Bodies -/
inductive VCode where
  | skip
  | reg (ops : List VO)
  | draw (s : Sched)
  | seq (a b : VCode)
  | cond (c : VX) (x y : VCode)
  | block (id : Nat) (b : VCode)
  | loop (b : VCode)
  | exit (id : Nat)
  | ret
def trC (P : Program) (n : Nat) (pk : List Nat) : Code → Option VCode
  | .skip => some .skip
  | .region _ ops false => ((List.range ops.size).mapM fun i => (ops[i]?).bind (trO P n pk ops)).map .reg
  | .region _ ops true => if Region.noSelect ops = true then (mkS P n pk ops ops.size (Array.replicate ops.size false)).map .draw else none
  | .seq x y => match trC P n pk x, trC P n pk y with | some a, some b => some (.seq a b) | _, _ => none
  | .cond c x y => match trC P n pk x, trC P n pk y with | some a, some b => some (.cond (VX.of c) a b) | _, _ => none
  | .block id x => (trC P n pk x).map (.block id)
  | .loop x => (trC P n pk x).map .loop
  | .exit id => some (.exit id)
  | .ret => some .ret
  | _ => none
/-- What a walk goes by: the program, how many slots, which of them are kept from one statement to the next, which are left alone (for what is deferred), the state at the call. -/
structure Ctx where
  P : Program
  n : Nat
  keep : List Nat
  pk : List Nat
  w0 : World
  G0 : Stab
  F : List Nat
  mixed : P.follows .mixedOrders = true
abbrev Post := Exit → Env → Stab → List Ent → Prop
def lft (Γ : Ctx) (Q : Post) (e : Exit) (a : Act) (w : World) : Prop :=
  ∃ env G L, Agree Γ.n a env ∧ St Γ.w0 Γ.G0 Γ.F G L w ∧ (match e with | .panic _ => ∀ p ∈ env, p.1 ∈ Γ.pk | _ => True) ∧ Q e env G L
def VC (Γ : Ctx) (c : VCode) (env : Env) (G : Stab) (L : List Ent) (Q : Post) : Prop :=
  ∀ code, trC Γ.P Γ.n Γ.pk code = some c → ∀ a w, Agree Γ.n a env → St Γ.w0 Γ.G0 Γ.F G L w → code.wp Γ.P (lft Γ Q) a w
theorem Agree.unput {n : Nat} {a : Act} {env : Env} {pk : List Nat} {d : Option Nat} {v : Value} (h : Agree n (a.put d v) env) (hp : ∀ p ∈ env, p.1 ∈ pk) (hd : ∀ k, d = some k → k ∉ pk) : Agree n a env := by
  cases d with
  | none => exact h
  | some k =>
    refine ⟨by have := h.size; simpa [Act.put] using this, h.defers, fun i u hu => ?_⟩
    have hi : i ∈ pk := by
      have : ∀ (e : Env), (∀ p ∈ e, p.1 ∈ pk) → e.get i = some u → i ∈ pk := by
        intro e
        induction e with
        | nil => intro _ h; simp [Env.get] at h
        | cons p e ih =>
          intro he h
          simp only [Env.get] at h
          split at h
          · rename_i hk; rw [← hk]; exact he p (by simp)
          · exact ih (fun q hq => he q (by simp [hq])) h
      exact this env hp hu
    have := h.val i u hu
    simp only [Act.put] at this
    have hne : k ≠ i := fun e => hd k rfl (by rw [e]; exact hi)
    rwa [Array.getElem?_setIfInBounds_ne hne] at this
theorem only_mem {env : Env} : ∀ {ks : List Nat} {p : Nat × Value}, p ∈ env.only ks → p.1 ∈ ks
  | [], p, h => by simp [Env.only] at h
  | k :: ks, p, h => by
    simp only [Env.only] at h
    split at h
    · rcases List.mem_cons.1 h with rfl | h
      · simp
      · exact List.mem_cons_of_mem _ (only_mem h)
    · exact List.mem_cons_of_mem _ (only_mem h)
end Go.Sy
