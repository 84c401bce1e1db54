import Derived.Test.YtpddchnapcmmkaaSy9
namespace Go.Sy
open Go Go.RowKit

inductive VOp where
  | rd (r : Rop)
  | ef (e : Eop)
/-- An operation: the slot that it writes; the slot of its guard, and what that is to hold. -/
structure VO where
  dst : Option Nat
  gd : Option (Nat × Bool)
  op : VOp
def vop1 (P : Program) (o : VOp) (env : Env) (G : Stab) (L : List Ent) (k : Value → Stab → List Ent → Prop) (q : List PanicEntry → Stab → List Ent → Prop) : Prop :=
  match o with
  | .rd r => rdK G L env r fun v => k v G L
  | .ef e => efK P G L env k q e
def gdK (g : Option (Nat × Bool)) (env : Env) (A B : Prop) : Prop :=
  match g with
  | none => A
  | some (t, want) => onB (env.get t) fun b => (b = want → A) ∧ (b = (!want) → B)
def vops (P : Program) : List VO → Env → Stab → List Ent → (Env → Stab → List Ent → Prop) → (List PanicEntry → Env → Stab → List Ent → Prop) → Prop
  | [], env, G, L, K, _ => K env G L
  | o :: r, env, G, L, K, q => gdK o.gd env (vop1 P o.op env G L (fun v G' L' => vops P r (env.put o.dst v) G' L' K q) (fun c G' L' => q c env G' L')) (vops P r (env.put o.dst undef) G L K q)

def trV (P : Program) (o : Oper) : Option VOp := match trR P o.op with | some r => some (.rd r) | none => (trE P o.op).map .ef
def dstOk (n : Nat) (pk : List Nat) : Option Nat → Bool
  | some d => decide (d < n) && !(pk.contains d)
  | none => true
def trO (P : Program) (n : Nat) (pk : List Nat) (ops : Array Oper) (o : Oper) : Option VO :=
  if dstOk n pk o.dst = true then
    match o.guard with
    | none => (trV P o).map fun v => ⟨o.dst, none, v⟩
    | some (j, want) => match (ops[j]?).bind (·.dst) with
      | some t => (trV P o).map fun v => ⟨o.dst, some (t, want), v⟩
      | none => none
  else none
section
variable {P : Program} {w0 : World} {G0 : Stab} {F : List Nat} {G : Stab} {L R : List Ent} {w : World} {n : Nat} {a : Act} {env : Env} {pk : List Nat} {ops : Array Oper}
theorem trO_spec {o : Oper} {v : VO} (h : trO P n pk ops o = some v) : v.dst = o.dst ∧ (∀ d, o.dst = some d → d < n ∧ d ∉ pk) ∧ trV P o = some v.op ∧
    ((o.guard = none ∧ v.gd = none) ∨ ∃ j want t, o.guard = some (j, want) ∧ (ops[j]?).bind (·.dst) = some t ∧ v.gd = some (t, want)) := by
  unfold trO at h
  split at h
  · rename_i hd
    have hd' : ∀ d, o.dst = some d → d < n ∧ d ∉ pk := by
      intro d he
      rw [he] at hd
      simpa [dstOk] using hd
    split at h
    · rename_i hg
      rw [Option.map_eq_some_iff] at h
      obtain ⟨x, hx, rfl⟩ := h
      exact ⟨rfl, hd', hx, .inl ⟨hg, rfl⟩⟩
    · rename_i j want hg
      split at h
      · rename_i t ht
        rw [Option.map_eq_some_iff] at h
        obtain ⟨x, hx, rfl⟩ := h
        exact ⟨rfl, hd', hx, .inr ⟨j, want, t, hg, ht, rfl⟩⟩
      · cases h
  · cases h
theorem wanted_of {o : Oper} {j : Nat} {want : Bool} {t : Nat} {b : Bool} (hA : Agree n a env) (hg : o.guard = some (j, want)) (ht : (ops[j]?).bind (·.dst) = some t) (hb : env.get t = some (.bool b)) :
    Region.wanted o (yielded ops a.tmps) = (b == want) := by
  have := hA.val t _ hb
  simp [Region.wanted, hg, yielded, ht, this]
/-- One operation. -/
theorem vop1_sound (hA : Agree n a env) {o : Oper} {v : VOp} (ht : trV P o = some v) (hs : St w0 G0 F G (L ++ R) w) {k : Value → Stab → List Ent → Prop} {q : List PanicEntry → Stab → List Ent → Prop} (h : vop1 P v env G L k q)
    {K : Act → World → Prop} {Q : Exit → Act → World → Prop}
    (hq : ∀ c G' L' w', St w0 G0 F G' (L' ++ R) w' → G.Le G' → q c G' L' → Q (.panic c) a w')
    (hk : ∀ v G' L' w', St w0 G0 F G' (L' ++ R) w' → G.Le G' → k v G' L' → K (a.put o.dst v) w') : o.wp P a w K Q := by
  unfold trV at ht
  split at ht
  · rename_i r hr
    simp only [Option.some.injEq] at ht; subst ht
    obtain ⟨v, hv, hrun⟩ := rd_sound hA hr h
    unfold Oper.wp
    rw [hrun w hs.inst.sat (fun x hx => hs.inst.oks x (List.mem_append_left _ hx))]
    exact hk v G L w hs (Stab.Le.refl _) hv
  · rw [Option.map_eq_some_iff] at ht
    obtain ⟨e, he, rfl⟩ := ht
    exact ef_sound hA he hs h hq hk
/-- A guarded operation, in a row. -/
theorem vop_sound (hA : Agree n a env) {i : Nat} {o : Oper} (hi : ops[i]? = some o) {v : VO} (ht : trO P n pk ops o = some v) (hs : St w0 G0 F G (L ++ R) w) {k : Value → Stab → List Ent → Prop} {q : List PanicEntry → Stab → List Ent → Prop} {B : Prop} (h : gdK v.gd env (vop1 P v.op env G L k q) B)
    {K : Act → World → Prop} {Q : Exit → Act → World → Prop}
    (hq : ∀ c G' L' w', St w0 G0 F G' (L' ++ R) w' → G.Le G' → q c G' L' → Q (.panic c) a w')
    (hk : ∀ v G' L' w', St w0 G0 F G' (L' ++ R) w' → G.Le G' → k v G' L' → K (a.put o.dst v) w') (hB : B → K (a.put o.dst undef) w) : wpOp P ops Q i K a w := by
  obtain ⟨h1, h2, h3, h4⟩ := trO_spec ht
  unfold wpOp
  simp only [hi]
  rcases h4 with ⟨hg, hgd⟩ | ⟨j, want, t, hg, htt, hgd⟩
  · rw [if_pos (by simp [Region.wanted, hg])]
    rw [hgd] at h
    exact .inl (vop1_sound hA h3 hs h hq hk)
  · rw [hgd] at h
    obtain ⟨b, hb, hy, hn⟩ := onB_elim h
    rw [wanted_of hA hg htt hb]
    by_cases hbw : b = want
    · rw [if_pos (by simp [hbw])]
      exact .inl (vop1_sound hA h3 hs (hy hbw) hq hk)
    · rw [if_neg (by simp [hbw])]
      exact hB (hn (by cases b <;> cases want <;> simp_all))
/-- A list of operations, one behind the other. -/
theorem vops_sound : ∀ (l : List Nat) (vs : List VO) (_ : l.mapM (fun i => (ops[i]?).bind (trO P n pk ops)) = some vs) (env : Env) (G : Stab) (L : List Ent) (a : Act) (w : World) (_ : Agree n a env) (_ : St w0 G0 F G (L ++ R) w)
    {K : Env → Stab → List Ent → Prop} {q : List PanicEntry → Env → Stab → List Ent → Prop} (_ : vops P vs env G L K q) {Q : Exit → Act → World → Prop}
    (_ : ∀ env' G' L' a' w', Agree n a' env' → St w0 G0 F G' (L' ++ R) w' → K env' G' L' → Q .normal a' w')
    (_ : ∀ c env' G' L' a' w', Agree n a' env' → St w0 G0 F G' (L' ++ R) w' → q c env' G' L' → Q (.panic c) a' w'), wpOps P ops Q l a w
  | [], vs, hm, env, G, L, a, w, hA, hs, K, q, h, Q, hK, hq => by
    simp only [List.mapM_nil] at hm; cases hm
    exact hK _ _ _ _ _ hA hs h
  | i :: l, vs, hm, env, G, L, a, w, hA, hs, K, q, h, Q, hK, hq => by
    simp only [List.mapM_cons, Option.bind_eq_bind, Option.bind_eq_some_iff] at hm
    obtain ⟨v, ⟨o, ho, hv⟩, r, hr, hm⟩ := hm
    cases hm
    rw [wpOps_cons]
    have hd := (trO_spec hv).2.1
    have hde := (trO_spec hv).1
    refine vop_sound hA ho hv hs h (fun c G' L' w' h1 _ h2 => hq c _ _ _ _ _ hA h1 h2) (fun v' G' L' w' h1 _ h2 => ?_) fun h2 => ?_
    · exact vops_sound l r hr _ _ _ _ _ (by rw [hde]; exact hA.put _ _ fun k hk => (hd k hk).1) h1 h2 hK hq
    · exact vops_sound l r hr _ _ _ _ _ (by rw [hde]; exact hA.put _ _ fun k hk => (hd k hk).1) hs h2 hK hq

/-! ### Operations whose order is open -/
/-- A thing of one's own, and the first operation of the region that changes it. -/
abbrev Lent := Ent × Option Nat
inductive Sched where
  | done
  | take (i : Nat) (deps : List Nat) (o : VO) (t : Sched)
  | all (l : List (Nat × VO × Sched))
def inL (s : Nat) : List Nat → Bool
  | [] => false
  | d :: r => if d = s then true else inL s r
theorem inL_mem {s : Nat} : ∀ {l : List Nat}, inL s l = true → s ∈ l
  | [], h => by simp [inL] at h
  | d :: r, h => by
    simp only [inL] at h
    split at h
    · rename_i e; subst e; simp
    · exact List.mem_cons_of_mem _ (inL_mem h)
/-- What an operation ahead of 'deps' may read. -/
def usable (deps : List Nat) : List Lent → List Ent
  | [] => []
  | (x, none) :: r => x :: usable deps r
  | (x, some s) :: r => if inL s deps = true then x :: usable deps r else usable deps r
theorem usable_mem {deps : List Nat} {y : Ent} : ∀ {l : List Lent}, y ∈ usable deps l → ∃ p ∈ l, p.1 = y ∧ ∀ s, p.2 = some s → s ∈ deps
  | [], h => by simp [usable] at h
  | (x, none) :: r, h => by
    simp only [usable] at h
    rcases List.mem_cons.1 h with rfl | h
    · exact ⟨(y, none), List.mem_cons_self, rfl, fun s hs => by cases hs⟩
    · obtain ⟨p, hp, h⟩ := usable_mem h; exact ⟨p, List.mem_cons_of_mem _ hp, h⟩
  | (x, some s) :: r, h => by
    simp only [usable] at h
    split at h
    · rename_i hs
      rcases List.mem_cons.1 h with rfl | h
      · exact ⟨(y, some s), List.mem_cons_self, rfl, fun s' hs' => by cases hs'; exact inL_mem hs⟩
      · obtain ⟨p, hp, h⟩ := usable_mem h; exact ⟨p, List.mem_cons_of_mem _ hp, h⟩
    · obtain ⟨p, hp, h⟩ := usable_mem h; exact ⟨p, List.mem_cons_of_mem _ hp, h⟩
/-- What operation j is the first to change, and the rest. -/
def freed (j : Nat) : List Lent → List Ent
  | [] => []
  | (_, none) :: r => freed j r
  | (x, some s) :: r => if s = j then x :: freed j r else freed j r
def still (j : Nat) : List Lent → List Lent
  | [] => []
  | (x, none) :: r => (x, none) :: still j r
  | (x, some s) :: r => if s = j then still j r else (x, some s) :: still j r
def lent : List Lent → List Ent
  | [] => []
  | (x, _) :: r => x :: lent r
theorem lent_mem {y : Ent} : ∀ {l : List Lent}, y ∈ lent l ↔ ∃ p ∈ l, p.1 = y
  | [] => by simp [lent]
  | (x, o) :: r => by simp [lent, lent_mem (l := r), eq_comm]
theorem freed_perm (j : Nat) : ∀ (l : List Lent), (lent l).Perm (freed j l ++ lent (still j l))
  | [] => by simp [lent, freed, still]
  | (x, none) :: r => by
    simp only [lent, freed, still]
    exact ((freed_perm j r).cons x).trans List.perm_middle.symm
  | (x, some s) :: r => by
    simp only [lent, freed, still]
    split
    · exact (freed_perm j r).cons x
    · simp only [lent]; exact ((freed_perm j r).cons x).trans List.perm_middle.symm
theorem still_mem {j : Nat} {p : Lent} : ∀ {l : List Lent}, p ∈ l → p.2 ≠ some j → p ∈ still j l
  | [], h, _ => by cases h
  | (x, none) :: r, h, hn => by
    simp only [still]
    rcases List.mem_cons.1 h with rfl | h
    · simp
    · exact List.mem_cons_of_mem _ (still_mem h hn)
  | (x, some s) :: r, h, hn => by
    simp only [still]
    split
    · rename_i hs
      rcases List.mem_cons.1 h with rfl | h
      · exact absurd (by rw [hs]) hn
      · exact still_mem h hn
    · rcases List.mem_cons.1 h with rfl | h
      · simp
      · exact List.mem_cons_of_mem _ (still_mem h hn)
def noStop (i : Nat) : List Lent → Prop
  | [] => True
  | (_, none) :: r => noStop i r
  | (_, some s) :: r => s ≠ i ∧ noStop i r
theorem noStop_mem {i : Nat} : ∀ {l : List Lent}, noStop i l → ∀ p ∈ l, p.2 ≠ some i
  | [], _, p, hp => by cases hp
  | (x, none) :: r, h, p, hp => by
    rcases List.mem_cons.1 hp with rfl | hp
    · simp
    · exact noStop_mem (l := r) h p hp
  | (x, some s) :: r, h, p, hp => by
    rcases List.mem_cons.1 hp with rfl | hp
    · simpa using h.1
    · exact noStop_mem (l := r) h.2 p hp
mutual
def vsch (P : Program) (Gs : Stab) : List Lent → Sched → Env → Stab → List Ent → (Env → Stab → List Ent → Prop) → (List PanicEntry → Env → Stab → List Ent → Prop) → Prop
  | LR, .done, env, G, L, K, _ => K env G (L ++ lent LR)
  | LR, .take i deps o t, env, G, L, K, q => noStop i LR ∧ match o.op with
    | .rd r => gdK o.gd env (rdK Gs (usable deps LR) env r fun v => vsch P Gs LR t (env.put o.dst v) G L K q) (vsch P Gs LR t (env.put o.dst undef) G L K q)
    | .ef _ => False
  | LR, .all l, env, G, L, K, q => vall P Gs LR l env G L K q
def vall (P : Program) (Gs : Stab) : List Lent → List (Nat × VO × Sched) → Env → Stab → List Ent → (Env → Stab → List Ent → Prop) → (List PanicEntry → Env → Stab → List Ent → Prop) → Prop
  | _, [], _, _, _, _, _ => True
  | LR, (j, o, t) :: r, env, G, L, K, q => gdK o.gd env (vop1 P o.op env G (L ++ freed j LR) (fun v G' L' => vsch P Gs (still j LR) t (env.put o.dst v) G' L' K q) (fun c G' L' => q c env G' (L' ++ lent (still j LR)))) (vsch P Gs (still j LR) t (env.put o.dst undef) G (L ++ freed j LR) K q) ∧ vall P Gs LR r env G L K q
end
def isPure : Rop → Bool
  | .load1 _ | .loadN _ _ | .b2s _ => false
  | _ => true
def depsOf (ops : Array Oper) (i : Nat) : List Nat := let b := Region.before ops; (List.range ops.size).filter fun s => (b.getD s 0).testBit i
def backB (ops : Array Oper) (i : Nat) (deps : List Nat) : Bool := deps.all fun j => match ops[j]? with
  | some o => o.after.any fun e => Region.binds .any e && (e.on == i || deps.contains e.on)
  | none => false
/-- A schedule: what only reads comes first. -/
def mkS (P : Program) (n : Nat) (pk : List Nat) (ops : Array Oper) : Nat → Array Bool → Option Sched
  | fuel, listed =>
    match Region.ready .any ops listed with
    | [] => some .done
    | r0 :: rs =>
      match fuel with
      | 0 => none
      | fuel + 1 =>
        match (r0 :: rs).find? (fun i => match (ops[i]?).bind (trO P n pk ops) with | some ⟨_, _, .rd r⟩ => (isPure r || !rs.isEmpty) && Region.free .any ops listed i | _ => false) with
        | some i => match (ops[i]?).bind (trO P n pk ops), mkS P n pk ops fuel (listed.setIfInBounds i true) with
          | some v, some t => if backB ops i (depsOf ops i) && (depsOf ops i).all (fun j => j != i && !(listed.getD j false)) then some (.take i (depsOf ops i) v t) else none
          | _, _ => none
        | none => ((r0 :: rs).mapM fun i => match (ops[i]?).bind (trO P n pk ops), mkS P n pk ops fuel (listed.setIfInBounds i true) with
          | some v, some t => some (i, v, t)
          | _, _ => none).map .all
end
end Go.Sy
