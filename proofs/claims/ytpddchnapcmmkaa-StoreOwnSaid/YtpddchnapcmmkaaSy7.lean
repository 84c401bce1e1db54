import Derived.Test.YtpddchnapcmmkaaSy6
namespace Go.Sy
open Go Go.RowKit

/-! ### Operations that do something -/
inductive Eop where
  | box (e : TypeId) (x : VX)
  | alloc (e : TypeId) (zs : List Value)
  | bsl (e : TypeId) (len : Nat) (zs : List Value) (parts : List (Nat × Nat × VX))
  | store (n : Nat) (x y : VX)
  | call (f : FuncId) (args : List VX)
  | callv (f : VX) (args : List VX)
  | app (e : TypeId) (sz bytes : Nat) (s x : VX)
  | mks (e : TypeId) (bytes : Nat) (zs : List Value) (l c : VX)
  | panic (x : VX)

def newB (G : Stab) (L : List Ent) (cs : List Value) (e : TypeId) (k : Addr → Stab → List Ent → Prop) : Prop :=
  (∀ b, (∀ x ∈ L, x.blk ≠ some b) → k ⟨b, 0, none⟩ G (L ++ [.obj b cs e])) ∨
  (∀ b G', G.Le G' → G'.has ⟨b, 0, none⟩ cs → k ⟨b, 0, none⟩ G' L)
theorem newB_own {G : Stab} {L : List Ent} {cs : List Value} {e : TypeId} {k : Addr → Stab → List Ent → Prop} (h : ∀ b, (∀ x ∈ L, x.blk ≠ some b) → k ⟨b, 0, none⟩ G (L ++ [.obj b cs e])) : newB G L cs e k := .inl h
theorem newB_fix {G : Stab} {L : List Ent} {cs : List Value} {e : TypeId} {k : Addr → Stab → List Ent → Prop} (h : ∀ b G', G.Le G' → G'.has ⟨b, 0, none⟩ cs → k ⟨b, 0, none⟩ G' L) : newB G L cs e k := .inr h
def stoK (L : List Ent) (a : Addr) (new : List Value) (k : List Ent → Prop) : Prop :=
  ∃ pre y post, L = pre ++ y :: post ∧ match y with
    | .obj b cs ty => a.block = b ∧ a.off + new.length ≤ cs.length ∧ k (pre ++ .obj b (replAt cs a.off new) ty :: post)
    | .acc v n xs e sz => v.ownBlock = some a.block ∧ a.off + new.length ≤ xs.length ∧ k (pre ++ .acc v n (replAt xs a.off new) e sz :: post)
def callK (P : Program) (f : FuncId) (vs : List Value) (G : Stab) (L : List Ent) (k : Value → Stab → List Ent → Prop) (q : List PanicEntry → Stab → List Ent → Prop) : Prop :=
  ∃ L1 R Post, Con P f ⟨vs⟩ G L1 Post ∧ L.Perm (L1 ++ R) ∧ ∀ e G' L', G.Le G' → Post e G' L' → match e with
    | .returned v => ∃ L'', (L' ++ R).Perm L'' ∧ k v G' L''
    | .panicked c => q c G' (L' ++ R)
    | .outgrown => False
def okCall (P : Program) (f : FuncId) : Bool := match P.funcs[f]? with | some fn => !(fn.name == "runtime.NumGoroutine") && fn.body.isSome | none => false
def appT (M : List Ent) (sv : Value) (news : List Value) (m : Nat) (e : TypeId) (sz bytes : Nat) (k : Value → List Ent → Prop) : Prop :=
  (∃ pre n xs post, M = pre ++ .acc sv n xs e sz :: post ∧ (n + m) * bytes ≤ 140737488355328 ∧ n + m ≤ 9223372036854775807 ∧
    ∀ A c, (Value.slice A (n + m) c = .slice none 0 0 ↔ sv = .slice none 0 0 ∧ m = 0) → k (.slice A (n + m) c) (pre ++ .acc (.slice A (n + m) c) (n + m) (xs ++ news) e sz :: post)) ∨
  (sv = .slice none 0 0 ∧ m * bytes ≤ 140737488355328 ∧ m ≤ 9223372036854775807 ∧
    ∀ A c, (Value.slice A m c = .slice none 0 0 ↔ m = 0) → k (.slice A m c) (M ++ [.acc (.slice A m c) m news e sz]))
def appK (G : Stab) (L : List Ent) (sv : Value) (ax : Option Addr) (m : Nat) (e : TypeId) (sz bytes : Nat) (k : Value → List Ent → Prop) : Prop :=
  ∃ news : List Value, news.length = m * sz ∧ (∀ u ∈ news, u.oneCell' = true) ∧
    (((ax = none → m = 0) ∧ (∀ ad, ax = some ad → Rds G L ad news) ∧ appT L sv news m e sz bytes k) ∨
     (∃ M b ty, L = M ++ [.obj b news ty] ∧ ax = some ⟨b, 0, none⟩ ∧ appT M sv news m e sz bytes k))
def efK (P : Program) (G : Stab) (L : List Ent) (env : Env) (k : Value → Stab → List Ent → Prop) (q : List PanicEntry → Stab → List Ent → Prop) : Eop → Prop
  | .box e x => onV (env.ev x) fun v => newB G L (cellsL v) e fun a => k (.pointer (some a))
  | .alloc e zs => newB G L zs e fun a => k (.pointer (some a))
  | .bsl e len zs parts => fillP env zs parts fun cs => (newB G L cs e fun a => k (.slice (some a) len len)) ∨
      (∃ sz, cs.length = len * sz ∧ len ≤ 4096 ∧ ∀ b, k (.slice (some ⟨b, 0, none⟩) len len) G (L ++ [.acc (.slice (some ⟨b, 0, none⟩) len len) len cs e sz]))
  | .store n x y => onP (env.ev x) fun a => onV (env.ev y) fun v => (cellsL v).length = n ∧ a.spot = none ∧ (∀ u ∈ cellsL v, u.oneCell' = true) ∧ stoK L a (cellsL v) fun L' => k undef G L'
  | .call f args => evs env args fun vs => callK P f vs G L k q
  | .callv f args => onF (env.ev f) fun f first cap => okCall P f = true ∧ evs env args fun vs => callK P f (first ++ vs ++ cap) G L k q
  | .app e sz bytes s x => onV (env.ev s) fun sv => onL (env.ev x) fun ax m _ => appK G L sv ax m e sz bytes fun v L' => k v G L'
  | .mks e bytes zs l c => onI (env.ev l) fun _ lv => onI (env.ev c) fun _ cv => 0 ≤ lv ∧ lv ≤ cv ∧ cv ≤ 9223372036854775807 ∧ bytes * cv.toNat ≤ 281474976710656 ∧ newB G L (List.replicate cv.toNat zs).flatten e fun a => k (.slice (some a) lv.toNat cv.toNat)
  | .panic x => onV (env.ev x) fun v => ∃ t u, v = .iface t u ∧ q [{ v, recovered := false }] G L

def trE (P : Program) : Op → Option Eop
  | .box e x => some (.box e (VX.of x))
  | .alloc e => (zeroOf P e).map fun zs => .alloc e zs
  | .buildSlice t len parts => match P.underlying t with
    | some (.slice e) => match P.info? e, zeroOf P e with
      | some i, some zs =>
        if i.size = zs.length ∧ len * i.size ≤ 4096 then
          match partsOf ((List.range len).map fun j => (j * i.size, i.size)) parts.toList with
          | some q => some (.bsl e len (List.replicate len zs).flatten q)
          | none => none
        else none
      | _, _ => none
    | _ => none
  | .store t x y => (P.info? t).map fun i => .store i.size (VX.of x) (VX.of y)
  | .call { callee := .value f, args, argTypes := _ } => match f with
    | .func g => if okCall P g then some (.call g (args.toList.map VX.of)) else none
    | _ => some (.callv (VX.of f) (args.toList.map VX.of))
  | .call { callee := .builtin .append, args, argTypes } => match args.toList, argTypes.toList with
    | [s, x], [t, t'] => if t = t' then match P.underlying t with
        | some (.slice e) => match P.info? e, zeroOf P e with
          | some i, some zs => if 0 < i.size ∧ zs.length = i.size then some (.app e i.size i.bytes (VX.of s) (VX.of x)) else none
          | _, _ => none
        | _ => none
      else none
    | _, _ => none
  | .makeSlice t l c => match P.underlying t with
    | some (.slice e) => match P.info? e, zeroOf P e with
      | some i, some zs => if 0 < i.size ∧ zs.length = i.size then some (.mks e i.bytes zs (VX.of l) (VX.of c)) else none
      | _, _ => none
    | _ => none
  | .panic x => some (.panic (VX.of x))
  | _ => none

/-! ### They do so -/
theorem setCells_ok {P : Program} {b : Nat} {ty : TypeId} : ∀ (new : List Value) (o : Nat) (w : World) (cs : List Value), w.heap[b]? = some (.cells ⟨cs⟩ ty (0, 0)) → o + new.length ≤ cs.length → (∀ u ∈ new, u.oneCell' = true) →
    ∃ w', (storeCells ⟨b, o, none⟩ new).run P w = .ok () w' ∧ w'.heap[b]? = some (.cells ⟨replAt cs o new⟩ ty (0, 0)) ∧ (∀ k, k ≠ b → w'.heap[k]? = w.heap[k]?) ∧ w'.heap.size = w.heap.size ∧ w'.os = w.os ∧ w'.tape = w.tape ∧ w'.output = w.output := by
  have gen : ∀ (new : List Value) (i o : Nat) (w : World) (cs : List Value), w.heap[b]? = some (.cells ⟨cs⟩ ty (0, 0)) → o + i + new.length ≤ cs.length → (∀ u ∈ new, u.oneCell' = true) →
      ∃ w', (storeCells ⟨b, o, none⟩ new i).run P w = .ok () w' ∧ w'.heap[b]? = some (.cells ⟨replAt cs (o + i) new⟩ ty (0, 0)) ∧ (∀ k, k ≠ b → w'.heap[k]? = w.heap[k]?) ∧ w'.heap.size = w.heap.size ∧ w'.os = w.os ∧ w'.tape = w.tape ∧ w'.output = w.output := by
    intro new
    induction new with
    | nil => intro i o w cs h _ _; exact ⟨w, by simp [storeCells], by simpa [replAt] using h, fun _ _ => rfl, rfl, rfl, rfl, rfl⟩
    | cons v new ih =>
      intro i o w cs h hl h1
      simp only [List.length_cons] at hl
      have hc : w.cell? ⟨b, o + i, none⟩ = cs[o + i]? := by simp [World.cell?, h]
      have hlt : o + i < cs.length := by omega
      have hf : w.frozen? ⟨b, o + i, none⟩ = false := by simp [World.frozen?, h]
      have hst : (store ⟨b, o + i, none⟩ v).run P w = .ok () (w.setCell ⟨b, o + i, none⟩ v) := by
        rw [run_store P w _ v .plain (h1 v (by simp)), hc, List.getElem?_eq_getElem hlt]
        simp [hf]
      have hset : (w.setCell ⟨b, o + i, none⟩ v).heap[b]? = some (.cells ⟨cs.set (o + i) v⟩ ty (0, 0)) := by
        simp [World.setCell, Array.getElem?_modify, h]
      obtain ⟨w', r1, r2, r3, r4, r5, r6, r7⟩ := ih (i + 1) o (w.setCell ⟨b, o + i, none⟩ v) (cs.set (o + i) v) hset (by simp; omega) (fun u hu => h1 u (by simp [hu]))
      refine ⟨w', ?_, ?_, fun k hk => (r3 k hk).trans ?_, by rw [r4]; simp [World.setCell], by rw [r5]; rfl, by rw [r6]; rfl, by rw [r7]; rfl⟩
      · simp only [storeCells, Sem.run_bind, add_norm (a := ⟨b, o, none⟩) rfl, hst, Result.andThen_ok, r1]
      · rw [r2]
        congr 3
        have e1 := zip_fold o (v :: new) i ⟨cs⟩ (by simp; omega)
        have e2 := zip_fold o new (i + 1) ⟨cs.set (o + i) v⟩ (by simp; omega)
        simp only [List.zipIdx_cons, List.foldl_cons] at e1
        have e3 : (⟨cs⟩ : Array Value).setIfInBounds (o + i) v = ⟨cs.set (o + i) v⟩ := by simp
        rw [e3] at e1
        exact e2.symm.trans e1
      · exact Below.heap_setCell w _ v k hk
  intro new o w cs h1 h2 h3
  obtain ⟨w', r⟩ := gen new 0 o w cs h1 (by simpa using h2) h3
  exact ⟨w', by simpa using r⟩
theorem replAt_length {cs new : List Value} {o : Nat} (h : o + new.length ≤ cs.length) : (replAt cs o new).length = cs.length := by
  simp [replAt]; omega
/-- A store into one's own. -/
theorem sto_sound {P : Program} {w0 : World} {G0 : Stab} {F : List Nat} {G : Stab} {L R : List Ent} {w : World} (hs : St w0 G0 F G (L ++ R) w) {a : Addr} (ha : a.spot = none) {new : List Value} (h1 : ∀ u ∈ new, u.oneCell' = true) {k : List Ent → Prop} (h : stoK L a new k) :
    ∃ w' L', (storeCells a new).run P w = .ok () w' ∧ St w0 G0 F G (L' ++ R) w' ∧ k L' := by
  obtain ⟨pre, y, post, rfl, h⟩ := h
  have step : ∀ (b : Nat) (y y' : Ent) (w' : World), y.blk = some b → y'.blk = some b → y'.ok w' → (∀ k, k ≠ b → w'.heap[k]? = w.heap[k]?) → w'.heap.size = w.heap.size → w'.os = w.os → w'.tape = w.tape → w'.output = w.output →
      St w0 G0 F G ((pre ++ y :: post) ++ R) w → St w0 G0 F G ((pre ++ y' :: post) ++ R) w' := by
    intro b y y' w' hyb hyb' hok hk hsz e1 e2 e3 hs
    have hp : ((pre ++ y :: post) ++ R).Perm (y :: (pre ++ post ++ R)) := by
      rw [List.append_assoc, List.cons_append, List.append_assoc]; exact List.perm_middle
    have hp' : ((pre ++ y' :: post) ++ R).Perm (y' :: (pre ++ post ++ R)) := by
      rw [List.append_assoc, List.cons_append, List.append_assoc]; exact List.perm_middle
    refine St.perm ?_ hp'.symm
    have hs' := hs.perm hp
    have hne : ∀ z ∈ pre ++ post ++ R, ∀ c, z.blk = some c → c ≠ b := fun z hz c hc he => by
      subst he; exact (List.pairwise_cons.1 hs'.inst.dis).1 z hz c hyb hc
    have hG := hs'.inst.away y (by simp) b hyb
    refine ⟨⟨?_, ?_, ?_, ?_⟩, ?_, ?_⟩
    · intro c hc
      have : c ≠ b := fun e => hc (e ▸ hG)
      rw [hk c this]; exact hs'.inst.sat c hc
    · intro z hz
      rcases List.mem_cons.1 hz with rfl | hz
      · exact hok
      · exact (hs'.inst.oks z (List.mem_cons_of_mem _ hz)).move fun c hc => hk c (hne z hz c hc)
    · refine List.pairwise_cons.2 ⟨fun z hz c hc hc' => ?_, (List.pairwise_cons.1 hs'.inst.dis).2⟩
      rw [hyb'] at hc
      exact hne z hz c hc' (Option.some.inj hc).symm
    · intro z hz c hc
      rcases List.mem_cons.1 hz with rfl | hz
      · rw [hyb'] at hc; cases hc; exact hG
      · exact hs'.inst.away z (List.mem_cons_of_mem _ hz) c hc
    · refine ⟨e1.trans hs'.ext.os, e2.trans hs'.ext.tape, e3.trans hs'.ext.output, by rw [hsz]; exact hs'.ext.size, fun c hc hn => ?_, hs'.ext.gkeep, hs'.ext.gle⟩
      have : c ≠ b := fun e => by
        subst e
        rcases hs'.own y (by simp) c hyb with h | h
        · exact hn h
        · omega
      rw [hk c this]; exact hs'.ext.keep c hc hn
    · intro z hz c hc
      rcases List.mem_cons.1 hz with rfl | hz
      · rw [hyb'] at hc; cases hc; exact hs'.own y (by simp) _ hyb
      · exact hs'.own z (List.mem_cons_of_mem _ hz) c hc
  have hok := hs.inst.oks y (by simp)
  have hae : a = ⟨a.block, a.off, none⟩ := by cases a; simp_all
  cases y with
  | obj b cs ty =>
    obtain ⟨rfl, hl, hk⟩ := h
    obtain ⟨w', r1, r2, r3, r4, r5, r6, r7⟩ := setCells_ok (P := P) new a.off w cs hok hl h1
    rw [← hae] at r1
    exact ⟨w', _, r1, step a.block _ (.obj a.block (replAt cs a.off new) ty) w' rfl rfl r2 r3 r4 r5 r6 r7 hs, hk⟩
  | acc v n xs e sz =>
    obtain ⟨hb, hl, hk⟩ := h
    obtain ⟨hx, hr⟩ := hok
    rcases hr with ⟨rfl, _⟩ | ⟨g, cap, cur, rfl, hg0, hg, hn, hm, hcs, htk⟩
    · simp [Value.ownBlock] at hb
    · simp only [Value.ownBlock, Option.some.injEq] at hb
      subst hb
      have hxl : xs.length ≤ cur.toList.length := by rw [← htk]; simp; omega
      obtain ⟨w', r1, r2, r3, r4, r5, r6, r7⟩ := setCells_ok (P := P) new a.off w cur.toList hg (by omega) h1
      rw [← hae] at r1
      have hlen := replAt_length (cs := xs) (new := new) (o := a.off) hl
      refine ⟨w', _, r1, step a.block _ (.acc (.slice (some ⟨a.block, 0, none⟩) n cap) n (replAt xs a.off new) e sz) w' (by simp [Ent.blk, Value.ownBlock]) (by simp [Ent.blk, Value.ownBlock]) ?_ r3 r4 r5 r6 r7 hs, hk⟩
      refine ⟨by rw [hlen]; exact hx, .inr ⟨a.block, cap, ⟨replAt cur.toList a.off new⟩, rfl, hg0, r2, hn, hm, ?_, ?_⟩⟩
      · simp only [List.size_toArray]
        rw [replAt_length (by omega)]; simpa using hcs
      · rw [← htk]
        simp only [replAt]
        rw [← htk] at hl
        simp only [List.length_take] at hl
        apply List.ext_getElem?
        intro i
        rw [List.getElem?_take]
        simp only [List.getElem?_append, List.length_append, List.length_take, List.getElem?_take, List.getElem?_drop]
        repeat' split
        all_goals first | rfl | omega | (congr 1; omega) | skip
        all_goals (try (rw [List.getElem?_eq_none (by simp; omega)]))
        all_goals (try (symm; rw [List.getElem?_eq_none (by simp; omega)]))
end Go.Sy
