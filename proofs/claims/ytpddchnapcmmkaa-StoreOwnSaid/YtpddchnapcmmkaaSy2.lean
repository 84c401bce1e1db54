import Derived.Test.YtpddchnapcmmkaaSy1
namespace Go.Sy
open Go Go.RowKit

/-! ### Frames: of some slots what they hold -/
abbrev Env := List (Nat × Value)
def Env.get : Env → Nat → Option Value
  | [], _ => none
  | (k, v) :: r, i => if k = i then some v else Env.get r i
def Env.put (env : Env) (d : Option Nat) (v : Value) : Env := match d with | some k => (k, v) :: env | none => env
def Env.only (env : Env) : List Nat → Env
  | [] => []
  | k :: ks => match env.get k with | some v => (k, v) :: env.only ks | none => env.only ks
def Env.Sub : Env → Env → Prop
  | [], _ => True
  | (k, v) :: r, env => env.get k = some v ∧ Env.Sub r env
structure Agree (n : Nat) (a : Act) (env : Env) : Prop where
  size : a.tmps.size = n
  defers : a.defers = []
  val : ∀ i v, env.get i = some v → a.tmps[i]? = some v
theorem Env.Sub.get {env : Env} : ∀ {e : Env}, e.Sub env → ∀ i v, e.get i = some v → env.get i = some v
  | [], _, i, v, h => by simp [Env.get] at h
  | (k, u) :: r, hs, i, v, h => by
    simp only [Env.get] at h
    split at h
    · rename_i hk; subst hk; rw [← h]; exact hs.1
    · exact Env.Sub.get hs.2 i v h
theorem Agree.sub {n : Nat} {a : Act} {env e : Env} (h : Agree n a env) (hs : e.Sub env) : Agree n a e := ⟨h.size, h.defers, fun i v hi => h.val i v (hs.get i v hi)⟩
theorem only_get {env : Env} : ∀ (ks : List Nat) (i : Nat) (v : Value), (env.only ks).get i = some v → env.get i = some v
  | [], i, v, h => by simp [Env.only, Env.get] at h
  | k :: ks, i, v, h => by
    simp only [Env.only] at h
    split at h
    · rename_i u hu
      simp only [Env.get] at h
      split at h
      · rename_i hk; subst hk; rw [hu]; exact h
      · exact only_get ks i v h
    · exact only_get ks i v h
theorem Agree.only {n : Nat} {a : Act} {env : Env} (h : Agree n a env) (ks : List Nat) : Agree n a (env.only ks) := ⟨h.size, h.defers, fun i v hi => h.val i v (only_get ks i v hi)⟩
theorem Agree.put {n : Nat} {a : Act} {env : Env} (h : Agree n a env) (d : Option Nat) (v : Value) (hd : ∀ k, d = some k → k < n) : Agree n (a.put d v) (env.put d v) := by
  cases d with
  | none => exact h
  | some k =>
    have hk := hd k rfl
    refine ⟨by simp [Act.put, h.size], h.defers, fun i u hi => ?_⟩
    simp only [Env.put, Env.get] at hi
    split at hi
    · rename_i he; subst he
      simp only [Option.some.injEq] at hi; subst hi
      simp [Act.put, h.size, hk]
    · rename_i he
      simp only [Act.put]
      rw [Array.getElem?_setIfInBounds_ne he]
      exact h.val i u hi
/-- A slot that is passed over. -/
theorem Agree.lose {n : Nat} {a : Act} {env : Env} (h : Agree n a env) (d : Option Nat) (v : Value) (hd : ∀ k, d = some k → k < n) : Agree n (a.put d v) (env.put d v) := h.put d v hd

/-! ### Operands and what they are -/
inductive VX where
  | tmp (t : Nat)
  | val (v : Value)
def VX.of : Operand → VX
  | .tmp t => .tmp t
  | .const v => .val v
  | .global g => .val (.pointer (some ⟨g, 0, none⟩))
  | .func f => .val (.func (.func f) #[] #[])
def Env.ev (env : Env) : VX → Option Value
  | .tmp t => env.get t
  | .val v => some v
theorem Agree.ev {n : Nat} {a : Act} {env : Env} (h : Agree n a env) {x : Operand} {v : Value} (hv : env.ev (VX.of x) = some v) : a.eval x = v := by
  cases x with
  | tmp t =>
    have := h.val t v hv
    simp only [Act.eval]
    rw [Array.getD_eq_getD_getElem?, this]; rfl
  | const u => simpa [VX.of, Env.ev, Act.eval] using hv
  | global g => simpa [VX.of, Env.ev, Act.eval] using hv
  | func f => simpa [VX.of, Env.ev, Act.eval] using hv
def onV (v : Option Value) (k : Value → Prop) : Prop := match v with | some u => k u | none => False
def onI (v : Option Value) (k : IntKind → Int → Prop) : Prop := match v with | some (.int a b) => k a b | _ => False
def onB (v : Option Value) (k : Bool → Prop) : Prop := match v with | some (.bool b) => k b | _ => False
def onP (v : Option Value) (k : Addr → Prop) : Prop := match v with | some (.pointer (some a)) => k a | _ => False
def onQ (v : Option Value) (k : Option Addr → Prop) : Prop := match v with | some (.pointer a) => k a | _ => False
def onL (v : Option Value) (k : Option Addr → Nat → Nat → Prop) : Prop := match v with | some (.slice a n c) => k a n c | _ => False
def onS (v : Option Value) (k : ByteArray → Prop) : Prop := match v with | some (.string s) => k s | _ => False
def onA (v : Option Value) (k : List Value → Prop) : Prop := match v with | some (.agg cs) => k cs.toList | _ => False
def onT (v : Option Value) (k : List Value → Prop) : Prop := match v with | some (.tuple cs) => k cs.toList | _ => False
def onF (v : Option Value) (k : FuncId → List Value → List Value → Prop) : Prop := match v with | some (.func (.func f) first captured) => k f first.toList captured.toList | _ => False
@[go_sem] theorem onV_some (v : Value) (k : Value → Prop) : onV (some v) k = k v := rfl
@[go_sem] theorem onI_some (a : IntKind) (b : Int) (k : IntKind → Int → Prop) : onI (some (.int a b)) k = k a b := rfl
@[go_sem] theorem onB_some (b : Bool) (k : Bool → Prop) : onB (some (.bool b)) k = k b := rfl
@[go_sem] theorem onP_some (a : Addr) (k : Addr → Prop) : onP (some (.pointer (some a))) k = k a := rfl
@[go_sem] theorem onQ_some (a : Option Addr) (k : Option Addr → Prop) : onQ (some (.pointer a)) k = k a := rfl
@[go_sem] theorem onL_some (a : Option Addr) (n c : Nat) (k : Option Addr → Nat → Nat → Prop) : onL (some (.slice a n c)) k = k a n c := rfl
@[go_sem] theorem onS_some (s : ByteArray) (k : ByteArray → Prop) : onS (some (.string s)) k = k s := rfl
@[go_sem] theorem onA_some (cs : Array Value) (k : List Value → Prop) : onA (some (.agg cs)) k = k cs.toList := rfl
@[go_sem] theorem onT_some (cs : Array Value) (k : List Value → Prop) : onT (some (.tuple cs)) k = k cs.toList := rfl
@[go_sem] theorem onF_some (f : FuncId) (b c : List Value) (k : FuncId → List Value → List Value → Prop) : onF (some (.func (.func f) ⟨b⟩ ⟨c⟩)) k = k f b c := rfl
def cellsL (v : Value) : List Value := v.cells.toList
def replAt (cs : List Value) (off : Nat) (new : List Value) : List Value := cs.take off ++ new ++ cs.drop (off + new.length)

/-- Cells that can be read: what stands fast, what is one's own. -/
def Rds (G : Stab) (L : List Ent) (a : Addr) (cs : List Value) : Prop :=
  G.has a cs ∨ ∃ x ∈ L, match x with
    | .obj b c _ => a.block = b ∧ a.spot = none ∧ ∀ i u, cs[i]? = some u → c[a.off + i]? = some u
    | .acc v _ xs _ _ => v.ownBlock = some a.block ∧ a.spot = none ∧ ∀ i u, cs[i]? = some u → xs[a.off + i]? = some u
theorem add_norm {a : Addr} (h : a.spot = none) (i : Nat) : a.add i = ⟨a.block, a.off + i, none⟩ := by
  unfold Addr.add; split
  · rename_i h0; subst h0; cases a; simp_all
  · rfl
theorem add_zero_of {a : Addr} : a.add 0 = a := by simp [Addr.add]
theorem Rds.cell {G : Stab} {L : List Ent} {a : Addr} {cs : List Value} (h : Rds G L a cs) {w : World} (hs : Sat G w) (hL : ∀ x ∈ L, x.ok w) {i : Nat} {u : Value} (hu : cs[i]? = some u) : w.cell? (a.add i) = some u := by
  rcases h with h | ⟨x, hx, h⟩
  · exact hs.cell h hu
  · have hok := hL x hx
    cases x with
    | obj b c ty =>
      obtain ⟨h1, h2, h3⟩ := h
      rw [add_norm h2]
      have hok' : w.heap[b]? = some (.cells ⟨c⟩ ty (0, 0)) := hok
      simp only [World.cell?, h1, hok', Option.isSome_none, Bool.false_eq_true, if_false]
      simpa using h3 i u hu
    | acc v n xs e sz =>
      obtain ⟨h1, h2, h3⟩ := h
      rw [add_norm h2]
      have hok' : w.ownsRow 0 e sz v n xs := hok
      have := hok'.cells h1 (a.off + i) u (h3 i u hu)
      rwa [show (⟨a.block, 0, none⟩ : Addr).add (a.off + i) = ⟨a.block, a.off + i, none⟩ from by rw [add_norm rfl]; simp] at this
theorem Rds.nil (G : Stab) (L : List Ent) (a : Addr) : Rds G L a [] := .inl fun i u h => by simp at h
theorem Rds.mono {G G' : Stab} {L : List Ent} {a : Addr} {cs : List Value} (h : Rds G L a cs) (hl : G.Le G') : Rds G' L a cs := h.imp (fun h => h.mono hl) id
theorem Rds.sub {G : Stab} {L L' : List Ent} {a : Addr} {cs : List Value} (h : Rds G L a cs) (hl : ∀ x ∈ L, x ∈ L') : Rds G L' a cs := h.imp id fun ⟨x, hx, k⟩ => ⟨x, hl x hx, k⟩
theorem run_loadCellsFrom {P : Program} {w : World} {a : Addr} : ∀ (cs : List Value) (i : Nat) (acc : Array Value), (∀ j u, cs[j]? = some u → w.cell? (a.add (i + j)) = some u) →
    (loadCellsFrom a i cs.length acc).run P w = .ok (acc ++ cs.toArray) w
  | [], i, acc, h => by simp [loadCellsFrom]
  | c :: cs, i, acc, h => by
    have h0 := h 0 c rfl
    simp only [Nat.add_zero] at h0
    have ih := run_loadCellsFrom (P := P) (w := w) (a := a) cs (i + 1) (acc.push c) (fun j u hu => by have := h (j + 1) u hu; rwa [show i + (j + 1) = i + 1 + j from by omega] at this)
    simp only [List.length_cons, loadCellsFrom, load, Sem.run_bind, Sem.run, h0, Result.andThen_ok, ih]
    simp
theorem run_loadCells' {P : Program} {w : World} {a : Addr} {cs : List Value} (h : ∀ j u, cs[j]? = some u → w.cell? (a.add j) = some u) : (loadCells a cs.length).run P w = .ok cs.toArray w := by
  have := run_loadCellsFrom (P := P) (w := w) (a := a) cs 0 #[] (fun j u hu => by simpa using h j u hu)
  simpa [loadCells] using this
end Go.Sy
