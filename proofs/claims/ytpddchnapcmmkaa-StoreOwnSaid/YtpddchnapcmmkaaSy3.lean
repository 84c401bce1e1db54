import Derived.Test.YtpddchnapcmmkaaSy2
namespace Go.Sy
open Go Go.RowKit

/-! ### Operations that only read -/
inductive Rop where
  | mov (x : VX)
  | pick (c a b : VX)
  | nilck (x : VX)
  | load1 (x : VX)
  | loadN (n : Nat) (x : VX)
  | fa (off : Nat) (x : VX)
  | fld1 (off : Nat) (x : VX)
  | fldN (n off : Nat) (x : VX)
  | ia (esz : Nat) (x i : VX)
  | idxs (x i : VX)
  | biI (op : BinOp) (x y : VX)
  | biB (ne : Bool) (x y : VX)
  | biS (op : BinOp) (x y : VX)
  | eqP (ne : Bool) (x y : VX)
  | eqL (ne : Bool) (x y : VX)
  | not (x : VX)
  | conv (k : IntKind) (x : VX)
  | b2s (x : VX)
  | neg (x : VX)
  | mkfn (f : FuncId) (first cap : List VX)
  | slc (esz : Nat) (x : VX) (lo hi mx : Option VX)
  | slcs (x : VX) (lo hi : Option VX)
  | bld (zs : List Value) (parts : List (Nat × Nat × VX))
  | ext (i : Nat) (x : VX)
  | lenL (x : VX)
  | lenS (x : VX)
  | mx (x y : VX)
  | mn (x y : VX)
  | mkif (t : TypeId) (x : VX)

def evs (env : Env) : List VX → (List Value → Prop) → Prop
  | [], k => k []
  | x :: xs, k => onV (env.ev x) fun v => evs env xs fun vs => k (v :: vs)
def fillP (env : Env) : List Value → List (Nat × Nat × VX) → (List Value → Prop) → Prop
  | cs, [], k => k cs
  | cs, (off, sz, x) :: r, k => onV (env.ev x) fun v => (cellsL v).length = sz ∧ off + sz ≤ cs.length ∧ fillP env (replAt cs off (cellsL v)) r k
def iop (op : BinOp) (ka : IntKind) (a : Int) (kb : IntKind) (b : Int) (k : Value → Prop) : Prop :=
  match op with
  | .shl => 0 ≤ b ∧ k (.int ka (ka.wrap (a * 2 ^ (min b.toNat ka.bits))))
  | .shr => 0 ≤ b ∧ k (.int ka (a.fdiv (2 ^ (min b.toNat ka.bits))))
  | .add => ka = kb ∧ k (.int ka (ka.wrap (a + b)))
  | .sub => ka = kb ∧ k (.int ka (ka.wrap (a - b)))
  | .mul => ka = kb ∧ k (.int ka (ka.wrap (a * b)))
  | .quo => ka = kb ∧ b ≠ 0 ∧ k (.int ka (ka.wrap (a.tdiv b)))
  | .rem => ka = kb ∧ b ≠ 0 ∧ k (.int ka (a.tmod b))
  | .and => ka = kb ∧ k (.int ka (bits .and ka a b))
  | .or => ka = kb ∧ k (.int ka (bits .or ka a b))
  | .xor => ka = kb ∧ k (.int ka (bits .xor ka a b))
  | .andNot => ka = kb ∧ k (.int ka (bits .andNot ka a b))
  | .eql => ka = kb ∧ k (.bool (a == b))
  | .neq => ka = kb ∧ k (.bool (a != b))
  | .lss => ka = kb ∧ k (.bool (decide (a < b)))
  | .leq => ka = kb ∧ k (.bool (decide (a ≤ b)))
  | .gtr => ka = kb ∧ k (.bool (decide (a > b)))
  | .geq => ka = kb ∧ k (.bool (decide (a ≥ b)))
def bytesStr (bs : List Int) : ByteArray := ⟨(bs.map fun n => UInt8.ofNat n.toNat).toArray⟩
def optI (env : Env) (x : Option VX) (d : Nat) (k : Int → Prop) : Prop := match x with | some y => onI (env.ev y) fun _ j => k j | none => k d
def rdK (G : Stab) (L : List Ent) (env : Env) : Rop → (Value → Prop) → Prop
  | .mov x, k => onV (env.ev x) k
  | .pick c a b, k => onB (env.ev c) fun t => onV (env.ev a) fun va => onV (env.ev b) fun vb => k (if t = true then va else vb)
  | .nilck x, k => onP (env.ev x) fun a => k (.pointer (some a))
  | .load1 x, k => onP (env.ev x) fun a => ∃ v, Rds G L a [v] ∧ k v
  | .loadN n x, k => onP (env.ev x) fun a => ∃ cs, cs.length = n ∧ Rds G L a cs ∧ k (.agg ⟨cs⟩)
  | .fa off x, k => onP (env.ev x) fun a => k (.pointer (some (a.add off)))
  | .fld1 off x, k => onA (env.ev x) fun cs => ∃ v, cs[off]? = some v ∧ k v
  | .fldN n off x, k => onA (env.ev x) fun cs => k (.agg ⟨(cs.drop off).take n⟩)
  | .ia esz x i, k => onL (env.ev x) fun a n _ => onI (env.ev i) fun _ j => ∃ ad, a = some ad ∧ 0 ≤ j ∧ j < n ∧ k (.pointer (some (ad.add (j.toNat * esz))))
  | .idxs x i, k => onS (env.ev x) fun s => onI (env.ev i) fun _ j => 0 ≤ j ∧ ∃ h : j.toNat < s.size, k (.int .u8 (s[j.toNat]'h).toNat)
  | .biI op x y, k => onI (env.ev x) fun ka a => onI (env.ev y) fun kb b => iop op ka a kb b k
  | .biB ne x y, k => onB (env.ev x) fun a => onB (env.ev y) fun b => k (.bool (if ne = true then !(a == b) else a == b))
  | .biS op x y, k => onS (env.ev x) fun a => onS (env.ev y) fun b => match op with
      | .eql => k (.bool (a.toList == b.toList))
      | .neq => k (.bool (!(a.toList == b.toList)))
      | .add => a.size + b.size ≤ 9223372036854775807 ∧ k (.string (a ++ b))
      | _ => False
  | .eqP ne x y, k => onQ (env.ev x) fun a => onQ (env.ev y) fun b => (a = none ∨ b = none) ∧ k (.bool (if ne = true then !(a.isNone && b.isNone) else (a.isNone && b.isNone)))
  | .eqL ne x y, k => onL (env.ev x) fun a _ _ => onL (env.ev y) fun b _ _ => (a = none ∨ b = none) ∧ k (.bool (if ne = true then !(a.isNone && b.isNone) else (a.isNone && b.isNone)))
  | .not x, k => onB (env.ev x) fun b => k (.bool (!b))
  | .conv dk x, k => onI (env.ev x) fun _ n => k (.int dk (dk.wrap n))
  | .b2s x, k => onL (env.ev x) fun a n _ => ∃ bs : List Int, bs.length = n ∧ (∀ ad, a = some ad → Rds G L ad (bs.map (Value.int .u8))) ∧ (a = none → n = 0) ∧ k (.string (bytesStr bs))
  | .neg x, k => onI (env.ev x) fun ka n => k (.int ka (ka.wrap (0 - n)))
  | .mkfn f first cap, k => evs env first fun us => evs env cap fun vs => k (.func (.func f) ⟨us⟩ ⟨vs⟩)
  | .slc esz x lo hi mx, k => onL (env.ev x) fun a n c => optI env mx c fun m => optI env hi n fun h => optI env lo 0 fun l =>
      0 ≤ l ∧ l ≤ h ∧ h ≤ m ∧ m ≤ c ∧ (mx ≠ none → hi ≠ none) ∧ k (.slice (if m.toNat = l.toNat then a else a.map (·.add (l.toNat * esz))) (h.toNat - l.toNat) (m.toNat - l.toNat))
  | .slcs x lo hi, k => onS (env.ev x) fun s => optI env hi s.size fun h => optI env lo 0 fun l => 0 ≤ l ∧ l ≤ h ∧ h ≤ s.size ∧ k (.string (s.extract l.toNat h.toNat))
  | .bld zs parts, k => fillP env zs parts fun cs => k (.agg ⟨cs⟩)
  | .ext i x, k => onT (env.ev x) fun vs => ∃ v, vs[i]? = some v ∧ k v
  | .lenL x, k => onL (env.ev x) fun _ n _ => k (.int .i64 n)
  | .lenS x, k => onS (env.ev x) fun s => k (.int .i64 s.size)
  | .mx x y, k => onI (env.ev x) fun ka a => onI (env.ev y) fun _ b => k (.int ka (if b > a then b else a))
  | .mn x y, k => onI (env.ev x) fun ka a => onI (env.ev y) fun _ b => k (.int ka (if b < a then b else a))
  | .mkif t x, k => onV (env.ev x) fun v => k (.iface t v)

/-! ### Which they are -/
def isAggD : TypeDesc → Bool
  | .struct _ | .array _ _ => true
  | _ => false
def fieldOf (P : Program) (t : TypeId) (f : Nat) : Option (Nat × Nat × Bool) :=
  match P.underlying t with
  | some (.struct fs) => match fs[f]? with
    | some fd => match P.info? fd.type, P.underlying fd.type with
      | some i, some d => some (fd.offset, i.size, isAggD d)
      | _, _ => none
    | none => none
  | _ => none
def placesOf (P : Program) (t : TypeId) : Option (List (Nat × Nat)) :=
  match P.underlying t with
  | some (.struct fs) => fs.toList.mapM fun fd => (P.info? fd.type).map fun i => (fd.offset, i.size)
  | some (.array n e) => (P.info? e).map fun i => (List.range n).map fun j => (j * i.size, i.size)
  | _ => none
def partsOf (pl : List (Nat × Nat)) : List (Nat × Operand) → Option (List (Nat × Nat × VX))
  | [] => some []
  | (i, x) :: r => match pl[i]?, partsOf pl r with
    | some (off, sz), some q => some ((off, sz, VX.of x) :: q)
    | _, _ => none
def zeroOf (P : Program) (t : TypeId) : Option (List Value) := (P.info? t).bind fun i => i.zero.map cellsL
def trR (P : Program) : Op → Option Rop
  | .move x | .assign x => some (.mov (VX.of x))
  | .pick c a b => some (.pick (VX.of c) (VX.of a) (VX.of b))
  | .nilCheck x => some (.nilck (VX.of x))
  | .load t x => match P.underlying t, P.info? t with
    | some d, some i => if isAggD d then some (.loadN i.size (VX.of x)) else some (.load1 (VX.of x))
    | _, _ => none
  | .fieldAddr t x f => match fieldOf P t f with
    | some (off, sz, _) => if sz = 0 then none else some (.fa off (VX.of x))
    | none => none
  | .field t x f => match fieldOf P t f with
    | some (off, sz, g) => if g then some (.fldN sz off (VX.of x)) else some (.fld1 off (VX.of x))
    | none => none
  | .indexAddr t x i => match P.underlying t with
    | some (.slice e) => (P.info? e).map fun inf => .ia inf.size (VX.of x) (VX.of i)
    | _ => none
  | .index t x i => match P.underlying t with
    | some .string => some (.idxs (VX.of x) (VX.of i))
    | _ => none
  | .binOp op t x y _ => match P.underlying t with
    | some (.int _) => some (.biI op (VX.of x) (VX.of y))
    | some .bool => match op with | .eql => some (.biB false (VX.of x) (VX.of y)) | .neq => some (.biB true (VX.of x) (VX.of y)) | _ => none
    | some .string => some (.biS op (VX.of x) (VX.of y))
    | some (.pointer _) => match op with | .eql => some (.eqP false (VX.of x) (VX.of y)) | .neq => some (.eqP true (VX.of x) (VX.of y)) | _ => none
    | some (.slice _) => match op with | .eql => some (.eqL false (VX.of x) (VX.of y)) | .neq => some (.eqL true (VX.of x) (VX.of y)) | _ => none
    | _ => none
  | .unOp .not _ x => some (.not (VX.of x))
  | .convert s t x => match P.underlying s, P.underlying t with
    | some _, some (.int k) => some (.conv k (VX.of x))
    | some (.slice e), some .string => match P.underlying e with
      | some (.int .u8) => some (.b2s (VX.of x))
      | _ => none
    | _, _ => none
  | .unOp .neg _ x => some (.neg (VX.of x))
  | .makeFunc (.func f) first cap => some (.mkfn f (first.toList.map VX.of) (cap.toList.map VX.of))
  | .slice t x lo hi mx => match P.underlying t with
    | some (.slice e) => (P.info? e).map fun inf => .slc inf.size (VX.of x) (lo.map VX.of) (hi.map VX.of) (mx.map VX.of)
    | some .string => match mx with | none => some (.slcs (VX.of x) (lo.map VX.of) (hi.map VX.of)) | some _ => none
    | _ => none
  | .build t parts => match zeroOf P t, placesOf P t with
    | some zs, some pl => (partsOf pl parts.toList).map fun q => .bld zs q
    | _, _ => none
  | .extract x i => some (.ext i (VX.of x))
  | .makeInterface t x => match P.underlying t with
    | some (.interface _) | none => none
    | some _ => some (.mkif t (VX.of x))
  | .call { callee := .builtin .len, args, argTypes } => match args.toList, argTypes.toList with
    | [x], [t] => match P.underlying t with
      | some (.slice _) => some (.lenL (VX.of x))
      | some .string => some (.lenS (VX.of x))
      | _ => none
    | _, _ => none
  | .call { callee := .builtin .max, args, argTypes := _ } => match args.toList with
    | [x, y] => some (.mx (VX.of x) (VX.of y))
    | _ => none
  | .call { callee := .builtin .min, args, argTypes := _ } => match args.toList with
    | [x, y] => some (.mn (VX.of x) (VX.of y))
    | _ => none
  | _ => none

/-! ### They do so -/
theorem onV_elim {v : Option Value} {k : Value → Prop} (h : onV v k) : ∃ u, v = some u ∧ k u := by
  unfold onV at h; split at h
  · exact ⟨_, rfl, h⟩
  · exact h.elim
theorem onI_elim {v : Option Value} {k : IntKind → Int → Prop} (h : onI v k) : ∃ a b, v = some (.int a b) ∧ k a b := by
  unfold onI at h; split at h
  · exact ⟨_, _, rfl, h⟩
  · exact h.elim
theorem onB_elim {v : Option Value} {k : Bool → Prop} (h : onB v k) : ∃ b, v = some (.bool b) ∧ k b := by
  unfold onB at h; split at h
  · exact ⟨_, rfl, h⟩
  · exact h.elim
theorem onP_elim {v : Option Value} {k : Addr → Prop} (h : onP v k) : ∃ a, v = some (.pointer (some a)) ∧ k a := by
  unfold onP at h; split at h
  · exact ⟨_, rfl, h⟩
  · exact h.elim
theorem onQ_elim {v : Option Value} {k : Option Addr → Prop} (h : onQ v k) : ∃ a, v = some (.pointer a) ∧ k a := by
  unfold onQ at h; split at h
  · exact ⟨_, rfl, h⟩
  · exact h.elim
theorem onL_elim {v : Option Value} {k : Option Addr → Nat → Nat → Prop} (h : onL v k) : ∃ a n c, v = some (.slice a n c) ∧ k a n c := by
  unfold onL at h; split at h
  · exact ⟨_, _, _, rfl, h⟩
  · exact h.elim
theorem onS_elim {v : Option Value} {k : ByteArray → Prop} (h : onS v k) : ∃ s, v = some (.string s) ∧ k s := by
  unfold onS at h; split at h
  · exact ⟨_, rfl, h⟩
  · exact h.elim
theorem onA_elim {v : Option Value} {k : List Value → Prop} (h : onA v k) : ∃ cs : Array Value, v = some (.agg cs) ∧ k cs.toList := by
  unfold onA at h; split at h
  · exact ⟨_, rfl, h⟩
  · exact h.elim
theorem onT_elim {v : Option Value} {k : List Value → Prop} (h : onT v k) : ∃ cs : Array Value, v = some (.tuple cs) ∧ k cs.toList := by
  unfold onT at h; split at h
  · exact ⟨_, rfl, h⟩
  · exact h.elim
theorem onF_elim {v : Option Value} {k : FuncId → List Value → List Value → Prop} (h : onF v k) : ∃ (f : FuncId) (b c : Array Value), v = some (.func (.func f) b c) ∧ k f b.toList c.toList := by
  unfold onF at h; split at h
  · exact ⟨_, _, _, rfl, h⟩
  · exact h.elim
theorem evs_elim {env : Env} : ∀ {xs : List VX} {k : List Value → Prop}, evs env xs k → ∃ vs : List Value, vs.length = xs.length ∧ (∀ (i : Nat) (x : VX), xs[i]? = some x → ∃ v, vs[i]? = some v ∧ env.ev x = some v) ∧ k vs
  | [], k, h => ⟨[], rfl, fun i x hx => by simp at hx, h⟩
  | x :: xs, k, h => by
    obtain ⟨v, hv, h⟩ := onV_elim h
    obtain ⟨vs, hl, hx, hk⟩ := evs_elim h
    refine ⟨v :: vs, by simp [hl], fun i y hy => ?_, hk⟩
    cases i with
    | zero => simp only [List.getElem?_cons_zero, Option.some.injEq] at hy; subst hy; exact ⟨v, rfl, hv⟩
    | succ i => simp only [List.getElem?_cons_succ] at hy ⊢; exact hx i y hy
theorem Agree.evs {n : Nat} {a : Act} {env : Env} (hA : Agree n a env) {xs : List Operand} {k : List Value → Prop} (h : evs env (xs.map VX.of) k) : k (xs.map a.eval) := by
  obtain ⟨vs, hl, hx, hk⟩ := evs_elim h
  have : vs = xs.map a.eval := by
    apply List.ext_getElem?
    intro i
    rcases Nat.lt_or_ge i xs.length with hi | hi
    · obtain ⟨v, h1, h2⟩ := hx i (VX.of xs[i]) (by simp [hi])
      rw [h1, List.getElem?_map, List.getElem?_eq_getElem hi]
      simp [hA.ev h2]
    · rw [List.getElem?_eq_none (by simp at hl; omega), List.getElem?_eq_none (by simpa using hi)]
  rw [← this]; exact hk
end Go.Sy
