import Derived.Test.YtpddchnapcmmkaaSy12
namespace Go.Sy
open Go Go.RowKit
attribute [go_sem] true_and and_true or_true true_or false_or or_false Bool.false_eq_true Bool.true_eq_false Option.isNone_some Option.isNone_none Bool.and_true Bool.true_and Bool.and_false Bool.false_and Bool.not_true Bool.not_false Bool.or_true Bool.or_false Bool.true_or Bool.false_or
  if_true if_false Addr.add_lit Nat.add_zero Nat.zero_add List.cons_append List.nil_append List.append_nil List.length_cons List.length_nil ne_eq not_true_eq_false not_false_eq_true true_implies false_implies implies_true
  List.mem_cons List.not_mem_nil forall_eq forall_eq_or_imp replAt List.take_succ_cons List.take_zero List.drop_succ_cons List.drop_zero List.length_singleton forall_const List.forall_mem_cons
  List.getElem?_cons_zero List.getElem?_cons_succ Option.some.injEq exists_eq_left exists_eq_left' Int.toNat_natCast
/-- It returns r; what stands fast is as it was; what is one's own is L'. -/
def Val (G : Stab) (L' : List Ent) (r : Value) (e : Ending) (G' : Stab) (L'' : List Ent) : Prop := e = .returned r ∧ G' = G ∧ L'' = L'
section
variable {P : Program} {f : FuncId} {vs : List Value} {G : Stab} {L L1 L2 R : List Ent} {k : Value → Stab → List Ent → Prop} {q : List PanicEntry → Stab → List Ent → Prop} {r : Value} {x y : Ent}
theorem callK.gen {Post : Ending → Stab → List Ent → Prop} (hs : Con P f ⟨vs⟩ G L1 Post) (hp : L.Perm (L1 ++ R)) (h : ∀ e G' L', G.Le G' → Post e G' L' → match e with
    | .returned v => ∃ L'', (L' ++ R).Perm L'' ∧ k v G' L''
    | .panicked c => q c G' (L' ++ R)
    | .outgrown => False) : callK P f vs G L k q := ⟨L1, R, Post, hs, hp, h⟩
theorem callK.ret {Post : Value → Stab → List Ent → Prop} (hs : Con P f ⟨vs⟩ G L1 (Ret Post)) (hp : L.Perm (L1 ++ R)) (h : ∀ v G' L', G.Le G' → Post v G' L' → k v G' (L' ++ R)) : callK P f vs G L k q :=
  callK.gen hs hp fun e G' L' hl ⟨v, he, hv⟩ => by subst he; exact ⟨_, List.Perm.refl _, h v G' L' hl hv⟩
theorem callK.ret0 {Post : Value → Stab → List Ent → Prop} (hs : Con P f ⟨vs⟩ G [] (Ret Post)) (h : ∀ v G' L', G.Le G' → Post v G' L' → k v G' (L' ++ L)) : callK P f vs G L k q := callK.ret hs (by simp) h
/-- Nothing of one's own is handed over; what is made comes behind. -/
theorem callK.new {Post : Value → Stab → List Ent → Prop} (hs : Con P f ⟨vs⟩ G [] (Ret Post)) (h : ∀ v G' L', G.Le G' → Post v G' L' → k v G' (L ++ L')) : callK P f vs G L k q :=
  callK.gen (R := L) hs (by simp) fun e G' L' hl ⟨v, he, hv⟩ => by subst he; exact ⟨_, List.perm_append_comm, h v G' L' hl hv⟩
theorem callK.ret1 {Post : Value → Stab → List Ent → Prop} (hs : Con P f ⟨vs⟩ G [x] (Ret Post)) (h : ∀ v G' L', G.Le G' → Post v G' L' → k v G' (L' ++ R)) : callK P f vs G (x :: R) k q := callK.ret hs (by simp) h
theorem callK.val (hs : Con P f ⟨vs⟩ G L1 (Val G L2 r)) (hp : L.Perm (L1 ++ R)) (h : k r G (L2 ++ R)) : callK P f vs G L k q :=
  callK.gen hs hp fun e G' L' _ ⟨he, h1, h2⟩ => by subst he; subst h1; subst h2; exact ⟨_, List.Perm.refl _, h⟩
theorem callK.val0 (hs : Con P f ⟨vs⟩ G [] (Val G [] r)) (h : k r G L) : callK P f vs G L k q := callK.val hs (by simp) h
theorem callK.val1 (hs : Con P f ⟨vs⟩ G [x] (Val G [y] r)) (h : k r G (y :: R)) : callK P f vs G (x :: R) k q := callK.val hs (by simp) h
theorem stoK.hd {b : Nat} {cs new : List Value} {ty : TypeId} {o : Nat} {k : List Ent → Prop} (hl : o + new.length ≤ cs.length) (h : k (.obj b (replAt cs o new) ty :: L)) : stoK (.obj b cs ty :: L) ⟨b, o, none⟩ new k := ⟨[], _, L, rfl, rfl, hl, h⟩
theorem stoK.tl {a : Addr} {new : List Value} {k : List Ent → Prop} (h : stoK L a new fun L' => k (x :: L')) : stoK (x :: L) a new k := by
  obtain ⟨pre, y, post, rfl, h⟩ := h
  exact ⟨x :: pre, y, post, rfl, h⟩
theorem newB_own' {cs : List Value} {e : TypeId} {k : Addr → Stab → List Ent → Prop} (h : ∀ b, k ⟨b, 0, none⟩ G (L ++ [.obj b cs e])) : newB G L cs e k := .inl fun b _ => h b
end
section
variable {K : Env → Stab → List Ent → Prop} {Q : Post} {env : Env} {G : Stab} {L : List Ent} {id i : Nat} {res : List VR} {Post : Ending → Stab → List Ent → Prop}
theorem thn_n (h : K env G L) : thn K Q .normal env G L := h
theorem thn_r (h : Q .ret env G L) : thn K Q .ret env G L := h
theorem thn_e (h : Q (.exit i) env G L) : thn K Q (.exit i) env G L := h
theorem blk_n (h : Q .normal env G L) : blkQ id Q .normal env G L := h
theorem blk_r (h : Q .ret env G L) : blkQ id Q .ret env G L := h
theorem blk_h (h : Q .normal env G L) : blkQ id Q (.exit id) env G L := by simpa [blkQ] using h
theorem blk_m (hi : (i == id) = false) (h : Q (.exit i) env G L) : blkQ id Q (.exit i) env G L := by simp at hi; simpa [blkQ, hi] using h
theorem fin_n (h : getAll G L env res fun vs => Post (.returned (resV vs)) G L) : fin res Post .normal env G L := h
theorem fin_r (h : getAll G L env res fun vs => Post (.returned (resV vs)) G L) : fin res Post .ret env G L := h
end
end Go.Sy
namespace Go.Sy
open Go Go.RowKit
section
@[go_sem] theorem one_int (k : IntKind) (n : Int) : (Value.int k n).oneCell' = true := rfl
@[go_sem] theorem one_bool (b : Bool) : (Value.bool b).oneCell' = true := rfl
@[go_sem] theorem one_str (s : ByteArray) : (Value.string s).oneCell' = true := rfl
@[go_sem] theorem one_ptr (a : Option Addr) : (Value.pointer a).oneCell' = true := rfl
@[go_sem] theorem one_slice (a : Option Addr) (n c : Nat) : (Value.slice a n c).oneCell' = true := rfl
@[go_sem] theorem one_nilf : Value.nilFunc.oneCell' = true := rfl
@[go_sem] theorem one_nili : Value.nilIface.oneCell' = true := rfl
@[go_sem] theorem one_iface (t : TypeId) (v : Value) : (Value.iface t v).oneCell' = true := rfl
@[go_sem] theorem one_fn (f : Fn) (a b : Array Value) : (Value.func f a b).oneCell' = true := rfl
@[go_sem] theorem one_map (m : Option Nat) : (Value.map m).oneCell' = true := rfl
@[go_sem] theorem cells_agg (cs : List Value) : cellsL (.agg ⟨cs⟩) = cs := rfl
@[go_sem] theorem cells_int (k : IntKind) (n : Int) : cellsL (.int k n) = [.int k n] := rfl
@[go_sem] theorem cells_bool (b : Bool) : cellsL (.bool b) = [.bool b] := rfl
@[go_sem] theorem cells_str (s : ByteArray) : cellsL (.string s) = [.string s] := rfl
@[go_sem] theorem cells_ptr (a : Option Addr) : cellsL (.pointer a) = [.pointer a] := rfl
@[go_sem] theorem cells_slice (a : Option Addr) (n c : Nat) : cellsL (.slice a n c) = [.slice a n c] := rfl
@[go_sem] theorem cells_nilf : cellsL .nilFunc = [.nilFunc] := rfl
@[go_sem] theorem cells_nili : cellsL .nilIface = [.nilIface] := rfl
@[go_sem] theorem cells_iface (t : TypeId) (v : Value) : cellsL (.iface t v) = [.iface t v] := rfl
@[go_sem] theorem cells_fn (f : Fn) (a b : Array Value) : cellsL (.func f a b) = [.func f a b] := rfl
@[go_sem] theorem cells_map (m : Option Nat) : cellsL (.map m) = [.map m] := rfl
theorem cells_one {v : Value} (h : v.oneCell' = true) : cellsL v = [v] := by cases v <;> first | rfl | cases h
end
/-- What is left over is let go. -/
def Drop (Post : Ending → Stab → List Ent → Prop) (e : Ending) (G : Stab) (L : List Ent) : Prop := ∃ M L', L.Perm M ∧ L'.Sublist M ∧ Post e G L'
theorem Con.drop {P : Program} {f : FuncId} {args : Array Value} {G : Stab} {L : List Ent} {Post : Ending → Stab → List Ent → Prop} (h : Con P f args G L (Drop Post)) : Con P f args G L Post :=
  ⟨fun w hI => (h.run w hI).mono fun _ _ ⟨G', _, h1, _, L'', h2, h3, h4⟩ => ⟨G', L'', (h1.perm h2).drop h3, h4⟩⟩
/-- What a function brings about, told by what it is good for. -/
def Cps (Φ : (Value → Stab → List Ent → Prop) → Prop) (e : Ending) (G : Stab) (L : List Ent) : Prop := ∃ v, e = .returned v ∧ ∀ k, Φ k → k v G L
def Gives (Φ : (Value → Stab → List Ent → Prop) → Prop) : Ending → Stab → List Ent → Prop := Drop (Cps Φ)
section
variable {P : Program} {f : FuncId} {vs : List Value} {G : Stab} {L L1 L2 R : List Ent} {k : Value → Stab → List Ent → Prop} {q : List PanicEntry → Stab → List Ent → Prop} {Φ : (Value → Stab → List Ent → Prop) → Prop}
theorem callK.cps (hs : Con P f ⟨vs⟩ G L1 (Gives Φ)) (hp : L.Perm (L1 ++ R)) (h : Φ fun v G' L' => k v G' (R ++ L')) : callK P f vs G L k q :=
  callK.gen (R := R) hs.drop hp fun e G' L' _ ⟨v, he, hv⟩ => by subst he; exact ⟨_, List.perm_append_comm, hv _ h⟩
theorem callK.cps0 (hs : Con P f ⟨vs⟩ G [] (Gives Φ)) (h : Φ fun v G' L' => k v G' (L ++ L')) : callK P f vs G L k q := callK.cps hs (by simp) h
/-- Of one's own, the first is handed over and comes back changed at the same place. -/
theorem callK.cpsH {x : Ent} (hs : Con P f ⟨vs⟩ G [x] (Gives Φ)) (h : Φ fun v G' L' => k v G' (L' ++ R)) : callK P f vs G (x :: R) k q :=
  callK.gen (R := R) (L1 := [x]) hs.drop (by simp) fun e G' L' _ ⟨v, he, hv⟩ => by subst he; exact ⟨_, List.Perm.refl _, hv _ h⟩
theorem Gives.mk {e : Ending} {v : Value} {L' : List Ent} (he : e = .returned v) (h : ∀ k, Φ k → k v G L') (hs : L'.Sublist L) : Gives Φ e G L := ⟨L, L', List.Perm.refl _, hs, v, he, h⟩
theorem Gives.ret {v : Value} {L' : List Ent} (h : ∀ k, Φ k → k v G L') (hs : L'.Sublist L) : Gives Φ (.returned v) G L := Gives.mk rfl h hs
theorem Gives.perm {e : Ending} (hp : L.Perm L1) (h : Gives Φ e G L1) : Gives Φ e G L := by
  obtain ⟨M, L', h1, h2⟩ := h
  exact ⟨M, L', hp.trans h1, h2⟩
end
/-- A row that can be read: n things of sz cells each, of so many bytes. -/
structure Row (G : Stab) (sz bytes : Nat) (A : Option Addr) (n : Nat) (cs : List Value) : Prop where
  len : cs.length = n * sz
  nil : A = none → n = 0
  has : ∀ ad, A = some ad → G.has ad cs
  one : ∀ u ∈ cs, u.oneCell' = true
  size : n * bytes ≤ 140737488351232
  max : n ≤ 9223372036854775807
theorem Row.mono {G G' : Stab} {sz bytes : Nat} {A : Option Addr} {n : Nat} {cs : List Value} (h : Row G sz bytes A n cs) (hl : G.Le G') : Row G' sz bytes A n cs :=
  ⟨h.len, h.nil, fun ad e => (h.has ad e).mono hl, h.one, h.size, h.max⟩
/-- A slice that is made anew: nil, or at the begin of a block. -/
def Fresh (A : Option Addr) (n c : Nat) : Prop := (A = none ∧ n = 0 ∧ c = 0) ∨ ∃ b, A = some ⟨b, 0, none⟩
theorem VC.accShape {Γ : Ctx} {env : Env} {G : Stab} {L : List Ent} {Q : Post} {c : VCode} {A : Option Addr} {m cp n : Nat} {xs : List Value} {e : TypeId} {sz : Nat} (hm : .acc (.slice A m cp) n xs e sz ∈ L) (h : Fresh A n cp → m = n → xs.length = n * sz → n ≤ 9223372036854775807 → VC Γ c env G L Q) : VC Γ c env G L Q := by
  refine VC.facts (φ := Fresh A n cp ∧ m = n ∧ xs.length = n * sz ∧ n ≤ 9223372036854775807) (fun w hI => ?_) (fun hf => h hf.1 hf.2.1 hf.2.2.1 hf.2.2.2)
  have hok : w.ownsRow 0 e sz (.slice A m cp) n xs := hI.oks _ hm
  rcases hok.2 with ⟨h1, h2⟩ | ⟨g, cap, cur, h1, _, hg, hn, hmx, _, _⟩
  · cases h1; exact ⟨.inl ⟨rfl, h2, rfl⟩, h2.symm, hok.1, by omega⟩
  · cases h1; exact ⟨.inr ⟨g, rfl⟩, rfl, hok.1, by simp only [maxLen] at hmx; omega⟩
end Go.Sy
namespace Go.Sy
section
variable {G : Stab} {L : List Ent} {a : Addr} {b n o : Nat} {c : List Value} {ty : TypeId} {x : Ent} {k : List Value → Prop} {k1 : Value → Prop}
theorem Rds.hdP : Rds G (.obj b c ty :: L) ⟨b, o, none⟩ ((c.drop o).take n) :=
  Rds.hdN (by
    have : ∀ l : List Value, l.take (l.take n).length = l.take n := fun l => by
      rw [List.length_take]
      rcases Nat.le_total n l.length with h | h
      · rw [Nat.min_eq_left h]
      · rw [Nat.min_eq_right h, List.take_of_length_le (Nat.le_refl _), List.take_of_length_le h]
    exact this _)
theorem rdN_hd (hl : ((c.drop o).take n).length = n) (h : k ((c.drop o).take n)) : ∃ cs, cs.length = n ∧ Rds G (.obj b c ty :: L) ⟨b, o, none⟩ cs ∧ k cs := ⟨_, hl, Rds.hdP, h⟩
theorem rdN_tl (h : ∃ cs, cs.length = n ∧ Rds G L a cs ∧ k cs) : ∃ cs, cs.length = n ∧ Rds G (x :: L) a cs ∧ k cs := h.imp fun _ h => ⟨h.1, h.2.1.tl, h.2.2⟩
theorem rd1_hd {v : Value} (hl : c[o]? = some v) (h : k1 v) : ∃ v, Rds G (.obj b c ty :: L) ⟨b, o, none⟩ [v] ∧ k1 v := ⟨_, Rds.hd hl, h⟩
theorem rd1_tl (h : ∃ v, Rds G L a [v] ∧ k1 v) : ∃ v, Rds G (x :: L) a [v] ∧ k1 v := h.imp fun _ h => ⟨h.1.tl, h.2⟩
theorem permTake {α : Type} {x : α} {l m pre post : List α} (h : m = pre ++ x :: post) (hp : l.Perm (pre ++ post)) : (x :: l).Perm m := by
  subst h; exact (hp.cons x).trans List.perm_middle.symm
end
end Go.Sy
namespace Go.Sy
section
variable {G : Stab} {L : List Ent} {a : Addr} {b n m cp e sz o : Nat} {c : List Value} {x : Ent} {k : List Value → Prop} {k1 : Value → Prop}
theorem Rds.hdA {xs : List Value} (h : ∀ i u, c[i]? = some u → xs[o + i]? = some u) : Rds G (.acc (.slice (some ⟨b, 0, none⟩) m cp) n xs e sz :: L) ⟨b, o, none⟩ c :=
  .inr ⟨_, List.mem_cons_self .., rfl, rfl, h⟩
theorem rd1_acc {xs : List Value} {v : Value} (hl : xs[o]? = some v) (h : k1 v) : ∃ v, Rds G (.acc (.slice (some ⟨b, 0, none⟩) m cp) n xs e sz :: L) ⟨b, o, none⟩ [v] ∧ k1 v :=
  ⟨_, Rds.hdA fun i u hu => by cases i with | zero => simp at hu; subst hu; simpa using hl | succ i => simp at hu, h⟩
theorem rdN_acc {xs cs : List Value} {r : Nat} (hl : cs.length = r) (hs : ∀ i u, cs[i]? = some u → xs[o + i]? = some u) (h : k cs) : ∃ cs, cs.length = r ∧ Rds G (.acc (.slice (some ⟨b, 0, none⟩) m cp) n xs e sz :: L) ⟨b, o, none⟩ cs ∧ k cs :=
  ⟨_, hl, Rds.hdA hs, h⟩
/-- The same as replAt; simp does not look into it. -/
def putAt (cs : List Value) (off : Nat) (new : List Value) : List Value := replAt cs off new
theorem putAt_length {cs new : List Value} {o : Nat} (h : o + new.length ≤ cs.length) : (putAt cs o new).length = cs.length := replAt_length h
theorem stoK.hdA {xs new : List Value} {k : List Ent → Prop} (hl : o + new.length ≤ xs.length) (h : k (.acc (.slice (some ⟨b, 0, none⟩) m cp) n (putAt xs o new) e sz :: L)) : stoK (.acc (.slice (some ⟨b, 0, none⟩) m cp) n xs e sz :: L) ⟨b, o, none⟩ new k :=
  ⟨[], _, L, rfl, rfl, hl, h⟩
theorem putAt_get {cs new : List Value} {o i : Nat} (h : o + new.length ≤ cs.length) : (putAt cs o new)[i]? = if o ≤ i ∧ i < o + new.length then new[i - o]? else cs[i]? := by
  unfold putAt replAt
  rcases Nat.lt_or_ge i o with h1 | h1
  · rw [if_neg (by omega), List.append_assoc, List.getElem?_append_left (by simp; omega), List.getElem?_take, if_pos h1]
  · rw [List.append_assoc, List.getElem?_append_right (by simp; omega), List.length_take, Nat.min_eq_left (by omega)]
    rcases Nat.lt_or_ge i (o + new.length) with h2 | h2
    · rw [if_pos ⟨h1, h2⟩, List.getElem?_append_left (by omega)]
    · rw [if_neg (by omega), List.getElem?_append_right (by omega), List.getElem?_drop]
      congr 1; omega
theorem putAt_one {cs : List Value} {v : Value} {o i : Nat} (h : o < cs.length) : (putAt cs o [v])[i]? = if i = o then some v else cs[i]? := by
  rw [putAt_get (by simp; omega)]
  rcases Nat.lt_trichotomy i o with h1 | h1 | h1
  · rw [if_neg (by omega), if_neg (by omega)]
  · subst h1; simp
  · rw [if_neg (by simp; omega), if_neg (by omega)]
theorem wrap64 {i : Int} (h0 : -9223372036854775808 ≤ i) (h1 : i ≤ 9223372036854775807) : IntKind.i64.wrap i = i := by
  unfold IntKind.wrap; simp [IntKind.bits, IntKind.signed]; omega
end
end Go.Sy
namespace Go.Sy
/-- A row of one's own, to be read from here on. -/
theorem VC.fixRow {Γ : Ctx} {env : Env} {G : Stab} {L : List Ent} {Q : Post} {c : VCode} {A : Option Addr} {m cp n : Nat} {xs : List Value} {e : TypeId} {sz : Nat} (by_ : Nat) {L1 : List Ent} (hp : L.Perm (L1 ++ [.acc (.slice A m cp) n xs e sz]))
    (h1 : ∀ u ∈ xs, u.oneCell' = true) (hb : n * by_ ≤ 140737488351232) (h : ∀ G', G.Le G' → Row G' sz by_ A n xs → VC Γ c env G' L1 Q) : VC Γ c env G L Q := by
  refine VC.accShape (hp.symm.subset (List.mem_append_right _ (List.mem_cons_self ..))) fun _ _ hl hm => ?_
  refine VC.fixAcc hp fun G' A' cap hle he _ hn hx hr => ?_
  cases he
  exact h G' hle ⟨hx, hn, hr, h1, hb, hm⟩
theorem putAt_all {cs new : List Value} {o : Nat} {p : Value → Prop} (h1 : ∀ u ∈ cs, p u) (h2 : ∀ u ∈ new, p u) : ∀ u ∈ putAt cs o new, p u := by
  intro u hu
  unfold putAt replAt at hu
  rcases List.mem_append.1 hu with hu | hu
  · rcases List.mem_append.1 hu with hu | hu
    · exact h1 u (List.mem_of_mem_take hu)
    · exact h2 u hu
  · exact h1 u (List.mem_of_mem_drop hu)
theorem ofNil {xs : List Value} {o : Nat} : ∀ i u, ([] : List Value)[i]? = some u → xs[o + i]? = some u := fun _ _ h => by simp at h
theorem ofCons {xs l : List Value} {o : Nat} {a : Value} (h : xs[o]? = some a) (t : ∀ i u, l[i]? = some u → xs[o + 1 + i]? = some u) : ∀ i u, (a :: l)[i]? = some u → xs[o + i]? = some u := fun i u hu => by
  cases i with
  | zero => simp at hu; subst hu; simpa using h
  | succ i => simp at hu; have := t i u hu; rwa [Nat.add_assoc, Nat.add_comm 1 i] at this
end Go.Sy
namespace Go.Sy
section
variable {G : Stab} {L M R : List Ent} {sv : Value} {news xs : List Value} {m n e sz by_ b : Nat} {ty : TypeId} {k : Value → List Ent → Prop} {x : Ent}
theorem appT.tl (h : appT M sv news m e sz by_ fun v L' => k v (x :: L')) : appT (x :: M) sv news m e sz by_ k := by
  rcases h with ⟨pre, n, xs, post, rfl, h1, h2, h3⟩ | ⟨h1, h2, h3, h4⟩
  · exact .inl ⟨x :: pre, n, xs, post, rfl, h1, h2, h3⟩
  · exact .inr ⟨h1, h2, h3, h4⟩
theorem appT.hd (h1 : (n + m) * by_ ≤ 140737488355328) (h2 : n + m ≤ 9223372036854775807) (h : ∀ A c, (Value.slice A (n + m) c = .slice none 0 0 ↔ sv = .slice none 0 0 ∧ m = 0) → k (.slice A (n + m) c) (.acc (.slice A (n + m) c) (n + m) (xs ++ news) e sz :: R)) : appT (.acc sv n xs e sz :: R) sv news m e sz by_ k :=
  .inl ⟨[], n, xs, R, rfl, h1, h2, h⟩
theorem appK.obj {ax : Option Addr} (M : List Ent) (hL : L = M ++ [.obj b news ty]) (ha : ax = some ⟨b, 0, none⟩) (hn : news.length = m * sz) (ho : ∀ u ∈ news, u.oneCell' = true) (h : appT M sv news m e sz by_ k) : appK G L sv ax m e sz by_ k :=
  ⟨news, hn, ho, .inr ⟨M, b, ty, hL, ha, h⟩⟩
end
end Go.Sy
namespace Go.Sy
section
variable {G : Stab} {L : List Ent} {b o o0 i n : Nat} {cs : List Value} {k : List Value → Prop} {k1 : Value → Prop}
theorem rd1_at {v : Value} (h : G.has ⟨b, o0, none⟩ cs) (e : o = o0 + i) (hl : cs[i]? = some v) (hk : k1 v) : ∃ v, Rds G L ⟨b, o, none⟩ [v] ∧ k1 v :=
  ⟨v, .inl (by subst e; exact h.one i hl), hk⟩
theorem rdN_at {ws : List Value} (h : G.has ⟨b, o0, none⟩ cs) (e : o = o0 + i) (hl : ws.length = n) (hs : ∀ j u, ws[j]? = some u → cs[i + j]? = some u) (hk : k ws) : ∃ cs, cs.length = n ∧ Rds G L ⟨b, o, none⟩ cs ∧ k cs :=
  ⟨ws, hl, .inl (by subst e; exact h.sub i hs), hk⟩
/-- Of a block that stands fast, a cell, and some cells. -/
theorem rd1_sub {v : Value} (h : G.has ⟨b, 0, none⟩ cs) (hl : cs[o]? = some v) (hk : k1 v) : ∃ v, Rds G L ⟨b, o, none⟩ [v] ∧ k1 v := rd1_at h (Nat.zero_add o).symm hl hk
theorem rdN_sub (h : G.has ⟨b, 0, none⟩ cs) (hl : ((cs.drop o).take n).length = n) (hk : k ((cs.drop o).take n)) : ∃ cs, cs.length = n ∧ Rds G L ⟨b, o, none⟩ cs ∧ k cs :=
  rdN_at h (Nat.zero_add o).symm hl (fun j u hu => by rw [List.getElem?_take] at hu; split at hu <;> simp_all) hk
/-- What can be read lies at a plain place. -/
theorem Stab.has.plain {G : Stab} {a : Addr} {cs : List Value} (h : G.has a cs) {i : Nat} (hi : i < cs.length) : ∃ b o, a = ⟨b, o, none⟩ :=
  ⟨a.block, a.off, by have := (h i _ (List.getElem?_eq_getElem hi)).1; cases a; simp_all⟩
end
end Go.Sy
namespace Go.Sy
theorem Row.at {G : Stab} {sz by_ : Nat} {A : Option Addr} {n : Nat} {cs : List Value} (h : Row G sz by_ A n cs) {j : Nat} (hj : j < n) (hz : 0 < sz) : ∃ b o, A = some ⟨b, o, none⟩ ∧ G.has ⟨b, o, none⟩ cs := by
  cases hA : A with
  | none => have := h.nil hA; omega
  | some ad =>
    have hh := h.has ad hA
    have hl : 0 < cs.length := by rw [h.len]; exact Nat.mul_pos (by omega) hz
    obtain ⟨b, o, rfl⟩ := hh.plain hl
    exact ⟨b, o, rfl, hh⟩
theorem row_cell {cs : List Value} {n sz j i : Nat} (hl : cs.length = n * sz) (hj : j < n) (hi : i < sz) : ∃ v, cs[j * sz + i]? = some v := by
  have : j * sz + i < cs.length := by
    rw [hl]
    calc j * sz + i < j * sz + sz := by omega
      _ = (j + 1) * sz := by rw [Nat.succ_mul]
      _ ≤ n * sz := Nat.mul_le_mul_right _ (by omega)
  exact ⟨_, List.getElem?_eq_getElem this⟩
end Go.Sy
