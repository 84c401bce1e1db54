import Derived.WalkKit
import Derived.OrdersHeld
namespace Go.Sy
open Go Go.RowKit

/-! ### What stands fast: of each block the cells that never change again. -/
abbrev Stab := Nat → List Value
def Stab.Le (G G' : Stab) : Prop := ∀ b, G b <+: G' b
theorem Stab.Le.refl (G : Stab) : G.Le G := fun _ => List.prefix_refl _
theorem Stab.Le.trans {A B C : Stab} (h : A.Le B) (k : B.Le C) : A.Le C := fun b => (h b).trans (k b)
def Stab.has (G : Stab) (a : Addr) (cs : List Value) : Prop := ∀ i u, cs[i]? = some u → a.spot = none ∧ (G a.block)[a.off + i]? = some u
theorem pre_get {l m : List Value} (h : l <+: m) {i : Nat} {u : Value} (hu : l[i]? = some u) : m[i]? = some u := by
  obtain ⟨t, rfl⟩ := h
  rw [List.getElem?_append_left (List.getElem?_eq_some_iff.1 hu).1]; exact hu
theorem Stab.has.mono {G G' : Stab} {a : Addr} {cs : List Value} (h : G.has a cs) (hl : G.Le G') : G'.has a cs := fun i u hu => ⟨(h i u hu).1, pre_get (hl _) (h i u hu).2⟩
def Stab.put (G : Stab) (b : Nat) (cs : List Value) : Stab := fun k => if k = b then cs else G k
theorem Stab.put_le {G : Stab} {b : Nat} {cs : List Value} (h : G b = []) : G.Le (G.put b cs) := by
  intro k; unfold Stab.put; split
  · subst k; rw [h]; exact List.nil_prefix
  · exact List.prefix_refl _
theorem Stab.put_has (G : Stab) (b : Nat) (cs : List Value) : (G.put b cs).has ⟨b, 0, none⟩ cs := fun i u hu => ⟨rfl, by simpa [Stab.put] using hu⟩

def Sat (G : Stab) (w : World) : Prop := ∀ b, G b ≠ [] → ∃ cs e fz, w.heap[b]? = some (.cells cs e fz) ∧ G b <+: cs.toList
theorem Sat.lt {G : Stab} {w : World} (h : Sat G w) {b : Nat} (hb : G b ≠ []) : b < w.heap.size := by
  obtain ⟨cs, e, fz, h1, _⟩ := h b hb
  exact (Array.getElem?_eq_some_iff.1 h1).1
theorem Sat.fresh {G : Stab} {w : World} (h : Sat G w) {b : Nat} (hb : w.heap.size ≤ b) : G b = [] := by
  rcases Classical.em (G b = []) with h1 | h1
  · exact h1
  · exact absurd (h.lt h1) (by omega)
theorem Sat.anti {G G' : Stab} {w : World} (h : Sat G' w) (hl : G.Le G') : Sat G w := by
  intro b hb
  have hne : G' b ≠ [] := fun e => hb (by have := hl b; rw [e] at this; exact List.prefix_nil.1 this)
  obtain ⟨cs, e, fz, h1, h2⟩ := h b hne
  exact ⟨cs, e, fz, h1, (hl b).trans h2⟩
theorem Sat.cell {G : Stab} {w : World} (h : Sat G w) {a : Addr} {cs : List Value} (hh : G.has a cs) {i : Nat} {u : Value} (hu : cs[i]? = some u) : w.cell? (a.add i) = some u := by
  obtain ⟨hs, hg⟩ := hh i u hu
  have hne : G a.block ≠ [] := fun e => by rw [e] at hg; simp at hg
  obtain ⟨c, e, fz, h1, h2⟩ := h _ hne
  have h3 := pre_get h2 hg
  have e1 : a.add i = ⟨a.block, a.off + i, none⟩ := by
    unfold Addr.add; split
    · rename_i h0; subst h0; cases a; simp_all
    · rfl
  rw [e1]
  simp only [World.cell?, h1, Option.isSome_none, Bool.false_eq_true, if_false]
  simpa using h3

/-! ### What is one's own -/
inductive Ent where
  | obj (b : Nat) (cs : List Value) (ty : TypeId)
  | acc (v : Value) (n : Nat) (xs : List Value) (e : TypeId) (sz : Nat)
def Ent.blk : Ent → Option Nat
  | .obj b _ _ => some b
  | .acc v _ _ _ _ => v.ownBlock
def Ent.ok (w : World) : Ent → Prop
  | .obj b cs ty => w.heap[b]? = some (.cells ⟨cs⟩ ty (0, 0))
  | .acc v n xs e sz => w.ownsRow 0 e sz v n xs
theorem Ent.ok.lt {w : World} : ∀ {x : Ent}, x.ok w → ∀ b, x.blk = some b → b < w.heap.size
  | .obj b' cs ty, h, b, hb => by
    simp only [Ent.blk, Option.some.injEq] at hb; subst hb
    exact (Array.getElem?_eq_some_iff.1 h).1
  | .acc v n xs e sz, h, b, hb => (World.ownsRow.lt h b hb).2
theorem Ent.ok.move {w w' : World} : ∀ {x : Ent}, x.ok w → (∀ b, x.blk = some b → w'.heap[b]? = w.heap[b]?) → x.ok w'
  | .obj b cs ty, h, hm => (hm b rfl).trans h
  | .acc v n xs e sz, h, hm => by
    obtain ⟨h1, h2⟩ := h
    refine ⟨h1, ?_⟩
    rcases h2 with h2 | ⟨g, cap, cur, rfl, hg, hh, r⟩
    · exact .inl h2
    · exact .inr ⟨g, cap, cur, rfl, hg, (hm g (by simp [Ent.blk, Value.ownBlock])).trans hh, r⟩

def Apart (x y : Ent) : Prop := ∀ b, x.blk = some b → y.blk ≠ some b
theorem Apart.symm {x y : Ent} (h : Apart x y) : Apart y x := fun b hb hx => h b hx hb

structure Inst (G : Stab) (L : List Ent) (w : World) : Prop where
  sat : Sat G w
  oks : ∀ x ∈ L, x.ok w
  dis : L.Pairwise Apart
  away : ∀ x ∈ L, ∀ b, x.blk = some b → G b = []
def blks (L : List Ent) : List Nat := L.filterMap Ent.blk
theorem mem_blks {L : List Ent} {b : Nat} : b ∈ blks L ↔ ∃ x ∈ L, x.blk = some b := by simp [blks]

theorem Inst.perm {G : Stab} {L L' : List Ent} {w : World} (h : Inst G L w) (hp : L.Perm L') : Inst G L' w :=
  ⟨h.sat, fun x hx => h.oks x (hp.mem_iff.2 hx), (hp.pairwise_iff (fun h => Apart.symm h)).1 h.dis, fun x hx => h.away x (hp.mem_iff.2 hx)⟩
theorem Inst.left {G : Stab} {L R : List Ent} {w : World} (h : Inst G (L ++ R) w) : Inst G L w :=
  ⟨h.sat, fun x hx => h.oks x (List.mem_append_left _ hx), (List.pairwise_append.1 h.dis).1, fun x hx => h.away x (List.mem_append_left _ hx)⟩

structure Ext (w0 : World) (G0 : Stab) (F : List Nat) (w : World) (G : Stab) : Prop where
  os : w.os = w0.os
  tape : w.tape = w0.tape
  output : w.output = w0.output
  size : w0.heap.size ≤ w.heap.size
  keep : ∀ b, b < w0.heap.size → b ∉ F → w.heap[b]? = w0.heap[b]?
  gkeep : ∀ b, b < w0.heap.size → b ∉ F → G b = G0 b
  gle : G0.Le G
theorem Ext.refl (w : World) (G : Stab) (F : List Nat) : Ext w G F w G := ⟨rfl, rfl, rfl, Nat.le_refl _, fun _ _ _ => rfl, fun _ _ _ => rfl, Stab.Le.refl _⟩

structure St (w0 : World) (G0 : Stab) (F : List Nat) (G : Stab) (L : List Ent) (w : World) : Prop where
  inst : Inst G L w
  ext : Ext w0 G0 F w G
  own : ∀ x ∈ L, ∀ b, x.blk = some b → b ∈ F ∨ w0.heap.size ≤ b
theorem St.begin {G : Stab} {L : List Ent} {w : World} (h : Inst G L w) : St w G (blks L) G L w :=
  ⟨h, Ext.refl _ _ _, fun x hx b hb => .inl (mem_blks.2 ⟨x, hx, hb⟩)⟩
theorem St.perm {w0 : World} {G0 : Stab} {F : List Nat} {G : Stab} {L L' : List Ent} {w : World} (h : St w0 G0 F G L w) (hp : L.Perm L') : St w0 G0 F G L' w :=
  ⟨h.inst.perm hp, h.ext, fun x hx => h.own x (hp.mem_iff.2 hx)⟩
theorem St.drop {w0 : World} {G0 : Stab} {F : List Nat} {G : Stab} {L L' : List Ent} {w : World} (h : St w0 G0 F G L w) (hp : L'.Sublist L) : St w0 G0 F G L' w :=
  ⟨⟨h.inst.sat, fun x hx => h.inst.oks x (hp.subset hx), h.inst.dis.sublist hp, fun x hx => h.inst.away x (hp.subset hx)⟩, h.ext, fun x hx => h.own x (hp.subset hx)⟩

/-- The frame: what a part does, the whole does. -/
theorem St.frame {w0 : World} {G0 : Stab} {F : List Nat} {G : Stab} {L1 R : List Ent} {w : World} (h : St w0 G0 F G (L1 ++ R) w)
    {G' : Stab} {L' : List Ent} {w' : World} (k : St w G (blks L1) G' L' w') : St w0 G0 F G' (L' ++ R) w' := by
  have hR : ∀ y ∈ R, ∀ b, y.blk = some b → b < w.heap.size ∧ b ∉ blks L1 := fun y hy b hb =>
    ⟨(h.inst.oks y (List.mem_append_right _ hy)).lt b hb, fun hm => by
      obtain ⟨x, hx, hxb⟩ := mem_blks.1 hm
      exact (List.pairwise_append.1 h.inst.dis).2.2 x hx y hy b hxb hb⟩
  have hF : ∀ b, b < w0.heap.size → b ∉ F → b < w.heap.size ∧ b ∉ blks L1 := fun b hb hn =>
    ⟨Nat.lt_of_lt_of_le hb h.ext.size, fun hm => by
      obtain ⟨x, hx, hxb⟩ := mem_blks.1 hm
      rcases h.own x (List.mem_append_left _ hx) b hxb with h1 | h1
      · exact hn h1
      · omega⟩
  refine ⟨⟨k.inst.sat, ?_, ?_, ?_⟩, ⟨k.ext.os.trans h.ext.os, k.ext.tape.trans h.ext.tape, k.ext.output.trans h.ext.output, Nat.le_trans h.ext.size k.ext.size, ?_, ?_, h.ext.gle.trans k.ext.gle⟩, ?_⟩
  · intro x hx
    rcases List.mem_append.1 hx with hx | hx
    · exact k.inst.oks x hx
    · exact (h.inst.oks x (List.mem_append_right _ hx)).move fun b hb => k.ext.keep b (hR x hx b hb).1 (hR x hx b hb).2
  · refine List.pairwise_append.2 ⟨k.inst.dis, (List.pairwise_append.1 h.inst.dis).2.1, fun x hx y hy b hxb hyb => ?_⟩
    rcases k.own x hx b hxb with h1 | h1
    · exact (hR y hy b hyb).2 h1
    · have := (hR y hy b hyb).1; omega
  · intro x hx b hb
    rcases List.mem_append.1 hx with hx | hx
    · exact k.inst.away x hx b hb
    · rw [k.ext.gkeep b (hR x hx b hb).1 (hR x hx b hb).2]; exact h.inst.away x (List.mem_append_right _ hx) b hb
  · intro b hb hn; exact (k.ext.keep b (hF b hb hn).1 (hF b hb hn).2).trans (h.ext.keep b hb hn)
  · intro b hb hn; exact (k.ext.gkeep b (hF b hb hn).1 (hF b hb hn).2).trans (h.ext.gkeep b hb hn)
  · intro x hx b hb
    rcases List.mem_append.1 hx with hx | hx
    · rcases k.own x hx b hb with h1 | h1
      · obtain ⟨y, hy, hyb⟩ := mem_blks.1 h1
        exact h.own y (List.mem_append_left _ hy) b hyb
      · exact .inr (Nat.le_trans h.ext.size h1)
    · exact h.own x (List.mem_append_right _ hx) b hb

/-! ### Contracts -/
structure Con (P : Program) (f : FuncId) (args : Array Value) (G0 : Stab) (L0 : List Ent) (Post : Ending → Stab → List Ent → Prop) : Prop where
  run : ∀ w0, Inst G0 L0 w0 → Calls P f args w0 fun e w => ∃ G L, St w0 G0 (blks L0) G L w ∧ Post e G L
/-- A contract of a call that returns. -/
def Ret (Post : Value → Stab → List Ent → Prop) (e : Ending) (G : Stab) (L : List Ent) : Prop := ∃ v, e = .returned v ∧ Post v G L
theorem Con.call {P : Program} {f : FuncId} {args : Array Value} {G : Stab} {L L1 R : List Ent} {Post : Ending → Stab → List Ent → Prop} (hs : Con P f args G L1 Post)
    {w0 : World} {G0 : Stab} {F : List Nat} {w : World} (h : St w0 G0 F G L w) (hp : L.Perm (L1 ++ R)) :
    Calls P f args w fun e w' => ∃ G' L', St w0 G0 F G' (L' ++ R) w' ∧ G.Le G' ∧ Post e G' L' := by
  have h' := h.perm hp
  refine (hs.run w h'.inst.left).mono ?_
  rintro e w' ⟨G', L', k, q⟩
  exact ⟨G', L', h'.frame k, k.ext.gle, q⟩
theorem Con.mono {P : Program} {f : FuncId} {args : Array Value} {G : Stab} {L : List Ent} {A B : Ending → Stab → List Ent → Prop} (h : Con P f args G L A) (hab : ∀ e G' L', G.Le G' → A e G' L' → B e G' L') : Con P f args G L B :=
  ⟨fun w0 hi => (h.run w0 hi).mono fun _ _ ⟨G', L', k, q⟩ => ⟨G', L', k, hab _ _ _ k.ext.gle q⟩⟩

/-! ### Small moves of a state -/
section
variable {w0 : World} {G0 : Stab} {F : List Nat} {G : Stab} {L : List Ent} {w : World}
theorem St.same {w' : World} (h : St w0 G0 F G L w) (hh : w'.heap = w.heap) (h1 : w'.os = w.os) (h2 : w'.tape = w.tape) (h3 : w'.output = w.output) : St w0 G0 F G L w' :=
  ⟨⟨fun b hb => by rw [hh]; exact h.inst.sat b hb, fun x hx => (h.inst.oks x hx).move fun b _ => by rw [hh], h.inst.dis, h.inst.away⟩,
   ⟨h1.trans h.ext.os, h2.trans h.ext.tape, h3.trans h.ext.output, by rw [hh]; exact h.ext.size, fun b hb hn => by rw [hh]; exact h.ext.keep b hb hn, h.ext.gkeep, h.ext.gle⟩, h.own⟩
theorem heap_push_old (w : World) (o : Obj) (b : Nat) (h : b < w.heap.size) : (w.heap.push o)[b]? = w.heap[b]? := by
  rw [Array.getElem?_push, if_neg (by omega)]
theorem Ext.grow {w' : World} (h : Ext w0 G0 F w G) (hs : w.heap.size ≤ w'.heap.size) (hk : ∀ b, b < w.heap.size → w'.heap[b]? = w.heap[b]?) (h1 : w'.os = w.os) (h2 : w'.tape = w.tape) (h3 : w'.output = w.output) : Ext w0 G0 F w' G :=
  ⟨h1.trans h.os, h2.trans h.tape, h3.trans h.output, Nat.le_trans h.size hs, fun b hb hn => (hk b (Nat.lt_of_lt_of_le hb h.size)).trans (h.keep b hb hn), h.gkeep, h.gle⟩
theorem Sat.grow {w' : World} (h : Sat G w) (hk : ∀ b, b < w.heap.size → w'.heap[b]? = w.heap[b]?) : Sat G w' := by
  intro b hb
  rw [hk b (h.lt hb)]; exact h b hb
/-- A world that has grown, nothing old changed: the state as it was. -/
theorem St.grow {w' : World} (h : St w0 G0 F G L w) (hs : w.heap.size ≤ w'.heap.size) (hk : ∀ b, b < w.heap.size → w'.heap[b]? = w.heap[b]?) (h1 : w'.os = w.os) (h2 : w'.tape = w.tape) (h3 : w'.output = w.output) : St w0 G0 F G L w' :=
  ⟨⟨h.inst.sat.grow hk, fun x hx => (h.inst.oks x hx).move fun b hb => hk b ((h.inst.oks x hx).lt b hb), h.inst.dis, h.inst.away⟩, h.ext.grow hs hk h1 h2 h3, h.own⟩
/-- A thing more of one's own, in a block that is new. -/
theorem St.more {x : Ent} (h : St w0 G0 F G L w) {w1 : World} (h1 : St w0 G0 F G L w1) (hx : x.ok w1) (hn : ∀ b, x.blk = some b → w.heap.size ≤ b) : St w0 G0 F G (L ++ [x]) w1 := by
  have ha : ∀ y ∈ L, ∀ b, y.blk = some b → b < w.heap.size := fun y hy b hb => (h.inst.oks y hy).lt b hb
  refine ⟨⟨h1.inst.sat, ?_, ?_, ?_⟩, h1.ext, ?_⟩
  · intro y hy
    rcases List.mem_append.1 hy with hy | hy
    · exact h1.inst.oks y hy
    · rw [List.mem_singleton.1 hy]; exact hx
  · refine List.pairwise_append.2 ⟨h.inst.dis, List.pairwise_singleton _ _, fun y hy z hz b hyb hzb => ?_⟩
    rw [List.mem_singleton.1 hz] at hzb
    have := ha y hy b hyb; have := hn b hzb; omega
  · intro y hy b hb
    rcases List.mem_append.1 hy with hy | hy
    · exact h.inst.away y hy b hb
    · rw [List.mem_singleton.1 hy] at hb; exact h.inst.sat.fresh (hn b hb)
  · intro y hy b hb
    rcases List.mem_append.1 hy with hy | hy
    · exact h.own y hy b hb
    · rw [List.mem_singleton.1 hy] at hb; exact .inr (Nat.le_trans h.ext.size (hn b hb))
theorem St.alloc (h : St w0 G0 F G L w) (o : Obj) : St w0 G0 F G L { w with heap := w.heap.push o } :=
  h.grow (by simp) (fun b hb => heap_push_old w o b hb) rfl rfl rfl
theorem St.newObj (h : St w0 G0 F G L w) (cs : List Value) (ty : TypeId) : St w0 G0 F G (L ++ [.obj w.heap.size cs ty]) { w with heap := w.heap.push (.cells ⟨cs⟩ ty (0, 0)) } :=
  St.more h (h.alloc _) (by simp [Ent.ok]) (fun b hb => by simp [Ent.blk] at hb; omega)
/-- What is one's own alone, and not written any more, stands fast. -/
theorem St.fix {x : Ent} {b : Nat} {cs : List Value} (h : St w0 G0 F G (L ++ [x]) w) (hb : x.blk = some b) (hc : ∃ c e fz, w.heap[b]? = some (.cells c e fz) ∧ cs <+: c.toList) : St w0 G0 F (G.put b cs) L w := by
  have hG : G b = [] := h.inst.away x (by simp) b hb
  have hne : ∀ y ∈ L, ∀ k, y.blk = some k → k ≠ b := fun y hy k hk he => by
    subst he
    exact (List.pairwise_append.1 h.inst.dis).2.2 y hy x (by simp) k hk hb
  refine ⟨⟨?_, fun y hy => h.inst.oks y (List.mem_append_left _ hy), (List.pairwise_append.1 h.inst.dis).1, fun y hy k hk => ?_⟩, ?_, fun y hy => h.own y (List.mem_append_left _ hy)⟩
  · intro k hk
    unfold Stab.put at hk ⊢
    split
    · rename_i he; subst he; obtain ⟨c, e, fz, h1, h2⟩ := hc; exact ⟨c, e, fz, h1, h2⟩
    · rename_i he; rw [if_neg he] at hk; exact h.inst.sat k hk
  · unfold Stab.put; rw [if_neg (hne y hy k hk)]; exact h.inst.away y (List.mem_append_left _ hy) k hk
  · refine ⟨h.ext.os, h.ext.tape, h.ext.output, h.ext.size, h.ext.keep, fun k hk hn => ?_, h.ext.gle.trans (Stab.put_le hG)⟩
    unfold Stab.put
    split
    · rename_i he; subst he
      rcases h.own x (by simp) k hb with h1 | h1
      · exact absurd h1 hn
      · omega
    · exact h.ext.gkeep k hk hn
end
end Go.Sy
