import Derived.Test.YtpddchnapcmmkaaSy7
import Derived.Maps.AppendAt
namespace Go.Sy
open Go Go.RowKit
section
variable {P : Program} {w0 : World} {G0 : Stab} {F : List Nat} {G : Stab} {L R : List Ent} {w : World}
theorem St.push (_hs : St w0 G0 F G (L ++ R) w) (x : Ent) {w' : World} (h : St w0 G0 F G (L ++ R ++ [x]) w') : St w0 G0 F G (L ++ [x] ++ R) w' := by
  refine h.perm ?_
  rw [List.append_assoc, List.append_assoc]
  exact (List.perm_append_comm (l₁ := R) (l₂ := [x])).append_left L
theorem newB_sound (hs : St w0 G0 F G (L ++ R) w) {cs : List Value} {e : TypeId} {k : Addr → Stab → List Ent → Prop} (h : newB G L cs e k) :
    ∃ G' L', St w0 G0 F G' (L' ++ R) { w with heap := w.heap.push (.cells ⟨cs⟩ e (0, 0)) } ∧ G.Le G' ∧ k ⟨w.heap.size, 0, none⟩ G' L' := by
  have h1 := hs.newObj cs e
  rcases h with h | h
  · refine ⟨G, _, hs.push _ h1, Stab.Le.refl _, h _ fun x hx he => ?_⟩
    have := (hs.inst.oks x (List.mem_append_left _ hx)).lt _ he
    omega
  · refine ⟨G.put w.heap.size cs, L, St.fix h1 rfl ⟨⟨cs⟩, e, (0, 0), by simp, List.prefix_refl _⟩, Stab.put_le (hs.inst.sat.fresh (Nat.le_refl _)), h _ _ (Stab.put_le (hs.inst.sat.fresh (Nat.le_refl _))) (Stab.put_has _ _ _)⟩
/-- An append to what is one's own. -/
theorem own_append {t ty e : TypeId} {i : TypeInfo} {z : Value} (ht : P.underlying t = some (.slice e)) (hi : P.info? e = some i) (hz : i.zero = some z) (hzs : z.cells.size = i.size) (hsz : 0 < i.size)
    {pre post : List Ent} {sv : Value} {n : Nat} {xs : List Value} (hs : St w0 G0 F G ((pre ++ .acc sv n xs e i.size :: post) ++ R) w)
    {ax : Option Addr} {m c : Nat} {news : List Value} (hl : news.length = m * i.size) (h0 : ax = none → m = 0) (hn : ∀ ad, ax = some ad → ∀ (j : Nat) (u : Value), news[j]? = some u → w.cell? (ad.add j) = some u) (h1 : ∀ u ∈ news, u.oneCell' = true)
    (hb : (n + m) * i.bytes ≤ 140737488355328) (hm : n + m ≤ 9223372036854775807) :
    ∃ A c' w', (Builtin.append_ #[t, t] ty #[sv, .slice ax m c]).run P w = .ok (.slice A (n + m) c') w' ∧ (Value.slice A (n + m) c' = .slice none 0 0 ↔ sv = .slice none 0 0 ∧ m = 0) ∧
      St w0 G0 F G ((pre ++ .acc (.slice A (n + m) c') (n + m) (xs ++ news) e i.size :: post) ++ R) w' := by
  have hown : w.ownsRow 0 e i.size sv n xs := hs.inst.oks (.acc sv n xs e i.size) (by simp)
  have hform : ∀ {v : Value} {k : Nat} {ys : List Value} {w : World}, w.ownsRow 0 e i.size v k ys → ∃ A c', v = .slice A k c' := by
    intro v k ys w h
    rcases h.2 with ⟨rfl, rfl⟩ | ⟨g, cap, cur, rfl, _⟩
    · exact ⟨_, _, rfl⟩
    · exact ⟨_, _, rfl⟩
  cases ax with
  | none =>
    obtain rfl := h0 rfl
    have hnews : news = [] := List.eq_nil_of_length_eq_zero (by simpa using hl)
    subst hnews
    obtain ⟨A, c', rfl⟩ := hform hown
    refine ⟨A, c', w, ?_, by simp, by simpa using hs⟩
    have hnc : n ≤ c' := by
      rcases hown.2 with ⟨e1, rfl⟩ | ⟨g, cap, cur, e1, _, _, hnc, _⟩
      · omega
      · cases e1; exact hnc
    cases A <;> simp [Builtin.append_, run_underlying ht, sizeOf, typeInfo, hi, Builtin.lenOf, Builtin.firstCells, hnc, storeCells]
  | some ad =>
    obtain ⟨v', w', r1, r2, r3, r4, r5⟩ := run_append_own_at (P := P) w 0 t ty e i z i.size i.bytes ht hi hz rfl rfl hzs hsz sv n xs hown ad m c news hl (hn ad rfl) h1 (by simpa [maxLen] using hm) hb (Nat.zero_le _)
    obtain ⟨A, c', rfl⟩ := hform r2
    refine ⟨A, c', w', r1, r4, ?_⟩
    have hp : ∀ y, ((pre ++ y :: post) ++ R).Perm (y :: (pre ++ post ++ R)) := fun y => by
      rw [List.append_assoc, List.cons_append, List.append_assoc]; exact List.perm_middle
    refine St.perm ?_ (hp _).symm
    have hs' := hs.perm (hp _)
    have hne : ∀ z ∈ pre ++ post ++ R, ∀ b, z.blk = some b → some b ≠ sv.ownBlock ∧ b < w.heap.size := fun z hz' b hb =>
      ⟨fun he => (List.pairwise_cons.1 hs'.inst.dis).1 z hz' b he.symm hb, (hs'.inst.oks z (List.mem_cons_of_mem _ hz')).lt b hb⟩
    have hnew : ∀ b, (Value.slice A (n + m) c').ownBlock = some b → G b = [] ∧ (b ∈ F ∨ w0.heap.size ≤ b) ∧ ∀ z ∈ pre ++ post ++ R, z.blk ≠ some b := by
      intro b hb
      rcases r5 with r5 | r5
      · rw [hb] at r5
        exact ⟨hs'.inst.away (.acc sv n xs e i.size) (by simp) b r5.symm, hs'.own (.acc sv n xs e i.size) (by simp) b r5.symm, fun z hz' he => (hne z hz' b he).1 r5⟩
      · rw [hb] at r5; cases r5
        exact ⟨hs'.inst.sat.fresh (Nat.le_refl _), .inr hs'.ext.size, fun z hz' he => by have := (hne z hz' _ he).2; omega⟩
    have hkeep : ∀ b, b < w.heap.size → G b ≠ [] → w'.heap[b]? = w.heap[b]? := fun b hb hg => r3.block b hb fun he => hg (hs'.inst.away (.acc sv n xs e i.size) (by simp) b he.symm)
    refine ⟨⟨?_, ?_, ?_, ?_⟩, ?_, ?_⟩
    · intro b hb'
      rw [hkeep b (hs'.inst.sat.lt hb') hb']; exact hs'.inst.sat b hb'
    · intro z hz'
      rcases List.mem_cons.1 hz' with rfl | hz'
      · exact r2
      · exact (hs'.inst.oks z (List.mem_cons_of_mem _ hz')).move fun b hb => r3.block b (hne z hz' b hb).2 (hne z hz' b hb).1
    · exact List.pairwise_cons.2 ⟨fun z hz' b hb => (hnew b hb).2.2 z hz', (List.pairwise_cons.1 hs'.inst.dis).2⟩
    · intro z hz' b hb
      rcases List.mem_cons.1 hz' with rfl | hz'
      · exact (hnew b hb).1
      · exact hs'.inst.away z (List.mem_cons_of_mem _ hz') b hb
    · refine ⟨r3.os.trans hs'.ext.os, r3.tape.trans hs'.ext.tape, r3.output.trans hs'.ext.output, Nat.le_trans hs'.ext.size r3.size, fun b hb hn => ?_, hs'.ext.gkeep, hs'.ext.gle⟩
      have : some b ≠ sv.ownBlock := fun he => by
        rcases hs'.own (.acc sv n xs e i.size) (by simp) b he.symm with h | h
        · exact hn h
        · omega
      exact (r3.block b (Nat.lt_of_lt_of_le hb hs'.ext.size) this).trans (hs'.ext.keep b hb hn)
    · intro z hz' b hb
      rcases List.mem_cons.1 hz' with rfl | hz'
      · exact (hnew b hb).2.1
      · exact hs'.own z (List.mem_cons_of_mem _ hz') b hb
/-- A nil slice is one's own at any time. -/
theorem St.nilAcc (hs : St w0 G0 F G (L ++ R) w) (e : TypeId) (sz : Nat) : St w0 G0 F G ((L ++ [.acc (.slice none 0 0) 0 [] e sz]) ++ R) w := by
  refine hs.push _ ?_
  refine St.more hs hs ⟨by simp, .inl ⟨rfl, rfl⟩⟩ fun b hb => by simp [Ent.blk, Value.ownBlock] at hb
theorem appT_sound {t ty e : TypeId} {i : TypeInfo} {z : Value} (ht : P.underlying t = some (.slice e)) (hi : P.info? e = some i) (hz : i.zero = some z) (hzs : z.cells.size = i.size) (hsz : 0 < i.size)
    {sv : Value} {M : List Ent} (hs : St w0 G0 F G (M ++ R) w)
    {ax : Option Addr} {m c : Nat} {news : List Value} (hl : news.length = m * i.size) (h0 : ax = none → m = 0) (hn : ∀ ad, ax = some ad → ∀ (j : Nat) (u : Value), news[j]? = some u → w.cell? (ad.add j) = some u) (h1 : ∀ u ∈ news, u.oneCell' = true)
    {k : Value → List Ent → Prop} (h : appT M sv news m e i.size i.bytes k) :
    ∃ v w' M', (Builtin.append_ #[t, t] ty #[sv, .slice ax m c]).run P w = .ok v w' ∧ St w0 G0 F G (M' ++ R) w' ∧ k v M' := by
  rcases h with ⟨pre, n, xs, post, rfl, hb, hm, h⟩ | ⟨rfl, hb, hm, h⟩
  · obtain ⟨A, c', w', r1, r2, r3⟩ := own_append (ty := ty) (c := c) ht hi hz hzs hsz hs hl h0 hn h1 hb hm
    exact ⟨_, w', _, r1, r3, h A c' r2⟩
  · have hs' := hs.nilAcc e i.size
    obtain ⟨A, c', w', r1, r2, r3⟩ := own_append (ty := ty) (c := c) (pre := M) (post := []) ht hi hz hzs hsz hs' hl h0 hn h1 (by simpa using hb) (by simpa using hm)
    rw [Nat.zero_add] at r1 r2 r3
    exact ⟨_, w', _, r1, by simpa using r3, h A c' (by simpa using r2)⟩
theorem flat_zero {zs : List Value} (hz : 0 < zs.length) (z0 : Array Value) (hz0 : z0.toList = zs) : ∀ n, ((Array.range (n * z0.size)).map (fun j => z0[j % z0.size]!)) = (List.replicate n zs).flatten.toArray := by
  have hsz : z0.size = zs.length := by rw [← hz0]; simp
  intro n
  apply Array.ext'
  rw [Array.toList_map, Array.toList_range]
  apply List.ext_getElem?
  intro j
  rw [List.getElem?_map]
  have fl : ∀ n j, ((List.replicate n zs).flatten)[j]? = if j < n * zs.length then zs[j % zs.length]? else none := by
    intro n
    induction n with
    | zero => intro j; simp
    | succ n ih =>
      intro j
      rw [List.replicate_succ, List.flatten_cons, List.getElem?_append]
      by_cases h1 : j < zs.length
      · rw [if_pos h1, if_pos (by rw [Nat.add_mul]; omega), Nat.mod_eq_of_lt h1]
      · rw [if_neg h1, ih]
        have e1 : j % zs.length = (j - zs.length) % zs.length := by
          conv => lhs; rw [show j = (j - zs.length) + zs.length from by omega]
          rw [Nat.add_mod_right]
        by_cases h2 : j - zs.length < n * zs.length
        · rw [if_pos h2, if_pos (by rw [Nat.add_mul]; omega), e1]
        · rw [if_neg h2, if_neg (by rw [Nat.add_mul]; omega)]
  rw [fl, hsz]
  by_cases h : j < n * zs.length
  · rw [if_pos h, List.getElem?_range h]
    have hlt : j % zs.length < zs.length := Nat.mod_lt _ hz
    simp only [Option.map_some]
    rw [List.getElem?_eq_getElem hlt]
    congr 1
    have : j % zs.length < z0.size := by omega
    rw [getElem!_pos z0 _ this]
    simp [← hz0]
  · rw [if_neg h, List.getElem?_eq_none (by simpa using h)]
    rfl
end
end Go.Sy
