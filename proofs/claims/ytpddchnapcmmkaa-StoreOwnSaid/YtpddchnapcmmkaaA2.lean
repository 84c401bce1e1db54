import Derived.Test.YtpddchnapcmmkaaA1
namespace Go.Proofs.Ytpddchnapcmmkaa
open Go Go.Sy
set_option linter.unusedSimpArgs false
set_option linter.unusedVariables false
-- 28 trunnion/store.ownInst
def cd28 : VFun := ⟨45, [.cellN 2 6], (.seq (.reg [⟨(some 1), none, (.ef (.box 34 (.tmp 0)))⟩, ⟨(some 2), none, (.ef (.alloc 34 [(.slice none 0 0), (.slice none 0 0), (.slice none 0 0), (.slice none 0 0), (.slice none 0 0), (.slice none 0 0)]))⟩])
  (.seq (.reg [⟨(some 5), none, (.rd (.fa 0 (.tmp 1)))⟩, ⟨(some 6), none, (.rd (.load1 (.tmp 5)))⟩, ⟨(some 7), none, (.ef (.call 49 [(.tmp 6)]))⟩, ⟨(some 8), none, (.rd (.fa 0 (.tmp 1)))⟩, ⟨none, none, (.ef (.store 1 (.tmp 8) (.tmp 7)))⟩])
  (.seq (.seq (.reg [⟨(some 9), none, (.rd (.fa 0 (.tmp 1)))⟩, ⟨(some 10), none, (.rd (.load1 (.tmp 9)))⟩, ⟨(some 11), none, (.rd (.lenL (.tmp 10)))⟩, ⟨(some 12), none, (.rd (.mov (.val (.int .i64 0))))⟩])
  (.block 0 (.loop (.seq (.reg [⟨(some 13), none, (.rd (.biI .lss (.tmp 12) (.tmp 11)))⟩])
  (.seq (.cond (.tmp 13) .skip
  (.exit 0))
  (.seq (.block 1 (.seq (.reg [⟨(some 14), none, (.rd (.mov (.tmp 12)))⟩, ⟨(some 15), none, (.rd (.ia 2 (.tmp 10) (.tmp 12)))⟩, ⟨(some 16), none, (.rd (.loadN 2 (.tmp 15)))⟩, ⟨(some 4), none, (.ef (.alloc 24 [(.slice none 0 0), (.slice none 0 0)]))⟩, ⟨(some 3), none, (.rd (.mov (.tmp 14)))⟩, ⟨none, none, (.ef (.store 2 (.tmp 4) (.tmp 16)))⟩])
  (.draw (.take 0 [1, 5, 6] ⟨(some 17), none, (.rd (.fa 0 (.tmp 1)))⟩ (.take 1 [5, 6] ⟨(some 18), none, (.rd (.load1 (.tmp 17)))⟩ (.take 2 [5, 6] ⟨(some 19), none, (.rd (.mov (.tmp 3)))⟩ (.all [(3, ⟨(some 20), none, (.rd (.loadN 2 (.tmp 4)))⟩, (.all [(4, ⟨(some 21), none, (.ef (.call 45 [(.tmp 20)]))⟩, (.take 5 [6] ⟨(some 22), none, (.rd (.ia 2 (.tmp 18) (.tmp 19)))⟩ (.all [(6, ⟨none, none, (.ef (.store 2 (.tmp 22) (.tmp 21)))⟩, .done)])))]))])))))))
  (.reg [⟨(some 23), none, (.rd (.biI .add (.tmp 12) (.val (.int .i64 1))))⟩, ⟨(some 12), none, (.rd (.mov (.tmp 23)))⟩])))))))
  (.seq (.draw (.take 0 [1, 2, 5, 6, 7, 8, 9] ⟨(some 24), none, (.rd (.fa 1 (.tmp 1)))⟩ (.take 1 [2, 5, 6, 7, 8, 9] ⟨(some 25), none, (.rd (.load1 (.tmp 24)))⟩ (.take 3 [4, 5, 6, 7, 8, 9] ⟨(some 27), none, (.rd (.fa 2 (.tmp 1)))⟩ (.take 4 [5, 6, 7, 8, 9] ⟨(some 28), none, (.rd (.load1 (.tmp 27)))⟩ (.all [(2, ⟨(some 26), none, (.ef (.call 50 [(.tmp 25)]))⟩, (.take 6 [7, 8, 9] ⟨(some 30), none, (.rd (.fa 1 (.tmp 1)))⟩ (.all [(5, ⟨(some 29), none, (.ef (.call 50 [(.tmp 28)]))⟩, (.all [(7, ⟨none, none, (.ef (.store 1 (.tmp 30) (.tmp 26)))⟩, (.take 8 [9] ⟨(some 31), none, (.rd (.fa 2 (.tmp 1)))⟩ (.all [(9, ⟨none, none, (.ef (.store 1 (.tmp 31) (.tmp 29)))⟩, .done)])))]))])))]))))))
  (.seq (.draw (.take 0 [1, 2, 5, 6, 7, 8, 9] ⟨(some 32), none, (.rd (.fa 3 (.tmp 1)))⟩ (.take 1 [2, 5, 6, 7, 8, 9] ⟨(some 33), none, (.rd (.load1 (.tmp 32)))⟩ (.take 3 [4, 5, 6, 7, 8, 9] ⟨(some 35), none, (.rd (.fa 4 (.tmp 1)))⟩ (.take 4 [5, 6, 7, 8, 9] ⟨(some 36), none, (.rd (.load1 (.tmp 35)))⟩ (.all [(2, ⟨(some 34), none, (.ef (.call 50 [(.tmp 33)]))⟩, (.take 6 [7, 8, 9] ⟨(some 38), none, (.rd (.fa 3 (.tmp 1)))⟩ (.all [(5, ⟨(some 37), none, (.ef (.call 50 [(.tmp 36)]))⟩, (.all [(7, ⟨none, none, (.ef (.store 1 (.tmp 38) (.tmp 34)))⟩, (.take 8 [9] ⟨(some 39), none, (.rd (.fa 4 (.tmp 1)))⟩ (.all [(9, ⟨none, none, (.ef (.store 1 (.tmp 39) (.tmp 37)))⟩, .done)])))]))])))]))))))
  (.seq (.reg [⟨(some 40), none, (.rd (.fa 5 (.tmp 1)))⟩, ⟨(some 41), none, (.rd (.load1 (.tmp 40)))⟩, ⟨(some 42), none, (.ef (.call 51 [(.tmp 41)]))⟩, ⟨(some 43), none, (.rd (.fa 5 (.tmp 1)))⟩, ⟨none, none, (.ef (.store 1 (.tmp 43) (.tmp 42)))⟩])
  (.seq (.reg [⟨(some 44), none, (.rd (.loadN 6 (.tmp 1)))⟩, ⟨none, none, (.ef (.store 6 (.tmp 2) (.tmp 44)))⟩])
  .ret)))))))⟩
@[go_sem] def ks28 : List Nat := [0, 1, 2, 3, 4, 10, 11, 12, 13]
theorem ce28 : comp Try.prog 28 = some cd28 := by kernel_rfl
/-- Function types in a row: both lists of each can be read. -/
structure Types (G : Stab) (n : Nat) (ts : List Value) : Prop where
  len : ts.length = n * 2
  a : ∀ j, j < n → ∃ A m c cs A' m' c' cs', ts[j * 2]? = some (.slice A m c) ∧ Row G 1 1 A m cs ∧ ts[j * 2 + 1]? = some (.slice A' m' c') ∧ Row G 1 1 A' m' cs'
  one : ∀ u ∈ ts, u.oneCell' = true
theorem Types.mono {G G' : Stab} {n : Nat} {st : List Value} (h : Types G n st) (hl : G.Le G') : Types G' n st :=
  ⟨h.len, fun j hj => by obtain ⟨A, m, c, cs, A', m', c', cs', h1, h2, h3, h4⟩ := h.a j hj; exact ⟨A, m, c, cs, A', m', c', cs', h1, h2.mono hl, h3, h4.mono hl⟩, h.one⟩
theorem putAt_two {cs : List Value} {v u : Value} {o i : Nat} (h : o + 1 < cs.length) : (putAt cs o [v, u])[i]? = if i = o then some v else if i = o + 1 then some u else cs[i]? := by
  rw [putAt_get (by simp; omega)]
  by_cases h1 : i = o
  · subst h1; simp
  · by_cases h2 : i = o + 1
    · subst h2; simp
    · rw [if_neg (by simp; omega), if_neg h1, if_neg h2]
theorem Types.set {G : Stab} {n j : Nat} {st : List Value} (h : Types G n st) (hj : j < n) {A : Option Addr} {m c : Nat} {cs : List Value} (hr : Row G 1 1 A m cs) {A' : Option Addr} {m' c' : Nat} {cs' : List Value} (hr' : Row G 1 1 A' m' cs') :
    Types G n (putAt st (j * 2) [.slice A m c, .slice A' m' c']) := by
  have hl := h.len
  refine ⟨by rw [putAt_length (by simp; omega)]; exact hl, fun i hi => ?_, putAt_all h.one (by simp [Value.oneCell'])⟩
  rw [putAt_two (by omega), putAt_two (by omega)]
  by_cases e : i = j
  · subst e; rw [if_pos rfl, if_neg (by omega), if_pos rfl]; exact ⟨A, m, c, cs, A', m', c', cs', rfl, hr, rfl, hr'⟩
  · rw [if_neg (by omega), if_neg (by omega), if_neg (by omega), if_neg (by omega)]; exact h.a i hi
def Φ28 (n0 n1 n2 n3 n4 n5 : Nat) (fs es : List Value) (G : Stab) (k : Value → Stab → List Ent → Prop) : Prop :=
  ∀ G' A0 c0 A1 c1 A2 c2 A3 c3 A4 c4 A5 c5 ts p2 p3 p4, G.Le G' → Fresh A1 n1 c1 → Fresh A5 n5 c5 → Row G' 2 48 A0 n0 ts → Types G' n0 ts → Row G' 1 8 A2 n2 p2 → Row G' 1 8 A3 n3 p3 → Row G' 1 8 A4 n4 p4 →
  k (.agg ⟨[.slice A0 n0 c0, .slice A1 n1 c1, .slice A2 n2 c2, .slice A3 n3 c3, .slice A4 n4 c4, .slice A5 n5 c5]⟩) G' [.acc (.slice A1 n1 c1) n1 fs 3 1, .acc (.slice A5 n5 c5) n5 es 58 3]
theorem s28 {G : Stab} {A0 A1 A2 A3 A4 A5 : Option Addr} {n0 n1 n2 n3 n4 n5 c0 c1 c2 c3 c4 c5 : Nat} {ts fs p2 p3 p4 es : List Value}
    (h0 : Row G 2 48 A0 n0 ts) (hs : Types G n0 ts) (h1 : Row G 1 8 A1 n1 fs) (h2 : Row G 1 8 A2 n2 p2) (h3 : Row G 1 8 A3 n3 p3) (h4 : Row G 1 8 A4 n4 p4) (h5 : Row G 3 32 A5 n5 es) :
    Con Try.prog 28 ⟨[.agg ⟨[.slice A0 n0 c0, .slice A1 n1 c1, .slice A2 n2 c2, .slice A3 n3 c3, .slice A4 n4 c4, .slice A5 n5 c5]⟩]⟩ G [] (Gives (Φ28 n0 n1 n2 n3 n4 n5 fs es G)) := by
  refine Con.of_vc ce28 ks28 mixed (by simp [cd28]) fun Γ hP hk => ?_
  simp only [cd28]
  repeat' first
    | with_reducible refine thn_n ?_
    | with_reducible refine thn_r ?_
    | with_reducible refine thn_e ?_
    | with_reducible refine blk_n ?_
    | with_reducible refine blk_r ?_
    | with_reducible refine blk_h ?_
    | with_reducible refine blk_m rfl ?_
    | with_reducible refine fin_r ?_
    | with_reducible refine VC.rseq hP hk fun K q hK hq => ?_
    | with_reducible refine VC.rend hP hk fun K q hK hq => ?_
    | with_reducible refine VC.seq ?_
    | with_reducible refine VC.skip ?_
    | with_reducible refine VC.ret ?_
    | with_reducible refine VC.exit ?_
    | with_reducible refine VC.block ?_
    | refine vops_gt rfl ?_
    | refine vops_gf rfl ?_
    | refine vsch_gt rfl ?_
    | refine vsch_gf rfl ?_
    | refine vall_gt rfl ?_ ?_
    | refine vall_gf rfl ?_ ?_
    | (refine vops_gb rfl (fun hb => ?_) (fun hb => ?_) <;> (try simp only [Bool.not_true, Bool.not_false] at hb) <;> (try simp -implicitDefEqProofs only [hb, if_true, if_false, ↓reduceIte, Bool.false_eq_true]))
    | (refine vsch_gb rfl (by simp only [noStop]) (fun hb => ?_) (fun hb => ?_) <;> (try simp only [Bool.not_true, Bool.not_false] at hb) <;> (try simp -implicitDefEqProofs only [hb, if_true, if_false, ↓reduceIte, Bool.false_eq_true]))
    | refine vall_gb rfl (fun hb => ?_) (fun hb => ?_) ?_
    | refine VC.condt rfl ?_
    | refine VC.condf rfl ?_
    | (refine hK.out _ _ _ _ (by simp -implicitDefEqProofs only [go_sem, ↓reduceIte, Int.reduceToNat, Int.reduceBEq, Int.reduceBNe, beq_self_eq_true, bne_self_eq_false, Int.reduceLT, Int.reduceLE, Int.reduceAdd, Int.reduceSub, Int.reduceNeg, decide_true, decide_false, gt_iff_lt, ge_iff_le, Int.natCast_one, Int.natCast_zero, Int.cast_ofNat_Int, Nat.reduceLeDiff, Nat.reduceEqDiff, Nat.reduceAdd, Nat.reduceSub, Nat.reduceMul, reduceCtorEq]; rfl) ?_; clear hK hq K q)
    | simp -implicitDefEqProofs only [go_sem, ↓reduceIte, Int.reduceToNat, Int.reduceBEq, Int.reduceBNe, beq_self_eq_true, bne_self_eq_false, Int.reduceLT, Int.reduceLE, Int.reduceAdd, Int.reduceSub, Int.reduceNeg, decide_true, decide_false, gt_iff_lt, ge_iff_le, Int.natCast_one, Int.natCast_zero, Int.cast_ofNat_Int, Nat.reduceLeDiff, Nat.reduceEqDiff, Nat.reduceAdd, Nat.reduceSub, Nat.reduceMul, reduceCtorEq]
    | refine newB_own' fun b1 => ?_
    | refine callK.clone mixed h49 h0 fun B0 d0 f0 l0 => ?_
    | refine rd1_hd rfl ?_
    | refine rd1_tl (rd1_hd rfl ?_)
    | refine rd1_tl (rd1_tl (rd1_hd rfl ?_))
    | refine rd1_tl (rd1_tl (rd1_tl (rd1_hd rfl ?_)))
    | refine rd1_tl (rd1_tl (rd1_tl (rd1_tl (rd1_hd rfl ?_))))
    | refine rd1_tl (rd1_tl (rd1_tl (rd1_tl (rd1_tl (rd1_hd rfl ?_)))))
    | refine rd1_tl (rd1_tl (rd1_tl (rd1_tl (rd1_tl (rd1_tl (rd1_hd rfl ?_))))))
    | refine rd1_tl (rd1_tl (rd1_tl (rd1_tl (rd1_tl (rd1_tl (rd1_tl (rd1_hd rfl ?_)))))))
    | refine rd1_tl (rd1_tl (rd1_tl (rd1_tl (rd1_tl (rd1_tl (rd1_tl (rd1_tl (rd1_hd rfl ?_))))))))
    | refine rdN_hd rfl ?_
    | refine rdN_tl (rdN_hd rfl ?_)
    | refine rdN_tl (rdN_tl (rdN_hd rfl ?_))
    | refine rdN_tl (rdN_tl (rdN_tl (rdN_hd rfl ?_)))
    | refine rdN_tl (rdN_tl (rdN_tl (rdN_tl (rdN_hd rfl ?_))))
    | refine rdN_tl (rdN_tl (rdN_tl (rdN_tl (rdN_tl (rdN_hd rfl ?_)))))
    | refine rdN_tl (rdN_tl (rdN_tl (rdN_tl (rdN_tl (rdN_tl (rdN_hd rfl ?_))))))
    | refine rdN_tl (rdN_tl (rdN_tl (rdN_tl (rdN_tl (rdN_tl (rdN_tl (rdN_hd rfl ?_)))))))
    | refine rdN_tl (rdN_tl (rdN_tl (rdN_tl (rdN_tl (rdN_tl (rdN_tl (rdN_tl (rdN_hd rfl ?_))))))))
    | refine stoK.hd (by simp) ?_
    | refine stoK.tl (stoK.hd (by simp) ?_)
    | refine stoK.tl (stoK.tl (stoK.hd (by simp) ?_))
    | refine stoK.tl (stoK.tl (stoK.tl (stoK.hd (by simp) ?_)))
    | refine stoK.tl (stoK.tl (stoK.tl (stoK.tl (stoK.hd (by simp) ?_))))
    | refine stoK.tl (stoK.tl (stoK.tl (stoK.tl (stoK.tl (stoK.hd (by simp) ?_)))))
    | refine stoK.tl (stoK.tl (stoK.tl (stoK.tl (stoK.tl (stoK.tl (stoK.hd (by simp) ?_))))))
    | refine stoK.tl (stoK.tl (stoK.tl (stoK.tl (stoK.tl (stoK.tl (stoK.tl (stoK.hd (by simp) ?_)))))))
    | refine stoK.tl (stoK.tl (stoK.tl (stoK.tl (stoK.tl (stoK.tl (stoK.tl (stoK.tl (stoK.hd (by simp) ?_))))))))
    | exact ⟨rfl, rfl, rfl⟩
    | (refine And.intro ?_ ?_; (· omega))
    | refine ⟨fun hg => ?_, fun hg => ?_⟩
    | (refine VC.condb rfl (fun hg => ?_) (fun hg => ?_) <;> (try simp -implicitDefEqProofs only [hg, if_true, if_false, ↓reduceIte, Bool.false_eq_true]))
    | fail
  rename_i b0
  refine VC.loop (fun j : Nat => [(1, .pointer (some ⟨b0, 0, none⟩)), (2, .pointer (some ⟨b1, 0, none⟩)), (10, .slice B0 n0 d0), (11, .int .i64 n0), (12, .int .i64 (j : Int))])
    (fun j G' L' => j ≤ n0 ∧ G.Le G' ∧ ∃ ts', L' = [.obj b0 [.slice B0 n0 d0, .slice A1 n1 c1, .slice A2 n2 c2, .slice A3 n3 c3, .slice A4 n4 c4, .slice A5 n5 c5] 34,
      .obj b1 [.slice none 0 0, .slice none 0 0, .slice none 0 0, .slice none 0 0, .slice none 0 0, .slice none 0 0] 34, .acc (.slice B0 n0 d0) n0 ts' 24 2] ∧
      Types G' n0 ts') (fun j => n0 - j) 0 (by simp [Env.Sub, Env.get]) ⟨by omega, Stab.Le.refl _, ts, rfl, hs⟩ ?_
  rintro j G' _ ⟨hj, hG, ts', rfl, hs'⟩
  repeat' first
    | with_reducible refine thn_n ?_
    | with_reducible refine thn_r ?_
    | with_reducible refine thn_e ?_
    | with_reducible refine blk_n ?_
    | with_reducible refine blk_r ?_
    | with_reducible refine blk_h ?_
    | with_reducible refine blk_m rfl ?_
    | with_reducible refine fin_r ?_
    | with_reducible refine VC.rend hP hk fun K q hK hq => ?_
    | with_reducible refine VC.seq ?_
    | with_reducible refine VC.skip ?_
    | with_reducible refine VC.ret ?_
    | with_reducible refine VC.exit ?_
    | with_reducible refine VC.block ?_
    | refine vops_gt rfl ?_
    | refine vops_gf rfl ?_
    | refine vsch_gt rfl ?_
    | refine vsch_gf rfl ?_
    | refine vall_gt rfl ?_ ?_
    | refine vall_gf rfl ?_ ?_
    | (refine vops_gb rfl (fun hb => ?_) (fun hb => ?_) <;> (try simp only [Bool.not_true, Bool.not_false] at hb) <;> (try simp -implicitDefEqProofs only [hb, if_true, if_false, ↓reduceIte, Bool.false_eq_true]))
    | (refine vsch_gb rfl (by simp only [noStop]) (fun hb => ?_) (fun hb => ?_) <;> (try simp only [Bool.not_true, Bool.not_false] at hb) <;> (try simp -implicitDefEqProofs only [hb, if_true, if_false, ↓reduceIte, Bool.false_eq_true]))
    | refine vall_gb rfl (fun hb => ?_) (fun hb => ?_) ?_
    | refine VC.condt rfl ?_
    | refine VC.condf rfl ?_
    | (refine hK.out _ _ _ _ (by simp -implicitDefEqProofs only [go_sem, ↓reduceIte, Int.reduceToNat, Int.reduceBEq, Int.reduceBNe, beq_self_eq_true, bne_self_eq_false, Int.reduceLT, Int.reduceLE, Int.reduceAdd, Int.reduceSub, Int.reduceNeg, decide_true, decide_false, gt_iff_lt, ge_iff_le, Int.natCast_one, Int.natCast_zero, Int.cast_ofNat_Int, Nat.reduceLeDiff, Nat.reduceEqDiff, Nat.reduceAdd, Nat.reduceSub, Nat.reduceMul, reduceCtorEq]; rfl) ?_; clear hK hq K q)
    | simp -implicitDefEqProofs only [go_sem, ↓reduceIte, Int.reduceToNat, Int.reduceBEq, Int.reduceBNe, beq_self_eq_true, bne_self_eq_false, Int.reduceLT, Int.reduceLE, Int.reduceAdd, Int.reduceSub, Int.reduceNeg, decide_true, decide_false, gt_iff_lt, ge_iff_le, Int.natCast_one, Int.natCast_zero, Int.cast_ofNat_Int, Nat.reduceLeDiff, Nat.reduceEqDiff, Nat.reduceAdd, Nat.reduceSub, Nat.reduceMul, reduceCtorEq]
    | refine rd1_hd rfl ?_
    | refine rd1_tl (rd1_hd rfl ?_)
    | refine rd1_tl (rd1_tl (rd1_hd rfl ?_))
    | refine rd1_tl (rd1_tl (rd1_tl (rd1_hd rfl ?_)))
    | refine rd1_tl (rd1_tl (rd1_tl (rd1_tl (rd1_hd rfl ?_))))
    | refine rd1_tl (rd1_tl (rd1_tl (rd1_tl (rd1_tl (rd1_hd rfl ?_)))))
    | refine rd1_tl (rd1_tl (rd1_tl (rd1_tl (rd1_tl (rd1_tl (rd1_hd rfl ?_))))))
    | refine rd1_tl (rd1_tl (rd1_tl (rd1_tl (rd1_tl (rd1_tl (rd1_tl (rd1_hd rfl ?_)))))))
    | refine rd1_tl (rd1_tl (rd1_tl (rd1_tl (rd1_tl (rd1_tl (rd1_tl (rd1_tl (rd1_hd rfl ?_))))))))
    | refine rdN_hd rfl ?_
    | refine rdN_tl (rdN_hd rfl ?_)
    | refine rdN_tl (rdN_tl (rdN_hd rfl ?_))
    | refine rdN_tl (rdN_tl (rdN_tl (rdN_hd rfl ?_)))
    | refine rdN_tl (rdN_tl (rdN_tl (rdN_tl (rdN_hd rfl ?_))))
    | refine rdN_tl (rdN_tl (rdN_tl (rdN_tl (rdN_tl (rdN_hd rfl ?_)))))
    | refine rdN_tl (rdN_tl (rdN_tl (rdN_tl (rdN_tl (rdN_tl (rdN_hd rfl ?_))))))
    | refine rdN_tl (rdN_tl (rdN_tl (rdN_tl (rdN_tl (rdN_tl (rdN_tl (rdN_hd rfl ?_)))))))
    | refine rdN_tl (rdN_tl (rdN_tl (rdN_tl (rdN_tl (rdN_tl (rdN_tl (rdN_tl (rdN_hd rfl ?_))))))))
    | refine stoK.hd (by simp) ?_
    | refine stoK.tl (stoK.hd (by simp) ?_)
    | refine stoK.tl (stoK.tl (stoK.hd (by simp) ?_))
    | refine stoK.tl (stoK.tl (stoK.tl (stoK.hd (by simp) ?_)))
    | refine stoK.tl (stoK.tl (stoK.tl (stoK.tl (stoK.hd (by simp) ?_))))
    | refine stoK.tl (stoK.tl (stoK.tl (stoK.tl (stoK.tl (stoK.hd (by simp) ?_)))))
    | refine stoK.tl (stoK.tl (stoK.tl (stoK.tl (stoK.tl (stoK.tl (stoK.hd (by simp) ?_))))))
    | refine stoK.tl (stoK.tl (stoK.tl (stoK.tl (stoK.tl (stoK.tl (stoK.tl (stoK.hd (by simp) ?_)))))))
    | refine stoK.tl (stoK.tl (stoK.tl (stoK.tl (stoK.tl (stoK.tl (stoK.tl (stoK.tl (stoK.hd (by simp) ?_))))))))
    | exact ⟨rfl, rfl, rfl⟩
    | (refine And.intro ?_ ?_; (· omega))
    | refine ⟨fun hg => ?_, fun hg => ?_⟩
    | (refine VC.condb rfl (fun hg => ?_) (fun hg => ?_) <;> (try simp -implicitDefEqProofs only [hg, if_true, if_false, ↓reduceIte, Bool.false_eq_true]))
    | fail
  · have hj' : j < n0 := by simpa using hg
    obtain ⟨A, m, c, cs, A', m', c', cs', e1, r1, e2, r2⟩ := hs'.a j hj'
    rcases f0 with ⟨_, h, _⟩ | ⟨b8, rfl⟩
    · omega
    have hl := hs'.len
    repeat' first
      | with_reducible refine thn_n ?_
      | with_reducible refine thn_r ?_
      | with_reducible refine thn_e ?_
      | with_reducible refine blk_n ?_
      | with_reducible refine blk_r ?_
      | with_reducible refine blk_h ?_
      | with_reducible refine blk_m rfl ?_
      | with_reducible refine fin_n ?_
      | with_reducible refine fin_r ?_
      | with_reducible refine VC.rseq hP hk fun K q hK hq => ?_
      | with_reducible refine VC.rend hP hk fun K q hK hq => ?_
      | with_reducible refine VC.seq ?_
      | with_reducible refine VC.skip ?_
      | with_reducible refine VC.ret ?_
      | with_reducible refine VC.exit ?_
      | with_reducible refine VC.block ?_
      | refine vops_gt rfl ?_
      | refine vops_gf rfl ?_
      | refine vsch_gt rfl ?_
      | refine vsch_gf rfl ?_
      | refine vall_gt rfl ?_ ?_
      | refine vall_gf rfl ?_ ?_
      | (refine vops_gb rfl (fun hb => ?_) (fun hb => ?_) <;> (try simp only [Bool.not_true, Bool.not_false] at hb) <;> (try simp -implicitDefEqProofs only [hb, if_true, if_false, ↓reduceIte, Bool.false_eq_true]))
      | (refine vsch_gb rfl (by simp only [noStop]) (fun hb => ?_) (fun hb => ?_) <;> (try simp only [Bool.not_true, Bool.not_false] at hb) <;> (try simp -implicitDefEqProofs only [hb, if_true, if_false, ↓reduceIte, Bool.false_eq_true]))
      | refine vall_gb rfl (fun hb => ?_) (fun hb => ?_) ?_
      | refine VC.condt rfl ?_
      | refine VC.condf rfl ?_
      | (refine hK.out _ _ _ _ (by simp -implicitDefEqProofs only [go_sem, ↓reduceIte, Int.reduceToNat, Int.reduceBEq, Int.reduceBNe, beq_self_eq_true, bne_self_eq_false, Int.reduceLT, Int.reduceLE, Int.reduceAdd, Int.reduceSub, Int.reduceNeg, decide_true, decide_false, gt_iff_lt, ge_iff_le, Int.natCast_one, Int.natCast_zero, Int.cast_ofNat_Int, Nat.reduceLeDiff, Nat.reduceEqDiff, Nat.reduceAdd, Nat.reduceSub, Nat.reduceMul, reduceCtorEq]; rfl) ?_; clear hK hq K q)
      | simp -implicitDefEqProofs only [go_sem, ↓reduceIte, Int.reduceToNat, Int.reduceBEq, Int.reduceBNe, beq_self_eq_true, bne_self_eq_false, Int.reduceLT, Int.reduceLE, Int.reduceAdd, Int.reduceSub, Int.reduceNeg, decide_true, decide_false, gt_iff_lt, ge_iff_le, Int.natCast_one, Int.natCast_zero, Int.cast_ofNat_Int, Nat.reduceLeDiff, Nat.reduceEqDiff, Nat.reduceAdd, Nat.reduceSub, Nat.reduceMul, reduceCtorEq]
      | refine newB_own' fun b2 => ?_
      | refine rdN_tl (rdN_tl (rdN_acc (cs := [.slice A m c, .slice A' m' c']) rfl (ofCons e1 (ofCons e2 ofNil)) ?_))
      | refine rd1_hd rfl ?_
      | refine rd1_tl (rd1_hd rfl ?_)
      | refine rd1_tl (rd1_tl (rd1_hd rfl ?_))
      | refine rd1_tl (rd1_tl (rd1_tl (rd1_hd rfl ?_)))
      | refine rd1_tl (rd1_tl (rd1_tl (rd1_tl (rd1_hd rfl ?_))))
      | refine rd1_tl (rd1_tl (rd1_tl (rd1_tl (rd1_tl (rd1_hd rfl ?_)))))
      | refine rd1_tl (rd1_tl (rd1_tl (rd1_tl (rd1_tl (rd1_tl (rd1_hd rfl ?_))))))
      | refine rd1_tl (rd1_tl (rd1_tl (rd1_tl (rd1_tl (rd1_tl (rd1_tl (rd1_hd rfl ?_)))))))
      | refine rd1_tl (rd1_tl (rd1_tl (rd1_tl (rd1_tl (rd1_tl (rd1_tl (rd1_tl (rd1_hd rfl ?_))))))))
      | refine rdN_hd rfl ?_
      | refine rdN_tl (rdN_hd rfl ?_)
      | refine rdN_tl (rdN_tl (rdN_hd rfl ?_))
      | refine rdN_tl (rdN_tl (rdN_tl (rdN_hd rfl ?_)))
      | refine rdN_tl (rdN_tl (rdN_tl (rdN_tl (rdN_hd rfl ?_))))
      | refine rdN_tl (rdN_tl (rdN_tl (rdN_tl (rdN_tl (rdN_hd rfl ?_)))))
      | refine rdN_tl (rdN_tl (rdN_tl (rdN_tl (rdN_tl (rdN_tl (rdN_hd rfl ?_))))))
      | refine rdN_tl (rdN_tl (rdN_tl (rdN_tl (rdN_tl (rdN_tl (rdN_tl (rdN_hd rfl ?_)))))))
      | refine rdN_tl (rdN_tl (rdN_tl (rdN_tl (rdN_tl (rdN_tl (rdN_tl (rdN_tl (rdN_hd rfl ?_))))))))
      | refine stoK.hd (by simp) ?_
      | refine stoK.tl (stoK.hd (by simp) ?_)
      | refine stoK.tl (stoK.tl (stoK.hd (by simp) ?_))
      | refine stoK.tl (stoK.tl (stoK.tl (stoK.hd (by simp) ?_)))
      | refine stoK.tl (stoK.tl (stoK.tl (stoK.tl (stoK.hd (by simp) ?_))))
      | refine stoK.tl (stoK.tl (stoK.tl (stoK.tl (stoK.tl (stoK.hd (by simp) ?_)))))
      | refine stoK.tl (stoK.tl (stoK.tl (stoK.tl (stoK.tl (stoK.tl (stoK.hd (by simp) ?_))))))
      | refine stoK.tl (stoK.tl (stoK.tl (stoK.tl (stoK.tl (stoK.tl (stoK.tl (stoK.hd (by simp) ?_)))))))
      | refine stoK.tl (stoK.tl (stoK.tl (stoK.tl (stoK.tl (stoK.tl (stoK.tl (stoK.tl (stoK.hd (by simp) ?_))))))))
      | exact ⟨rfl, rfl, rfl⟩
      | (refine And.intro ?_ ?_; (· omega))
      | refine ⟨fun hg => ?_, fun hg => ?_⟩
      | (refine VC.condb rfl (fun hg => ?_) (fun hg => ?_) <;> (try simp -implicitDefEqProofs only [hg, if_true, if_false, ↓reduceIte, Bool.false_eq_true]))
      | fail
    refine VC.dend hP hk ([.acc (.slice (some ⟨b8, 0, none⟩) n0 d0) n0 ts' 24 2, .obj b2 _ 24]) ([(.obj b0 _ 34, none), (.obj b1 _ 34, none)]) (by (try simp only [lent, List.cons_append, List.nil_append]); repeat' first | exact List.Perm.refl _ | ((with_reducible refine permTake (pre := []) rfl ?_); simp only [List.cons_append, List.nil_append]) | ((with_reducible refine permTake (pre := [_]) rfl ?_); simp only [List.cons_append, List.nil_append]) | ((with_reducible refine permTake (pre := [_, _]) rfl ?_); simp only [List.cons_append, List.nil_append]) | ((with_reducible refine permTake (pre := [_, _, _]) rfl ?_); simp only [List.cons_append, List.nil_append]) | ((with_reducible refine permTake (pre := [_, _, _, _]) rfl ?_); simp only [List.cons_append, List.nil_append]) | ((with_reducible refine permTake (pre := [_, _, _, _, _]) rfl ?_); simp only [List.cons_append, List.nil_append]) | ((with_reducible refine permTake (pre := [_, _, _, _, _, _]) rfl ?_); simp only [List.cons_append, List.nil_append]) | fail) fun K q hK hq => ?_
    try simp -implicitDefEqProofs only [go_sem, ↓reduceIte, Int.reduceToNat, Int.reduceBEq, Int.reduceBNe, beq_self_eq_true, bne_self_eq_false, Int.reduceLT, Int.reduceLE, Int.reduceAdd, Int.reduceSub, Int.reduceNeg, decide_true, decide_false, gt_iff_lt, ge_iff_le, Int.natCast_one, Int.natCast_zero, Int.cast_ofNat_Int, Nat.reduceLeDiff, Nat.reduceEqDiff, Nat.reduceAdd, Nat.reduceSub, Nat.reduceMul, reduceCtorEq]
    repeat' first
      | with_reducible refine thn_n ?_
      | with_reducible refine thn_r ?_
      | with_reducible refine thn_e ?_
      | with_reducible refine blk_n ?_
      | with_reducible refine blk_r ?_
      | with_reducible refine blk_h ?_
      | with_reducible refine blk_m rfl ?_
      | with_reducible refine fin_n ?_
      | with_reducible refine fin_r ?_
      | with_reducible refine VC.seq ?_
      | with_reducible refine VC.skip ?_
      | with_reducible refine VC.ret ?_
      | with_reducible refine VC.exit ?_
      | with_reducible refine VC.block ?_
      | refine vops_gt rfl ?_
      | refine vops_gf rfl ?_
      | refine vsch_gt rfl ?_
      | refine vsch_gf rfl ?_
      | refine vall_gt rfl ?_ ?_
      | refine vall_gf rfl ?_ ?_
      | (refine vops_gb rfl (fun hb => ?_) (fun hb => ?_) <;> (try simp only [Bool.not_true, Bool.not_false] at hb) <;> (try simp -implicitDefEqProofs only [hb, if_true, if_false, ↓reduceIte, Bool.false_eq_true]))
      | (refine vsch_gb rfl (by simp only [noStop]) (fun hb => ?_) (fun hb => ?_) <;> (try simp only [Bool.not_true, Bool.not_false] at hb) <;> (try simp -implicitDefEqProofs only [hb, if_true, if_false, ↓reduceIte, Bool.false_eq_true]))
      | refine vall_gb rfl (fun hb => ?_) (fun hb => ?_) ?_
      | refine VC.condt rfl ?_
      | refine VC.condf rfl ?_
      | (refine hK.out _ _ _ _ (by simp -implicitDefEqProofs only [go_sem, ↓reduceIte, Int.reduceToNat, Int.reduceBEq, Int.reduceBNe, beq_self_eq_true, bne_self_eq_false, Int.reduceLT, Int.reduceLE, Int.reduceAdd, Int.reduceSub, Int.reduceNeg, decide_true, decide_false, gt_iff_lt, ge_iff_le, Int.natCast_one, Int.natCast_zero, Int.cast_ofNat_Int, Nat.reduceLeDiff, Nat.reduceEqDiff, Nat.reduceAdd, Nat.reduceSub, Nat.reduceMul, reduceCtorEq]; rfl) ?_; clear hK hq K q)
      | simp -implicitDefEqProofs only [go_sem, ↓reduceIte, Int.reduceToNat, Int.reduceBEq, Int.reduceBNe, beq_self_eq_true, bne_self_eq_false, Int.reduceLT, Int.reduceLE, Int.reduceAdd, Int.reduceSub, Int.reduceNeg, decide_true, decide_false, gt_iff_lt, ge_iff_le, Int.natCast_one, Int.natCast_zero, Int.cast_ofNat_Int, Nat.reduceLeDiff, Nat.reduceEqDiff, Nat.reduceAdd, Nat.reduceSub, Nat.reduceMul, reduceCtorEq]
      | refine callK.cps0 (s45 r1 r2) fun U0 u0 U1 u1 v0 v1 l0 l1 => ?_
      | refine stoK.hdA (by simp; omega) ?_
      | refine rd1_hd rfl ?_
      | refine rd1_tl (rd1_hd rfl ?_)
      | refine rd1_tl (rd1_tl (rd1_hd rfl ?_))
      | refine rd1_tl (rd1_tl (rd1_tl (rd1_hd rfl ?_)))
      | refine rd1_tl (rd1_tl (rd1_tl (rd1_tl (rd1_hd rfl ?_))))
      | refine rd1_tl (rd1_tl (rd1_tl (rd1_tl (rd1_tl (rd1_hd rfl ?_)))))
      | refine rd1_tl (rd1_tl (rd1_tl (rd1_tl (rd1_tl (rd1_tl (rd1_hd rfl ?_))))))
      | refine rd1_tl (rd1_tl (rd1_tl (rd1_tl (rd1_tl (rd1_tl (rd1_tl (rd1_hd rfl ?_)))))))
      | refine rd1_tl (rd1_tl (rd1_tl (rd1_tl (rd1_tl (rd1_tl (rd1_tl (rd1_tl (rd1_hd rfl ?_))))))))
      | refine rdN_hd rfl ?_
      | refine rdN_tl (rdN_hd rfl ?_)
      | refine rdN_tl (rdN_tl (rdN_hd rfl ?_))
      | refine rdN_tl (rdN_tl (rdN_tl (rdN_hd rfl ?_)))
      | refine rdN_tl (rdN_tl (rdN_tl (rdN_tl (rdN_hd rfl ?_))))
      | refine rdN_tl (rdN_tl (rdN_tl (rdN_tl (rdN_tl (rdN_hd rfl ?_)))))
      | refine rdN_tl (rdN_tl (rdN_tl (rdN_tl (rdN_tl (rdN_tl (rdN_hd rfl ?_))))))
      | refine rdN_tl (rdN_tl (rdN_tl (rdN_tl (rdN_tl (rdN_tl (rdN_tl (rdN_hd rfl ?_)))))))
      | refine rdN_tl (rdN_tl (rdN_tl (rdN_tl (rdN_tl (rdN_tl (rdN_tl (rdN_tl (rdN_hd rfl ?_))))))))
      | refine stoK.hd (by simp) ?_
      | refine stoK.tl (stoK.hd (by simp) ?_)
      | refine stoK.tl (stoK.tl (stoK.hd (by simp) ?_))
      | refine stoK.tl (stoK.tl (stoK.tl (stoK.hd (by simp) ?_)))
      | refine stoK.tl (stoK.tl (stoK.tl (stoK.tl (stoK.hd (by simp) ?_))))
      | refine stoK.tl (stoK.tl (stoK.tl (stoK.tl (stoK.tl (stoK.hd (by simp) ?_)))))
      | refine stoK.tl (stoK.tl (stoK.tl (stoK.tl (stoK.tl (stoK.tl (stoK.hd (by simp) ?_))))))
      | refine stoK.tl (stoK.tl (stoK.tl (stoK.tl (stoK.tl (stoK.tl (stoK.tl (stoK.hd (by simp) ?_)))))))
      | refine stoK.tl (stoK.tl (stoK.tl (stoK.tl (stoK.tl (stoK.tl (stoK.tl (stoK.tl (stoK.hd (by simp) ?_))))))))
      | exact ⟨rfl, rfl, rfl⟩
      | (refine And.intro ?_ ?_; (· omega))
      | refine ⟨fun hg => ?_, fun hg => ?_⟩
      | (refine VC.condb rfl (fun hg => ?_) (fun hg => ?_) <;> (try simp -implicitDefEqProofs only [hg, if_true, if_false, ↓reduceIte, Bool.false_eq_true]))
      | fail
    refine VC.fixRow (L1 := [.obj b0 _ _, .obj b1 _ _, .acc (.slice (some ⟨b8, 0, none⟩) n0 d0) n0 _ _ _, .acc _ m cs _ _, .obj b2 _ _]) 1 (by (try simp only [lent, List.cons_append, List.nil_append]); repeat' first | exact List.Perm.refl _ | ((with_reducible refine permTake (pre := []) rfl ?_); simp only [List.cons_append, List.nil_append]) | ((with_reducible refine permTake (pre := [_]) rfl ?_); simp only [List.cons_append, List.nil_append]) | ((with_reducible refine permTake (pre := [_, _]) rfl ?_); simp only [List.cons_append, List.nil_append]) | ((with_reducible refine permTake (pre := [_, _, _]) rfl ?_); simp only [List.cons_append, List.nil_append]) | ((with_reducible refine permTake (pre := [_, _, _, _]) rfl ?_); simp only [List.cons_append, List.nil_append]) | ((with_reducible refine permTake (pre := [_, _, _, _, _]) rfl ?_); simp only [List.cons_append, List.nil_append]) | ((with_reducible refine permTake (pre := [_, _, _, _, _, _]) rfl ?_); simp only [List.cons_append, List.nil_append]) | fail) r2.one r2.size fun G2 g2 t2 => ?_
    refine VC.fixRow (L1 := [.obj b0 _ _, .obj b1 _ _, .acc (.slice (some ⟨b8, 0, none⟩) n0 d0) n0 _ _ _, .obj b2 _ _]) 1 (by (try simp only [lent, List.cons_append, List.nil_append]); repeat' first | exact List.Perm.refl _ | ((with_reducible refine permTake (pre := []) rfl ?_); simp only [List.cons_append, List.nil_append]) | ((with_reducible refine permTake (pre := [_]) rfl ?_); simp only [List.cons_append, List.nil_append]) | ((with_reducible refine permTake (pre := [_, _]) rfl ?_); simp only [List.cons_append, List.nil_append]) | ((with_reducible refine permTake (pre := [_, _, _]) rfl ?_); simp only [List.cons_append, List.nil_append]) | ((with_reducible refine permTake (pre := [_, _, _, _]) rfl ?_); simp only [List.cons_append, List.nil_append]) | ((with_reducible refine permTake (pre := [_, _, _, _, _]) rfl ?_); simp only [List.cons_append, List.nil_append]) | ((with_reducible refine permTake (pre := [_, _, _, _, _, _]) rfl ?_); simp only [List.cons_append, List.nil_append]) | fail) r1.one r1.size fun G3 g3 t3 => ?_
    refine VC.drop (L' := [.obj b0 _ _, .obj b1 _ _, .acc (.slice (some ⟨b8, 0, none⟩) n0 d0) n0 _ _ _]) (by repeat' first | exact List.Sublist.refl _ | exact List.nil_sublist _ | (with_reducible refine List.Sublist.cons_cons _ ?_) | refine List.Sublist.cons _ ?_ | fail) ?_
    repeat' first
      | with_reducible refine thn_n ?_
      | with_reducible refine thn_r ?_
      | with_reducible refine thn_e ?_
      | with_reducible refine blk_n ?_
      | with_reducible refine blk_r ?_
      | with_reducible refine blk_h ?_
      | with_reducible refine blk_m rfl ?_
      | with_reducible refine fin_n ?_
      | with_reducible refine fin_r ?_
      | with_reducible refine VC.rseq hP hk fun K q hK hq => ?_
      | with_reducible refine VC.rend hP hk fun K q hK hq => ?_
      | with_reducible refine VC.seq ?_
      | with_reducible refine VC.skip ?_
      | with_reducible refine VC.ret ?_
      | with_reducible refine VC.exit ?_
      | with_reducible refine VC.block ?_
      | refine vops_gt rfl ?_
      | refine vops_gf rfl ?_
      | refine vsch_gt rfl ?_
      | refine vsch_gf rfl ?_
      | refine vall_gt rfl ?_ ?_
      | refine vall_gf rfl ?_ ?_
      | (refine vops_gb rfl (fun hb => ?_) (fun hb => ?_) <;> (try simp only [Bool.not_true, Bool.not_false] at hb) <;> (try simp -implicitDefEqProofs only [hb, if_true, if_false, ↓reduceIte, Bool.false_eq_true]))
      | (refine vsch_gb rfl (by simp only [noStop]) (fun hb => ?_) (fun hb => ?_) <;> (try simp only [Bool.not_true, Bool.not_false] at hb) <;> (try simp -implicitDefEqProofs only [hb, if_true, if_false, ↓reduceIte, Bool.false_eq_true]))
      | refine vall_gb rfl (fun hb => ?_) (fun hb => ?_) ?_
      | refine VC.condt rfl ?_
      | refine VC.condf rfl ?_
      | (refine hK.out _ _ _ _ (by simp -implicitDefEqProofs only [go_sem, ↓reduceIte, Int.reduceToNat, Int.reduceBEq, Int.reduceBNe, beq_self_eq_true, bne_self_eq_false, Int.reduceLT, Int.reduceLE, Int.reduceAdd, Int.reduceSub, Int.reduceNeg, decide_true, decide_false, gt_iff_lt, ge_iff_le, Int.natCast_one, Int.natCast_zero, Int.cast_ofNat_Int, Nat.reduceLeDiff, Nat.reduceEqDiff, Nat.reduceAdd, Nat.reduceSub, Nat.reduceMul, reduceCtorEq]; rfl) ?_; clear hK hq K q)
      | simp -implicitDefEqProofs only [go_sem, ↓reduceIte, Int.reduceToNat, Int.reduceBEq, Int.reduceBNe, beq_self_eq_true, bne_self_eq_false, Int.reduceLT, Int.reduceLE, Int.reduceAdd, Int.reduceSub, Int.reduceNeg, decide_true, decide_false, gt_iff_lt, ge_iff_le, Int.natCast_one, Int.natCast_zero, Int.cast_ofNat_Int, Nat.reduceLeDiff, Nat.reduceEqDiff, Nat.reduceAdd, Nat.reduceSub, Nat.reduceMul, reduceCtorEq]
      | refine rd1_hd rfl ?_
      | refine rd1_tl (rd1_hd rfl ?_)
      | refine rd1_tl (rd1_tl (rd1_hd rfl ?_))
      | refine rd1_tl (rd1_tl (rd1_tl (rd1_hd rfl ?_)))
      | refine rd1_tl (rd1_tl (rd1_tl (rd1_tl (rd1_hd rfl ?_))))
      | refine rd1_tl (rd1_tl (rd1_tl (rd1_tl (rd1_tl (rd1_hd rfl ?_)))))
      | refine rd1_tl (rd1_tl (rd1_tl (rd1_tl (rd1_tl (rd1_tl (rd1_hd rfl ?_))))))
      | refine rd1_tl (rd1_tl (rd1_tl (rd1_tl (rd1_tl (rd1_tl (rd1_tl (rd1_hd rfl ?_)))))))
      | refine rd1_tl (rd1_tl (rd1_tl (rd1_tl (rd1_tl (rd1_tl (rd1_tl (rd1_tl (rd1_hd rfl ?_))))))))
      | refine rdN_hd rfl ?_
      | refine rdN_tl (rdN_hd rfl ?_)
      | refine rdN_tl (rdN_tl (rdN_hd rfl ?_))
      | refine rdN_tl (rdN_tl (rdN_tl (rdN_hd rfl ?_)))
      | refine rdN_tl (rdN_tl (rdN_tl (rdN_tl (rdN_hd rfl ?_))))
      | refine rdN_tl (rdN_tl (rdN_tl (rdN_tl (rdN_tl (rdN_hd rfl ?_)))))
      | refine rdN_tl (rdN_tl (rdN_tl (rdN_tl (rdN_tl (rdN_tl (rdN_hd rfl ?_))))))
      | refine rdN_tl (rdN_tl (rdN_tl (rdN_tl (rdN_tl (rdN_tl (rdN_tl (rdN_hd rfl ?_)))))))
      | refine rdN_tl (rdN_tl (rdN_tl (rdN_tl (rdN_tl (rdN_tl (rdN_tl (rdN_tl (rdN_hd rfl ?_))))))))
      | refine stoK.hd (by simp) ?_
      | refine stoK.tl (stoK.hd (by simp) ?_)
      | refine stoK.tl (stoK.tl (stoK.hd (by simp) ?_))
      | refine stoK.tl (stoK.tl (stoK.tl (stoK.hd (by simp) ?_)))
      | refine stoK.tl (stoK.tl (stoK.tl (stoK.tl (stoK.hd (by simp) ?_))))
      | refine stoK.tl (stoK.tl (stoK.tl (stoK.tl (stoK.tl (stoK.hd (by simp) ?_)))))
      | refine stoK.tl (stoK.tl (stoK.tl (stoK.tl (stoK.tl (stoK.tl (stoK.hd (by simp) ?_))))))
      | refine stoK.tl (stoK.tl (stoK.tl (stoK.tl (stoK.tl (stoK.tl (stoK.tl (stoK.hd (by simp) ?_)))))))
      | refine stoK.tl (stoK.tl (stoK.tl (stoK.tl (stoK.tl (stoK.tl (stoK.tl (stoK.tl (stoK.hd (by simp) ?_))))))))
      | exact ⟨rfl, rfl, rfl⟩
      | (refine And.intro ?_ ?_; (· omega))
      | refine ⟨fun hg => ?_, fun hg => ?_⟩
      | (refine VC.condb rfl (fun hg => ?_) (fun hg => ?_) <;> (try simp -implicitDefEqProofs only [hg, if_true, if_false, ↓reduceIte, Bool.false_eq_true]))
      | fail
    refine ⟨j + 1, by omega, ?_, by omega, (hG.trans g2).trans g3, _, rfl, (hs'.mono (g2.trans g3)).set hj' t3 (t2.mono g3)⟩
    simp [Env.Sub, Env.get]
    exact wrap64 (by omega) (by have := h0.max; omega)
  · refine VC.fixRow (L1 := [.obj b0 _ _, .obj b1 _ _]) 48 (by (try simp only [lent, List.cons_append, List.nil_append]); repeat' first | exact List.Perm.refl _ | ((with_reducible refine permTake (pre := []) rfl ?_); simp only [List.cons_append, List.nil_append]) | ((with_reducible refine permTake (pre := [_]) rfl ?_); simp only [List.cons_append, List.nil_append]) | ((with_reducible refine permTake (pre := [_, _]) rfl ?_); simp only [List.cons_append, List.nil_append]) | ((with_reducible refine permTake (pre := [_, _, _]) rfl ?_); simp only [List.cons_append, List.nil_append]) | ((with_reducible refine permTake (pre := [_, _, _, _]) rfl ?_); simp only [List.cons_append, List.nil_append]) | ((with_reducible refine permTake (pre := [_, _, _, _, _]) rfl ?_); simp only [List.cons_append, List.nil_append]) | ((with_reducible refine permTake (pre := [_, _, _, _, _, _]) rfl ?_); simp only [List.cons_append, List.nil_append]) | fail) hs'.one h0.size fun G1 g1 t1 => ?_
    refine VC.dend hP hk ([]) ([(.obj b0 _ 34, some 7), (.obj b1 _ 34, none)]) (by (try simp only [lent, List.cons_append, List.nil_append]); repeat' first | exact List.Perm.refl _ | ((with_reducible refine permTake (pre := []) rfl ?_); simp only [List.cons_append, List.nil_append]) | ((with_reducible refine permTake (pre := [_]) rfl ?_); simp only [List.cons_append, List.nil_append]) | ((with_reducible refine permTake (pre := [_, _]) rfl ?_); simp only [List.cons_append, List.nil_append]) | ((with_reducible refine permTake (pre := [_, _, _]) rfl ?_); simp only [List.cons_append, List.nil_append]) | ((with_reducible refine permTake (pre := [_, _, _, _]) rfl ?_); simp only [List.cons_append, List.nil_append]) | ((with_reducible refine permTake (pre := [_, _, _, _, _]) rfl ?_); simp only [List.cons_append, List.nil_append]) | ((with_reducible refine permTake (pre := [_, _, _, _, _, _]) rfl ?_); simp only [List.cons_append, List.nil_append]) | fail) fun K q hK hq => ?_
    try simp -implicitDefEqProofs only [go_sem, ↓reduceIte, Int.reduceToNat, Int.reduceBEq, Int.reduceBNe, beq_self_eq_true, bne_self_eq_false, Int.reduceLT, Int.reduceLE, Int.reduceAdd, Int.reduceSub, Int.reduceNeg, decide_true, decide_false, gt_iff_lt, ge_iff_le, Int.natCast_one, Int.natCast_zero, Int.cast_ofNat_Int, Nat.reduceLeDiff, Nat.reduceEqDiff, Nat.reduceAdd, Nat.reduceSub, Nat.reduceMul, reduceCtorEq]
    repeat' first
      | with_reducible refine thn_n ?_
      | with_reducible refine thn_r ?_
      | with_reducible refine thn_e ?_
      | with_reducible refine blk_n ?_
      | with_reducible refine blk_r ?_
      | with_reducible refine blk_h ?_
      | with_reducible refine blk_m rfl ?_
      | with_reducible refine fin_r ?_
      | with_reducible refine VC.rend hP hk fun K q hK hq => ?_
      | with_reducible refine VC.seq ?_
      | with_reducible refine VC.skip ?_
      | with_reducible refine VC.ret ?_
      | with_reducible refine VC.exit ?_
      | with_reducible refine VC.block ?_
      | refine vops_gt rfl ?_
      | refine vops_gf rfl ?_
      | refine vsch_gt rfl ?_
      | refine vsch_gf rfl ?_
      | refine vall_gt rfl ?_ ?_
      | refine vall_gf rfl ?_ ?_
      | (refine vops_gb rfl (fun hb => ?_) (fun hb => ?_) <;> (try simp only [Bool.not_true, Bool.not_false] at hb) <;> (try simp -implicitDefEqProofs only [hb, if_true, if_false, ↓reduceIte, Bool.false_eq_true]))
      | (refine vsch_gb rfl (by simp only [noStop]) (fun hb => ?_) (fun hb => ?_) <;> (try simp only [Bool.not_true, Bool.not_false] at hb) <;> (try simp -implicitDefEqProofs only [hb, if_true, if_false, ↓reduceIte, Bool.false_eq_true]))
      | refine vall_gb rfl (fun hb => ?_) (fun hb => ?_) ?_
      | refine VC.condt rfl ?_
      | refine VC.condf rfl ?_
      | (refine hK.out _ _ _ _ (by simp -implicitDefEqProofs only [go_sem, ↓reduceIte, Int.reduceToNat, Int.reduceBEq, Int.reduceBNe, beq_self_eq_true, bne_self_eq_false, Int.reduceLT, Int.reduceLE, Int.reduceAdd, Int.reduceSub, Int.reduceNeg, decide_true, decide_false, gt_iff_lt, ge_iff_le, Int.natCast_one, Int.natCast_zero, Int.cast_ofNat_Int, Nat.reduceLeDiff, Nat.reduceEqDiff, Nat.reduceAdd, Nat.reduceSub, Nat.reduceMul, reduceCtorEq]; rfl) ?_; clear hK hq K q)
      | simp -implicitDefEqProofs only [go_sem, ↓reduceIte, Int.reduceToNat, Int.reduceBEq, Int.reduceBNe, beq_self_eq_true, bne_self_eq_false, Int.reduceLT, Int.reduceLE, Int.reduceAdd, Int.reduceSub, Int.reduceNeg, decide_true, decide_false, gt_iff_lt, ge_iff_le, Int.natCast_one, Int.natCast_zero, Int.cast_ofNat_Int, Nat.reduceLeDiff, Nat.reduceEqDiff, Nat.reduceAdd, Nat.reduceSub, Nat.reduceMul, reduceCtorEq]
      | refine callK.clone mixed h50 (h1.mono (hG.trans g1)) fun B1 d1 f1 l1 => ?_
      | refine callK.clone mixed h50 (h2.mono (hG.trans g1)) fun B2 d2 f2 l2 => ?_
      | refine rd1_hd rfl ?_
      | refine rd1_tl (rd1_hd rfl ?_)
      | refine rd1_tl (rd1_tl (rd1_hd rfl ?_))
      | refine rd1_tl (rd1_tl (rd1_tl (rd1_hd rfl ?_)))
      | refine rd1_tl (rd1_tl (rd1_tl (rd1_tl (rd1_hd rfl ?_))))
      | refine rd1_tl (rd1_tl (rd1_tl (rd1_tl (rd1_tl (rd1_hd rfl ?_)))))
      | refine rd1_tl (rd1_tl (rd1_tl (rd1_tl (rd1_tl (rd1_tl (rd1_hd rfl ?_))))))
      | refine rd1_tl (rd1_tl (rd1_tl (rd1_tl (rd1_tl (rd1_tl (rd1_tl (rd1_hd rfl ?_)))))))
      | refine rd1_tl (rd1_tl (rd1_tl (rd1_tl (rd1_tl (rd1_tl (rd1_tl (rd1_tl (rd1_hd rfl ?_))))))))
      | refine rdN_hd rfl ?_
      | refine rdN_tl (rdN_hd rfl ?_)
      | refine rdN_tl (rdN_tl (rdN_hd rfl ?_))
      | refine rdN_tl (rdN_tl (rdN_tl (rdN_hd rfl ?_)))
      | refine rdN_tl (rdN_tl (rdN_tl (rdN_tl (rdN_hd rfl ?_))))
      | refine rdN_tl (rdN_tl (rdN_tl (rdN_tl (rdN_tl (rdN_hd rfl ?_)))))
      | refine rdN_tl (rdN_tl (rdN_tl (rdN_tl (rdN_tl (rdN_tl (rdN_hd rfl ?_))))))
      | refine rdN_tl (rdN_tl (rdN_tl (rdN_tl (rdN_tl (rdN_tl (rdN_tl (rdN_hd rfl ?_)))))))
      | refine rdN_tl (rdN_tl (rdN_tl (rdN_tl (rdN_tl (rdN_tl (rdN_tl (rdN_tl (rdN_hd rfl ?_))))))))
      | refine stoK.hd (by simp) ?_
      | refine stoK.tl (stoK.hd (by simp) ?_)
      | refine stoK.tl (stoK.tl (stoK.hd (by simp) ?_))
      | refine stoK.tl (stoK.tl (stoK.tl (stoK.hd (by simp) ?_)))
      | refine stoK.tl (stoK.tl (stoK.tl (stoK.tl (stoK.hd (by simp) ?_))))
      | refine stoK.tl (stoK.tl (stoK.tl (stoK.tl (stoK.tl (stoK.hd (by simp) ?_)))))
      | refine stoK.tl (stoK.tl (stoK.tl (stoK.tl (stoK.tl (stoK.tl (stoK.hd (by simp) ?_))))))
      | refine stoK.tl (stoK.tl (stoK.tl (stoK.tl (stoK.tl (stoK.tl (stoK.tl (stoK.hd (by simp) ?_)))))))
      | refine stoK.tl (stoK.tl (stoK.tl (stoK.tl (stoK.tl (stoK.tl (stoK.tl (stoK.tl (stoK.hd (by simp) ?_))))))))
      | exact ⟨rfl, rfl, rfl⟩
      | (refine And.intro ?_ ?_; (· omega))
      | refine ⟨fun hg => ?_, fun hg => ?_⟩
      | (refine VC.condb rfl (fun hg => ?_) (fun hg => ?_) <;> (try simp -implicitDefEqProofs only [hg, if_true, if_false, ↓reduceIte, Bool.false_eq_true]))
      | fail
    refine VC.fixRow (L1 := [.obj b0 _ _, .obj b1 _ _, .acc (.slice B1 n1 d1) n1 _ _ _]) 8 (by (try simp only [lent, List.cons_append, List.nil_append]); repeat' first | exact List.Perm.refl _ | ((with_reducible refine permTake (pre := []) rfl ?_); simp only [List.cons_append, List.nil_append]) | ((with_reducible refine permTake (pre := [_]) rfl ?_); simp only [List.cons_append, List.nil_append]) | ((with_reducible refine permTake (pre := [_, _]) rfl ?_); simp only [List.cons_append, List.nil_append]) | ((with_reducible refine permTake (pre := [_, _, _]) rfl ?_); simp only [List.cons_append, List.nil_append]) | ((with_reducible refine permTake (pre := [_, _, _, _]) rfl ?_); simp only [List.cons_append, List.nil_append]) | ((with_reducible refine permTake (pre := [_, _, _, _, _]) rfl ?_); simp only [List.cons_append, List.nil_append]) | ((with_reducible refine permTake (pre := [_, _, _, _, _, _]) rfl ?_); simp only [List.cons_append, List.nil_append]) | fail) h2.one h2.size fun G2 g2 t2 => ?_
    refine VC.dend hP hk ([]) ([(.obj b0 _ 34, some 7), (.obj b1 _ 34, none), (.acc (.slice B1 n1 d1) n1 _ _ _, none)]) (by (try simp only [lent, List.cons_append, List.nil_append]); repeat' first | exact List.Perm.refl _ | ((with_reducible refine permTake (pre := []) rfl ?_); simp only [List.cons_append, List.nil_append]) | ((with_reducible refine permTake (pre := [_]) rfl ?_); simp only [List.cons_append, List.nil_append]) | ((with_reducible refine permTake (pre := [_, _]) rfl ?_); simp only [List.cons_append, List.nil_append]) | ((with_reducible refine permTake (pre := [_, _, _]) rfl ?_); simp only [List.cons_append, List.nil_append]) | ((with_reducible refine permTake (pre := [_, _, _, _]) rfl ?_); simp only [List.cons_append, List.nil_append]) | ((with_reducible refine permTake (pre := [_, _, _, _, _]) rfl ?_); simp only [List.cons_append, List.nil_append]) | ((with_reducible refine permTake (pre := [_, _, _, _, _, _]) rfl ?_); simp only [List.cons_append, List.nil_append]) | fail) fun K q hK hq => ?_
    try simp -implicitDefEqProofs only [go_sem, ↓reduceIte, Int.reduceToNat, Int.reduceBEq, Int.reduceBNe, beq_self_eq_true, bne_self_eq_false, Int.reduceLT, Int.reduceLE, Int.reduceAdd, Int.reduceSub, Int.reduceNeg, decide_true, decide_false, gt_iff_lt, ge_iff_le, Int.natCast_one, Int.natCast_zero, Int.cast_ofNat_Int, Nat.reduceLeDiff, Nat.reduceEqDiff, Nat.reduceAdd, Nat.reduceSub, Nat.reduceMul, reduceCtorEq]
    repeat' first
      | with_reducible refine thn_n ?_
      | with_reducible refine thn_r ?_
      | with_reducible refine thn_e ?_
      | with_reducible refine blk_n ?_
      | with_reducible refine blk_r ?_
      | with_reducible refine blk_h ?_
      | with_reducible refine blk_m rfl ?_
      | with_reducible refine fin_r ?_
      | with_reducible refine VC.seq ?_
      | with_reducible refine VC.skip ?_
      | with_reducible refine VC.ret ?_
      | with_reducible refine VC.exit ?_
      | with_reducible refine VC.block ?_
      | refine vops_gt rfl ?_
      | refine vops_gf rfl ?_
      | refine vsch_gt rfl ?_
      | refine vsch_gf rfl ?_
      | refine vall_gt rfl ?_ ?_
      | refine vall_gf rfl ?_ ?_
      | (refine vops_gb rfl (fun hb => ?_) (fun hb => ?_) <;> (try simp only [Bool.not_true, Bool.not_false] at hb) <;> (try simp -implicitDefEqProofs only [hb, if_true, if_false, ↓reduceIte, Bool.false_eq_true]))
      | (refine vsch_gb rfl (by simp only [noStop]) (fun hb => ?_) (fun hb => ?_) <;> (try simp only [Bool.not_true, Bool.not_false] at hb) <;> (try simp -implicitDefEqProofs only [hb, if_true, if_false, ↓reduceIte, Bool.false_eq_true]))
      | refine vall_gb rfl (fun hb => ?_) (fun hb => ?_) ?_
      | refine VC.condt rfl ?_
      | refine VC.condf rfl ?_
      | (refine hK.out _ _ _ _ (by simp -implicitDefEqProofs only [go_sem, ↓reduceIte, Int.reduceToNat, Int.reduceBEq, Int.reduceBNe, beq_self_eq_true, bne_self_eq_false, Int.reduceLT, Int.reduceLE, Int.reduceAdd, Int.reduceSub, Int.reduceNeg, decide_true, decide_false, gt_iff_lt, ge_iff_le, Int.natCast_one, Int.natCast_zero, Int.cast_ofNat_Int, Nat.reduceLeDiff, Nat.reduceEqDiff, Nat.reduceAdd, Nat.reduceSub, Nat.reduceMul, reduceCtorEq]; rfl) ?_; clear hK hq K q)
      | simp -implicitDefEqProofs only [go_sem, ↓reduceIte, Int.reduceToNat, Int.reduceBEq, Int.reduceBNe, beq_self_eq_true, bne_self_eq_false, Int.reduceLT, Int.reduceLE, Int.reduceAdd, Int.reduceSub, Int.reduceNeg, decide_true, decide_false, gt_iff_lt, ge_iff_le, Int.natCast_one, Int.natCast_zero, Int.cast_ofNat_Int, Nat.reduceLeDiff, Nat.reduceEqDiff, Nat.reduceAdd, Nat.reduceSub, Nat.reduceMul, reduceCtorEq]
      | refine callK.clone mixed h50 (h3.mono ((hG.trans g1).trans g2)) fun B3 d3 f3 l3 => ?_
      | refine callK.clone mixed h50 (h4.mono ((hG.trans g1).trans g2)) fun B4 d4 f4 l4 => ?_
      | refine rd1_hd rfl ?_
      | refine rd1_tl (rd1_hd rfl ?_)
      | refine rd1_tl (rd1_tl (rd1_hd rfl ?_))
      | refine rd1_tl (rd1_tl (rd1_tl (rd1_hd rfl ?_)))
      | refine rd1_tl (rd1_tl (rd1_tl (rd1_tl (rd1_hd rfl ?_))))
      | refine rd1_tl (rd1_tl (rd1_tl (rd1_tl (rd1_tl (rd1_hd rfl ?_)))))
      | refine rd1_tl (rd1_tl (rd1_tl (rd1_tl (rd1_tl (rd1_tl (rd1_hd rfl ?_))))))
      | refine rd1_tl (rd1_tl (rd1_tl (rd1_tl (rd1_tl (rd1_tl (rd1_tl (rd1_hd rfl ?_)))))))
      | refine rd1_tl (rd1_tl (rd1_tl (rd1_tl (rd1_tl (rd1_tl (rd1_tl (rd1_tl (rd1_hd rfl ?_))))))))
      | refine rdN_hd rfl ?_
      | refine rdN_tl (rdN_hd rfl ?_)
      | refine rdN_tl (rdN_tl (rdN_hd rfl ?_))
      | refine rdN_tl (rdN_tl (rdN_tl (rdN_hd rfl ?_)))
      | refine rdN_tl (rdN_tl (rdN_tl (rdN_tl (rdN_hd rfl ?_))))
      | refine rdN_tl (rdN_tl (rdN_tl (rdN_tl (rdN_tl (rdN_hd rfl ?_)))))
      | refine rdN_tl (rdN_tl (rdN_tl (rdN_tl (rdN_tl (rdN_tl (rdN_hd rfl ?_))))))
      | refine rdN_tl (rdN_tl (rdN_tl (rdN_tl (rdN_tl (rdN_tl (rdN_tl (rdN_hd rfl ?_)))))))
      | refine rdN_tl (rdN_tl (rdN_tl (rdN_tl (rdN_tl (rdN_tl (rdN_tl (rdN_tl (rdN_hd rfl ?_))))))))
      | refine stoK.hd (by simp) ?_
      | refine stoK.tl (stoK.hd (by simp) ?_)
      | refine stoK.tl (stoK.tl (stoK.hd (by simp) ?_))
      | refine stoK.tl (stoK.tl (stoK.tl (stoK.hd (by simp) ?_)))
      | refine stoK.tl (stoK.tl (stoK.tl (stoK.tl (stoK.hd (by simp) ?_))))
      | refine stoK.tl (stoK.tl (stoK.tl (stoK.tl (stoK.tl (stoK.hd (by simp) ?_)))))
      | refine stoK.tl (stoK.tl (stoK.tl (stoK.tl (stoK.tl (stoK.tl (stoK.hd (by simp) ?_))))))
      | refine stoK.tl (stoK.tl (stoK.tl (stoK.tl (stoK.tl (stoK.tl (stoK.tl (stoK.hd (by simp) ?_)))))))
      | refine stoK.tl (stoK.tl (stoK.tl (stoK.tl (stoK.tl (stoK.tl (stoK.tl (stoK.tl (stoK.hd (by simp) ?_))))))))
      | exact ⟨rfl, rfl, rfl⟩
      | (refine And.intro ?_ ?_; (· omega))
      | refine ⟨fun hg => ?_, fun hg => ?_⟩
      | (refine VC.condb rfl (fun hg => ?_) (fun hg => ?_) <;> (try simp -implicitDefEqProofs only [hg, if_true, if_false, ↓reduceIte, Bool.false_eq_true]))
      | fail
    refine VC.fixRow (L1 := [.obj b0 _ _, .obj b1 _ _, .acc (.slice B1 n1 d1) n1 _ _ _, .acc (.slice B4 n4 d4) n4 _ _ _]) 8 (by (try simp only [lent, List.cons_append, List.nil_append]); repeat' first | exact List.Perm.refl _ | ((with_reducible refine permTake (pre := []) rfl ?_); simp only [List.cons_append, List.nil_append]) | ((with_reducible refine permTake (pre := [_]) rfl ?_); simp only [List.cons_append, List.nil_append]) | ((with_reducible refine permTake (pre := [_, _]) rfl ?_); simp only [List.cons_append, List.nil_append]) | ((with_reducible refine permTake (pre := [_, _, _]) rfl ?_); simp only [List.cons_append, List.nil_append]) | ((with_reducible refine permTake (pre := [_, _, _, _]) rfl ?_); simp only [List.cons_append, List.nil_append]) | ((with_reducible refine permTake (pre := [_, _, _, _, _]) rfl ?_); simp only [List.cons_append, List.nil_append]) | ((with_reducible refine permTake (pre := [_, _, _, _, _, _]) rfl ?_); simp only [List.cons_append, List.nil_append]) | fail) h3.one h3.size fun G3 g3 t3 => ?_
    refine VC.fixRow (L1 := [.obj b0 _ _, .obj b1 _ _, .acc (.slice B1 n1 d1) n1 _ _ _]) 8 (by (try simp only [lent, List.cons_append, List.nil_append]); repeat' first | exact List.Perm.refl _ | ((with_reducible refine permTake (pre := []) rfl ?_); simp only [List.cons_append, List.nil_append]) | ((with_reducible refine permTake (pre := [_]) rfl ?_); simp only [List.cons_append, List.nil_append]) | ((with_reducible refine permTake (pre := [_, _]) rfl ?_); simp only [List.cons_append, List.nil_append]) | ((with_reducible refine permTake (pre := [_, _, _]) rfl ?_); simp only [List.cons_append, List.nil_append]) | ((with_reducible refine permTake (pre := [_, _, _, _]) rfl ?_); simp only [List.cons_append, List.nil_append]) | ((with_reducible refine permTake (pre := [_, _, _, _, _]) rfl ?_); simp only [List.cons_append, List.nil_append]) | ((with_reducible refine permTake (pre := [_, _, _, _, _, _]) rfl ?_); simp only [List.cons_append, List.nil_append]) | fail) h4.one h4.size fun G4 g4 t4 => ?_
    repeat' first
      | with_reducible refine thn_n ?_
      | with_reducible refine thn_r ?_
      | with_reducible refine thn_e ?_
      | with_reducible refine blk_n ?_
      | with_reducible refine blk_r ?_
      | with_reducible refine blk_h ?_
      | with_reducible refine blk_m rfl ?_
      | with_reducible refine fin_r ?_
      | with_reducible refine VC.rseq hP hk fun K q hK hq => ?_
      | with_reducible refine VC.rend hP hk fun K q hK hq => ?_
      | with_reducible refine VC.seq ?_
      | with_reducible refine VC.skip ?_
      | with_reducible refine VC.ret ?_
      | with_reducible refine VC.exit ?_
      | with_reducible refine VC.block ?_
      | refine vops_gt rfl ?_
      | refine vops_gf rfl ?_
      | refine vsch_gt rfl ?_
      | refine vsch_gf rfl ?_
      | refine vall_gt rfl ?_ ?_
      | refine vall_gf rfl ?_ ?_
      | (refine vops_gb rfl (fun hb => ?_) (fun hb => ?_) <;> (try simp only [Bool.not_true, Bool.not_false] at hb) <;> (try simp -implicitDefEqProofs only [hb, if_true, if_false, ↓reduceIte, Bool.false_eq_true]))
      | (refine vsch_gb rfl (by simp only [noStop]) (fun hb => ?_) (fun hb => ?_) <;> (try simp only [Bool.not_true, Bool.not_false] at hb) <;> (try simp -implicitDefEqProofs only [hb, if_true, if_false, ↓reduceIte, Bool.false_eq_true]))
      | refine vall_gb rfl (fun hb => ?_) (fun hb => ?_) ?_
      | refine VC.condt rfl ?_
      | refine VC.condf rfl ?_
      | (refine hK.out _ _ _ _ (by simp -implicitDefEqProofs only [go_sem, ↓reduceIte, Int.reduceToNat, Int.reduceBEq, Int.reduceBNe, beq_self_eq_true, bne_self_eq_false, Int.reduceLT, Int.reduceLE, Int.reduceAdd, Int.reduceSub, Int.reduceNeg, decide_true, decide_false, gt_iff_lt, ge_iff_le, Int.natCast_one, Int.natCast_zero, Int.cast_ofNat_Int, Nat.reduceLeDiff, Nat.reduceEqDiff, Nat.reduceAdd, Nat.reduceSub, Nat.reduceMul, reduceCtorEq]; rfl) ?_; clear hK hq K q)
      | simp -implicitDefEqProofs only [go_sem, ↓reduceIte, Int.reduceToNat, Int.reduceBEq, Int.reduceBNe, beq_self_eq_true, bne_self_eq_false, Int.reduceLT, Int.reduceLE, Int.reduceAdd, Int.reduceSub, Int.reduceNeg, decide_true, decide_false, gt_iff_lt, ge_iff_le, Int.natCast_one, Int.natCast_zero, Int.cast_ofNat_Int, Nat.reduceLeDiff, Nat.reduceEqDiff, Nat.reduceAdd, Nat.reduceSub, Nat.reduceMul, reduceCtorEq]
      | refine callK.clone mixed h51 (h5.mono ((((hG.trans g1).trans g2).trans g3).trans g4)) fun B5 d5 f5 l5 => ?_
      | refine rd1_hd rfl ?_
      | refine rd1_tl (rd1_hd rfl ?_)
      | refine rd1_tl (rd1_tl (rd1_hd rfl ?_))
      | refine rd1_tl (rd1_tl (rd1_tl (rd1_hd rfl ?_)))
      | refine rd1_tl (rd1_tl (rd1_tl (rd1_tl (rd1_hd rfl ?_))))
      | refine rd1_tl (rd1_tl (rd1_tl (rd1_tl (rd1_tl (rd1_hd rfl ?_)))))
      | refine rd1_tl (rd1_tl (rd1_tl (rd1_tl (rd1_tl (rd1_tl (rd1_hd rfl ?_))))))
      | refine rd1_tl (rd1_tl (rd1_tl (rd1_tl (rd1_tl (rd1_tl (rd1_tl (rd1_hd rfl ?_)))))))
      | refine rd1_tl (rd1_tl (rd1_tl (rd1_tl (rd1_tl (rd1_tl (rd1_tl (rd1_tl (rd1_hd rfl ?_))))))))
      | refine rdN_hd rfl ?_
      | refine rdN_tl (rdN_hd rfl ?_)
      | refine rdN_tl (rdN_tl (rdN_hd rfl ?_))
      | refine rdN_tl (rdN_tl (rdN_tl (rdN_hd rfl ?_)))
      | refine rdN_tl (rdN_tl (rdN_tl (rdN_tl (rdN_hd rfl ?_))))
      | refine rdN_tl (rdN_tl (rdN_tl (rdN_tl (rdN_tl (rdN_hd rfl ?_)))))
      | refine rdN_tl (rdN_tl (rdN_tl (rdN_tl (rdN_tl (rdN_tl (rdN_hd rfl ?_))))))
      | refine rdN_tl (rdN_tl (rdN_tl (rdN_tl (rdN_tl (rdN_tl (rdN_tl (rdN_hd rfl ?_)))))))
      | refine rdN_tl (rdN_tl (rdN_tl (rdN_tl (rdN_tl (rdN_tl (rdN_tl (rdN_tl (rdN_hd rfl ?_))))))))
      | refine stoK.hd (by simp) ?_
      | refine stoK.tl (stoK.hd (by simp) ?_)
      | refine stoK.tl (stoK.tl (stoK.hd (by simp) ?_))
      | refine stoK.tl (stoK.tl (stoK.tl (stoK.hd (by simp) ?_)))
      | refine stoK.tl (stoK.tl (stoK.tl (stoK.tl (stoK.hd (by simp) ?_))))
      | refine stoK.tl (stoK.tl (stoK.tl (stoK.tl (stoK.tl (stoK.hd (by simp) ?_)))))
      | refine stoK.tl (stoK.tl (stoK.tl (stoK.tl (stoK.tl (stoK.tl (stoK.hd (by simp) ?_))))))
      | refine stoK.tl (stoK.tl (stoK.tl (stoK.tl (stoK.tl (stoK.tl (stoK.tl (stoK.hd (by simp) ?_)))))))
      | refine stoK.tl (stoK.tl (stoK.tl (stoK.tl (stoK.tl (stoK.tl (stoK.tl (stoK.tl (stoK.hd (by simp) ?_))))))))
      | exact ⟨rfl, rfl, rfl⟩
      | (refine And.intro ?_ ?_; (· omega))
      | refine ⟨fun hg => ?_, fun hg => ?_⟩
      | (refine VC.condb rfl (fun hg => ?_) (fun hg => ?_) <;> (try simp -implicitDefEqProofs only [hg, if_true, if_false, ↓reduceIte, Bool.false_eq_true]))
      | fail
    repeat' first
      | with_reducible refine thn_n ?_
      | with_reducible refine thn_r ?_
      | with_reducible refine thn_e ?_
      | with_reducible refine blk_n ?_
      | with_reducible refine blk_r ?_
      | with_reducible refine blk_h ?_
      | with_reducible refine blk_m rfl ?_
      | with_reducible refine fin_n ?_
      | with_reducible refine fin_r ?_
      | with_reducible refine VC.rseq hP hk fun K q hK hq => ?_
      | with_reducible refine VC.rend hP hk fun K q hK hq => ?_
      | with_reducible refine VC.seq ?_
      | with_reducible refine VC.skip ?_
      | with_reducible refine VC.ret ?_
      | with_reducible refine VC.exit ?_
      | with_reducible refine VC.block ?_
      | refine vops_gt rfl ?_
      | refine vops_gf rfl ?_
      | refine vsch_gt rfl ?_
      | refine vsch_gf rfl ?_
      | refine vall_gt rfl ?_ ?_
      | refine vall_gf rfl ?_ ?_
      | (refine vops_gb rfl (fun hb => ?_) (fun hb => ?_) <;> (try simp only [Bool.not_true, Bool.not_false] at hb) <;> (try simp -implicitDefEqProofs only [hb, if_true, if_false, ↓reduceIte, Bool.false_eq_true]))
      | (refine vsch_gb rfl (by simp only [noStop]) (fun hb => ?_) (fun hb => ?_) <;> (try simp only [Bool.not_true, Bool.not_false] at hb) <;> (try simp -implicitDefEqProofs only [hb, if_true, if_false, ↓reduceIte, Bool.false_eq_true]))
      | refine vall_gb rfl (fun hb => ?_) (fun hb => ?_) ?_
      | refine VC.condt rfl ?_
      | refine VC.condf rfl ?_
      | (refine hK.out _ _ _ _ (by simp -implicitDefEqProofs only [go_sem, ↓reduceIte, Int.reduceToNat, Int.reduceBEq, Int.reduceBNe, beq_self_eq_true, bne_self_eq_false, Int.reduceLT, Int.reduceLE, Int.reduceAdd, Int.reduceSub, Int.reduceNeg, decide_true, decide_false, gt_iff_lt, ge_iff_le, Int.natCast_one, Int.natCast_zero, Int.cast_ofNat_Int, Nat.reduceLeDiff, Nat.reduceEqDiff, Nat.reduceAdd, Nat.reduceSub, Nat.reduceMul, reduceCtorEq]; rfl) ?_; clear hK hq K q)
      | simp -implicitDefEqProofs only [go_sem, ↓reduceIte, Int.reduceToNat, Int.reduceBEq, Int.reduceBNe, beq_self_eq_true, bne_self_eq_false, Int.reduceLT, Int.reduceLE, Int.reduceAdd, Int.reduceSub, Int.reduceNeg, decide_true, decide_false, gt_iff_lt, ge_iff_le, Int.natCast_one, Int.natCast_zero, Int.cast_ofNat_Int, Nat.reduceLeDiff, Nat.reduceEqDiff, Nat.reduceAdd, Nat.reduceSub, Nat.reduceMul, reduceCtorEq]
      | refine rd1_hd rfl ?_
      | refine rd1_tl (rd1_hd rfl ?_)
      | refine rd1_tl (rd1_tl (rd1_hd rfl ?_))
      | refine rd1_tl (rd1_tl (rd1_tl (rd1_hd rfl ?_)))
      | refine rd1_tl (rd1_tl (rd1_tl (rd1_tl (rd1_hd rfl ?_))))
      | refine rd1_tl (rd1_tl (rd1_tl (rd1_tl (rd1_tl (rd1_hd rfl ?_)))))
      | refine rd1_tl (rd1_tl (rd1_tl (rd1_tl (rd1_tl (rd1_tl (rd1_hd rfl ?_))))))
      | refine rd1_tl (rd1_tl (rd1_tl (rd1_tl (rd1_tl (rd1_tl (rd1_tl (rd1_hd rfl ?_)))))))
      | refine rd1_tl (rd1_tl (rd1_tl (rd1_tl (rd1_tl (rd1_tl (rd1_tl (rd1_tl (rd1_hd rfl ?_))))))))
      | refine rdN_hd rfl ?_
      | refine rdN_tl (rdN_hd rfl ?_)
      | refine rdN_tl (rdN_tl (rdN_hd rfl ?_))
      | refine rdN_tl (rdN_tl (rdN_tl (rdN_hd rfl ?_)))
      | refine rdN_tl (rdN_tl (rdN_tl (rdN_tl (rdN_hd rfl ?_))))
      | refine rdN_tl (rdN_tl (rdN_tl (rdN_tl (rdN_tl (rdN_hd rfl ?_)))))
      | refine rdN_tl (rdN_tl (rdN_tl (rdN_tl (rdN_tl (rdN_tl (rdN_hd rfl ?_))))))
      | refine rdN_tl (rdN_tl (rdN_tl (rdN_tl (rdN_tl (rdN_tl (rdN_tl (rdN_hd rfl ?_)))))))
      | refine rdN_tl (rdN_tl (rdN_tl (rdN_tl (rdN_tl (rdN_tl (rdN_tl (rdN_tl (rdN_hd rfl ?_))))))))
      | refine stoK.hd (by simp) ?_
      | refine stoK.tl (stoK.hd (by simp) ?_)
      | refine stoK.tl (stoK.tl (stoK.hd (by simp) ?_))
      | refine stoK.tl (stoK.tl (stoK.tl (stoK.hd (by simp) ?_)))
      | refine stoK.tl (stoK.tl (stoK.tl (stoK.tl (stoK.hd (by simp) ?_))))
      | refine stoK.tl (stoK.tl (stoK.tl (stoK.tl (stoK.tl (stoK.hd (by simp) ?_)))))
      | refine stoK.tl (stoK.tl (stoK.tl (stoK.tl (stoK.tl (stoK.tl (stoK.hd (by simp) ?_))))))
      | refine stoK.tl (stoK.tl (stoK.tl (stoK.tl (stoK.tl (stoK.tl (stoK.tl (stoK.hd (by simp) ?_)))))))
      | refine stoK.tl (stoK.tl (stoK.tl (stoK.tl (stoK.tl (stoK.tl (stoK.tl (stoK.tl (stoK.hd (by simp) ?_))))))))
      | exact ⟨rfl, rfl, rfl⟩
      | (refine And.intro ?_ ?_; (· omega))
      | refine ⟨fun hg => ?_, fun hg => ?_⟩
      | (refine VC.condb rfl (fun hg => ?_) (fun hg => ?_) <;> (try simp -implicitDefEqProofs only [hg, if_true, if_false, ↓reduceIte, Bool.false_eq_true]))
      | fail
    have g24 := (g2.trans g3).trans g4
    exact Gives.ret (fun k hk => hk _ _ _ _ _ _ _ _ _ _ _ _ _ _ _ _ _ ((hG.trans g1).trans g24) f1 f5 (t1.mono g24) ((hs'.mono g1).mono g24) (t2.mono (g3.trans g4)) (t3.mono g4) t4) (by repeat' first | exact List.Sublist.refl _ | exact List.nil_sublist _ | (with_reducible refine List.Sublist.cons_cons _ ?_) | refine List.Sublist.cons _ ?_ | fail)
end Go.Proofs.Ytpddchnapcmmkaa
