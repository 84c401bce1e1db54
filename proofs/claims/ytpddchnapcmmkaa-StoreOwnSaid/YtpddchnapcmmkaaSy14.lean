import Derived.Test.YtpddchnapcmmkaaSy13
namespace Go.Sy
open Go Go.RowKit
set_option linter.unusedVariables false
set_option linter.unusedSimpArgs false
/-- slices.Clone. -/
def cClone (e sz by_ : Nat) : VFun := ⟨8, [.tmp 2], (.seq (.reg [⟨(some 2), none, (.rd (.mov (.val (.slice none 0 0))))⟩])
  (.seq (.seq (.reg [⟨(some 3), none, (.rd (.mov (.tmp 0)))⟩, ⟨(some 4), none, (.rd (.eqL false (.tmp 3) (.val (.slice none 0 0))))⟩])
  (.cond (.tmp 4) (.seq (.reg [⟨(some 2), none, (.rd (.mov (.val (.slice none 0 0))))⟩])
  .ret)
  .skip))
  (.seq (.reg [⟨(some 5), none, (.ef (.bsl e 0 [] []))⟩, ⟨(some 6), none, (.rd (.mov (.tmp 0)))⟩, ⟨(some 7), none, (.ef (.app e sz by_ (.tmp 5) (.tmp 6)))⟩, ⟨(some 2), none, (.rd (.mov (.tmp 7)))⟩])
  .ret)))⟩
@[go_sem] def kClone : List Nat := [0, 2, 4]
/-- What it is good for. -/
def CloneΦ (e sz n : Nat) (cs : List Value) (G : Stab) (k : Value → Stab → List Ent → Prop) : Prop := ∀ A c, Fresh A n c → cs.length = n * sz → k (.slice A n c) G [.acc (.slice A n c) n cs e sz]
theorem clone {P : Program} (mixed : P.follows .mixedOrders = true) {f e sz by_ : Nat} (hc : comp P f = some (cClone e sz by_)) {G : Stab} {A : Option Addr} {n c : Nat} {cs : List Value}
    (h : Row G sz by_ A n cs) : Con P f ⟨[.slice A n c]⟩ G [] (Gives (CloneΦ e sz n cs G)) := by
  obtain ⟨hlen, hnil, hr, ho, hb, hn⟩ := h
  refine Con.of_vc hc kClone mixed (by simp [cClone]) fun Γ hP hk => ?_
  simp only [cClone]
  show VC Γ (.seq _ _) _ _ _ _
  cases A with
  | none =>
    obtain rfl := hnil rfl
    obtain rfl : cs = [] := by simpa using hlen
    repeat' first
      | with_reducible refine thn_n ?_
      | with_reducible refine thn_r ?_
      | with_reducible refine thn_e ?_
      | with_reducible refine blk_n ?_
      | with_reducible refine blk_r ?_
      | with_reducible refine blk_h ?_
      | with_reducible refine blk_m rfl ?_
      | with_reducible refine fin_n ?_
      | with_reducible refine fin_r ?_
      | with_reducible refine VC.rseq hP hk fun K q hK hq => ?_
      | with_reducible refine VC.rend hP hk fun K q hK hq => ?_
      | with_reducible refine VC.seq ?_
      | with_reducible refine VC.skip ?_
      | with_reducible refine VC.exit ?_
      | with_reducible refine VC.block ?_
      | refine vops_gt rfl ?_
      | refine vops_gf rfl ?_
      | refine vsch_gt rfl ?_
      | refine vsch_gf rfl ?_
      | refine vall_gt rfl ?_ ?_
      | refine vall_gf rfl ?_ ?_
      | refine vops_gb rfl (fun hb => ?_) (fun hb => ?_)
      | refine vsch_gb rfl (by simp only [noStop]) (fun hb => ?_) (fun hb => ?_)
      | refine vall_gb rfl (fun hb => ?_) (fun hb => ?_) ?_
      | refine VC.condt rfl ?_
      | refine VC.condf rfl ?_
      | (refine hK.out _ _ _ _ (by simp -implicitDefEqProofs only [go_sem, ↓reduceIte, Int.reduceBEq, Int.reduceBNe, beq_self_eq_true, bne_self_eq_false, Int.reduceLT, Int.reduceLE, Int.reduceAdd, Int.reduceSub, Int.reduceNeg, decide_true, decide_false, gt_iff_lt, ge_iff_le, Int.natCast_one, Int.natCast_zero, Int.cast_ofNat_Int, Nat.reduceLeDiff, Nat.reduceEqDiff, Nat.reduceAdd, Nat.reduceSub, Nat.reduceMul, reduceCtorEq]; rfl) ?_; clear hK hq K q)
      | simp -implicitDefEqProofs only [go_sem, ↓reduceIte, Int.reduceBEq, Int.reduceBNe, beq_self_eq_true, bne_self_eq_false, Int.reduceLT, Int.reduceLE, Int.reduceAdd, Int.reduceSub, Int.reduceNeg, decide_true, decide_false, gt_iff_lt, ge_iff_le, Int.natCast_one, Int.natCast_zero, Int.cast_ofNat_Int, Nat.reduceLeDiff, Nat.reduceEqDiff, Nat.reduceAdd, Nat.reduceSub, Nat.reduceMul, reduceCtorEq]
      | refine rd1_hd rfl ?_
      | refine rd1_tl (rd1_hd rfl ?_)
      | refine rd1_tl (rd1_tl (rd1_hd rfl ?_))
      | refine rd1_tl (rd1_tl (rd1_tl (rd1_hd rfl ?_)))
      | refine rd1_tl (rd1_tl (rd1_tl (rd1_tl (rd1_hd rfl ?_))))
      | refine rd1_tl (rd1_tl (rd1_tl (rd1_tl (rd1_tl (rd1_hd rfl ?_)))))
      | refine rd1_tl (rd1_tl (rd1_tl (rd1_tl (rd1_tl (rd1_tl (rd1_hd rfl ?_))))))
      | refine rd1_tl (rd1_tl (rd1_tl (rd1_tl (rd1_tl (rd1_tl (rd1_tl (rd1_hd rfl ?_)))))))
      | refine rd1_tl (rd1_tl (rd1_tl (rd1_tl (rd1_tl (rd1_tl (rd1_tl (rd1_tl (rd1_hd rfl ?_))))))))
      | refine rdN_hd rfl ?_
      | refine rdN_tl (rdN_hd rfl ?_)
      | refine rdN_tl (rdN_tl (rdN_hd rfl ?_))
      | refine rdN_tl (rdN_tl (rdN_tl (rdN_hd rfl ?_)))
      | refine rdN_tl (rdN_tl (rdN_tl (rdN_tl (rdN_hd rfl ?_))))
      | refine rdN_tl (rdN_tl (rdN_tl (rdN_tl (rdN_tl (rdN_hd rfl ?_)))))
      | refine rdN_tl (rdN_tl (rdN_tl (rdN_tl (rdN_tl (rdN_tl (rdN_hd rfl ?_))))))
      | refine rdN_tl (rdN_tl (rdN_tl (rdN_tl (rdN_tl (rdN_tl (rdN_tl (rdN_hd rfl ?_)))))))
      | refine rdN_tl (rdN_tl (rdN_tl (rdN_tl (rdN_tl (rdN_tl (rdN_tl (rdN_tl (rdN_hd rfl ?_))))))))
      | refine stoK.hd (by simp) ?_
      | refine stoK.tl (stoK.hd (by simp) ?_)
      | refine stoK.tl (stoK.tl (stoK.hd (by simp) ?_))
      | refine stoK.tl (stoK.tl (stoK.tl (stoK.hd (by simp) ?_)))
      | refine stoK.tl (stoK.tl (stoK.tl (stoK.tl (stoK.hd (by simp) ?_))))
      | refine stoK.tl (stoK.tl (stoK.tl (stoK.tl (stoK.tl (stoK.hd (by simp) ?_)))))
      | refine stoK.tl (stoK.tl (stoK.tl (stoK.tl (stoK.tl (stoK.tl (stoK.hd (by simp) ?_))))))
      | refine stoK.tl (stoK.tl (stoK.tl (stoK.tl (stoK.tl (stoK.tl (stoK.tl (stoK.hd (by simp) ?_)))))))
      | refine stoK.tl (stoK.tl (stoK.tl (stoK.tl (stoK.tl (stoK.tl (stoK.tl (stoK.tl (stoK.hd (by simp) ?_))))))))
      | exact ⟨rfl, rfl, rfl⟩
      | (refine And.intro ?_ ?_; (· omega))
      | simp -implicitDefEqProofs only [*, go_sem, ↓reduceIte, Int.reduceBEq, Int.reduceBNe, beq_self_eq_true, bne_self_eq_false, Int.reduceLT, Int.reduceLE, Int.reduceAdd, Int.reduceSub, Int.reduceNeg, decide_true, decide_false, gt_iff_lt, ge_iff_le, Int.natCast_one, Int.natCast_zero, Int.cast_ofNat_Int, Nat.reduceLeDiff, Nat.reduceEqDiff, Nat.reduceAdd, Nat.reduceSub, Nat.reduceMul, reduceCtorEq]
      | refine ⟨fun hg => ?_, fun hg => ?_⟩
      | refine VC.condb rfl (fun hg => ?_) (fun hg => ?_)
      | fail
    refine VC.nilAcc e sz (VC.ret ?_)
    repeat' first
      | with_reducible refine thn_n ?_
      | with_reducible refine thn_r ?_
      | with_reducible refine thn_e ?_
      | with_reducible refine blk_n ?_
      | with_reducible refine blk_r ?_
      | with_reducible refine blk_h ?_
      | with_reducible refine blk_m rfl ?_
      | with_reducible refine fin_n ?_
      | with_reducible refine fin_r ?_
      | with_reducible refine VC.rseq hP hk fun K q hK hq => ?_
      | with_reducible refine VC.rend hP hk fun K q hK hq => ?_
      | with_reducible refine VC.seq ?_
      | with_reducible refine VC.skip ?_
      | with_reducible refine VC.ret ?_
      | with_reducible refine VC.exit ?_
      | with_reducible refine VC.block ?_
      | refine vops_gt rfl ?_
      | refine vops_gf rfl ?_
      | refine vsch_gt rfl ?_
      | refine vsch_gf rfl ?_
      | refine vall_gt rfl ?_ ?_
      | refine vall_gf rfl ?_ ?_
      | refine vops_gb rfl (fun hb => ?_) (fun hb => ?_)
      | refine vsch_gb rfl (by simp only [noStop]) (fun hb => ?_) (fun hb => ?_)
      | refine vall_gb rfl (fun hb => ?_) (fun hb => ?_) ?_
      | refine VC.condt rfl ?_
      | refine VC.condf rfl ?_
      | (refine hK.out _ _ _ _ (by simp -implicitDefEqProofs only [go_sem, ↓reduceIte, Int.reduceBEq, Int.reduceBNe, beq_self_eq_true, bne_self_eq_false, Int.reduceLT, Int.reduceLE, Int.reduceAdd, Int.reduceSub, Int.reduceNeg, decide_true, decide_false, gt_iff_lt, ge_iff_le, Int.natCast_one, Int.natCast_zero, Int.cast_ofNat_Int, Nat.reduceLeDiff, Nat.reduceEqDiff, Nat.reduceAdd, Nat.reduceSub, Nat.reduceMul, reduceCtorEq]; rfl) ?_; clear hK hq K q)
      | simp -implicitDefEqProofs only [go_sem, ↓reduceIte, Int.reduceBEq, Int.reduceBNe, beq_self_eq_true, bne_self_eq_false, Int.reduceLT, Int.reduceLE, Int.reduceAdd, Int.reduceSub, Int.reduceNeg, decide_true, decide_false, gt_iff_lt, ge_iff_le, Int.natCast_one, Int.natCast_zero, Int.cast_ofNat_Int, Nat.reduceLeDiff, Nat.reduceEqDiff, Nat.reduceAdd, Nat.reduceSub, Nat.reduceMul, reduceCtorEq]
      | refine rd1_hd rfl ?_
      | refine rd1_tl (rd1_hd rfl ?_)
      | refine rd1_tl (rd1_tl (rd1_hd rfl ?_))
      | refine rd1_tl (rd1_tl (rd1_tl (rd1_hd rfl ?_)))
      | refine rd1_tl (rd1_tl (rd1_tl (rd1_tl (rd1_hd rfl ?_))))
      | refine rd1_tl (rd1_tl (rd1_tl (rd1_tl (rd1_tl (rd1_hd rfl ?_)))))
      | refine rd1_tl (rd1_tl (rd1_tl (rd1_tl (rd1_tl (rd1_tl (rd1_hd rfl ?_))))))
      | refine rd1_tl (rd1_tl (rd1_tl (rd1_tl (rd1_tl (rd1_tl (rd1_tl (rd1_hd rfl ?_)))))))
      | refine rd1_tl (rd1_tl (rd1_tl (rd1_tl (rd1_tl (rd1_tl (rd1_tl (rd1_tl (rd1_hd rfl ?_))))))))
      | refine rdN_hd rfl ?_
      | refine rdN_tl (rdN_hd rfl ?_)
      | refine rdN_tl (rdN_tl (rdN_hd rfl ?_))
      | refine rdN_tl (rdN_tl (rdN_tl (rdN_hd rfl ?_)))
      | refine rdN_tl (rdN_tl (rdN_tl (rdN_tl (rdN_hd rfl ?_))))
      | refine rdN_tl (rdN_tl (rdN_tl (rdN_tl (rdN_tl (rdN_hd rfl ?_)))))
      | refine rdN_tl (rdN_tl (rdN_tl (rdN_tl (rdN_tl (rdN_tl (rdN_hd rfl ?_))))))
      | refine rdN_tl (rdN_tl (rdN_tl (rdN_tl (rdN_tl (rdN_tl (rdN_tl (rdN_hd rfl ?_)))))))
      | refine rdN_tl (rdN_tl (rdN_tl (rdN_tl (rdN_tl (rdN_tl (rdN_tl (rdN_tl (rdN_hd rfl ?_))))))))
      | refine stoK.hd (by simp) ?_
      | refine stoK.tl (stoK.hd (by simp) ?_)
      | refine stoK.tl (stoK.tl (stoK.hd (by simp) ?_))
      | refine stoK.tl (stoK.tl (stoK.tl (stoK.hd (by simp) ?_)))
      | refine stoK.tl (stoK.tl (stoK.tl (stoK.tl (stoK.hd (by simp) ?_))))
      | refine stoK.tl (stoK.tl (stoK.tl (stoK.tl (stoK.tl (stoK.hd (by simp) ?_)))))
      | refine stoK.tl (stoK.tl (stoK.tl (stoK.tl (stoK.tl (stoK.tl (stoK.hd (by simp) ?_))))))
      | refine stoK.tl (stoK.tl (stoK.tl (stoK.tl (stoK.tl (stoK.tl (stoK.tl (stoK.hd (by simp) ?_)))))))
      | refine stoK.tl (stoK.tl (stoK.tl (stoK.tl (stoK.tl (stoK.tl (stoK.tl (stoK.tl (stoK.hd (by simp) ?_))))))))
      | exact ⟨rfl, rfl, rfl⟩
      | (refine And.intro ?_ ?_; (· omega))
      | simp -implicitDefEqProofs only [*, go_sem, ↓reduceIte, Int.reduceBEq, Int.reduceBNe, beq_self_eq_true, bne_self_eq_false, Int.reduceLT, Int.reduceLE, Int.reduceAdd, Int.reduceSub, Int.reduceNeg, decide_true, decide_false, gt_iff_lt, ge_iff_le, Int.natCast_one, Int.natCast_zero, Int.cast_ofNat_Int, Nat.reduceLeDiff, Nat.reduceEqDiff, Nat.reduceAdd, Nat.reduceSub, Nat.reduceMul, reduceCtorEq]
      | refine ⟨fun hg => ?_, fun hg => ?_⟩
      | refine VC.condb rfl (fun hg => ?_) (fun hg => ?_)
      | fail
    exact Gives.ret (fun k hk => hk none 0 (.inl ⟨rfl, rfl, rfl⟩) hlen) (List.Sublist.refl _)
  | some ad =>
    repeat' first
      | with_reducible refine thn_n ?_
      | with_reducible refine thn_r ?_
      | with_reducible refine thn_e ?_
      | with_reducible refine blk_n ?_
      | with_reducible refine blk_r ?_
      | with_reducible refine blk_h ?_
      | with_reducible refine blk_m rfl ?_
      | with_reducible refine fin_n ?_
      | with_reducible refine fin_r ?_
      | with_reducible refine VC.rseq hP hk fun K q hK hq => ?_
      | with_reducible refine VC.rend hP hk fun K q hK hq => ?_
      | with_reducible refine VC.seq ?_
      | with_reducible refine VC.skip ?_
      | with_reducible refine VC.ret ?_
      | with_reducible refine VC.exit ?_
      | with_reducible refine VC.block ?_
      | refine vops_gt rfl ?_
      | refine vops_gf rfl ?_
      | refine vsch_gt rfl ?_
      | refine vsch_gf rfl ?_
      | refine vall_gt rfl ?_ ?_
      | refine vall_gf rfl ?_ ?_
      | refine vops_gb rfl (fun hb => ?_) (fun hb => ?_)
      | refine vsch_gb rfl (by simp only [noStop]) (fun hb => ?_) (fun hb => ?_)
      | refine vall_gb rfl (fun hb => ?_) (fun hb => ?_) ?_
      | refine VC.condt rfl ?_
      | refine VC.condf rfl ?_
      | (refine hK.out _ _ _ _ (by simp -implicitDefEqProofs only [go_sem, ↓reduceIte, Int.reduceBEq, Int.reduceBNe, beq_self_eq_true, bne_self_eq_false, Int.reduceLT, Int.reduceLE, Int.reduceAdd, Int.reduceSub, Int.reduceNeg, decide_true, decide_false, gt_iff_lt, ge_iff_le, Int.natCast_one, Int.natCast_zero, Int.cast_ofNat_Int, Nat.reduceLeDiff, Nat.reduceEqDiff, Nat.reduceAdd, Nat.reduceSub, Nat.reduceMul, reduceCtorEq]; rfl) ?_; clear hK hq K q)
      | simp -implicitDefEqProofs only [go_sem, ↓reduceIte, Int.reduceBEq, Int.reduceBNe, beq_self_eq_true, bne_self_eq_false, Int.reduceLT, Int.reduceLE, Int.reduceAdd, Int.reduceSub, Int.reduceNeg, decide_true, decide_false, gt_iff_lt, ge_iff_le, Int.natCast_one, Int.natCast_zero, Int.cast_ofNat_Int, Nat.reduceLeDiff, Nat.reduceEqDiff, Nat.reduceAdd, Nat.reduceSub, Nat.reduceMul, reduceCtorEq]
      | refine rd1_hd rfl ?_
      | refine rd1_tl (rd1_hd rfl ?_)
      | refine rd1_tl (rd1_tl (rd1_hd rfl ?_))
      | refine rd1_tl (rd1_tl (rd1_tl (rd1_hd rfl ?_)))
      | refine rd1_tl (rd1_tl (rd1_tl (rd1_tl (rd1_hd rfl ?_))))
      | refine rd1_tl (rd1_tl (rd1_tl (rd1_tl (rd1_tl (rd1_hd rfl ?_)))))
      | refine rd1_tl (rd1_tl (rd1_tl (rd1_tl (rd1_tl (rd1_tl (rd1_hd rfl ?_))))))
      | refine rd1_tl (rd1_tl (rd1_tl (rd1_tl (rd1_tl (rd1_tl (rd1_tl (rd1_hd rfl ?_)))))))
      | refine rd1_tl (rd1_tl (rd1_tl (rd1_tl (rd1_tl (rd1_tl (rd1_tl (rd1_tl (rd1_hd rfl ?_))))))))
      | refine rdN_hd rfl ?_
      | refine rdN_tl (rdN_hd rfl ?_)
      | refine rdN_tl (rdN_tl (rdN_hd rfl ?_))
      | refine rdN_tl (rdN_tl (rdN_tl (rdN_hd rfl ?_)))
      | refine rdN_tl (rdN_tl (rdN_tl (rdN_tl (rdN_hd rfl ?_))))
      | refine rdN_tl (rdN_tl (rdN_tl (rdN_tl (rdN_tl (rdN_hd rfl ?_)))))
      | refine rdN_tl (rdN_tl (rdN_tl (rdN_tl (rdN_tl (rdN_tl (rdN_hd rfl ?_))))))
      | refine rdN_tl (rdN_tl (rdN_tl (rdN_tl (rdN_tl (rdN_tl (rdN_tl (rdN_hd rfl ?_)))))))
      | refine rdN_tl (rdN_tl (rdN_tl (rdN_tl (rdN_tl (rdN_tl (rdN_tl (rdN_tl (rdN_hd rfl ?_))))))))
      | refine stoK.hd (by simp) ?_
      | refine stoK.tl (stoK.hd (by simp) ?_)
      | refine stoK.tl (stoK.tl (stoK.hd (by simp) ?_))
      | refine stoK.tl (stoK.tl (stoK.tl (stoK.hd (by simp) ?_)))
      | refine stoK.tl (stoK.tl (stoK.tl (stoK.tl (stoK.hd (by simp) ?_))))
      | refine stoK.tl (stoK.tl (stoK.tl (stoK.tl (stoK.tl (stoK.hd (by simp) ?_)))))
      | refine stoK.tl (stoK.tl (stoK.tl (stoK.tl (stoK.tl (stoK.tl (stoK.hd (by simp) ?_))))))
      | refine stoK.tl (stoK.tl (stoK.tl (stoK.tl (stoK.tl (stoK.tl (stoK.tl (stoK.hd (by simp) ?_)))))))
      | refine stoK.tl (stoK.tl (stoK.tl (stoK.tl (stoK.tl (stoK.tl (stoK.tl (stoK.tl (stoK.hd (by simp) ?_))))))))
      | exact ⟨rfl, rfl, rfl⟩
      | (refine And.intro ?_ ?_; (· omega))
      | simp -implicitDefEqProofs only [*, go_sem, ↓reduceIte, Int.reduceBEq, Int.reduceBNe, beq_self_eq_true, bne_self_eq_false, Int.reduceLT, Int.reduceLE, Int.reduceAdd, Int.reduceSub, Int.reduceNeg, decide_true, decide_false, gt_iff_lt, ge_iff_le, Int.natCast_one, Int.natCast_zero, Int.cast_ofNat_Int, Nat.reduceLeDiff, Nat.reduceEqDiff, Nat.reduceAdd, Nat.reduceSub, Nat.reduceMul, reduceCtorEq]
      | refine ⟨fun hg => ?_, fun hg => ?_⟩
      | refine VC.condb rfl (fun hg => ?_) (fun hg => ?_)
      | fail
    refine .inr ⟨sz, by simp, fun b => ?_⟩
    refine ⟨cs, hlen, ho, .inl ⟨by simp, fun ad' h => Rds.st (hr ad' h), .inl ⟨[], 0, [], [], rfl, by rw [Nat.zero_add]; omega, by omega, fun A c' _ => ?_⟩⟩⟩
    simp -implicitDefEqProofs only [go_sem, ↓reduceIte, Int.reduceBEq, Int.reduceBNe, beq_self_eq_true, bne_self_eq_false, Int.reduceLT, Int.reduceLE, Int.reduceAdd, Int.reduceSub, Int.reduceNeg, decide_true, decide_false, gt_iff_lt, ge_iff_le, Int.natCast_one, Int.natCast_zero, Int.cast_ofNat_Int, Nat.reduceLeDiff, Nat.reduceEqDiff, Nat.reduceAdd, Nat.reduceSub, Nat.reduceMul, reduceCtorEq]
    refine hK.out _ _ _ _ (by simp -implicitDefEqProofs only [go_sem, ↓reduceIte, Int.reduceBEq, Int.reduceBNe, beq_self_eq_true, bne_self_eq_false, Int.reduceLT, Int.reduceLE, Int.reduceAdd, Int.reduceSub, Int.reduceNeg, decide_true, decide_false, gt_iff_lt, ge_iff_le, Int.natCast_one, Int.natCast_zero, Int.cast_ofNat_Int, Nat.reduceLeDiff, Nat.reduceEqDiff, Nat.reduceAdd, Nat.reduceSub, Nat.reduceMul, reduceCtorEq]; rfl) ?_
    clear hK hq K q
    refine VC.accShape (List.mem_cons_self ..) fun hF _ _ _ => VC.ret ?_
    repeat' first
      | with_reducible refine thn_n ?_
      | with_reducible refine thn_r ?_
      | with_reducible refine thn_e ?_
      | with_reducible refine blk_n ?_
      | with_reducible refine blk_r ?_
      | with_reducible refine blk_h ?_
      | with_reducible refine blk_m rfl ?_
      | with_reducible refine fin_n ?_
      | with_reducible refine fin_r ?_
      | with_reducible refine VC.rseq hP hk fun K q hK hq => ?_
      | with_reducible refine VC.rend hP hk fun K q hK hq => ?_
      | with_reducible refine VC.seq ?_
      | with_reducible refine VC.skip ?_
      | with_reducible refine VC.ret ?_
      | with_reducible refine VC.exit ?_
      | with_reducible refine VC.block ?_
      | refine vops_gt rfl ?_
      | refine vops_gf rfl ?_
      | refine vsch_gt rfl ?_
      | refine vsch_gf rfl ?_
      | refine vall_gt rfl ?_ ?_
      | refine vall_gf rfl ?_ ?_
      | refine vops_gb rfl (fun hb => ?_) (fun hb => ?_)
      | refine vsch_gb rfl (by simp only [noStop]) (fun hb => ?_) (fun hb => ?_)
      | refine vall_gb rfl (fun hb => ?_) (fun hb => ?_) ?_
      | refine VC.condt rfl ?_
      | refine VC.condf rfl ?_
      | (refine hK.out _ _ _ _ (by simp -implicitDefEqProofs only [go_sem, ↓reduceIte, Int.reduceBEq, Int.reduceBNe, beq_self_eq_true, bne_self_eq_false, Int.reduceLT, Int.reduceLE, Int.reduceAdd, Int.reduceSub, Int.reduceNeg, decide_true, decide_false, gt_iff_lt, ge_iff_le, Int.natCast_one, Int.natCast_zero, Int.cast_ofNat_Int, Nat.reduceLeDiff, Nat.reduceEqDiff, Nat.reduceAdd, Nat.reduceSub, Nat.reduceMul, reduceCtorEq]; rfl) ?_; clear hK hq K q)
      | simp -implicitDefEqProofs only [go_sem, ↓reduceIte, Int.reduceBEq, Int.reduceBNe, beq_self_eq_true, bne_self_eq_false, Int.reduceLT, Int.reduceLE, Int.reduceAdd, Int.reduceSub, Int.reduceNeg, decide_true, decide_false, gt_iff_lt, ge_iff_le, Int.natCast_one, Int.natCast_zero, Int.cast_ofNat_Int, Nat.reduceLeDiff, Nat.reduceEqDiff, Nat.reduceAdd, Nat.reduceSub, Nat.reduceMul, reduceCtorEq]
      | refine rd1_hd rfl ?_
      | refine rd1_tl (rd1_hd rfl ?_)
      | refine rd1_tl (rd1_tl (rd1_hd rfl ?_))
      | refine rd1_tl (rd1_tl (rd1_tl (rd1_hd rfl ?_)))
      | refine rd1_tl (rd1_tl (rd1_tl (rd1_tl (rd1_hd rfl ?_))))
      | refine rd1_tl (rd1_tl (rd1_tl (rd1_tl (rd1_tl (rd1_hd rfl ?_)))))
      | refine rd1_tl (rd1_tl (rd1_tl (rd1_tl (rd1_tl (rd1_tl (rd1_hd rfl ?_))))))
      | refine rd1_tl (rd1_tl (rd1_tl (rd1_tl (rd1_tl (rd1_tl (rd1_tl (rd1_hd rfl ?_)))))))
      | refine rd1_tl (rd1_tl (rd1_tl (rd1_tl (rd1_tl (rd1_tl (rd1_tl (rd1_tl (rd1_hd rfl ?_))))))))
      | refine rdN_hd rfl ?_
      | refine rdN_tl (rdN_hd rfl ?_)
      | refine rdN_tl (rdN_tl (rdN_hd rfl ?_))
      | refine rdN_tl (rdN_tl (rdN_tl (rdN_hd rfl ?_)))
      | refine rdN_tl (rdN_tl (rdN_tl (rdN_tl (rdN_hd rfl ?_))))
      | refine rdN_tl (rdN_tl (rdN_tl (rdN_tl (rdN_tl (rdN_hd rfl ?_)))))
      | refine rdN_tl (rdN_tl (rdN_tl (rdN_tl (rdN_tl (rdN_tl (rdN_hd rfl ?_))))))
      | refine rdN_tl (rdN_tl (rdN_tl (rdN_tl (rdN_tl (rdN_tl (rdN_tl (rdN_hd rfl ?_)))))))
      | refine rdN_tl (rdN_tl (rdN_tl (rdN_tl (rdN_tl (rdN_tl (rdN_tl (rdN_tl (rdN_hd rfl ?_))))))))
      | refine stoK.hd (by simp) ?_
      | refine stoK.tl (stoK.hd (by simp) ?_)
      | refine stoK.tl (stoK.tl (stoK.hd (by simp) ?_))
      | refine stoK.tl (stoK.tl (stoK.tl (stoK.hd (by simp) ?_)))
      | refine stoK.tl (stoK.tl (stoK.tl (stoK.tl (stoK.hd (by simp) ?_))))
      | refine stoK.tl (stoK.tl (stoK.tl (stoK.tl (stoK.tl (stoK.hd (by simp) ?_)))))
      | refine stoK.tl (stoK.tl (stoK.tl (stoK.tl (stoK.tl (stoK.tl (stoK.hd (by simp) ?_))))))
      | refine stoK.tl (stoK.tl (stoK.tl (stoK.tl (stoK.tl (stoK.tl (stoK.tl (stoK.hd (by simp) ?_)))))))
      | refine stoK.tl (stoK.tl (stoK.tl (stoK.tl (stoK.tl (stoK.tl (stoK.tl (stoK.tl (stoK.hd (by simp) ?_))))))))
      | exact ⟨rfl, rfl, rfl⟩
      | (refine And.intro ?_ ?_; (· omega))
      | simp -implicitDefEqProofs only [*, go_sem, ↓reduceIte, Int.reduceBEq, Int.reduceBNe, beq_self_eq_true, bne_self_eq_false, Int.reduceLT, Int.reduceLE, Int.reduceAdd, Int.reduceSub, Int.reduceNeg, decide_true, decide_false, gt_iff_lt, ge_iff_le, Int.natCast_one, Int.natCast_zero, Int.cast_ofNat_Int, Nat.reduceLeDiff, Nat.reduceEqDiff, Nat.reduceAdd, Nat.reduceSub, Nat.reduceMul, reduceCtorEq]
      | refine ⟨fun hg => ?_, fun hg => ?_⟩
      | refine VC.condb rfl (fun hg => ?_) (fun hg => ?_)
      | fail
    exact Gives.ret (fun k hk => hk _ _ hF hlen) (List.Sublist.refl _)
theorem callK.clone {P : Program} (mixed : P.follows .mixedOrders = true) {f e sz by_ : Nat} (hc : comp P f = some (cClone e sz by_)) {G : Stab} {L : List Ent} {A : Option Addr} {n c : Nat} {cs : List Value} {k : Value → Stab → List Ent → Prop} {q : List PanicEntry → Stab → List Ent → Prop}
    (h : Row G sz by_ A n cs) (hk : ∀ A c, Fresh A n c → cs.length = n * sz → k (.slice A n c) G (L ++ [.acc (.slice A n c) n cs e sz])) : callK P f [.slice A n c] G L k q := callK.cps0 (Sy.clone mixed hc h) hk
end Go.Sy
