import Derived.Test.YtpddchnapcmmkaaA4
namespace Go.Proofs.Ytpddchnapcmmkaa
open Go Go.Sy
set_option linter.unusedSimpArgs false
set_option linter.unusedVariables false
-- 5 trunnion/trunnionlaw28.awake
def cd5 : VFun := ⟨62, [.tmp 0], (.seq (.reg [⟨(some 0), none, (.rd (.mov (.val (.bool false))))⟩])
  (.seq (.reg [⟨(some 10), none, (.ef (.call 7 []))⟩, ⟨(some 1), none, (.rd (.mov (.tmp 10)))⟩])
  (.seq (.reg [⟨(some 12), none, (.rd (.mov (.tmp 1)))⟩, ⟨(some 13), none, (.rd (.bld [(.int .u32 0), (.int .u32 0), (.bool false)] [(0, 1, (.val (.int .u32 1)))]))⟩, ⟨(some 14), none, (.ef (.call 22 [(.tmp 12), (.tmp 13)]))⟩, ⟨(some 11), none, (.rd (.mov (.tmp 14)))⟩, ⟨(some 15), none, (.rd (.ext 0 (.tmp 11)))⟩, ⟨(some 16), none, (.rd (.ext 1 (.tmp 11)))⟩, ⟨(some 2), none, (.rd (.mov (.tmp 15)))⟩, ⟨(some 3), none, (.rd (.mov (.tmp 16)))⟩])
  (.seq (.reg [⟨(some 18), none, (.rd (.mov (.tmp 1)))⟩, ⟨(some 19), none, (.rd (.bld [(.int .u32 0), (.int .u32 0), (.bool false)] [(0, 1, (.val (.int .u32 2)))]))⟩, ⟨(some 20), none, (.ef (.call 22 [(.tmp 18), (.tmp 19)]))⟩, ⟨(some 17), none, (.rd (.mov (.tmp 20)))⟩, ⟨(some 21), none, (.rd (.ext 0 (.tmp 17)))⟩, ⟨(some 22), none, (.rd (.ext 1 (.tmp 17)))⟩, ⟨(some 4), none, (.rd (.mov (.tmp 21)))⟩, ⟨(some 5), none, (.rd (.mov (.tmp 22)))⟩])
  (.seq (.reg [⟨(some 24), none, (.rd (.mov (.tmp 1)))⟩, ⟨(some 25), none, (.rd (.bld [(.int .i64 0), (.int .i64 0)] [(0, 1, (.val (.int .i64 1))), (1, 1, (.val (.int .i64 2)))]))⟩, ⟨(some 26), none, (.ef (.call 23 [(.tmp 24), (.tmp 25)]))⟩, ⟨(some 23), none, (.rd (.mov (.tmp 26)))⟩, ⟨(some 27), none, (.rd (.ext 0 (.tmp 23)))⟩, ⟨(some 28), none, (.rd (.ext 1 (.tmp 23)))⟩, ⟨(some 6), none, (.ef (.alloc 79 [(.int .i64 0), (.slice none 0 0), (.slice none 0 0), (.int .u32 0), (.int .u32 0), (.bool false), (.int .u8 0), (.bool false)]))⟩, ⟨none, none, (.ef (.store 8 (.tmp 6) (.tmp 27)))⟩, ⟨(some 7), none, (.rd (.mov (.tmp 28)))⟩])
  (.seq (.reg [⟨(some 30), none, (.rd (.mov (.tmp 1)))⟩, ⟨(some 31), none, (.rd (.bld [(.int .i64 0), (.int .i64 0)] [(0, 1, (.val (.int .i64 1))), (1, 1, (.val (.int .i64 1)))]))⟩, ⟨(some 32), none, (.ef (.call 23 [(.tmp 30), (.tmp 31)]))⟩, ⟨(some 29), none, (.rd (.mov (.tmp 32)))⟩, ⟨(some 33), none, (.rd (.ext 0 (.tmp 29)))⟩, ⟨(some 34), none, (.rd (.ext 1 (.tmp 29)))⟩, ⟨(some 8), none, (.ef (.alloc 79 [(.int .i64 0), (.slice none 0 0), (.slice none 0 0), (.int .u32 0), (.int .u32 0), (.bool false), (.int .u8 0), (.bool false)]))⟩, ⟨none, none, (.ef (.store 8 (.tmp 8) (.tmp 33)))⟩, ⟨(some 9), none, (.rd (.mov (.tmp 34)))⟩])
  (.seq (.reg [⟨(some 35), none, (.rd (.mov (.tmp 2)))⟩, ⟨(some 36), none, (.rd (.biI .eql (.tmp 35) (.val (.int .i64 0))))⟩, ⟨(some 37), none, (.rd (.mov (.tmp 36)))⟩, ⟨(some 38), (some (37, true)), (.rd (.mov (.tmp 3)))⟩, ⟨(some 39), (some (37, true)), (.rd (.biI .eql (.tmp 38) (.val (.int .i64 0))))⟩, ⟨(some 40), none, (.rd (.pick (.tmp 37) (.tmp 39) (.val (.bool false))))⟩, ⟨(some 41), none, (.rd (.mov (.tmp 40)))⟩, ⟨(some 42), (some (41, true)), (.rd (.mov (.tmp 4)))⟩, ⟨(some 43), (some (41, true)), (.rd (.biI .eql (.tmp 42) (.val (.int .i64 1))))⟩, ⟨(some 44), none, (.rd (.pick (.tmp 41) (.tmp 43) (.val (.bool false))))⟩, ⟨(some 45), none, (.rd (.mov (.tmp 44)))⟩, ⟨(some 46), (some (45, true)), (.rd (.mov (.tmp 5)))⟩, ⟨(some 47), (some (45, true)), (.rd (.biI .eql (.tmp 46) (.val (.int .i64 0))))⟩, ⟨(some 48), none, (.rd (.pick (.tmp 45) (.tmp 47) (.val (.bool false))))⟩, ⟨(some 49), none, (.rd (.mov (.tmp 48)))⟩, ⟨(some 50), (some (49, true)), (.rd (.mov (.tmp 7)))⟩, ⟨(some 51), (some (49, true)), (.rd (.not (.tmp 50)))⟩, ⟨(some 52), none, (.rd (.pick (.tmp 49) (.tmp 51) (.val (.bool false))))⟩, ⟨(some 53), none, (.rd (.mov (.tmp 52)))⟩, ⟨(some 54), (some (53, true)), (.rd (.mov (.tmp 9)))⟩, ⟨(some 55), none, (.rd (.pick (.tmp 53) (.tmp 54) (.val (.bool false))))⟩, ⟨(some 56), none, (.rd (.mov (.tmp 55)))⟩, ⟨(some 57), (some (56, true)), (.rd (.fa 3 (.tmp 8)))⟩, ⟨(some 58), (some (56, true)), (.rd (.fa 0 (.tmp 57)))⟩, ⟨(some 59), (some (56, true)), (.rd (.load1 (.tmp 58)))⟩, ⟨(some 60), (some (56, true)), (.rd (.biI .eql (.tmp 59) (.val (.int .u32 2))))⟩, ⟨(some 61), none, (.rd (.pick (.tmp 56) (.tmp 60) (.val (.bool false))))⟩, ⟨(some 0), none, (.rd (.mov (.tmp 61)))⟩])
  .ret)))))))⟩
@[go_sem] def ks5 : List Nat := [0, 1, 2, 3, 4, 5, 7, 8, 9]
theorem ce5 : comp Try.prog 5 = some cd5 := by kernel_rfl

theorem s5 {G : Stab} : Con Try.prog 5 ⟨[]⟩ G [] (Gives fun k => ∀ G', G.Le G' → k (.bool true) G' []) := by
  refine Con.of_vc ce5 ks5 mixed (by simp [cd5]) fun Γ hP hk => ?_
  simp only [cd5]
  show VC Γ (.seq _ (.seq _ _)) _ _ _ _
  refine VC.rseq hP hk fun K q hK hq => ?_
  try simp -implicitDefEqProofs only [go_sem, ↓reduceIte, Int.reduceToNat, Int.reduceBEq, Int.reduceBNe, beq_self_eq_true, bne_self_eq_false, Int.reduceLT, Int.reduceLE, Int.reduceAdd, Int.reduceSub, Int.reduceNeg, decide_true, decide_false, gt_iff_lt, ge_iff_le, Int.natCast_one, Int.natCast_zero, Int.cast_ofNat_Int, Nat.reduceLeDiff, Nat.reduceEqDiff, Nat.reduceAdd, Nat.reduceSub, Nat.reduceMul, reduceCtorEq]
  repeat' first
    | with_reducible refine thn_n ?_
    | with_reducible refine thn_r ?_
    | with_reducible refine thn_e ?_
    | with_reducible refine blk_n ?_
    | with_reducible refine blk_r ?_
    | with_reducible refine blk_h ?_
    | with_reducible refine blk_m rfl ?_
    | with_reducible refine fin_n ?_
    | with_reducible refine fin_r ?_
    | with_reducible refine VC.skip ?_
    | with_reducible refine VC.ret ?_
    | with_reducible refine VC.exit ?_
    | with_reducible refine VC.block ?_
    | refine vops_gt rfl ?_
    | refine vops_gf rfl ?_
    | refine vsch_gt rfl ?_
    | refine vsch_gf rfl ?_
    | refine vall_gt rfl ?_ ?_
    | refine vall_gf rfl ?_ ?_
    | (refine vops_gb rfl (fun hb => ?_) (fun hb => ?_) <;> (try simp only [Bool.not_true, Bool.not_false] at hb) <;> (try simp -implicitDefEqProofs only [hb, if_true, if_false, ↓reduceIte, Bool.false_eq_true]))
    | (refine vsch_gb rfl (by simp only [noStop]) (fun hb => ?_) (fun hb => ?_) <;> (try simp only [Bool.not_true, Bool.not_false] at hb) <;> (try simp -implicitDefEqProofs only [hb, if_true, if_false, ↓reduceIte, Bool.false_eq_true]))
    | refine vall_gb rfl (fun hb => ?_) (fun hb => ?_) ?_
    | refine VC.condt rfl ?_
    | refine VC.condf rfl ?_
    | (refine hK.out _ _ _ _ (by simp -implicitDefEqProofs only [go_sem, ↓reduceIte, Int.reduceToNat, Int.reduceBEq, Int.reduceBNe, beq_self_eq_true, bne_self_eq_false, Int.reduceLT, Int.reduceLE, Int.reduceAdd, Int.reduceSub, Int.reduceNeg, decide_true, decide_false, gt_iff_lt, ge_iff_le, Int.natCast_one, Int.natCast_zero, Int.cast_ofNat_Int, Nat.reduceLeDiff, Nat.reduceEqDiff, Nat.reduceAdd, Nat.reduceSub, Nat.reduceMul, reduceCtorEq]; rfl) ?_; clear hK hq K q)
    | simp -implicitDefEqProofs only [go_sem, ↓reduceIte, Int.reduceToNat, Int.reduceBEq, Int.reduceBNe, beq_self_eq_true, bne_self_eq_false, Int.reduceLT, Int.reduceLE, Int.reduceAdd, Int.reduceSub, Int.reduceNeg, decide_true, decide_false, gt_iff_lt, ge_iff_le, Int.natCast_one, Int.natCast_zero, Int.cast_ofNat_Int, Nat.reduceLeDiff, Nat.reduceEqDiff, Nat.reduceAdd, Nat.reduceSub, Nat.reduceMul, reduceCtorEq]
    | refine rd1_hd rfl ?_
    | refine rd1_tl (rd1_hd rfl ?_)
    | refine rd1_tl (rd1_tl (rd1_hd rfl ?_))
    | refine rd1_tl (rd1_tl (rd1_tl (rd1_hd rfl ?_)))
    | refine rd1_tl (rd1_tl (rd1_tl (rd1_tl (rd1_hd rfl ?_))))
    | refine rd1_tl (rd1_tl (rd1_tl (rd1_tl (rd1_tl (rd1_hd rfl ?_)))))
    | refine rd1_tl (rd1_tl (rd1_tl (rd1_tl (rd1_tl (rd1_tl (rd1_hd rfl ?_))))))
    | refine rd1_tl (rd1_tl (rd1_tl (rd1_tl (rd1_tl (rd1_tl (rd1_tl (rd1_hd rfl ?_)))))))
    | refine rd1_tl (rd1_tl (rd1_tl (rd1_tl (rd1_tl (rd1_tl (rd1_tl (rd1_tl (rd1_hd rfl ?_))))))))
    | refine rdN_hd rfl ?_
    | refine rdN_tl (rdN_hd rfl ?_)
    | refine rdN_tl (rdN_tl (rdN_hd rfl ?_))
    | refine rdN_tl (rdN_tl (rdN_tl (rdN_hd rfl ?_)))
    | refine rdN_tl (rdN_tl (rdN_tl (rdN_tl (rdN_hd rfl ?_))))
    | refine rdN_tl (rdN_tl (rdN_tl (rdN_tl (rdN_tl (rdN_hd rfl ?_)))))
    | refine rdN_tl (rdN_tl (rdN_tl (rdN_tl (rdN_tl (rdN_tl (rdN_hd rfl ?_))))))
    | refine rdN_tl (rdN_tl (rdN_tl (rdN_tl (rdN_tl (rdN_tl (rdN_tl (rdN_hd rfl ?_)))))))
    | refine rdN_tl (rdN_tl (rdN_tl (rdN_tl (rdN_tl (rdN_tl (rdN_tl (rdN_tl (rdN_hd rfl ?_))))))))
    | refine stoK.hd (by simp) ?_
    | refine stoK.tl (stoK.hd (by simp) ?_)
    | refine stoK.tl (stoK.tl (stoK.hd (by simp) ?_))
    | refine stoK.tl (stoK.tl (stoK.tl (stoK.hd (by simp) ?_)))
    | refine stoK.tl (stoK.tl (stoK.tl (stoK.tl (stoK.hd (by simp) ?_))))
    | refine stoK.tl (stoK.tl (stoK.tl (stoK.tl (stoK.tl (stoK.hd (by simp) ?_)))))
    | refine stoK.tl (stoK.tl (stoK.tl (stoK.tl (stoK.tl (stoK.tl (stoK.hd (by simp) ?_))))))
    | refine stoK.tl (stoK.tl (stoK.tl (stoK.tl (stoK.tl (stoK.tl (stoK.tl (stoK.hd (by simp) ?_)))))))
    | refine stoK.tl (stoK.tl (stoK.tl (stoK.tl (stoK.tl (stoK.tl (stoK.tl (stoK.tl (stoK.hd (by simp) ?_))))))))
    | exact ⟨rfl, rfl, rfl⟩
    | (refine And.intro ?_ ?_; (· omega))
    | refine ⟨fun hg => ?_, fun hg => ?_⟩
    | (refine VC.condb rfl (fun hg => ?_) (fun hg => ?_) <;> (try simp -implicitDefEqProofs only [hg, if_true, if_false, ↓reduceIte, Bool.false_eq_true]))
    | fail
  refine VC.nilAcc 113 1 ?_
  refine VC.rseq hP hk fun K q hK hq => ?_
  try simp -implicitDefEqProofs only [go_sem, ↓reduceIte, Int.reduceToNat, Int.reduceBEq, Int.reduceBNe, beq_self_eq_true, bne_self_eq_false, Int.reduceLT, Int.reduceLE, Int.reduceAdd, Int.reduceSub, Int.reduceNeg, decide_true, decide_false, gt_iff_lt, ge_iff_le, Int.natCast_one, Int.natCast_zero, Int.cast_ofNat_Int, Nat.reduceLeDiff, Nat.reduceEqDiff, Nat.reduceAdd, Nat.reduceSub, Nat.reduceMul, reduceCtorEq]
  repeat' first
    | with_reducible refine thn_n ?_
    | with_reducible refine thn_r ?_
    | with_reducible refine thn_e ?_
    | with_reducible refine blk_n ?_
    | with_reducible refine blk_r ?_
    | with_reducible refine blk_h ?_
    | with_reducible refine blk_m rfl ?_
    | with_reducible refine fin_n ?_
    | with_reducible refine fin_r ?_
    | with_reducible refine VC.skip ?_
    | with_reducible refine VC.ret ?_
    | with_reducible refine VC.exit ?_
    | with_reducible refine VC.block ?_
    | refine vops_gt rfl ?_
    | refine vops_gf rfl ?_
    | refine vsch_gt rfl ?_
    | refine vsch_gf rfl ?_
    | refine vall_gt rfl ?_ ?_
    | refine vall_gf rfl ?_ ?_
    | (refine vops_gb rfl (fun hb => ?_) (fun hb => ?_) <;> (try simp only [Bool.not_true, Bool.not_false] at hb) <;> (try simp -implicitDefEqProofs only [hb, if_true, if_false, ↓reduceIte, Bool.false_eq_true]))
    | (refine vsch_gb rfl (by simp only [noStop]) (fun hb => ?_) (fun hb => ?_) <;> (try simp only [Bool.not_true, Bool.not_false] at hb) <;> (try simp -implicitDefEqProofs only [hb, if_true, if_false, ↓reduceIte, Bool.false_eq_true]))
    | refine vall_gb rfl (fun hb => ?_) (fun hb => ?_) ?_
    | refine VC.condt rfl ?_
    | refine VC.condf rfl ?_
    | (refine hK.out _ _ _ _ (by simp -implicitDefEqProofs only [go_sem, ↓reduceIte, Int.reduceToNat, Int.reduceBEq, Int.reduceBNe, beq_self_eq_true, bne_self_eq_false, Int.reduceLT, Int.reduceLE, Int.reduceAdd, Int.reduceSub, Int.reduceNeg, decide_true, decide_false, gt_iff_lt, ge_iff_le, Int.natCast_one, Int.natCast_zero, Int.cast_ofNat_Int, Nat.reduceLeDiff, Nat.reduceEqDiff, Nat.reduceAdd, Nat.reduceSub, Nat.reduceMul, reduceCtorEq]; rfl) ?_; clear hK hq K q)
    | simp -implicitDefEqProofs only [go_sem, ↓reduceIte, Int.reduceToNat, Int.reduceBEq, Int.reduceBNe, beq_self_eq_true, bne_self_eq_false, Int.reduceLT, Int.reduceLE, Int.reduceAdd, Int.reduceSub, Int.reduceNeg, decide_true, decide_false, gt_iff_lt, ge_iff_le, Int.natCast_one, Int.natCast_zero, Int.cast_ofNat_Int, Nat.reduceLeDiff, Nat.reduceEqDiff, Nat.reduceAdd, Nat.reduceSub, Nat.reduceMul, reduceCtorEq]
    | refine callK.cps0 s7 fun s => ?_
    | refine rd1_hd rfl ?_
    | refine rd1_tl (rd1_hd rfl ?_)
    | refine rd1_tl (rd1_tl (rd1_hd rfl ?_))
    | refine rd1_tl (rd1_tl (rd1_tl (rd1_hd rfl ?_)))
    | refine rd1_tl (rd1_tl (rd1_tl (rd1_tl (rd1_hd rfl ?_))))
    | refine rd1_tl (rd1_tl (rd1_tl (rd1_tl (rd1_tl (rd1_hd rfl ?_)))))
    | refine rd1_tl (rd1_tl (rd1_tl (rd1_tl (rd1_tl (rd1_tl (rd1_hd rfl ?_))))))
    | refine rd1_tl (rd1_tl (rd1_tl (rd1_tl (rd1_tl (rd1_tl (rd1_tl (rd1_hd rfl ?_)))))))
    | refine rd1_tl (rd1_tl (rd1_tl (rd1_tl (rd1_tl (rd1_tl (rd1_tl (rd1_tl (rd1_hd rfl ?_))))))))
    | refine rdN_hd rfl ?_
    | refine rdN_tl (rdN_hd rfl ?_)
    | refine rdN_tl (rdN_tl (rdN_hd rfl ?_))
    | refine rdN_tl (rdN_tl (rdN_tl (rdN_hd rfl ?_)))
    | refine rdN_tl (rdN_tl (rdN_tl (rdN_tl (rdN_hd rfl ?_))))
    | refine rdN_tl (rdN_tl (rdN_tl (rdN_tl (rdN_tl (rdN_hd rfl ?_)))))
    | refine rdN_tl (rdN_tl (rdN_tl (rdN_tl (rdN_tl (rdN_tl (rdN_hd rfl ?_))))))
    | refine rdN_tl (rdN_tl (rdN_tl (rdN_tl (rdN_tl (rdN_tl (rdN_tl (rdN_hd rfl ?_)))))))
    | refine rdN_tl (rdN_tl (rdN_tl (rdN_tl (rdN_tl (rdN_tl (rdN_tl (rdN_tl (rdN_hd rfl ?_))))))))
    | refine stoK.hd (by simp) ?_
    | refine stoK.tl (stoK.hd (by simp) ?_)
    | refine stoK.tl (stoK.tl (stoK.hd (by simp) ?_))
    | refine stoK.tl (stoK.tl (stoK.tl (stoK.hd (by simp) ?_)))
    | refine stoK.tl (stoK.tl (stoK.tl (stoK.tl (stoK.hd (by simp) ?_))))
    | refine stoK.tl (stoK.tl (stoK.tl (stoK.tl (stoK.tl (stoK.hd (by simp) ?_)))))
    | refine stoK.tl (stoK.tl (stoK.tl (stoK.tl (stoK.tl (stoK.tl (stoK.hd (by simp) ?_))))))
    | refine stoK.tl (stoK.tl (stoK.tl (stoK.tl (stoK.tl (stoK.tl (stoK.tl (stoK.hd (by simp) ?_)))))))
    | refine stoK.tl (stoK.tl (stoK.tl (stoK.tl (stoK.tl (stoK.tl (stoK.tl (stoK.tl (stoK.hd (by simp) ?_))))))))
    | exact ⟨rfl, rfl, rfl⟩
    | (refine And.intro ?_ ?_; (· omega))
    | refine ⟨fun hg => ?_, fun hg => ?_⟩
    | (refine VC.condb rfl (fun hg => ?_) (fun hg => ?_) <;> (try simp -implicitDefEqProofs only [hg, if_true, if_false, ↓reduceIte, Bool.false_eq_true]))
    | fail
  refine VC.rseq hP hk fun K q hK hq => ?_
  try simp -implicitDefEqProofs only [go_sem, ↓reduceIte, Int.reduceToNat, Int.reduceBEq, Int.reduceBNe, beq_self_eq_true, bne_self_eq_false, Int.reduceLT, Int.reduceLE, Int.reduceAdd, Int.reduceSub, Int.reduceNeg, decide_true, decide_false, gt_iff_lt, ge_iff_le, Int.natCast_one, Int.natCast_zero, Int.cast_ofNat_Int, Nat.reduceLeDiff, Nat.reduceEqDiff, Nat.reduceAdd, Nat.reduceSub, Nat.reduceMul, reduceCtorEq]
  repeat' first
    | with_reducible refine thn_n ?_
    | with_reducible refine thn_r ?_
    | with_reducible refine thn_e ?_
    | with_reducible refine blk_n ?_
    | with_reducible refine blk_r ?_
    | with_reducible refine blk_h ?_
    | with_reducible refine blk_m rfl ?_
    | with_reducible refine fin_n ?_
    | with_reducible refine fin_r ?_
    | with_reducible refine VC.skip ?_
    | with_reducible refine VC.ret ?_
    | with_reducible refine VC.exit ?_
    | with_reducible refine VC.block ?_
    | refine vops_gt rfl ?_
    | refine vops_gf rfl ?_
    | refine vsch_gt rfl ?_
    | refine vsch_gf rfl ?_
    | refine vall_gt rfl ?_ ?_
    | refine vall_gf rfl ?_ ?_
    | (refine vops_gb rfl (fun hb => ?_) (fun hb => ?_) <;> (try simp only [Bool.not_true, Bool.not_false] at hb) <;> (try simp -implicitDefEqProofs only [hb, if_true, if_false, ↓reduceIte, Bool.false_eq_true]))
    | (refine vsch_gb rfl (by simp only [noStop]) (fun hb => ?_) (fun hb => ?_) <;> (try simp only [Bool.not_true, Bool.not_false] at hb) <;> (try simp -implicitDefEqProofs only [hb, if_true, if_false, ↓reduceIte, Bool.false_eq_true]))
    | refine vall_gb rfl (fun hb => ?_) (fun hb => ?_) ?_
    | refine VC.condt rfl ?_
    | refine VC.condf rfl ?_
    | (refine hK.out _ _ _ _ (by simp -implicitDefEqProofs only [go_sem, ↓reduceIte, Int.reduceToNat, Int.reduceBEq, Int.reduceBNe, beq_self_eq_true, bne_self_eq_false, Int.reduceLT, Int.reduceLE, Int.reduceAdd, Int.reduceSub, Int.reduceNeg, decide_true, decide_false, gt_iff_lt, ge_iff_le, Int.natCast_one, Int.natCast_zero, Int.cast_ofNat_Int, Nat.reduceLeDiff, Nat.reduceEqDiff, Nat.reduceAdd, Nat.reduceSub, Nat.reduceMul, reduceCtorEq]; rfl) ?_; clear hK hq K q)
    | simp -implicitDefEqProofs only [go_sem, ↓reduceIte, Int.reduceToNat, Int.reduceBEq, Int.reduceBNe, beq_self_eq_true, bne_self_eq_false, Int.reduceLT, Int.reduceLE, Int.reduceAdd, Int.reduceSub, Int.reduceNeg, decide_true, decide_false, gt_iff_lt, ge_iff_le, Int.natCast_one, Int.natCast_zero, Int.cast_ofNat_Int, Nat.reduceLeDiff, Nat.reduceEqDiff, Nat.reduceAdd, Nat.reduceSub, Nat.reduceMul, reduceCtorEq]
    | refine callK.cps (R := []) (s22 (n := 0) (xs := []) (by omega) (by omega) (by omega)) (by (try simp only [lent, List.cons_append, List.nil_append]); repeat' first | exact List.Perm.refl _ | ((with_reducible refine permTake (pre := []) rfl ?_); simp only [List.cons_append, List.nil_append]) | ((with_reducible refine permTake (pre := [_]) rfl ?_); simp only [List.cons_append, List.nil_append]) | ((with_reducible refine permTake (pre := [_, _]) rfl ?_); simp only [List.cons_append, List.nil_append]) | ((with_reducible refine permTake (pre := [_, _, _]) rfl ?_); simp only [List.cons_append, List.nil_append]) | ((with_reducible refine permTake (pre := [_, _, _, _]) rfl ?_); simp only [List.cons_append, List.nil_append]) | ((with_reducible refine permTake (pre := [_, _, _, _, _]) rfl ?_); simp only [List.cons_append, List.nil_append]) | ((with_reducible refine permTake (pre := [_, _, _, _, _, _]) rfl ?_); simp only [List.cons_append, List.nil_append]) | fail) fun t1 G1 S1 A1 c1 g1 r1 => ?_
    | refine rd1_hd rfl ?_
    | refine rd1_tl (rd1_hd rfl ?_)
    | refine rd1_tl (rd1_tl (rd1_hd rfl ?_))
    | refine rd1_tl (rd1_tl (rd1_tl (rd1_hd rfl ?_)))
    | refine rd1_tl (rd1_tl (rd1_tl (rd1_tl (rd1_hd rfl ?_))))
    | refine rd1_tl (rd1_tl (rd1_tl (rd1_tl (rd1_tl (rd1_hd rfl ?_)))))
    | refine rd1_tl (rd1_tl (rd1_tl (rd1_tl (rd1_tl (rd1_tl (rd1_hd rfl ?_))))))
    | refine rd1_tl (rd1_tl (rd1_tl (rd1_tl (rd1_tl (rd1_tl (rd1_tl (rd1_hd rfl ?_)))))))
    | refine rd1_tl (rd1_tl (rd1_tl (rd1_tl (rd1_tl (rd1_tl (rd1_tl (rd1_tl (rd1_hd rfl ?_))))))))
    | refine rdN_hd rfl ?_
    | refine rdN_tl (rdN_hd rfl ?_)
    | refine rdN_tl (rdN_tl (rdN_hd rfl ?_))
    | refine rdN_tl (rdN_tl (rdN_tl (rdN_hd rfl ?_)))
    | refine rdN_tl (rdN_tl (rdN_tl (rdN_tl (rdN_hd rfl ?_))))
    | refine rdN_tl (rdN_tl (rdN_tl (rdN_tl (rdN_tl (rdN_hd rfl ?_)))))
    | refine rdN_tl (rdN_tl (rdN_tl (rdN_tl (rdN_tl (rdN_tl (rdN_hd rfl ?_))))))
    | refine rdN_tl (rdN_tl (rdN_tl (rdN_tl (rdN_tl (rdN_tl (rdN_tl (rdN_hd rfl ?_)))))))
    | refine rdN_tl (rdN_tl (rdN_tl (rdN_tl (rdN_tl (rdN_tl (rdN_tl (rdN_tl (rdN_hd rfl ?_))))))))
    | refine stoK.hd (by simp) ?_
    | refine stoK.tl (stoK.hd (by simp) ?_)
    | refine stoK.tl (stoK.tl (stoK.hd (by simp) ?_))
    | refine stoK.tl (stoK.tl (stoK.tl (stoK.hd (by simp) ?_)))
    | refine stoK.tl (stoK.tl (stoK.tl (stoK.tl (stoK.hd (by simp) ?_))))
    | refine stoK.tl (stoK.tl (stoK.tl (stoK.tl (stoK.tl (stoK.hd (by simp) ?_)))))
    | refine stoK.tl (stoK.tl (stoK.tl (stoK.tl (stoK.tl (stoK.tl (stoK.hd (by simp) ?_))))))
    | refine stoK.tl (stoK.tl (stoK.tl (stoK.tl (stoK.tl (stoK.tl (stoK.tl (stoK.hd (by simp) ?_)))))))
    | refine stoK.tl (stoK.tl (stoK.tl (stoK.tl (stoK.tl (stoK.tl (stoK.tl (stoK.tl (stoK.hd (by simp) ?_))))))))
    | exact ⟨rfl, rfl, rfl⟩
    | (refine And.intro ?_ ?_; (· omega))
    | refine ⟨fun hg => ?_, fun hg => ?_⟩
    | (refine VC.condb rfl (fun hg => ?_) (fun hg => ?_) <;> (try simp -implicitDefEqProofs only [hg, if_true, if_false, ↓reduceIte, Bool.false_eq_true]))
    | fail
  refine VC.rseq hP hk fun K q hK hq => ?_
  try simp -implicitDefEqProofs only [go_sem, ↓reduceIte, Int.reduceToNat, Int.reduceBEq, Int.reduceBNe, beq_self_eq_true, bne_self_eq_false, Int.reduceLT, Int.reduceLE, Int.reduceAdd, Int.reduceSub, Int.reduceNeg, decide_true, decide_false, gt_iff_lt, ge_iff_le, Int.natCast_one, Int.natCast_zero, Int.cast_ofNat_Int, Nat.reduceLeDiff, Nat.reduceEqDiff, Nat.reduceAdd, Nat.reduceSub, Nat.reduceMul, reduceCtorEq]
  repeat' first
    | with_reducible refine thn_n ?_
    | with_reducible refine thn_r ?_
    | with_reducible refine thn_e ?_
    | with_reducible refine blk_n ?_
    | with_reducible refine blk_r ?_
    | with_reducible refine blk_h ?_
    | with_reducible refine blk_m rfl ?_
    | with_reducible refine fin_n ?_
    | with_reducible refine fin_r ?_
    | with_reducible refine VC.skip ?_
    | with_reducible refine VC.ret ?_
    | with_reducible refine VC.exit ?_
    | with_reducible refine VC.block ?_
    | refine vops_gt rfl ?_
    | refine vops_gf rfl ?_
    | refine vsch_gt rfl ?_
    | refine vsch_gf rfl ?_
    | refine vall_gt rfl ?_ ?_
    | refine vall_gf rfl ?_ ?_
    | (refine vops_gb rfl (fun hb => ?_) (fun hb => ?_) <;> (try simp only [Bool.not_true, Bool.not_false] at hb) <;> (try simp -implicitDefEqProofs only [hb, if_true, if_false, ↓reduceIte, Bool.false_eq_true]))
    | (refine vsch_gb rfl (by simp only [noStop]) (fun hb => ?_) (fun hb => ?_) <;> (try simp only [Bool.not_true, Bool.not_false] at hb) <;> (try simp -implicitDefEqProofs only [hb, if_true, if_false, ↓reduceIte, Bool.false_eq_true]))
    | refine vall_gb rfl (fun hb => ?_) (fun hb => ?_) ?_
    | refine VC.condt rfl ?_
    | refine VC.condf rfl ?_
    | (refine hK.out _ _ _ _ (by simp -implicitDefEqProofs only [go_sem, ↓reduceIte, Int.reduceToNat, Int.reduceBEq, Int.reduceBNe, beq_self_eq_true, bne_self_eq_false, Int.reduceLT, Int.reduceLE, Int.reduceAdd, Int.reduceSub, Int.reduceNeg, decide_true, decide_false, gt_iff_lt, ge_iff_le, Int.natCast_one, Int.natCast_zero, Int.cast_ofNat_Int, Nat.reduceLeDiff, Nat.reduceEqDiff, Nat.reduceAdd, Nat.reduceSub, Nat.reduceMul, reduceCtorEq]; rfl) ?_; clear hK hq K q)
    | simp -implicitDefEqProofs only [go_sem, ↓reduceIte, Int.reduceToNat, Int.reduceBEq, Int.reduceBNe, beq_self_eq_true, bne_self_eq_false, Int.reduceLT, Int.reduceLE, Int.reduceAdd, Int.reduceSub, Int.reduceNeg, decide_true, decide_false, gt_iff_lt, ge_iff_le, Int.natCast_one, Int.natCast_zero, Int.cast_ofNat_Int, Nat.reduceLeDiff, Nat.reduceEqDiff, Nat.reduceAdd, Nat.reduceSub, Nat.reduceMul, reduceCtorEq]
    | refine callK.cps (R := []) (s22 (n := 1) (xs := [_]) (by omega) (by omega) (by omega)) (by (try simp only [lent, List.cons_append, List.nil_append]); repeat' first | exact List.Perm.refl _ | ((with_reducible refine permTake (pre := []) rfl ?_); simp only [List.cons_append, List.nil_append]) | ((with_reducible refine permTake (pre := [_]) rfl ?_); simp only [List.cons_append, List.nil_append]) | ((with_reducible refine permTake (pre := [_, _]) rfl ?_); simp only [List.cons_append, List.nil_append]) | ((with_reducible refine permTake (pre := [_, _, _]) rfl ?_); simp only [List.cons_append, List.nil_append]) | ((with_reducible refine permTake (pre := [_, _, _, _]) rfl ?_); simp only [List.cons_append, List.nil_append]) | ((with_reducible refine permTake (pre := [_, _, _, _, _]) rfl ?_); simp only [List.cons_append, List.nil_append]) | ((with_reducible refine permTake (pre := [_, _, _, _, _, _]) rfl ?_); simp only [List.cons_append, List.nil_append]) | fail) fun t2 G2 S2 A2 c2 g2 r2 => ?_
    | refine rd1_hd rfl ?_
    | refine rd1_tl (rd1_hd rfl ?_)
    | refine rd1_tl (rd1_tl (rd1_hd rfl ?_))
    | refine rd1_tl (rd1_tl (rd1_tl (rd1_hd rfl ?_)))
    | refine rd1_tl (rd1_tl (rd1_tl (rd1_tl (rd1_hd rfl ?_))))
    | refine rd1_tl (rd1_tl (rd1_tl (rd1_tl (rd1_tl (rd1_hd rfl ?_)))))
    | refine rd1_tl (rd1_tl (rd1_tl (rd1_tl (rd1_tl (rd1_tl (rd1_hd rfl ?_))))))
    | refine rd1_tl (rd1_tl (rd1_tl (rd1_tl (rd1_tl (rd1_tl (rd1_tl (rd1_hd rfl ?_)))))))
    | refine rd1_tl (rd1_tl (rd1_tl (rd1_tl (rd1_tl (rd1_tl (rd1_tl (rd1_tl (rd1_hd rfl ?_))))))))
    | refine rdN_hd rfl ?_
    | refine rdN_tl (rdN_hd rfl ?_)
    | refine rdN_tl (rdN_tl (rdN_hd rfl ?_))
    | refine rdN_tl (rdN_tl (rdN_tl (rdN_hd rfl ?_)))
    | refine rdN_tl (rdN_tl (rdN_tl (rdN_tl (rdN_hd rfl ?_))))
    | refine rdN_tl (rdN_tl (rdN_tl (rdN_tl (rdN_tl (rdN_hd rfl ?_)))))
    | refine rdN_tl (rdN_tl (rdN_tl (rdN_tl (rdN_tl (rdN_tl (rdN_hd rfl ?_))))))
    | refine rdN_tl (rdN_tl (rdN_tl (rdN_tl (rdN_tl (rdN_tl (rdN_tl (rdN_hd rfl ?_)))))))
    | refine rdN_tl (rdN_tl (rdN_tl (rdN_tl (rdN_tl (rdN_tl (rdN_tl (rdN_tl (rdN_hd rfl ?_))))))))
    | refine stoK.hd (by simp) ?_
    | refine stoK.tl (stoK.hd (by simp) ?_)
    | refine stoK.tl (stoK.tl (stoK.hd (by simp) ?_))
    | refine stoK.tl (stoK.tl (stoK.tl (stoK.hd (by simp) ?_)))
    | refine stoK.tl (stoK.tl (stoK.tl (stoK.tl (stoK.hd (by simp) ?_))))
    | refine stoK.tl (stoK.tl (stoK.tl (stoK.tl (stoK.tl (stoK.hd (by simp) ?_)))))
    | refine stoK.tl (stoK.tl (stoK.tl (stoK.tl (stoK.tl (stoK.tl (stoK.hd (by simp) ?_))))))
    | refine stoK.tl (stoK.tl (stoK.tl (stoK.tl (stoK.tl (stoK.tl (stoK.tl (stoK.hd (by simp) ?_)))))))
    | refine stoK.tl (stoK.tl (stoK.tl (stoK.tl (stoK.tl (stoK.tl (stoK.tl (stoK.tl (stoK.hd (by simp) ?_))))))))
    | exact ⟨rfl, rfl, rfl⟩
    | (refine And.intro ?_ ?_; (· omega))
    | refine ⟨fun hg => ?_, fun hg => ?_⟩
    | (refine VC.condb rfl (fun hg => ?_) (fun hg => ?_) <;> (try simp -implicitDefEqProofs only [hg, if_true, if_false, ↓reduceIte, Bool.false_eq_true]))
    | fail
  refine VC.accShape (List.mem_cons_of_mem _ (List.mem_cons_self ..)) fun hF _ _ _ => ?_
  rcases hF with ⟨_, h, _⟩ | ⟨b, rfl⟩
  · omega
  refine VC.fixRow (L1 := [.obj s _ _]) 8 (List.Perm.refl _) (by simp [Value.oneCell']) (by omega) fun G3 g3 r3 => ?_
  refine VC.fixObj (L1 := []) (List.Perm.refl _) fun G4 g4 hS => ?_
  have hr := (r3.has _ rfl).mono g4
  have hT := (r2.mono g3).mono g4
  refine VC.rseq hP hk fun K q hK hq => ?_
  try simp -implicitDefEqProofs only [go_sem, ↓reduceIte, Int.reduceToNat, Int.reduceBEq, Int.reduceBNe, beq_self_eq_true, bne_self_eq_false, Int.reduceLT, Int.reduceLE, Int.reduceAdd, Int.reduceSub, Int.reduceNeg, decide_true, decide_false, gt_iff_lt, ge_iff_le, Int.natCast_one, Int.natCast_zero, Int.cast_ofNat_Int, Nat.reduceLeDiff, Nat.reduceEqDiff, Nat.reduceAdd, Nat.reduceSub, Nat.reduceMul, reduceCtorEq]
  repeat' first
    | with_reducible refine thn_n ?_
    | with_reducible refine thn_r ?_
    | with_reducible refine thn_e ?_
    | with_reducible refine blk_n ?_
    | with_reducible refine blk_r ?_
    | with_reducible refine blk_h ?_
    | with_reducible refine blk_m rfl ?_
    | with_reducible refine fin_n ?_
    | with_reducible refine fin_r ?_
    | with_reducible refine VC.skip ?_
    | with_reducible refine VC.ret ?_
    | with_reducible refine VC.exit ?_
    | with_reducible refine VC.block ?_
    | refine vops_gt rfl ?_
    | refine vops_gf rfl ?_
    | refine vsch_gt rfl ?_
    | refine vsch_gf rfl ?_
    | refine vall_gt rfl ?_ ?_
    | refine vall_gf rfl ?_ ?_
    | (refine vops_gb rfl (fun hb => ?_) (fun hb => ?_) <;> (try simp only [Bool.not_true, Bool.not_false] at hb) <;> (try simp -implicitDefEqProofs only [hb, if_true, if_false, ↓reduceIte, Bool.false_eq_true]))
    | (refine vsch_gb rfl (by simp only [noStop]) (fun hb => ?_) (fun hb => ?_) <;> (try simp only [Bool.not_true, Bool.not_false] at hb) <;> (try simp -implicitDefEqProofs only [hb, if_true, if_false, ↓reduceIte, Bool.false_eq_true]))
    | refine vall_gb rfl (fun hb => ?_) (fun hb => ?_) ?_
    | refine VC.condt rfl ?_
    | refine VC.condf rfl ?_
    | (refine hK.out _ _ _ _ (by simp -implicitDefEqProofs only [go_sem, ↓reduceIte, Int.reduceToNat, Int.reduceBEq, Int.reduceBNe, beq_self_eq_true, bne_self_eq_false, Int.reduceLT, Int.reduceLE, Int.reduceAdd, Int.reduceSub, Int.reduceNeg, decide_true, decide_false, gt_iff_lt, ge_iff_le, Int.natCast_one, Int.natCast_zero, Int.cast_ofNat_Int, Nat.reduceLeDiff, Nat.reduceEqDiff, Nat.reduceAdd, Nat.reduceSub, Nat.reduceMul, reduceCtorEq]; rfl) ?_; clear hK hq K q)
    | simp -implicitDefEqProofs only [go_sem, ↓reduceIte, Int.reduceToNat, Int.reduceBEq, Int.reduceBNe, beq_self_eq_true, bne_self_eq_false, Int.reduceLT, Int.reduceLE, Int.reduceAdd, Int.reduceSub, Int.reduceNeg, decide_true, decide_false, gt_iff_lt, ge_iff_le, Int.natCast_one, Int.natCast_zero, Int.cast_ofNat_Int, Nat.reduceLeDiff, Nat.reduceEqDiff, Nat.reduceAdd, Nat.reduceSub, Nat.reduceMul, reduceCtorEq]
    | refine newB_own' fun b1 => ?_
    | refine callK.cps0 (s23a hS hr) fun G5 g5 => ?_
    | refine rd1_hd rfl ?_
    | refine rd1_tl (rd1_hd rfl ?_)
    | refine rd1_tl (rd1_tl (rd1_hd rfl ?_))
    | refine rd1_tl (rd1_tl (rd1_tl (rd1_hd rfl ?_)))
    | refine rd1_tl (rd1_tl (rd1_tl (rd1_tl (rd1_hd rfl ?_))))
    | refine rd1_tl (rd1_tl (rd1_tl (rd1_tl (rd1_tl (rd1_hd rfl ?_)))))
    | refine rd1_tl (rd1_tl (rd1_tl (rd1_tl (rd1_tl (rd1_tl (rd1_hd rfl ?_))))))
    | refine rd1_tl (rd1_tl (rd1_tl (rd1_tl (rd1_tl (rd1_tl (rd1_tl (rd1_hd rfl ?_)))))))
    | refine rd1_tl (rd1_tl (rd1_tl (rd1_tl (rd1_tl (rd1_tl (rd1_tl (rd1_tl (rd1_hd rfl ?_))))))))
    | refine rdN_hd rfl ?_
    | refine rdN_tl (rdN_hd rfl ?_)
    | refine rdN_tl (rdN_tl (rdN_hd rfl ?_))
    | refine rdN_tl (rdN_tl (rdN_tl (rdN_hd rfl ?_)))
    | refine rdN_tl (rdN_tl (rdN_tl (rdN_tl (rdN_hd rfl ?_))))
    | refine rdN_tl (rdN_tl (rdN_tl (rdN_tl (rdN_tl (rdN_hd rfl ?_)))))
    | refine rdN_tl (rdN_tl (rdN_tl (rdN_tl (rdN_tl (rdN_tl (rdN_hd rfl ?_))))))
    | refine rdN_tl (rdN_tl (rdN_tl (rdN_tl (rdN_tl (rdN_tl (rdN_tl (rdN_hd rfl ?_)))))))
    | refine rdN_tl (rdN_tl (rdN_tl (rdN_tl (rdN_tl (rdN_tl (rdN_tl (rdN_tl (rdN_hd rfl ?_))))))))
    | refine stoK.hd (by simp) ?_
    | refine stoK.tl (stoK.hd (by simp) ?_)
    | refine stoK.tl (stoK.tl (stoK.hd (by simp) ?_))
    | refine stoK.tl (stoK.tl (stoK.tl (stoK.hd (by simp) ?_)))
    | refine stoK.tl (stoK.tl (stoK.tl (stoK.tl (stoK.hd (by simp) ?_))))
    | refine stoK.tl (stoK.tl (stoK.tl (stoK.tl (stoK.tl (stoK.hd (by simp) ?_)))))
    | refine stoK.tl (stoK.tl (stoK.tl (stoK.tl (stoK.tl (stoK.tl (stoK.hd (by simp) ?_))))))
    | refine stoK.tl (stoK.tl (stoK.tl (stoK.tl (stoK.tl (stoK.tl (stoK.tl (stoK.hd (by simp) ?_)))))))
    | refine stoK.tl (stoK.tl (stoK.tl (stoK.tl (stoK.tl (stoK.tl (stoK.tl (stoK.tl (stoK.hd (by simp) ?_))))))))
    | exact ⟨rfl, rfl, rfl⟩
    | (refine And.intro ?_ ?_; (· omega))
    | refine ⟨fun hg => ?_, fun hg => ?_⟩
    | (refine VC.condb rfl (fun hg => ?_) (fun hg => ?_) <;> (try simp -implicitDefEqProofs only [hg, if_true, if_false, ↓reduceIte, Bool.false_eq_true]))
    | fail
  replace hS := hS.mono g5
  replace hr := hr.mono g5
  replace hT := hT.mono g5
  refine VC.rseq hP hk fun K q hK hq => ?_
  try simp -implicitDefEqProofs only [go_sem, ↓reduceIte, Int.reduceToNat, Int.reduceBEq, Int.reduceBNe, beq_self_eq_true, bne_self_eq_false, Int.reduceLT, Int.reduceLE, Int.reduceAdd, Int.reduceSub, Int.reduceNeg, decide_true, decide_false, gt_iff_lt, ge_iff_le, Int.natCast_one, Int.natCast_zero, Int.cast_ofNat_Int, Nat.reduceLeDiff, Nat.reduceEqDiff, Nat.reduceAdd, Nat.reduceSub, Nat.reduceMul, reduceCtorEq]
  repeat' first
    | with_reducible refine thn_n ?_
    | with_reducible refine thn_r ?_
    | with_reducible refine thn_e ?_
    | with_reducible refine blk_n ?_
    | with_reducible refine blk_r ?_
    | with_reducible refine blk_h ?_
    | with_reducible refine blk_m rfl ?_
    | with_reducible refine fin_n ?_
    | with_reducible refine fin_r ?_
    | with_reducible refine VC.skip ?_
    | with_reducible refine VC.ret ?_
    | with_reducible refine VC.exit ?_
    | with_reducible refine VC.block ?_
    | refine vops_gt rfl ?_
    | refine vops_gf rfl ?_
    | refine vsch_gt rfl ?_
    | refine vsch_gf rfl ?_
    | refine vall_gt rfl ?_ ?_
    | refine vall_gf rfl ?_ ?_
    | (refine vops_gb rfl (fun hb => ?_) (fun hb => ?_) <;> (try simp only [Bool.not_true, Bool.not_false] at hb) <;> (try simp -implicitDefEqProofs only [hb, if_true, if_false, ↓reduceIte, Bool.false_eq_true]))
    | (refine vsch_gb rfl (by simp only [noStop]) (fun hb => ?_) (fun hb => ?_) <;> (try simp only [Bool.not_true, Bool.not_false] at hb) <;> (try simp -implicitDefEqProofs only [hb, if_true, if_false, ↓reduceIte, Bool.false_eq_true]))
    | refine vall_gb rfl (fun hb => ?_) (fun hb => ?_) ?_
    | refine VC.condt rfl ?_
    | refine VC.condf rfl ?_
    | (refine hK.out _ _ _ _ (by simp -implicitDefEqProofs only [go_sem, ↓reduceIte, Int.reduceToNat, Int.reduceBEq, Int.reduceBNe, beq_self_eq_true, bne_self_eq_false, Int.reduceLT, Int.reduceLE, Int.reduceAdd, Int.reduceSub, Int.reduceNeg, decide_true, decide_false, gt_iff_lt, ge_iff_le, Int.natCast_one, Int.natCast_zero, Int.cast_ofNat_Int, Nat.reduceLeDiff, Nat.reduceEqDiff, Nat.reduceAdd, Nat.reduceSub, Nat.reduceMul, reduceCtorEq]; rfl) ?_; clear hK hq K q)
    | simp -implicitDefEqProofs only [go_sem, ↓reduceIte, Int.reduceToNat, Int.reduceBEq, Int.reduceBNe, beq_self_eq_true, bne_self_eq_false, Int.reduceLT, Int.reduceLE, Int.reduceAdd, Int.reduceSub, Int.reduceNeg, decide_true, decide_false, gt_iff_lt, ge_iff_le, Int.natCast_one, Int.natCast_zero, Int.cast_ofNat_Int, Nat.reduceLeDiff, Nat.reduceEqDiff, Nat.reduceAdd, Nat.reduceSub, Nat.reduceMul, reduceCtorEq]
    | refine newB_own' fun b1 => ?_
    | refine callK.cps0 (s23b hS hr hT) fun G6 g6 => ?_
    | refine rd1_hd rfl ?_
    | refine rd1_tl (rd1_hd rfl ?_)
    | refine rd1_tl (rd1_tl (rd1_hd rfl ?_))
    | refine rd1_tl (rd1_tl (rd1_tl (rd1_hd rfl ?_)))
    | refine rd1_tl (rd1_tl (rd1_tl (rd1_tl (rd1_hd rfl ?_))))
    | refine rd1_tl (rd1_tl (rd1_tl (rd1_tl (rd1_tl (rd1_hd rfl ?_)))))
    | refine rd1_tl (rd1_tl (rd1_tl (rd1_tl (rd1_tl (rd1_tl (rd1_hd rfl ?_))))))
    | refine rd1_tl (rd1_tl (rd1_tl (rd1_tl (rd1_tl (rd1_tl (rd1_tl (rd1_hd rfl ?_)))))))
    | refine rd1_tl (rd1_tl (rd1_tl (rd1_tl (rd1_tl (rd1_tl (rd1_tl (rd1_tl (rd1_hd rfl ?_))))))))
    | refine rdN_hd rfl ?_
    | refine rdN_tl (rdN_hd rfl ?_)
    | refine rdN_tl (rdN_tl (rdN_hd rfl ?_))
    | refine rdN_tl (rdN_tl (rdN_tl (rdN_hd rfl ?_)))
    | refine rdN_tl (rdN_tl (rdN_tl (rdN_tl (rdN_hd rfl ?_))))
    | refine rdN_tl (rdN_tl (rdN_tl (rdN_tl (rdN_tl (rdN_hd rfl ?_)))))
    | refine rdN_tl (rdN_tl (rdN_tl (rdN_tl (rdN_tl (rdN_tl (rdN_hd rfl ?_))))))
    | refine rdN_tl (rdN_tl (rdN_tl (rdN_tl (rdN_tl (rdN_tl (rdN_tl (rdN_hd rfl ?_)))))))
    | refine rdN_tl (rdN_tl (rdN_tl (rdN_tl (rdN_tl (rdN_tl (rdN_tl (rdN_tl (rdN_hd rfl ?_))))))))
    | refine stoK.hd (by simp) ?_
    | refine stoK.tl (stoK.hd (by simp) ?_)
    | refine stoK.tl (stoK.tl (stoK.hd (by simp) ?_))
    | refine stoK.tl (stoK.tl (stoK.tl (stoK.hd (by simp) ?_)))
    | refine stoK.tl (stoK.tl (stoK.tl (stoK.tl (stoK.hd (by simp) ?_))))
    | refine stoK.tl (stoK.tl (stoK.tl (stoK.tl (stoK.tl (stoK.hd (by simp) ?_)))))
    | refine stoK.tl (stoK.tl (stoK.tl (stoK.tl (stoK.tl (stoK.tl (stoK.hd (by simp) ?_))))))
    | refine stoK.tl (stoK.tl (stoK.tl (stoK.tl (stoK.tl (stoK.tl (stoK.tl (stoK.hd (by simp) ?_)))))))
    | refine stoK.tl (stoK.tl (stoK.tl (stoK.tl (stoK.tl (stoK.tl (stoK.tl (stoK.tl (stoK.hd (by simp) ?_))))))))
    | exact ⟨rfl, rfl, rfl⟩
    | (refine And.intro ?_ ?_; (· omega))
    | refine ⟨fun hg => ?_, fun hg => ?_⟩
    | (refine VC.condb rfl (fun hg => ?_) (fun hg => ?_) <;> (try simp -implicitDefEqProofs only [hg, if_true, if_false, ↓reduceIte, Bool.false_eq_true]))
    | fail
  repeat' first
    | with_reducible refine thn_n ?_
    | with_reducible refine thn_r ?_
    | with_reducible refine thn_e ?_
    | with_reducible refine blk_n ?_
    | with_reducible refine blk_r ?_
    | with_reducible refine blk_h ?_
    | with_reducible refine blk_m rfl ?_
    | with_reducible refine fin_n ?_
    | with_reducible refine fin_r ?_
    | with_reducible refine VC.rseq hP hk fun K q hK hq => ?_
    | with_reducible refine VC.rend hP hk fun K q hK hq => ?_
    | with_reducible refine VC.seq ?_
    | with_reducible refine VC.skip ?_
    | with_reducible refine VC.ret ?_
    | with_reducible refine VC.exit ?_
    | with_reducible refine VC.block ?_
    | refine vops_gt rfl ?_
    | refine vops_gf rfl ?_
    | refine vsch_gt rfl ?_
    | refine vsch_gf rfl ?_
    | refine vall_gt rfl ?_ ?_
    | refine vall_gf rfl ?_ ?_
    | (refine vops_gb rfl (fun hb => ?_) (fun hb => ?_) <;> (try simp only [Bool.not_true, Bool.not_false] at hb) <;> (try simp -implicitDefEqProofs only [hb, if_true, if_false, ↓reduceIte, Bool.false_eq_true]))
    | (refine vsch_gb rfl (by simp only [noStop]) (fun hb => ?_) (fun hb => ?_) <;> (try simp only [Bool.not_true, Bool.not_false] at hb) <;> (try simp -implicitDefEqProofs only [hb, if_true, if_false, ↓reduceIte, Bool.false_eq_true]))
    | refine vall_gb rfl (fun hb => ?_) (fun hb => ?_) ?_
    | refine VC.condt rfl ?_
    | refine VC.condf rfl ?_
    | (refine hK.out _ _ _ _ (by simp -implicitDefEqProofs only [go_sem, ↓reduceIte, Int.reduceToNat, Int.reduceBEq, Int.reduceBNe, beq_self_eq_true, bne_self_eq_false, Int.reduceLT, Int.reduceLE, Int.reduceAdd, Int.reduceSub, Int.reduceNeg, decide_true, decide_false, gt_iff_lt, ge_iff_le, Int.natCast_one, Int.natCast_zero, Int.cast_ofNat_Int, Nat.reduceLeDiff, Nat.reduceEqDiff, Nat.reduceAdd, Nat.reduceSub, Nat.reduceMul, reduceCtorEq]; rfl) ?_; clear hK hq K q)
    | simp -implicitDefEqProofs only [go_sem, ↓reduceIte, Int.reduceToNat, Int.reduceBEq, Int.reduceBNe, beq_self_eq_true, bne_self_eq_false, Int.reduceLT, Int.reduceLE, Int.reduceAdd, Int.reduceSub, Int.reduceNeg, decide_true, decide_false, gt_iff_lt, ge_iff_le, Int.natCast_one, Int.natCast_zero, Int.cast_ofNat_Int, Nat.reduceLeDiff, Nat.reduceEqDiff, Nat.reduceAdd, Nat.reduceSub, Nat.reduceMul, reduceCtorEq]
    | refine rd1_hd rfl ?_
    | refine rd1_tl (rd1_hd rfl ?_)
    | refine rd1_tl (rd1_tl (rd1_hd rfl ?_))
    | refine rd1_tl (rd1_tl (rd1_tl (rd1_hd rfl ?_)))
    | refine rd1_tl (rd1_tl (rd1_tl (rd1_tl (rd1_hd rfl ?_))))
    | refine rd1_tl (rd1_tl (rd1_tl (rd1_tl (rd1_tl (rd1_hd rfl ?_)))))
    | refine rd1_tl (rd1_tl (rd1_tl (rd1_tl (rd1_tl (rd1_tl (rd1_hd rfl ?_))))))
    | refine rd1_tl (rd1_tl (rd1_tl (rd1_tl (rd1_tl (rd1_tl (rd1_tl (rd1_hd rfl ?_)))))))
    | refine rd1_tl (rd1_tl (rd1_tl (rd1_tl (rd1_tl (rd1_tl (rd1_tl (rd1_tl (rd1_hd rfl ?_))))))))
    | refine rdN_hd rfl ?_
    | refine rdN_tl (rdN_hd rfl ?_)
    | refine rdN_tl (rdN_tl (rdN_hd rfl ?_))
    | refine rdN_tl (rdN_tl (rdN_tl (rdN_hd rfl ?_)))
    | refine rdN_tl (rdN_tl (rdN_tl (rdN_tl (rdN_hd rfl ?_))))
    | refine rdN_tl (rdN_tl (rdN_tl (rdN_tl (rdN_tl (rdN_hd rfl ?_)))))
    | refine rdN_tl (rdN_tl (rdN_tl (rdN_tl (rdN_tl (rdN_tl (rdN_hd rfl ?_))))))
    | refine rdN_tl (rdN_tl (rdN_tl (rdN_tl (rdN_tl (rdN_tl (rdN_tl (rdN_hd rfl ?_)))))))
    | refine rdN_tl (rdN_tl (rdN_tl (rdN_tl (rdN_tl (rdN_tl (rdN_tl (rdN_tl (rdN_hd rfl ?_))))))))
    | refine stoK.hd (by simp) ?_
    | refine stoK.tl (stoK.hd (by simp) ?_)
    | refine stoK.tl (stoK.tl (stoK.hd (by simp) ?_))
    | refine stoK.tl (stoK.tl (stoK.tl (stoK.hd (by simp) ?_)))
    | refine stoK.tl (stoK.tl (stoK.tl (stoK.tl (stoK.hd (by simp) ?_))))
    | refine stoK.tl (stoK.tl (stoK.tl (stoK.tl (stoK.tl (stoK.hd (by simp) ?_)))))
    | refine stoK.tl (stoK.tl (stoK.tl (stoK.tl (stoK.tl (stoK.tl (stoK.hd (by simp) ?_))))))
    | refine stoK.tl (stoK.tl (stoK.tl (stoK.tl (stoK.tl (stoK.tl (stoK.tl (stoK.hd (by simp) ?_)))))))
    | refine stoK.tl (stoK.tl (stoK.tl (stoK.tl (stoK.tl (stoK.tl (stoK.tl (stoK.tl (stoK.hd (by simp) ?_))))))))
    | exact ⟨rfl, rfl, rfl⟩
    | (refine And.intro ?_ ?_; (· omega))
    | refine ⟨fun hg => ?_, fun hg => ?_⟩
    | (refine VC.condb rfl (fun hg => ?_) (fun hg => ?_) <;> (try simp -implicitDefEqProofs only [hg, if_true, if_false, ↓reduceIte, Bool.false_eq_true]))
    | fail
  exact Gives.ret (fun k hk => hk _ (((((g1.trans g2).trans g3).trans g4).trans g5).trans g6)) (by repeat' first | exact List.Sublist.refl _ | exact List.nil_sublist _ | (with_reducible refine List.Sublist.cons_cons _ ?_) | refine List.Sublist.cons _ ?_ | fail)
end Go.Proofs.Ytpddchnapcmmkaa
