import Derived.Test.YtpddchnapcmmkaaSy14
import Derived.Test.YtpddchnapcmmkaaProg
namespace Go.Proofs.Ytpddchnapcmmkaa
open Go Go.Sy
set_option linter.unusedSimpArgs false
set_option linter.unusedVariables false
theorem mixed : Try.prog.follows .mixedOrders = true := by kernel_rfl
theorem h46 : comp Try.prog 46 = some (cClone 5 1 1) := by kernel_rfl
theorem h47 : comp Try.prog 47 = some (cClone 56 5 48) := by kernel_rfl
theorem h48 : comp Try.prog 48 = some (cClone 130 3 24) := by kernel_rfl
theorem h49 : comp Try.prog 49 = some (cClone 24 2 48) := by kernel_rfl
theorem h50 : comp Try.prog 50 = some (cClone 3 1 8) := by kernel_rfl
theorem h51 : comp Try.prog 51 = some (cClone 58 3 32) := by kernel_rfl
-- 45 trunnion/store.ownType
def cd45 : VFun := ⟨10, [.cellN 2 2], (.seq (.reg [⟨(some 1), none, (.ef (.box 24 (.tmp 0)))⟩, ⟨(some 2), none, (.ef (.alloc 24 [(.slice none 0 0), (.slice none 0 0)]))⟩])
  (.seq (.draw (.take 0 [1, 2, 5, 6, 7] ⟨(some 3), none, (.rd (.fa 0 (.tmp 1)))⟩ (.take 1 [2, 5, 6, 7] ⟨(some 4), none, (.rd (.load1 (.tmp 3)))⟩ (.take 3 [4, 5, 6, 7] ⟨(some 6), none, (.rd (.fa 1 (.tmp 1)))⟩ (.take 4 [5, 6, 7] ⟨(some 7), none, (.rd (.load1 (.tmp 6)))⟩ (.all [(2, ⟨(some 5), none, (.ef (.call 46 [(.tmp 4)]))⟩, (.all [(5, ⟨(some 8), none, (.ef (.call 46 [(.tmp 7)]))⟩, (.take 6 [7] ⟨(some 9), none, (.rd (.bld [(.slice none 0 0), (.slice none 0 0)] [(0, 1, (.tmp 5)), (1, 1, (.tmp 8))]))⟩ (.all [(7, ⟨none, none, (.ef (.store 2 (.tmp 2) (.tmp 9)))⟩, .done)])))]))]))))))
  .ret))⟩
@[go_sem] def ks45 : List Nat := [0, 1, 2]
theorem ce45 : comp Try.prog 45 = some cd45 := by kernel_rfl
def Φ45 (n0 n1 : Nat) (cs ds : List Value) (G : Stab) (k : Value → Stab → List Ent → Prop) : Prop := ∀ A0 c0 A1 c1, Fresh A0 n0 c0 → Fresh A1 n1 c1 → cs.length = n0 → ds.length = n1 →
  k (.agg ⟨[.slice A0 n0 c0, .slice A1 n1 c1]⟩) G [.acc (.slice A0 n0 c0) n0 cs 5 1, .acc (.slice A1 n1 c1) n1 ds 5 1]
theorem s45 {G : Stab} {A0 A1 : Option Addr} {n0 n1 c0 c1 : Nat} {cs ds : List Value} (h0 : Row G 1 1 A0 n0 cs) (h1 : Row G 1 1 A1 n1 ds) : Con Try.prog 45 ⟨[.agg ⟨[.slice A0 n0 c0, .slice A1 n1 c1]⟩]⟩ G [] (Gives (Φ45 n0 n1 cs ds G)) := by
  refine Con.of_vc ce45 ks45 mixed (by simp [cd45]) fun Γ hP hk => ?_
  simp only [cd45]
  repeat' first
    | with_reducible refine thn_n ?_
    | with_reducible refine thn_r ?_
    | with_reducible refine thn_e ?_
    | with_reducible refine blk_n ?_
    | with_reducible refine blk_r ?_
    | with_reducible refine blk_h ?_
    | with_reducible refine blk_m rfl ?_
    | with_reducible refine fin_r ?_
    | with_reducible refine VC.rseq hP hk fun K q hK hq => ?_
    | with_reducible refine VC.rend hP hk fun K q hK hq => ?_
    | with_reducible refine VC.seq ?_
    | with_reducible refine VC.skip ?_
    | with_reducible refine VC.ret ?_
    | with_reducible refine VC.exit ?_
    | with_reducible refine VC.block ?_
    | refine vops_gt rfl ?_
    | refine vops_gf rfl ?_
    | refine vsch_gt rfl ?_
    | refine vsch_gf rfl ?_
    | refine vall_gt rfl ?_ ?_
    | refine vall_gf rfl ?_ ?_
    | (refine vops_gb rfl (fun hb => ?_) (fun hb => ?_) <;> (try simp only [Bool.not_true, Bool.not_false] at hb) <;> (try simp -implicitDefEqProofs only [hb, if_true, if_false, ↓reduceIte, Bool.false_eq_true]))
    | (refine vsch_gb rfl (by simp only [noStop]) (fun hb => ?_) (fun hb => ?_) <;> (try simp only [Bool.not_true, Bool.not_false] at hb) <;> (try simp -implicitDefEqProofs only [hb, if_true, if_false, ↓reduceIte, Bool.false_eq_true]))
    | refine vall_gb rfl (fun hb => ?_) (fun hb => ?_) ?_
    | refine VC.condt rfl ?_
    | refine VC.condf rfl ?_
    | (refine hK.out _ _ _ _ (by simp -implicitDefEqProofs only [go_sem, ↓reduceIte, Int.reduceToNat, Int.reduceBEq, Int.reduceBNe, beq_self_eq_true, bne_self_eq_false, Int.reduceLT, Int.reduceLE, Int.reduceAdd, Int.reduceSub, Int.reduceNeg, decide_true, decide_false, gt_iff_lt, ge_iff_le, Int.natCast_one, Int.natCast_zero, Int.cast_ofNat_Int, Nat.reduceLeDiff, Nat.reduceEqDiff, Nat.reduceAdd, Nat.reduceSub, Nat.reduceMul, reduceCtorEq]; rfl) ?_; clear hK hq K q)
    | simp -implicitDefEqProofs only [go_sem, ↓reduceIte, Int.reduceToNat, Int.reduceBEq, Int.reduceBNe, beq_self_eq_true, bne_self_eq_false, Int.reduceLT, Int.reduceLE, Int.reduceAdd, Int.reduceSub, Int.reduceNeg, decide_true, decide_false, gt_iff_lt, ge_iff_le, Int.natCast_one, Int.natCast_zero, Int.cast_ofNat_Int, Nat.reduceLeDiff, Nat.reduceEqDiff, Nat.reduceAdd, Nat.reduceSub, Nat.reduceMul, reduceCtorEq]
    | refine newB_own' fun b1 => ?_
    | refine rd1_hd rfl ?_
    | refine rd1_tl (rd1_hd rfl ?_)
    | refine rd1_tl (rd1_tl (rd1_hd rfl ?_))
    | refine rd1_tl (rd1_tl (rd1_tl (rd1_hd rfl ?_)))
    | refine rd1_tl (rd1_tl (rd1_tl (rd1_tl (rd1_hd rfl ?_))))
    | refine rd1_tl (rd1_tl (rd1_tl (rd1_tl (rd1_tl (rd1_hd rfl ?_)))))
    | refine rd1_tl (rd1_tl (rd1_tl (rd1_tl (rd1_tl (rd1_tl (rd1_hd rfl ?_))))))
    | refine rd1_tl (rd1_tl (rd1_tl (rd1_tl (rd1_tl (rd1_tl (rd1_tl (rd1_hd rfl ?_)))))))
    | refine rd1_tl (rd1_tl (rd1_tl (rd1_tl (rd1_tl (rd1_tl (rd1_tl (rd1_tl (rd1_hd rfl ?_))))))))
    | refine rdN_hd rfl ?_
    | refine rdN_tl (rdN_hd rfl ?_)
    | refine rdN_tl (rdN_tl (rdN_hd rfl ?_))
    | refine rdN_tl (rdN_tl (rdN_tl (rdN_hd rfl ?_)))
    | refine rdN_tl (rdN_tl (rdN_tl (rdN_tl (rdN_hd rfl ?_))))
    | refine rdN_tl (rdN_tl (rdN_tl (rdN_tl (rdN_tl (rdN_hd rfl ?_)))))
    | refine rdN_tl (rdN_tl (rdN_tl (rdN_tl (rdN_tl (rdN_tl (rdN_hd rfl ?_))))))
    | refine rdN_tl (rdN_tl (rdN_tl (rdN_tl (rdN_tl (rdN_tl (rdN_tl (rdN_hd rfl ?_)))))))
    | refine rdN_tl (rdN_tl (rdN_tl (rdN_tl (rdN_tl (rdN_tl (rdN_tl (rdN_tl (rdN_hd rfl ?_))))))))
    | refine stoK.hd (by simp) ?_
    | refine stoK.tl (stoK.hd (by simp) ?_)
    | refine stoK.tl (stoK.tl (stoK.hd (by simp) ?_))
    | refine stoK.tl (stoK.tl (stoK.tl (stoK.hd (by simp) ?_)))
    | refine stoK.tl (stoK.tl (stoK.tl (stoK.tl (stoK.hd (by simp) ?_))))
    | refine stoK.tl (stoK.tl (stoK.tl (stoK.tl (stoK.tl (stoK.hd (by simp) ?_)))))
    | refine stoK.tl (stoK.tl (stoK.tl (stoK.tl (stoK.tl (stoK.tl (stoK.hd (by simp) ?_))))))
    | refine stoK.tl (stoK.tl (stoK.tl (stoK.tl (stoK.tl (stoK.tl (stoK.tl (stoK.hd (by simp) ?_)))))))
    | refine stoK.tl (stoK.tl (stoK.tl (stoK.tl (stoK.tl (stoK.tl (stoK.tl (stoK.tl (stoK.hd (by simp) ?_))))))))
    | exact ⟨rfl, rfl, rfl⟩
    | (refine And.intro ?_ ?_; (· omega))
    | refine ⟨fun hg => ?_, fun hg => ?_⟩
    | (refine VC.condb rfl (fun hg => ?_) (fun hg => ?_) <;> (try simp -implicitDefEqProofs only [hg, if_true, if_false, ↓reduceIte, Bool.false_eq_true]))
    | fail
  rename_i b0
  refine VC.dend hP hk ([.obj b1 [.slice none 0 0, .slice none 0 0] 24]) ([(.obj b0 [.slice A0 n0 c0, .slice A1 n1 c1] 24, none)]) (by (try simp only [lent, List.cons_append, List.nil_append]); repeat' first | exact List.Perm.refl _ | ((with_reducible refine permTake (pre := []) rfl ?_); simp only [List.cons_append, List.nil_append]) | ((with_reducible refine permTake (pre := [_]) rfl ?_); simp only [List.cons_append, List.nil_append]) | ((with_reducible refine permTake (pre := [_, _]) rfl ?_); simp only [List.cons_append, List.nil_append]) | ((with_reducible refine permTake (pre := [_, _, _]) rfl ?_); simp only [List.cons_append, List.nil_append]) | ((with_reducible refine permTake (pre := [_, _, _, _]) rfl ?_); simp only [List.cons_append, List.nil_append]) | ((with_reducible refine permTake (pre := [_, _, _, _, _]) rfl ?_); simp only [List.cons_append, List.nil_append]) | ((with_reducible refine permTake (pre := [_, _, _, _, _, _]) rfl ?_); simp only [List.cons_append, List.nil_append]) | fail) fun K q hK hq => ?_
  try simp -implicitDefEqProofs only [go_sem, ↓reduceIte, Int.reduceToNat, Int.reduceBEq, Int.reduceBNe, beq_self_eq_true, bne_self_eq_false, Int.reduceLT, Int.reduceLE, Int.reduceAdd, Int.reduceSub, Int.reduceNeg, decide_true, decide_false, gt_iff_lt, ge_iff_le, Int.natCast_one, Int.natCast_zero, Int.cast_ofNat_Int, Nat.reduceLeDiff, Nat.reduceEqDiff, Nat.reduceAdd, Nat.reduceSub, Nat.reduceMul, reduceCtorEq]
  repeat' first
    | with_reducible refine thn_n ?_
    | with_reducible refine thn_r ?_
    | with_reducible refine thn_e ?_
    | with_reducible refine blk_n ?_
    | with_reducible refine blk_r ?_
    | with_reducible refine blk_h ?_
    | with_reducible refine blk_m rfl ?_
    | with_reducible refine fin_n ?_
    | with_reducible refine fin_r ?_
    | with_reducible refine VC.rseq hP hk fun K q hK hq => ?_
    | with_reducible refine VC.rend hP hk fun K q hK hq => ?_
    | with_reducible refine VC.seq ?_
    | with_reducible refine VC.skip ?_
    | with_reducible refine VC.ret ?_
    | with_reducible refine VC.exit ?_
    | with_reducible refine VC.block ?_
    | refine vops_gt rfl ?_
    | refine vops_gf rfl ?_
    | refine vsch_gt rfl ?_
    | refine vsch_gf rfl ?_
    | refine vall_gt rfl ?_ ?_
    | refine vall_gf rfl ?_ ?_
    | (refine vops_gb rfl (fun hb => ?_) (fun hb => ?_) <;> (try simp only [Bool.not_true, Bool.not_false] at hb) <;> (try simp -implicitDefEqProofs only [hb, if_true, if_false, ↓reduceIte, Bool.false_eq_true]))
    | (refine vsch_gb rfl (by simp only [noStop]) (fun hb => ?_) (fun hb => ?_) <;> (try simp only [Bool.not_true, Bool.not_false] at hb) <;> (try simp -implicitDefEqProofs only [hb, if_true, if_false, ↓reduceIte, Bool.false_eq_true]))
    | refine vall_gb rfl (fun hb => ?_) (fun hb => ?_) ?_
    | refine VC.condt rfl ?_
    | refine VC.condf rfl ?_
    | (refine hK.out _ _ _ _ (by simp -implicitDefEqProofs only [go_sem, ↓reduceIte, Int.reduceToNat, Int.reduceBEq, Int.reduceBNe, beq_self_eq_true, bne_self_eq_false, Int.reduceLT, Int.reduceLE, Int.reduceAdd, Int.reduceSub, Int.reduceNeg, decide_true, decide_false, gt_iff_lt, ge_iff_le, Int.natCast_one, Int.natCast_zero, Int.cast_ofNat_Int, Nat.reduceLeDiff, Nat.reduceEqDiff, Nat.reduceAdd, Nat.reduceSub, Nat.reduceMul, reduceCtorEq]; rfl) ?_; clear hK hq K q)
    | simp -implicitDefEqProofs only [go_sem, ↓reduceIte, Int.reduceToNat, Int.reduceBEq, Int.reduceBNe, beq_self_eq_true, bne_self_eq_false, Int.reduceLT, Int.reduceLE, Int.reduceAdd, Int.reduceSub, Int.reduceNeg, decide_true, decide_false, gt_iff_lt, ge_iff_le, Int.natCast_one, Int.natCast_zero, Int.cast_ofNat_Int, Nat.reduceLeDiff, Nat.reduceEqDiff, Nat.reduceAdd, Nat.reduceSub, Nat.reduceMul, reduceCtorEq]
    | refine callK.clone mixed h46 h0 fun B0 d0 f0 l0 => ?_
    | refine callK.clone mixed h46 h1 fun B1 d1 f1 l1 => ?_
    | refine rd1_hd rfl ?_
    | refine rd1_tl (rd1_hd rfl ?_)
    | refine rd1_tl (rd1_tl (rd1_hd rfl ?_))
    | refine rd1_tl (rd1_tl (rd1_tl (rd1_hd rfl ?_)))
    | refine rd1_tl (rd1_tl (rd1_tl (rd1_tl (rd1_hd rfl ?_))))
    | refine rd1_tl (rd1_tl (rd1_tl (rd1_tl (rd1_tl (rd1_hd rfl ?_)))))
    | refine rd1_tl (rd1_tl (rd1_tl (rd1_tl (rd1_tl (rd1_tl (rd1_hd rfl ?_))))))
    | refine rd1_tl (rd1_tl (rd1_tl (rd1_tl (rd1_tl (rd1_tl (rd1_tl (rd1_hd rfl ?_)))))))
    | refine rd1_tl (rd1_tl (rd1_tl (rd1_tl (rd1_tl (rd1_tl (rd1_tl (rd1_tl (rd1_hd rfl ?_))))))))
    | refine rdN_hd rfl ?_
    | refine rdN_tl (rdN_hd rfl ?_)
    | refine rdN_tl (rdN_tl (rdN_hd rfl ?_))
    | refine rdN_tl (rdN_tl (rdN_tl (rdN_hd rfl ?_)))
    | refine rdN_tl (rdN_tl (rdN_tl (rdN_tl (rdN_hd rfl ?_))))
    | refine rdN_tl (rdN_tl (rdN_tl (rdN_tl (rdN_tl (rdN_hd rfl ?_)))))
    | refine rdN_tl (rdN_tl (rdN_tl (rdN_tl (rdN_tl (rdN_tl (rdN_hd rfl ?_))))))
    | refine rdN_tl (rdN_tl (rdN_tl (rdN_tl (rdN_tl (rdN_tl (rdN_tl (rdN_hd rfl ?_)))))))
    | refine rdN_tl (rdN_tl (rdN_tl (rdN_tl (rdN_tl (rdN_tl (rdN_tl (rdN_tl (rdN_hd rfl ?_))))))))
    | refine stoK.hd (by simp) ?_
    | refine stoK.tl (stoK.hd (by simp) ?_)
    | refine stoK.tl (stoK.tl (stoK.hd (by simp) ?_))
    | refine stoK.tl (stoK.tl (stoK.tl (stoK.hd (by simp) ?_)))
    | refine stoK.tl (stoK.tl (stoK.tl (stoK.tl (stoK.hd (by simp) ?_))))
    | refine stoK.tl (stoK.tl (stoK.tl (stoK.tl (stoK.tl (stoK.hd (by simp) ?_)))))
    | refine stoK.tl (stoK.tl (stoK.tl (stoK.tl (stoK.tl (stoK.tl (stoK.hd (by simp) ?_))))))
    | refine stoK.tl (stoK.tl (stoK.tl (stoK.tl (stoK.tl (stoK.tl (stoK.tl (stoK.hd (by simp) ?_)))))))
    | refine stoK.tl (stoK.tl (stoK.tl (stoK.tl (stoK.tl (stoK.tl (stoK.tl (stoK.tl (stoK.hd (by simp) ?_))))))))
    | exact ⟨rfl, rfl, rfl⟩
    | (refine And.intro ?_ ?_; (· omega))
    | refine ⟨fun hg => ?_, fun hg => ?_⟩
    | (refine VC.condb rfl (fun hg => ?_) (fun hg => ?_) <;> (try simp -implicitDefEqProofs only [hg, if_true, if_false, ↓reduceIte, Bool.false_eq_true]))
    | fail
  exact Gives.ret (fun k hk => hk _ _ _ _ f0 f1 (by omega) (by omega)) (by repeat' first | exact List.Sublist.refl _ | exact List.nil_sublist _ | (with_reducible refine List.Sublist.cons_cons _ ?_) | refine List.Sublist.cons _ ?_ | fail)
-- 26 trunnion/store.ownFunc
def cd26 : VFun := ⟨43, [.cellN 2 10], (.seq (.reg [⟨(some 1), none, (.ef (.box 29 (.tmp 0)))⟩, ⟨(some 2), none, (.ef (.alloc 29 [(.slice none 0 0), (.slice none 0 0), (.bool false), (.string ⟨#[]⟩), (.int .i64 0), (.int .i64 0), (.int .i64 0), (.slice none 0 0), (.slice none 0 0), (.int .i64 0)]))⟩])
  (.seq (.reg [⟨(some 4), none, (.rd (.fa 0 (.tmp 1)))⟩, ⟨(some 5), none, (.rd (.loadN 2 (.tmp 4)))⟩, ⟨(some 6), none, (.ef (.call 45 [(.tmp 5)]))⟩, ⟨(some 7), none, (.rd (.fa 0 (.tmp 1)))⟩, ⟨none, none, (.ef (.store 2 (.tmp 7) (.tmp 6)))⟩])
  (.seq (.reg [⟨(some 8), none, (.rd (.fa 5 (.tmp 1)))⟩, ⟨(some 9), none, (.rd (.fa 2 (.tmp 8)))⟩, ⟨(some 10), none, (.rd (.load1 (.tmp 9)))⟩, ⟨(some 11), none, (.ef (.call 46 [(.tmp 10)]))⟩, ⟨(some 12), none, (.rd (.fa 5 (.tmp 1)))⟩, ⟨(some 13), none, (.rd (.fa 2 (.tmp 12)))⟩, ⟨none, none, (.ef (.store 1 (.tmp 13) (.tmp 11)))⟩])
  (.seq (.reg [⟨(some 14), none, (.rd (.fa 5 (.tmp 1)))⟩, ⟨(some 15), none, (.rd (.fa 3 (.tmp 14)))⟩, ⟨(some 16), none, (.rd (.load1 (.tmp 15)))⟩, ⟨(some 17), none, (.ef (.call 47 [(.tmp 16)]))⟩, ⟨(some 18), none, (.rd (.fa 5 (.tmp 1)))⟩, ⟨(some 19), none, (.rd (.fa 3 (.tmp 18)))⟩, ⟨none, none, (.ef (.store 1 (.tmp 19) (.tmp 17)))⟩])
  (.seq (.seq (.reg [⟨(some 20), none, (.rd (.fa 5 (.tmp 1)))⟩, ⟨(some 21), none, (.rd (.fa 3 (.tmp 20)))⟩, ⟨(some 22), none, (.rd (.load1 (.tmp 21)))⟩, ⟨(some 23), none, (.rd (.lenL (.tmp 22)))⟩, ⟨(some 24), none, (.rd (.mov (.val (.int .i64 0))))⟩])
  (.block 0 (.loop (.seq (.reg [⟨(some 25), none, (.rd (.biI .lss (.tmp 24) (.tmp 23)))⟩])
  (.seq (.cond (.tmp 25) .skip
  (.exit 0))
  (.seq (.block 1 (.seq (.reg [⟨(some 26), none, (.rd (.mov (.tmp 24)))⟩, ⟨(some 3), none, (.rd (.mov (.tmp 26)))⟩])
  (.draw (.take 0 [1, 2, 12, 13, 14] ⟨(some 27), none, (.rd (.fa 5 (.tmp 1)))⟩ (.take 1 [2, 12, 13, 14] ⟨(some 28), none, (.rd (.fa 3 (.tmp 27)))⟩ (.take 2 [12, 13, 14] ⟨(some 29), none, (.rd (.load1 (.tmp 28)))⟩ (.take 3 [12, 13, 14] ⟨(some 30), none, (.rd (.mov (.tmp 3)))⟩ (.take 4 [5, 6, 8, 9, 10, 11, 12, 13, 14] ⟨(some 31), none, (.rd (.fa 5 (.tmp 1)))⟩ (.take 5 [6, 8, 9, 10, 11, 12, 13, 14] ⟨(some 32), none, (.rd (.fa 3 (.tmp 31)))⟩ (.take 6 [8, 9, 10, 11, 12, 13, 14] ⟨(some 33), none, (.rd (.load1 (.tmp 32)))⟩ (.take 7 [8, 9, 10, 11, 12, 13, 14] ⟨(some 34), none, (.rd (.mov (.tmp 3)))⟩ (.take 8 [9, 10, 11, 12, 13, 14] ⟨(some 35), none, (.rd (.ia 5 (.tmp 33) (.tmp 34)))⟩ (.take 9 [10, 11, 12, 13, 14] ⟨(some 36), none, (.rd (.fa 4 (.tmp 35)))⟩ (.all [(10, ⟨(some 37), none, (.rd (.load1 (.tmp 36)))⟩, (.all [(11, ⟨(some 38), none, (.ef (.call 48 [(.tmp 37)]))⟩, (.take 12 [13, 14] ⟨(some 39), none, (.rd (.ia 5 (.tmp 29) (.tmp 30)))⟩ (.take 13 [14] ⟨(some 40), none, (.rd (.fa 4 (.tmp 39)))⟩ (.all [(14, ⟨none, none, (.ef (.store 1 (.tmp 40) (.tmp 38)))⟩, .done)]))))]))]))))))))))))))
  (.reg [⟨(some 41), none, (.rd (.biI .add (.tmp 24) (.val (.int .i64 1))))⟩, ⟨(some 24), none, (.rd (.mov (.tmp 41)))⟩])))))))
  (.seq (.reg [⟨(some 42), none, (.rd (.loadN 10 (.tmp 1)))⟩, ⟨none, none, (.ef (.store 10 (.tmp 2) (.tmp 42)))⟩])
  .ret))))))⟩
@[go_sem] def ks26 : List Nat := [0, 1, 2, 3, 23, 24, 25]
theorem ce26 : comp Try.prog 26 = some cd26 := by kernel_rfl
/-- The steps of a body: what an operation is; where it may jump to can be read. -/
structure Steps (G : Stab) (n : Nat) (st : List Value) : Prop where
  len : st.length = n * 5
  op : ∀ j, j < n → ∃ x, st[j * 5]? = some (.int .i64 x)
  to : ∀ j, j < n → ∃ A m c cs, st[j * 5 + 4]? = some (.slice A m c) ∧ Row G 3 24 A m cs
  one : ∀ u ∈ st, u.oneCell' = true
theorem Steps.mono {G G' : Stab} {n : Nat} {st : List Value} (h : Steps G n st) (hl : G.Le G') : Steps G' n st :=
  ⟨h.len, h.op, fun j hj => by obtain ⟨A, m, c, cs, h1, h2⟩ := h.to j hj; exact ⟨A, m, c, cs, h1, h2.mono hl⟩, h.one⟩
theorem Steps.set {G : Stab} {n j : Nat} {st : List Value} (h : Steps G n st) (hj : j < n) {A : Option Addr} {m c : Nat} {cs : List Value} (hr : Row G 3 24 A m cs) : Steps G n (putAt st (j * 5 + 4) [.slice A m c]) := by
  have hl := h.len
  refine ⟨by rw [putAt_length (by simp; omega)]; exact hl, fun i hi => ?_, fun i hi => ?_, putAt_all h.one (by simp [Value.oneCell'])⟩
  · rw [putAt_one (by omega), if_neg (by omega)]; exact h.op i hi
  · rw [putAt_one (by omega)]
    by_cases e : i = j
    · subst e; rw [if_pos rfl]; exact ⟨A, m, c, cs, rfl, hr⟩
    · rw [if_neg (by omega)]; exact h.to i hi
def Φ26 (n0 n1 n7 n8 : Nat) (p st : List Value) (hst : Bool) (nm : ByteArray) (i4 i5 i6 i9 : Int) (G : Stab) (k : Value → Stab → List Ent → Prop) : Prop :=
  ∀ G' A0 c0 A1 c1 A7 c7 A8 c8 p1 p7 st', G.Le G' → Fresh A0 n0 c0 → Fresh A8 n8 c8 → Row G' 1 1 A1 n1 p1 → Row G' 1 1 A7 n7 p7 → Steps G' n8 st' → (∀ j, j < n8 → st'[j * 5]? = st[j * 5]?) →
  k (.agg ⟨[.slice A0 n0 c0, .slice A1 n1 c1, .bool hst, .string nm, .int .i64 i4, .int .i64 i5, .int .i64 i6, .slice A7 n7 c7, .slice A8 n8 c8, .int .i64 i9]⟩) G'
    [.acc (.slice A0 n0 c0) n0 p 5 1, .acc (.slice A8 n8 c8) n8 st' 56 5]
theorem s26 {G : Stab} {A0 A1 A7 A8 : Option Addr} {n0 n1 n7 n8 c0 c1 c7 c8 : Nat} {p0 p1 p7 st : List Value} {hst : Bool} {nm : ByteArray} {i4 i5 i6 i9 : Int}
    (h0 : Row G 1 1 A0 n0 p0) (h1 : Row G 1 1 A1 n1 p1) (h7 : Row G 1 1 A7 n7 p7) (h8 : Row G 5 48 A8 n8 st) (hs : Steps G n8 st) :
    Con Try.prog 26 ⟨[.agg ⟨[.slice A0 n0 c0, .slice A1 n1 c1, .bool hst, .string nm, .int .i64 i4, .int .i64 i5, .int .i64 i6, .slice A7 n7 c7, .slice A8 n8 c8, .int .i64 i9]⟩]⟩ G []
      (Gives (Φ26 n0 n1 n7 n8 p0 st hst nm i4 i5 i6 i9 G)) := by
  refine Con.of_vc ce26 ks26 mixed (by simp [cd26]) fun Γ hP hk => ?_
  simp only [cd26]
  repeat' first
    | with_reducible refine thn_n ?_
    | with_reducible refine thn_r ?_
    | with_reducible refine thn_e ?_
    | with_reducible refine blk_n ?_
    | with_reducible refine blk_r ?_
    | with_reducible refine blk_h ?_
    | with_reducible refine blk_m rfl ?_
    | with_reducible refine fin_r ?_
    | with_reducible refine VC.rseq hP hk fun K q hK hq => ?_
    | with_reducible refine VC.rend hP hk fun K q hK hq => ?_
    | with_reducible refine VC.seq ?_
    | with_reducible refine VC.skip ?_
    | with_reducible refine VC.ret ?_
    | with_reducible refine VC.exit ?_
    | with_reducible refine VC.block ?_
    | refine vops_gt rfl ?_
    | refine vops_gf rfl ?_
    | refine vsch_gt rfl ?_
    | refine vsch_gf rfl ?_
    | refine vall_gt rfl ?_ ?_
    | refine vall_gf rfl ?_ ?_
    | (refine vops_gb rfl (fun hb => ?_) (fun hb => ?_) <;> (try simp only [Bool.not_true, Bool.not_false] at hb) <;> (try simp -implicitDefEqProofs only [hb, if_true, if_false, ↓reduceIte, Bool.false_eq_true]))
    | (refine vsch_gb rfl (by simp only [noStop]) (fun hb => ?_) (fun hb => ?_) <;> (try simp only [Bool.not_true, Bool.not_false] at hb) <;> (try simp -implicitDefEqProofs only [hb, if_true, if_false, ↓reduceIte, Bool.false_eq_true]))
    | refine vall_gb rfl (fun hb => ?_) (fun hb => ?_) ?_
    | refine VC.condt rfl ?_
    | refine VC.condf rfl ?_
    | (refine hK.out _ _ _ _ (by simp -implicitDefEqProofs only [go_sem, ↓reduceIte, Int.reduceToNat, Int.reduceBEq, Int.reduceBNe, beq_self_eq_true, bne_self_eq_false, Int.reduceLT, Int.reduceLE, Int.reduceAdd, Int.reduceSub, Int.reduceNeg, decide_true, decide_false, gt_iff_lt, ge_iff_le, Int.natCast_one, Int.natCast_zero, Int.cast_ofNat_Int, Nat.reduceLeDiff, Nat.reduceEqDiff, Nat.reduceAdd, Nat.reduceSub, Nat.reduceMul, reduceCtorEq]; rfl) ?_; clear hK hq K q)
    | simp -implicitDefEqProofs only [go_sem, ↓reduceIte, Int.reduceToNat, Int.reduceBEq, Int.reduceBNe, beq_self_eq_true, bne_self_eq_false, Int.reduceLT, Int.reduceLE, Int.reduceAdd, Int.reduceSub, Int.reduceNeg, decide_true, decide_false, gt_iff_lt, ge_iff_le, Int.natCast_one, Int.natCast_zero, Int.cast_ofNat_Int, Nat.reduceLeDiff, Nat.reduceEqDiff, Nat.reduceAdd, Nat.reduceSub, Nat.reduceMul, reduceCtorEq]
    | refine newB_own' fun b1 => ?_
    | refine callK.cps0 (s45 h0 h1) fun B0 d0 B1 d1 f0 f1 l0 l1 => ?_
    | refine callK.clone mixed h46 h7 fun B7 d7 f7 l7 => ?_
    | refine callK.clone mixed h47 h8 fun B8 d8 f8 l8 => ?_
    | refine rd1_hd rfl ?_
    | refine rd1_tl (rd1_hd rfl ?_)
    | refine rd1_tl (rd1_tl (rd1_hd rfl ?_))
    | refine rd1_tl (rd1_tl (rd1_tl (rd1_hd rfl ?_)))
    | refine rd1_tl (rd1_tl (rd1_tl (rd1_tl (rd1_hd rfl ?_))))
    | refine rd1_tl (rd1_tl (rd1_tl (rd1_tl (rd1_tl (rd1_hd rfl ?_)))))
    | refine rd1_tl (rd1_tl (rd1_tl (rd1_tl (rd1_tl (rd1_tl (rd1_hd rfl ?_))))))
    | refine rd1_tl (rd1_tl (rd1_tl (rd1_tl (rd1_tl (rd1_tl (rd1_tl (rd1_hd rfl ?_)))))))
    | refine rd1_tl (rd1_tl (rd1_tl (rd1_tl (rd1_tl (rd1_tl (rd1_tl (rd1_tl (rd1_hd rfl ?_))))))))
    | refine rdN_hd rfl ?_
    | refine rdN_tl (rdN_hd rfl ?_)
    | refine rdN_tl (rdN_tl (rdN_hd rfl ?_))
    | refine rdN_tl (rdN_tl (rdN_tl (rdN_hd rfl ?_)))
    | refine rdN_tl (rdN_tl (rdN_tl (rdN_tl (rdN_hd rfl ?_))))
    | refine rdN_tl (rdN_tl (rdN_tl (rdN_tl (rdN_tl (rdN_hd rfl ?_)))))
    | refine rdN_tl (rdN_tl (rdN_tl (rdN_tl (rdN_tl (rdN_tl (rdN_hd rfl ?_))))))
    | refine rdN_tl (rdN_tl (rdN_tl (rdN_tl (rdN_tl (rdN_tl (rdN_tl (rdN_hd rfl ?_)))))))
    | refine rdN_tl (rdN_tl (rdN_tl (rdN_tl (rdN_tl (rdN_tl (rdN_tl (rdN_tl (rdN_hd rfl ?_))))))))
    | refine stoK.hd (by simp) ?_
    | refine stoK.tl (stoK.hd (by simp) ?_)
    | refine stoK.tl (stoK.tl (stoK.hd (by simp) ?_))
    | refine stoK.tl (stoK.tl (stoK.tl (stoK.hd (by simp) ?_)))
    | refine stoK.tl (stoK.tl (stoK.tl (stoK.tl (stoK.hd (by simp) ?_))))
    | refine stoK.tl (stoK.tl (stoK.tl (stoK.tl (stoK.tl (stoK.hd (by simp) ?_)))))
    | refine stoK.tl (stoK.tl (stoK.tl (stoK.tl (stoK.tl (stoK.tl (stoK.hd (by simp) ?_))))))
    | refine stoK.tl (stoK.tl (stoK.tl (stoK.tl (stoK.tl (stoK.tl (stoK.tl (stoK.hd (by simp) ?_)))))))
    | refine stoK.tl (stoK.tl (stoK.tl (stoK.tl (stoK.tl (stoK.tl (stoK.tl (stoK.tl (stoK.hd (by simp) ?_))))))))
    | exact ⟨rfl, rfl, rfl⟩
    | (refine And.intro ?_ ?_; (· omega))
    | refine ⟨fun hg => ?_, fun hg => ?_⟩
    | (refine VC.condb rfl (fun hg => ?_) (fun hg => ?_) <;> (try simp -implicitDefEqProofs only [hg, if_true, if_false, ↓reduceIte, Bool.false_eq_true]))
    | fail
  rename_i b0
  refine VC.fixRow (L1 := [.obj b0 _ _, .obj b1 _ _, .acc (.slice B0 n0 d0) n0 _ _ _, .acc (.slice B7 n7 d7) n7 _ _ _, .acc (.slice B8 n8 d8) n8 _ _ _]) 1 (by (try simp only [lent, List.cons_append, List.nil_append]); repeat' first | exact List.Perm.refl _ | ((with_reducible refine permTake (pre := []) rfl ?_); simp only [List.cons_append, List.nil_append]) | ((with_reducible refine permTake (pre := [_]) rfl ?_); simp only [List.cons_append, List.nil_append]) | ((with_reducible refine permTake (pre := [_, _]) rfl ?_); simp only [List.cons_append, List.nil_append]) | ((with_reducible refine permTake (pre := [_, _, _]) rfl ?_); simp only [List.cons_append, List.nil_append]) | ((with_reducible refine permTake (pre := [_, _, _, _]) rfl ?_); simp only [List.cons_append, List.nil_append]) | ((with_reducible refine permTake (pre := [_, _, _, _, _]) rfl ?_); simp only [List.cons_append, List.nil_append]) | ((with_reducible refine permTake (pre := [_, _, _, _, _, _]) rfl ?_); simp only [List.cons_append, List.nil_append]) | fail) h1.one h1.size fun G1 g1 r1 => ?_
  refine VC.fixRow (L1 := [.obj b0 _ _, .obj b1 _ _, .acc (.slice B0 n0 d0) n0 _ _ _, .acc (.slice B8 n8 d8) n8 _ _ _]) 1 (by (try simp only [lent, List.cons_append, List.nil_append]); repeat' first | exact List.Perm.refl _ | ((with_reducible refine permTake (pre := []) rfl ?_); simp only [List.cons_append, List.nil_append]) | ((with_reducible refine permTake (pre := [_]) rfl ?_); simp only [List.cons_append, List.nil_append]) | ((with_reducible refine permTake (pre := [_, _]) rfl ?_); simp only [List.cons_append, List.nil_append]) | ((with_reducible refine permTake (pre := [_, _, _]) rfl ?_); simp only [List.cons_append, List.nil_append]) | ((with_reducible refine permTake (pre := [_, _, _, _]) rfl ?_); simp only [List.cons_append, List.nil_append]) | ((with_reducible refine permTake (pre := [_, _, _, _, _]) rfl ?_); simp only [List.cons_append, List.nil_append]) | ((with_reducible refine permTake (pre := [_, _, _, _, _, _]) rfl ?_); simp only [List.cons_append, List.nil_append]) | fail) h7.one h7.size fun G7 g7 r7 => ?_
  refine VC.loop (fun j : Nat => [(1, .pointer (some ⟨b0, 0, none⟩)), (2, .pointer (some ⟨b1, 0, none⟩)), (23, .int .i64 n8), (24, .int .i64 (j : Int))])
    (fun j G' L' => j ≤ n8 ∧ G7.Le G' ∧ ∃ st', L' = [.obj b0 [.slice B0 n0 d0, .slice B1 n1 d1, .bool hst, .string nm, .int .i64 i4, .int .i64 i5, .int .i64 i6, .slice B7 n7 d7, .slice B8 n8 d8, .int .i64 i9] 29,
      .obj b1 [.slice none 0 0, .slice none 0 0, .bool false, .string ⟨#[]⟩, .int .i64 0, .int .i64 0, .int .i64 0, .slice none 0 0, .slice none 0 0, .int .i64 0] 29, .acc (.slice B0 n0 d0) n0 p0 5 1, .acc (.slice B8 n8 d8) n8 st' 56 5] ∧
      Steps G' n8 st' ∧ ∀ j, j < n8 → st'[j * 5]? = st[j * 5]?) (fun j => n8 - j) 0 (by simp [Env.Sub, Env.get]) ⟨by omega, Stab.Le.refl _, st, rfl, hs.mono (g1.trans g7), fun _ _ => rfl⟩ ?_
  rintro j G' _ ⟨hj, hG, st', rfl, hs', ho⟩
  repeat' first
    | with_reducible refine thn_n ?_
    | with_reducible refine thn_r ?_
    | with_reducible refine thn_e ?_
    | with_reducible refine blk_n ?_
    | with_reducible refine blk_r ?_
    | with_reducible refine blk_h ?_
    | with_reducible refine blk_m rfl ?_
    | with_reducible refine fin_r ?_
    | with_reducible refine VC.rseq hP hk fun K q hK hq => ?_
    | with_reducible refine VC.rend hP hk fun K q hK hq => ?_
    | with_reducible refine VC.seq ?_
    | with_reducible refine VC.skip ?_
    | with_reducible refine VC.ret ?_
    | with_reducible refine VC.exit ?_
    | with_reducible refine VC.block ?_
    | refine vops_gt rfl ?_
    | refine vops_gf rfl ?_
    | refine vsch_gt rfl ?_
    | refine vsch_gf rfl ?_
    | refine vall_gt rfl ?_ ?_
    | refine vall_gf rfl ?_ ?_
    | (refine vops_gb rfl (fun hb => ?_) (fun hb => ?_) <;> (try simp only [Bool.not_true, Bool.not_false] at hb) <;> (try simp -implicitDefEqProofs only [hb, if_true, if_false, ↓reduceIte, Bool.false_eq_true]))
    | (refine vsch_gb rfl (by simp only [noStop]) (fun hb => ?_) (fun hb => ?_) <;> (try simp only [Bool.not_true, Bool.not_false] at hb) <;> (try simp -implicitDefEqProofs only [hb, if_true, if_false, ↓reduceIte, Bool.false_eq_true]))
    | refine vall_gb rfl (fun hb => ?_) (fun hb => ?_) ?_
    | refine VC.condt rfl ?_
    | refine VC.condf rfl ?_
    | (refine hK.out _ _ _ _ (by simp -implicitDefEqProofs only [go_sem, ↓reduceIte, Int.reduceToNat, Int.reduceBEq, Int.reduceBNe, beq_self_eq_true, bne_self_eq_false, Int.reduceLT, Int.reduceLE, Int.reduceAdd, Int.reduceSub, Int.reduceNeg, decide_true, decide_false, gt_iff_lt, ge_iff_le, Int.natCast_one, Int.natCast_zero, Int.cast_ofNat_Int, Nat.reduceLeDiff, Nat.reduceEqDiff, Nat.reduceAdd, Nat.reduceSub, Nat.reduceMul, reduceCtorEq]; rfl) ?_; clear hK hq K q)
    | simp -implicitDefEqProofs only [go_sem, ↓reduceIte, Int.reduceToNat, Int.reduceBEq, Int.reduceBNe, beq_self_eq_true, bne_self_eq_false, Int.reduceLT, Int.reduceLE, Int.reduceAdd, Int.reduceSub, Int.reduceNeg, decide_true, decide_false, gt_iff_lt, ge_iff_le, Int.natCast_one, Int.natCast_zero, Int.cast_ofNat_Int, Nat.reduceLeDiff, Nat.reduceEqDiff, Nat.reduceAdd, Nat.reduceSub, Nat.reduceMul, reduceCtorEq]
    | refine rd1_hd rfl ?_
    | refine rd1_tl (rd1_hd rfl ?_)
    | refine rd1_tl (rd1_tl (rd1_hd rfl ?_))
    | refine rd1_tl (rd1_tl (rd1_tl (rd1_hd rfl ?_)))
    | refine rd1_tl (rd1_tl (rd1_tl (rd1_tl (rd1_hd rfl ?_))))
    | refine rd1_tl (rd1_tl (rd1_tl (rd1_tl (rd1_tl (rd1_hd rfl ?_)))))
    | refine rd1_tl (rd1_tl (rd1_tl (rd1_tl (rd1_tl (rd1_tl (rd1_hd rfl ?_))))))
    | refine rd1_tl (rd1_tl (rd1_tl (rd1_tl (rd1_tl (rd1_tl (rd1_tl (rd1_hd rfl ?_)))))))
    | refine rd1_tl (rd1_tl (rd1_tl (rd1_tl (rd1_tl (rd1_tl (rd1_tl (rd1_tl (rd1_hd rfl ?_))))))))
    | refine rdN_hd rfl ?_
    | refine rdN_tl (rdN_hd rfl ?_)
    | refine rdN_tl (rdN_tl (rdN_hd rfl ?_))
    | refine rdN_tl (rdN_tl (rdN_tl (rdN_hd rfl ?_)))
    | refine rdN_tl (rdN_tl (rdN_tl (rdN_tl (rdN_hd rfl ?_))))
    | refine rdN_tl (rdN_tl (rdN_tl (rdN_tl (rdN_tl (rdN_hd rfl ?_)))))
    | refine rdN_tl (rdN_tl (rdN_tl (rdN_tl (rdN_tl (rdN_tl (rdN_hd rfl ?_))))))
    | refine rdN_tl (rdN_tl (rdN_tl (rdN_tl (rdN_tl (rdN_tl (rdN_tl (rdN_hd rfl ?_)))))))
    | refine rdN_tl (rdN_tl (rdN_tl (rdN_tl (rdN_tl (rdN_tl (rdN_tl (rdN_tl (rdN_hd rfl ?_))))))))
    | refine stoK.hd (by simp) ?_
    | refine stoK.tl (stoK.hd (by simp) ?_)
    | refine stoK.tl (stoK.tl (stoK.hd (by simp) ?_))
    | refine stoK.tl (stoK.tl (stoK.tl (stoK.hd (by simp) ?_)))
    | refine stoK.tl (stoK.tl (stoK.tl (stoK.tl (stoK.hd (by simp) ?_))))
    | refine stoK.tl (stoK.tl (stoK.tl (stoK.tl (stoK.tl (stoK.hd (by simp) ?_)))))
    | refine stoK.tl (stoK.tl (stoK.tl (stoK.tl (stoK.tl (stoK.tl (stoK.hd (by simp) ?_))))))
    | refine stoK.tl (stoK.tl (stoK.tl (stoK.tl (stoK.tl (stoK.tl (stoK.tl (stoK.hd (by simp) ?_)))))))
    | refine stoK.tl (stoK.tl (stoK.tl (stoK.tl (stoK.tl (stoK.tl (stoK.tl (stoK.tl (stoK.hd (by simp) ?_))))))))
    | exact ⟨rfl, rfl, rfl⟩
    | (refine And.intro ?_ ?_; (· omega))
    | refine ⟨fun hg => ?_, fun hg => ?_⟩
    | (refine VC.condb rfl (fun hg => ?_) (fun hg => ?_) <;> (try simp -implicitDefEqProofs only [hg, if_true, if_false, ↓reduceIte, Bool.false_eq_true]))
    | fail
  · have hj' : j < n8 := by simpa using hg
    obtain ⟨A, m, c, cs, et, rt⟩ := hs'.to j hj'
    rcases f8 with ⟨_, h, _⟩ | ⟨b8, rfl⟩
    · omega
    have hl := hs'.len
    refine VC.dend hP hk ([.acc (.slice (some ⟨b8, 0, none⟩) n8 d8) n8 st' 56 5]) ([(.obj b0 _ 29, none), (.obj b1 _ 29, none), (.acc (.slice B0 n0 d0) n0 p0 5 1, none)]) (by (try simp only [lent, List.cons_append, List.nil_append]); repeat' first | exact List.Perm.refl _ | ((with_reducible refine permTake (pre := []) rfl ?_); simp only [List.cons_append, List.nil_append]) | ((with_reducible refine permTake (pre := [_]) rfl ?_); simp only [List.cons_append, List.nil_append]) | ((with_reducible refine permTake (pre := [_, _]) rfl ?_); simp only [List.cons_append, List.nil_append]) | ((with_reducible refine permTake (pre := [_, _, _]) rfl ?_); simp only [List.cons_append, List.nil_append]) | ((with_reducible refine permTake (pre := [_, _, _, _]) rfl ?_); simp only [List.cons_append, List.nil_append]) | ((with_reducible refine permTake (pre := [_, _, _, _, _]) rfl ?_); simp only [List.cons_append, List.nil_append]) | ((with_reducible refine permTake (pre := [_, _, _, _, _, _]) rfl ?_); simp only [List.cons_append, List.nil_append]) | fail) fun K q hK hq => ?_
    try simp -implicitDefEqProofs only [go_sem, ↓reduceIte, Int.reduceToNat, Int.reduceBEq, Int.reduceBNe, beq_self_eq_true, bne_self_eq_false, Int.reduceLT, Int.reduceLE, Int.reduceAdd, Int.reduceSub, Int.reduceNeg, decide_true, decide_false, gt_iff_lt, ge_iff_le, Int.natCast_one, Int.natCast_zero, Int.cast_ofNat_Int, Nat.reduceLeDiff, Nat.reduceEqDiff, Nat.reduceAdd, Nat.reduceSub, Nat.reduceMul, reduceCtorEq]
    repeat' first
      | with_reducible refine thn_n ?_
      | with_reducible refine thn_r ?_
      | with_reducible refine thn_e ?_
      | with_reducible refine blk_n ?_
      | with_reducible refine blk_r ?_
      | with_reducible refine blk_h ?_
      | with_reducible refine blk_m rfl ?_
      | with_reducible refine fin_n ?_
      | with_reducible refine fin_r ?_
      | with_reducible refine VC.seq ?_
      | with_reducible refine VC.skip ?_
      | with_reducible refine VC.ret ?_
      | with_reducible refine VC.exit ?_
      | with_reducible refine VC.block ?_
      | refine vops_gt rfl ?_
      | refine vops_gf rfl ?_
      | refine vsch_gt rfl ?_
      | refine vsch_gf rfl ?_
      | refine vall_gt rfl ?_ ?_
      | refine vall_gf rfl ?_ ?_
      | (refine vops_gb rfl (fun hb => ?_) (fun hb => ?_) <;> (try simp only [Bool.not_true, Bool.not_false] at hb) <;> (try simp -implicitDefEqProofs only [hb, if_true, if_false, ↓reduceIte, Bool.false_eq_true]))
      | (refine vsch_gb rfl (by simp only [noStop]) (fun hb => ?_) (fun hb => ?_) <;> (try simp only [Bool.not_true, Bool.not_false] at hb) <;> (try simp -implicitDefEqProofs only [hb, if_true, if_false, ↓reduceIte, Bool.false_eq_true]))
      | refine vall_gb rfl (fun hb => ?_) (fun hb => ?_) ?_
      | refine VC.condt rfl ?_
      | refine VC.condf rfl ?_
      | (refine hK.out _ _ _ _ (by simp -implicitDefEqProofs only [go_sem, ↓reduceIte, Int.reduceToNat, Int.reduceBEq, Int.reduceBNe, beq_self_eq_true, bne_self_eq_false, Int.reduceLT, Int.reduceLE, Int.reduceAdd, Int.reduceSub, Int.reduceNeg, decide_true, decide_false, gt_iff_lt, ge_iff_le, Int.natCast_one, Int.natCast_zero, Int.cast_ofNat_Int, Nat.reduceLeDiff, Nat.reduceEqDiff, Nat.reduceAdd, Nat.reduceSub, Nat.reduceMul, reduceCtorEq]; rfl) ?_; clear hK hq K q)
      | simp -implicitDefEqProofs only [go_sem, ↓reduceIte, Int.reduceToNat, Int.reduceBEq, Int.reduceBNe, beq_self_eq_true, bne_self_eq_false, Int.reduceLT, Int.reduceLE, Int.reduceAdd, Int.reduceSub, Int.reduceNeg, decide_true, decide_false, gt_iff_lt, ge_iff_le, Int.natCast_one, Int.natCast_zero, Int.cast_ofNat_Int, Nat.reduceLeDiff, Nat.reduceEqDiff, Nat.reduceAdd, Nat.reduceSub, Nat.reduceMul, reduceCtorEq]
      | refine rd1_acc et ?_
      | refine callK.clone mixed h48 rt fun B d f l => ?_
      | refine stoK.hdA (by simp; omega) ?_
      | refine rd1_hd rfl ?_
      | refine rd1_tl (rd1_hd rfl ?_)
      | refine rd1_tl (rd1_tl (rd1_hd rfl ?_))
      | refine rd1_tl (rd1_tl (rd1_tl (rd1_hd rfl ?_)))
      | refine rd1_tl (rd1_tl (rd1_tl (rd1_tl (rd1_hd rfl ?_))))
      | refine rd1_tl (rd1_tl (rd1_tl (rd1_tl (rd1_tl (rd1_hd rfl ?_)))))
      | refine rd1_tl (rd1_tl (rd1_tl (rd1_tl (rd1_tl (rd1_tl (rd1_hd rfl ?_))))))
      | refine rd1_tl (rd1_tl (rd1_tl (rd1_tl (rd1_tl (rd1_tl (rd1_tl (rd1_hd rfl ?_)))))))
      | refine rd1_tl (rd1_tl (rd1_tl (rd1_tl (rd1_tl (rd1_tl (rd1_tl (rd1_tl (rd1_hd rfl ?_))))))))
      | refine rdN_hd rfl ?_
      | refine rdN_tl (rdN_hd rfl ?_)
      | refine rdN_tl (rdN_tl (rdN_hd rfl ?_))
      | refine rdN_tl (rdN_tl (rdN_tl (rdN_hd rfl ?_)))
      | refine rdN_tl (rdN_tl (rdN_tl (rdN_tl (rdN_hd rfl ?_))))
      | refine rdN_tl (rdN_tl (rdN_tl (rdN_tl (rdN_tl (rdN_hd rfl ?_)))))
      | refine rdN_tl (rdN_tl (rdN_tl (rdN_tl (rdN_tl (rdN_tl (rdN_hd rfl ?_))))))
      | refine rdN_tl (rdN_tl (rdN_tl (rdN_tl (rdN_tl (rdN_tl (rdN_tl (rdN_hd rfl ?_)))))))
      | refine rdN_tl (rdN_tl (rdN_tl (rdN_tl (rdN_tl (rdN_tl (rdN_tl (rdN_tl (rdN_hd rfl ?_))))))))
      | refine stoK.hd (by simp) ?_
      | refine stoK.tl (stoK.hd (by simp) ?_)
      | refine stoK.tl (stoK.tl (stoK.hd (by simp) ?_))
      | refine stoK.tl (stoK.tl (stoK.tl (stoK.hd (by simp) ?_)))
      | refine stoK.tl (stoK.tl (stoK.tl (stoK.tl (stoK.hd (by simp) ?_))))
      | refine stoK.tl (stoK.tl (stoK.tl (stoK.tl (stoK.tl (stoK.hd (by simp) ?_)))))
      | refine stoK.tl (stoK.tl (stoK.tl (stoK.tl (stoK.tl (stoK.tl (stoK.hd (by simp) ?_))))))
      | refine stoK.tl (stoK.tl (stoK.tl (stoK.tl (stoK.tl (stoK.tl (stoK.tl (stoK.hd (by simp) ?_)))))))
      | refine stoK.tl (stoK.tl (stoK.tl (stoK.tl (stoK.tl (stoK.tl (stoK.tl (stoK.tl (stoK.hd (by simp) ?_))))))))
      | exact ⟨rfl, rfl, rfl⟩
      | (refine And.intro ?_ ?_; (· omega))
      | refine ⟨fun hg => ?_, fun hg => ?_⟩
      | (refine VC.condb rfl (fun hg => ?_) (fun hg => ?_) <;> (try simp -implicitDefEqProofs only [hg, if_true, if_false, ↓reduceIte, Bool.false_eq_true]))
      | fail
    refine VC.fixRow (L1 := [.obj b0 _ _, .obj b1 _ _, .acc (.slice B0 n0 d0) n0 _ _ _, .acc (.slice (some ⟨b8, 0, none⟩) n8 d8) n8 _ _ _]) 24 (by (try simp only [lent, List.cons_append, List.nil_append]); repeat' first | exact List.Perm.refl _ | ((with_reducible refine permTake (pre := []) rfl ?_); simp only [List.cons_append, List.nil_append]) | ((with_reducible refine permTake (pre := [_]) rfl ?_); simp only [List.cons_append, List.nil_append]) | ((with_reducible refine permTake (pre := [_, _]) rfl ?_); simp only [List.cons_append, List.nil_append]) | ((with_reducible refine permTake (pre := [_, _, _]) rfl ?_); simp only [List.cons_append, List.nil_append]) | ((with_reducible refine permTake (pre := [_, _, _, _]) rfl ?_); simp only [List.cons_append, List.nil_append]) | ((with_reducible refine permTake (pre := [_, _, _, _, _]) rfl ?_); simp only [List.cons_append, List.nil_append]) | ((with_reducible refine permTake (pre := [_, _, _, _, _, _]) rfl ?_); simp only [List.cons_append, List.nil_append]) | fail) rt.one rt.size fun G2 g2 r2 => ?_
    repeat' first
      | with_reducible refine thn_n ?_
      | with_reducible refine thn_r ?_
      | with_reducible refine thn_e ?_
      | with_reducible refine blk_n ?_
      | with_reducible refine blk_r ?_
      | with_reducible refine blk_h ?_
      | with_reducible refine blk_m rfl ?_
      | with_reducible refine fin_n ?_
      | with_reducible refine fin_r ?_
      | with_reducible refine VC.rseq hP hk fun K q hK hq => ?_
      | with_reducible refine VC.rend hP hk fun K q hK hq => ?_
      | with_reducible refine VC.seq ?_
      | with_reducible refine VC.skip ?_
      | with_reducible refine VC.ret ?_
      | with_reducible refine VC.exit ?_
      | with_reducible refine VC.block ?_
      | refine vops_gt rfl ?_
      | refine vops_gf rfl ?_
      | refine vsch_gt rfl ?_
      | refine vsch_gf rfl ?_
      | refine vall_gt rfl ?_ ?_
      | refine vall_gf rfl ?_ ?_
      | (refine vops_gb rfl (fun hb => ?_) (fun hb => ?_) <;> (try simp only [Bool.not_true, Bool.not_false] at hb) <;> (try simp -implicitDefEqProofs only [hb, if_true, if_false, ↓reduceIte, Bool.false_eq_true]))
      | (refine vsch_gb rfl (by simp only [noStop]) (fun hb => ?_) (fun hb => ?_) <;> (try simp only [Bool.not_true, Bool.not_false] at hb) <;> (try simp -implicitDefEqProofs only [hb, if_true, if_false, ↓reduceIte, Bool.false_eq_true]))
      | refine vall_gb rfl (fun hb => ?_) (fun hb => ?_) ?_
      | refine VC.condt rfl ?_
      | refine VC.condf rfl ?_
      | (refine hK.out _ _ _ _ (by simp -implicitDefEqProofs only [go_sem, ↓reduceIte, Int.reduceToNat, Int.reduceBEq, Int.reduceBNe, beq_self_eq_true, bne_self_eq_false, Int.reduceLT, Int.reduceLE, Int.reduceAdd, Int.reduceSub, Int.reduceNeg, decide_true, decide_false, gt_iff_lt, ge_iff_le, Int.natCast_one, Int.natCast_zero, Int.cast_ofNat_Int, Nat.reduceLeDiff, Nat.reduceEqDiff, Nat.reduceAdd, Nat.reduceSub, Nat.reduceMul, reduceCtorEq]; rfl) ?_; clear hK hq K q)
      | simp -implicitDefEqProofs only [go_sem, ↓reduceIte, Int.reduceToNat, Int.reduceBEq, Int.reduceBNe, beq_self_eq_true, bne_self_eq_false, Int.reduceLT, Int.reduceLE, Int.reduceAdd, Int.reduceSub, Int.reduceNeg, decide_true, decide_false, gt_iff_lt, ge_iff_le, Int.natCast_one, Int.natCast_zero, Int.cast_ofNat_Int, Nat.reduceLeDiff, Nat.reduceEqDiff, Nat.reduceAdd, Nat.reduceSub, Nat.reduceMul, reduceCtorEq]
      | refine rd1_hd rfl ?_
      | refine rd1_tl (rd1_hd rfl ?_)
      | refine rd1_tl (rd1_tl (rd1_hd rfl ?_))
      | refine rd1_tl (rd1_tl (rd1_tl (rd1_hd rfl ?_)))
      | refine rd1_tl (rd1_tl (rd1_tl (rd1_tl (rd1_hd rfl ?_))))
      | refine rd1_tl (rd1_tl (rd1_tl (rd1_tl (rd1_tl (rd1_hd rfl ?_)))))
      | refine rd1_tl (rd1_tl (rd1_tl (rd1_tl (rd1_tl (rd1_tl (rd1_hd rfl ?_))))))
      | refine rd1_tl (rd1_tl (rd1_tl (rd1_tl (rd1_tl (rd1_tl (rd1_tl (rd1_hd rfl ?_)))))))
      | refine rd1_tl (rd1_tl (rd1_tl (rd1_tl (rd1_tl (rd1_tl (rd1_tl (rd1_tl (rd1_hd rfl ?_))))))))
      | refine rdN_hd rfl ?_
      | refine rdN_tl (rdN_hd rfl ?_)
      | refine rdN_tl (rdN_tl (rdN_hd rfl ?_))
      | refine rdN_tl (rdN_tl (rdN_tl (rdN_hd rfl ?_)))
      | refine rdN_tl (rdN_tl (rdN_tl (rdN_tl (rdN_hd rfl ?_))))
      | refine rdN_tl (rdN_tl (rdN_tl (rdN_tl (rdN_tl (rdN_hd rfl ?_)))))
      | refine rdN_tl (rdN_tl (rdN_tl (rdN_tl (rdN_tl (rdN_tl (rdN_hd rfl ?_))))))
      | refine rdN_tl (rdN_tl (rdN_tl (rdN_tl (rdN_tl (rdN_tl (rdN_tl (rdN_hd rfl ?_)))))))
      | refine rdN_tl (rdN_tl (rdN_tl (rdN_tl (rdN_tl (rdN_tl (rdN_tl (rdN_tl (rdN_hd rfl ?_))))))))
      | refine stoK.hd (by simp) ?_
      | refine stoK.tl (stoK.hd (by simp) ?_)
      | refine stoK.tl (stoK.tl (stoK.hd (by simp) ?_))
      | refine stoK.tl (stoK.tl (stoK.tl (stoK.hd (by simp) ?_)))
      | refine stoK.tl (stoK.tl (stoK.tl (stoK.tl (stoK.hd (by simp) ?_))))
      | refine stoK.tl (stoK.tl (stoK.tl (stoK.tl (stoK.tl (stoK.hd (by simp) ?_)))))
      | refine stoK.tl (stoK.tl (stoK.tl (stoK.tl (stoK.tl (stoK.tl (stoK.hd (by simp) ?_))))))
      | refine stoK.tl (stoK.tl (stoK.tl (stoK.tl (stoK.tl (stoK.tl (stoK.tl (stoK.hd (by simp) ?_)))))))
      | refine stoK.tl (stoK.tl (stoK.tl (stoK.tl (stoK.tl (stoK.tl (stoK.tl (stoK.tl (stoK.hd (by simp) ?_))))))))
      | exact ⟨rfl, rfl, rfl⟩
      | (refine And.intro ?_ ?_; (· omega))
      | refine ⟨fun hg => ?_, fun hg => ?_⟩
      | (refine VC.condb rfl (fun hg => ?_) (fun hg => ?_) <;> (try simp -implicitDefEqProofs only [hg, if_true, if_false, ↓reduceIte, Bool.false_eq_true]))
      | fail
    refine ⟨j + 1, by omega, ?_, by omega, hG.trans g2, _, rfl, (hs'.mono g2).set hj' r2, fun i hi => ?_⟩
    · simp [Env.Sub, Env.get]
      exact wrap64 (by omega) (by have := h8.max; omega)
    · rw [putAt_one (by omega), if_neg (by omega)]; exact ho i hi
  · obtain rfl : j = n8 := by have : ¬ j < n8 := by simpa using hg
                              omega
    exact Gives.ret (fun k hk => hk _ _ _ _ _ _ _ _ _ _ _ _ ((g1.trans g7).trans hG) f0 f8 (r1.mono (g7.trans hG)) (r7.mono hG) hs' ho) (by repeat' first | exact List.Sublist.refl _ | exact List.nil_sublist _ | (with_reducible refine List.Sublist.cons_cons _ ?_) | refine List.Sublist.cons _ ?_ | fail)
end Go.Proofs.Ytpddchnapcmmkaa
