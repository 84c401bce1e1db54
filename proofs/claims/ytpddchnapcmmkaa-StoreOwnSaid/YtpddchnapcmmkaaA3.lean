import Derived.Test.YtpddchnapcmmkaaA2
namespace Go.Proofs.Ytpddchnapcmmkaa
open Go Go.Sy
set_option linter.unusedSimpArgs false
set_option linter.unusedVariables false
-- 24 (*trunnion/store.Store).is
def cd24 : VFun := ⟨11, [.tmp 2], (.seq (.reg [⟨(some 2), none, (.rd (.mov (.val (.bool false))))⟩])
  (.seq (.reg [⟨(some 3), none, (.rd (.mov (.tmp 0)))⟩, ⟨(some 4), none, (.rd (.eqP true (.tmp 3) (.val (.pointer none))))⟩, ⟨(some 5), none, (.rd (.mov (.tmp 4)))⟩, ⟨(some 6), (some (5, true)), (.rd (.mov (.tmp 0)))⟩, ⟨(some 7), (some (5, true)), (.rd (.nilck (.tmp 6)))⟩, ⟨(some 8), (some (5, true)), (.rd (.fa 0 (.tmp 7)))⟩, ⟨(some 9), (some (5, true)), (.rd (.load1 (.tmp 8)))⟩, ⟨(some 10), none, (.rd (.pick (.tmp 5) (.tmp 9) (.val (.bool false))))⟩, ⟨(some 2), none, (.rd (.mov (.tmp 10)))⟩])
  .ret))⟩
@[go_sem] def ks24 : List Nat := [0, 2]
theorem ce24 : comp Try.prog 24 = some cd24 := by kernel_rfl
-- 25 (*trunnion/store.row[trunnion/api.Fn]).add
def cd25 : VFun := ⟨21, [.tmp 4], (.seq (.reg [⟨(some 3), none, (.ef (.box 29 (.tmp 1)))⟩, ⟨(some 4), none, (.rd (.mov (.val (.int .i64 0))))⟩])
  (.seq (.draw (.take 0 [8, 9, 10] ⟨(some 5), none, (.rd (.mov (.tmp 0)))⟩ (.take 1 [2, 3, 4, 7, 8, 9, 10] ⟨(some 6), none, (.rd (.mov (.tmp 0)))⟩ (.take 2 [3, 4, 7, 8, 9, 10] ⟨(some 7), none, (.rd (.nilck (.tmp 6)))⟩ (.take 3 [4, 7, 8, 9, 10] ⟨(some 8), none, (.rd (.fa 0 (.tmp 7)))⟩ (.take 4 [7, 8, 9, 10] ⟨(some 9), none, (.rd (.load1 (.tmp 8)))⟩ (.all [(5, ⟨(some 10), none, (.rd (.loadN 10 (.tmp 3)))⟩, (.all [(6, ⟨(some 11), none, (.ef (.bsl 29 1 [(.slice none 0 0), (.slice none 0 0), (.bool false), (.string ⟨#[]⟩), (.int .i64 0), (.int .i64 0), (.int .i64 0), (.slice none 0 0), (.slice none 0 0), (.int .i64 0)] [(0, 10, (.tmp 10))]))⟩, (.all [(7, ⟨(some 12), none, (.ef (.app 29 10 152 (.tmp 9) (.tmp 11)))⟩, (.take 8 [9, 10] ⟨(some 13), none, (.rd (.nilck (.tmp 5)))⟩ (.take 9 [10] ⟨(some 14), none, (.rd (.fa 0 (.tmp 13)))⟩ (.all [(10, ⟨none, none, (.ef (.store 1 (.tmp 14) (.tmp 12)))⟩, .done)]))))]))]))])))))))
  (.seq (.reg [⟨(some 15), none, (.rd (.mov (.tmp 0)))⟩, ⟨(some 16), none, (.rd (.nilck (.tmp 15)))⟩, ⟨(some 17), none, (.rd (.fa 0 (.tmp 16)))⟩, ⟨(some 18), none, (.rd (.load1 (.tmp 17)))⟩, ⟨(some 19), none, (.rd (.lenL (.tmp 18)))⟩, ⟨(some 20), none, (.rd (.biI .sub (.tmp 19) (.val (.int .i64 1))))⟩, ⟨(some 4), none, (.rd (.mov (.tmp 20)))⟩])
  .ret)))⟩
@[go_sem] def ks25 : List Nat := [0, 1, 3, 4]
theorem ce25 : comp Try.prog 25 = some cd25 := by kernel_rfl
-- 27 (*trunnion/store.row[trunnion/api.Inst]).add
def cd27 : VFun := ⟨21, [.tmp 4], (.seq (.reg [⟨(some 3), none, (.ef (.box 34 (.tmp 1)))⟩, ⟨(some 4), none, (.rd (.mov (.val (.int .i64 0))))⟩])
  (.seq (.draw (.take 0 [8, 9, 10] ⟨(some 5), none, (.rd (.mov (.tmp 0)))⟩ (.take 1 [2, 3, 4, 7, 8, 9, 10] ⟨(some 6), none, (.rd (.mov (.tmp 0)))⟩ (.take 2 [3, 4, 7, 8, 9, 10] ⟨(some 7), none, (.rd (.nilck (.tmp 6)))⟩ (.take 3 [4, 7, 8, 9, 10] ⟨(some 8), none, (.rd (.fa 0 (.tmp 7)))⟩ (.take 4 [7, 8, 9, 10] ⟨(some 9), none, (.rd (.load1 (.tmp 8)))⟩ (.all [(5, ⟨(some 10), none, (.rd (.loadN 6 (.tmp 3)))⟩, (.all [(6, ⟨(some 11), none, (.ef (.bsl 34 1 [(.slice none 0 0), (.slice none 0 0), (.slice none 0 0), (.slice none 0 0), (.slice none 0 0), (.slice none 0 0)] [(0, 6, (.tmp 10))]))⟩, (.all [(7, ⟨(some 12), none, (.ef (.app 34 6 144 (.tmp 9) (.tmp 11)))⟩, (.take 8 [9, 10] ⟨(some 13), none, (.rd (.nilck (.tmp 5)))⟩ (.take 9 [10] ⟨(some 14), none, (.rd (.fa 0 (.tmp 13)))⟩ (.all [(10, ⟨none, none, (.ef (.store 1 (.tmp 14) (.tmp 12)))⟩, .done)]))))]))]))])))))))
  (.seq (.reg [⟨(some 15), none, (.rd (.mov (.tmp 0)))⟩, ⟨(some 16), none, (.rd (.nilck (.tmp 15)))⟩, ⟨(some 17), none, (.rd (.fa 0 (.tmp 16)))⟩, ⟨(some 18), none, (.rd (.load1 (.tmp 17)))⟩, ⟨(some 19), none, (.rd (.lenL (.tmp 18)))⟩, ⟨(some 20), none, (.rd (.biI .sub (.tmp 19) (.val (.int .i64 1))))⟩, ⟨(some 4), none, (.rd (.mov (.tmp 20)))⟩])
  .ret)))⟩
@[go_sem] def ks27 : List Nat := [0, 1, 3, 4]
theorem ce27 : comp Try.prog 27 = some cd27 := by kernel_rfl
-- 38 (*trunnion/store.row[*trunnion/cells.Table]).add
def cd38 : VFun := ⟨21, [.tmp 4], (.seq (.reg [⟨(some 4), none, (.rd (.mov (.val (.int .i64 0))))⟩])
  (.seq (.reg [⟨(some 5), none, (.rd (.mov (.tmp 0)))⟩, ⟨(some 6), none, (.rd (.mov (.tmp 0)))⟩, ⟨(some 7), none, (.rd (.nilck (.tmp 6)))⟩, ⟨(some 8), none, (.rd (.fa 0 (.tmp 7)))⟩, ⟨(some 9), none, (.rd (.load1 (.tmp 8)))⟩, ⟨(some 10), none, (.rd (.mov (.tmp 1)))⟩, ⟨(some 11), none, (.ef (.bsl 113 1 [(.pointer none)] [(0, 1, (.tmp 10))]))⟩, ⟨(some 12), none, (.ef (.app 113 1 8 (.tmp 9) (.tmp 11)))⟩, ⟨(some 13), none, (.rd (.nilck (.tmp 5)))⟩, ⟨(some 14), none, (.rd (.fa 0 (.tmp 13)))⟩, ⟨none, none, (.ef (.store 1 (.tmp 14) (.tmp 12)))⟩])
  (.seq (.reg [⟨(some 15), none, (.rd (.mov (.tmp 0)))⟩, ⟨(some 16), none, (.rd (.nilck (.tmp 15)))⟩, ⟨(some 17), none, (.rd (.fa 0 (.tmp 16)))⟩, ⟨(some 18), none, (.rd (.load1 (.tmp 17)))⟩, ⟨(some 19), none, (.rd (.lenL (.tmp 18)))⟩, ⟨(some 20), none, (.rd (.biI .sub (.tmp 19) (.val (.int .i64 1))))⟩, ⟨(some 4), none, (.rd (.mov (.tmp 20)))⟩])
  .ret)))⟩
@[go_sem] def ks38 : List Nat := [0, 1, 4]
theorem ce38 : comp Try.prog 38 = some cd38 := by kernel_rfl
theorem s24 {G : Stab} {s : Nat} {m : Bool} {r : List Value} : Con Try.prog 24 ⟨[.pointer (some ⟨s, 0, none⟩)]⟩ G [.obj s (.bool m :: r) 100] (Gives fun k => k (.bool m) G [.obj s (.bool m :: r) 100]) := by
  refine Con.of_vc ce24 ks24 mixed (by simp [cd24]) fun Γ hP hk => ?_
  simp only [cd24]
  repeat' first
    | with_reducible refine thn_n ?_
    | with_reducible refine thn_r ?_
    | with_reducible refine thn_e ?_
    | with_reducible refine blk_n ?_
    | with_reducible refine blk_r ?_
    | with_reducible refine blk_h ?_
    | with_reducible refine blk_m rfl ?_
    | with_reducible refine fin_n ?_
    | with_reducible refine fin_r ?_
    | with_reducible refine VC.rseq hP hk fun K q hK hq => ?_
    | with_reducible refine VC.rend hP hk fun K q hK hq => ?_
    | with_reducible refine VC.seq ?_
    | with_reducible refine VC.skip ?_
    | with_reducible refine VC.ret ?_
    | with_reducible refine VC.exit ?_
    | with_reducible refine VC.block ?_
    | refine vops_gt rfl ?_
    | refine vops_gf rfl ?_
    | refine vsch_gt rfl ?_
    | refine vsch_gf rfl ?_
    | refine vall_gt rfl ?_ ?_
    | refine vall_gf rfl ?_ ?_
    | (refine vops_gb rfl (fun hb => ?_) (fun hb => ?_) <;> (try simp only [Bool.not_true, Bool.not_false] at hb) <;> (try simp -implicitDefEqProofs only [hb, if_true, if_false, ↓reduceIte, Bool.false_eq_true]))
    | (refine vsch_gb rfl (by simp only [noStop]) (fun hb => ?_) (fun hb => ?_) <;> (try simp only [Bool.not_true, Bool.not_false] at hb) <;> (try simp -implicitDefEqProofs only [hb, if_true, if_false, ↓reduceIte, Bool.false_eq_true]))
    | refine vall_gb rfl (fun hb => ?_) (fun hb => ?_) ?_
    | refine VC.condt rfl ?_
    | refine VC.condf rfl ?_
    | (refine hK.out _ _ _ _ (by simp -implicitDefEqProofs only [go_sem, ↓reduceIte, Int.reduceToNat, Int.reduceBEq, Int.reduceBNe, beq_self_eq_true, bne_self_eq_false, Int.reduceLT, Int.reduceLE, Int.reduceAdd, Int.reduceSub, Int.reduceNeg, decide_true, decide_false, gt_iff_lt, ge_iff_le, Int.natCast_one, Int.natCast_zero, Int.cast_ofNat_Int, Nat.reduceLeDiff, Nat.reduceEqDiff, Nat.reduceAdd, Nat.reduceSub, Nat.reduceMul, reduceCtorEq]; rfl) ?_; clear hK hq K q)
    | simp -implicitDefEqProofs only [go_sem, ↓reduceIte, Int.reduceToNat, Int.reduceBEq, Int.reduceBNe, beq_self_eq_true, bne_self_eq_false, Int.reduceLT, Int.reduceLE, Int.reduceAdd, Int.reduceSub, Int.reduceNeg, decide_true, decide_false, gt_iff_lt, ge_iff_le, Int.natCast_one, Int.natCast_zero, Int.cast_ofNat_Int, Nat.reduceLeDiff, Nat.reduceEqDiff, Nat.reduceAdd, Nat.reduceSub, Nat.reduceMul, reduceCtorEq]
    | refine rd1_hd rfl ?_
    | refine rd1_tl (rd1_hd rfl ?_)
    | refine rd1_tl (rd1_tl (rd1_hd rfl ?_))
    | refine rd1_tl (rd1_tl (rd1_tl (rd1_hd rfl ?_)))
    | refine rd1_tl (rd1_tl (rd1_tl (rd1_tl (rd1_hd rfl ?_))))
    | refine rd1_tl (rd1_tl (rd1_tl (rd1_tl (rd1_tl (rd1_hd rfl ?_)))))
    | refine rd1_tl (rd1_tl (rd1_tl (rd1_tl (rd1_tl (rd1_tl (rd1_hd rfl ?_))))))
    | refine rd1_tl (rd1_tl (rd1_tl (rd1_tl (rd1_tl (rd1_tl (rd1_tl (rd1_hd rfl ?_)))))))
    | refine rd1_tl (rd1_tl (rd1_tl (rd1_tl (rd1_tl (rd1_tl (rd1_tl (rd1_tl (rd1_hd rfl ?_))))))))
    | refine rdN_hd rfl ?_
    | refine rdN_tl (rdN_hd rfl ?_)
    | refine rdN_tl (rdN_tl (rdN_hd rfl ?_))
    | refine rdN_tl (rdN_tl (rdN_tl (rdN_hd rfl ?_)))
    | refine rdN_tl (rdN_tl (rdN_tl (rdN_tl (rdN_hd rfl ?_))))
    | refine rdN_tl (rdN_tl (rdN_tl (rdN_tl (rdN_tl (rdN_hd rfl ?_)))))
    | refine rdN_tl (rdN_tl (rdN_tl (rdN_tl (rdN_tl (rdN_tl (rdN_hd rfl ?_))))))
    | refine rdN_tl (rdN_tl (rdN_tl (rdN_tl (rdN_tl (rdN_tl (rdN_tl (rdN_hd rfl ?_)))))))
    | refine rdN_tl (rdN_tl (rdN_tl (rdN_tl (rdN_tl (rdN_tl (rdN_tl (rdN_tl (rdN_hd rfl ?_))))))))
    | refine stoK.hd (by simp) ?_
    | refine stoK.tl (stoK.hd (by simp) ?_)
    | refine stoK.tl (stoK.tl (stoK.hd (by simp) ?_))
    | refine stoK.tl (stoK.tl (stoK.tl (stoK.hd (by simp) ?_)))
    | refine stoK.tl (stoK.tl (stoK.tl (stoK.tl (stoK.hd (by simp) ?_))))
    | refine stoK.tl (stoK.tl (stoK.tl (stoK.tl (stoK.tl (stoK.hd (by simp) ?_)))))
    | refine stoK.tl (stoK.tl (stoK.tl (stoK.tl (stoK.tl (stoK.tl (stoK.hd (by simp) ?_))))))
    | refine stoK.tl (stoK.tl (stoK.tl (stoK.tl (stoK.tl (stoK.tl (stoK.tl (stoK.hd (by simp) ?_)))))))
    | refine stoK.tl (stoK.tl (stoK.tl (stoK.tl (stoK.tl (stoK.tl (stoK.tl (stoK.tl (stoK.hd (by simp) ?_))))))))
    | exact ⟨rfl, rfl, rfl⟩
    | (refine And.intro ?_ ?_; (· omega))
    | refine ⟨fun hg => ?_, fun hg => ?_⟩
    | (refine VC.condb rfl (fun hg => ?_) (fun hg => ?_) <;> (try simp -implicitDefEqProofs only [hg, if_true, if_false, ↓reduceIte, Bool.false_eq_true]))
    | fail
  exact Gives.ret (fun k hk => hk) (by repeat' first | exact List.Sublist.refl _ | exact List.nil_sublist _ | (with_reducible refine List.Sublist.cons_cons _ ?_) | refine List.Sublist.cons _ ?_ | fail)
theorem s25 {G : Stab} {s n c : Nat} {A : Option Addr} {m T2 T3 T4 T5 x0 x1 x2 x3 x4 x5 x6 x7 x8 x9 : Value} {xs : List Value} (hn : n ≤ 1000) (hx : ∀ u ∈ [x0, x1, x2, x3, x4, x5, x6, x7, x8, x9], u.oneCell' = true) :
    Con Try.prog 25 ⟨[.pointer (some ⟨s, 1, none⟩), .agg ⟨[x0, x1, x2, x3, x4, x5, x6, x7, x8, x9]⟩]⟩ G [.obj s [m, .slice A n c, T2, T3, T4, T5] 100, .acc (.slice A n c) n xs 29 10]
      (Gives fun k => ∀ A' c', k (.int .i64 n) G [.obj s [m, .slice A' (n + 1) c', T2, T3, T4, T5] 100, .acc (.slice A' (n + 1) c') (n + 1) (xs ++ [x0, x1, x2, x3, x4, x5, x6, x7, x8, x9]) 29 10]) := by
  refine Con.of_vc ce25 ks25 mixed (by simp [cd25]) fun Γ hP hk => ?_
  simp only [cd25]
  simp only [go_sem] at hx
  repeat' first
    | with_reducible refine thn_n ?_
    | with_reducible refine thn_r ?_
    | with_reducible refine thn_e ?_
    | with_reducible refine blk_n ?_
    | with_reducible refine blk_r ?_
    | with_reducible refine blk_h ?_
    | with_reducible refine blk_m rfl ?_
    | with_reducible refine fin_n ?_
    | with_reducible refine fin_r ?_
    | with_reducible refine VC.rseq hP hk fun K q hK hq => ?_
    | with_reducible refine VC.rend hP hk fun K q hK hq => ?_
    | with_reducible refine VC.seq ?_
    | with_reducible refine VC.skip ?_
    | with_reducible refine VC.ret ?_
    | with_reducible refine VC.exit ?_
    | with_reducible refine VC.block ?_
    | refine vops_gt rfl ?_
    | refine vops_gf rfl ?_
    | refine vsch_gt rfl ?_
    | refine vsch_gf rfl ?_
    | refine vall_gt rfl ?_ ?_
    | refine vall_gf rfl ?_ ?_
    | (refine vops_gb rfl (fun hb => ?_) (fun hb => ?_) <;> (try simp only [Bool.not_true, Bool.not_false] at hb) <;> (try simp -implicitDefEqProofs only [hb, if_true, if_false, ↓reduceIte, Bool.false_eq_true]))
    | (refine vsch_gb rfl (by simp only [noStop]) (fun hb => ?_) (fun hb => ?_) <;> (try simp only [Bool.not_true, Bool.not_false] at hb) <;> (try simp -implicitDefEqProofs only [hb, if_true, if_false, ↓reduceIte, Bool.false_eq_true]))
    | refine vall_gb rfl (fun hb => ?_) (fun hb => ?_) ?_
    | refine VC.condt rfl ?_
    | refine VC.condf rfl ?_
    | (refine hK.out _ _ _ _ (by simp -implicitDefEqProofs only [go_sem, ↓reduceIte, Int.reduceToNat, Int.reduceBEq, Int.reduceBNe, beq_self_eq_true, bne_self_eq_false, Int.reduceLT, Int.reduceLE, Int.reduceAdd, Int.reduceSub, Int.reduceNeg, decide_true, decide_false, gt_iff_lt, ge_iff_le, Int.natCast_one, Int.natCast_zero, Int.cast_ofNat_Int, Nat.reduceLeDiff, Nat.reduceEqDiff, Nat.reduceAdd, Nat.reduceSub, Nat.reduceMul, reduceCtorEq]; rfl) ?_; clear hK hq K q)
    | simp -implicitDefEqProofs only [go_sem, ↓reduceIte, Int.reduceToNat, Int.reduceBEq, Int.reduceBNe, beq_self_eq_true, bne_self_eq_false, Int.reduceLT, Int.reduceLE, Int.reduceAdd, Int.reduceSub, Int.reduceNeg, decide_true, decide_false, gt_iff_lt, ge_iff_le, Int.natCast_one, Int.natCast_zero, Int.cast_ofNat_Int, Nat.reduceLeDiff, Nat.reduceEqDiff, Nat.reduceAdd, Nat.reduceSub, Nat.reduceMul, reduceCtorEq]
    | refine newB_own' fun b1 => ?_
    | refine rd1_hd rfl ?_
    | refine rd1_tl (rd1_hd rfl ?_)
    | refine rd1_tl (rd1_tl (rd1_hd rfl ?_))
    | refine rd1_tl (rd1_tl (rd1_tl (rd1_hd rfl ?_)))
    | refine rd1_tl (rd1_tl (rd1_tl (rd1_tl (rd1_hd rfl ?_))))
    | refine rd1_tl (rd1_tl (rd1_tl (rd1_tl (rd1_tl (rd1_hd rfl ?_)))))
    | refine rd1_tl (rd1_tl (rd1_tl (rd1_tl (rd1_tl (rd1_tl (rd1_hd rfl ?_))))))
    | refine rd1_tl (rd1_tl (rd1_tl (rd1_tl (rd1_tl (rd1_tl (rd1_tl (rd1_hd rfl ?_)))))))
    | refine rd1_tl (rd1_tl (rd1_tl (rd1_tl (rd1_tl (rd1_tl (rd1_tl (rd1_tl (rd1_hd rfl ?_))))))))
    | refine rdN_hd rfl ?_
    | refine rdN_tl (rdN_hd rfl ?_)
    | refine rdN_tl (rdN_tl (rdN_hd rfl ?_))
    | refine rdN_tl (rdN_tl (rdN_tl (rdN_hd rfl ?_)))
    | refine rdN_tl (rdN_tl (rdN_tl (rdN_tl (rdN_hd rfl ?_))))
    | refine rdN_tl (rdN_tl (rdN_tl (rdN_tl (rdN_tl (rdN_hd rfl ?_)))))
    | refine rdN_tl (rdN_tl (rdN_tl (rdN_tl (rdN_tl (rdN_tl (rdN_hd rfl ?_))))))
    | refine rdN_tl (rdN_tl (rdN_tl (rdN_tl (rdN_tl (rdN_tl (rdN_tl (rdN_hd rfl ?_)))))))
    | refine rdN_tl (rdN_tl (rdN_tl (rdN_tl (rdN_tl (rdN_tl (rdN_tl (rdN_tl (rdN_hd rfl ?_))))))))
    | refine stoK.hd (by simp) ?_
    | refine stoK.tl (stoK.hd (by simp) ?_)
    | refine stoK.tl (stoK.tl (stoK.hd (by simp) ?_))
    | refine stoK.tl (stoK.tl (stoK.tl (stoK.hd (by simp) ?_)))
    | refine stoK.tl (stoK.tl (stoK.tl (stoK.tl (stoK.hd (by simp) ?_))))
    | refine stoK.tl (stoK.tl (stoK.tl (stoK.tl (stoK.tl (stoK.hd (by simp) ?_)))))
    | refine stoK.tl (stoK.tl (stoK.tl (stoK.tl (stoK.tl (stoK.tl (stoK.hd (by simp) ?_))))))
    | refine stoK.tl (stoK.tl (stoK.tl (stoK.tl (stoK.tl (stoK.tl (stoK.tl (stoK.hd (by simp) ?_)))))))
    | refine stoK.tl (stoK.tl (stoK.tl (stoK.tl (stoK.tl (stoK.tl (stoK.tl (stoK.tl (stoK.hd (by simp) ?_))))))))
    | exact ⟨rfl, rfl, rfl⟩
    | (refine And.intro ?_ ?_; (· omega))
    | refine ⟨fun hg => ?_, fun hg => ?_⟩
    | (refine VC.condb rfl (fun hg => ?_) (fun hg => ?_) <;> (try simp -implicitDefEqProofs only [hg, if_true, if_false, ↓reduceIte, Bool.false_eq_true]))
    | fail
  refine VC.dend hP hk ([.obj b1 _ 29, .acc (.slice A n c) n xs 29 10]) ([(.obj s _ 100, some 10)]) (by (try simp only [lent, List.cons_append, List.nil_append]); repeat' first | exact List.Perm.refl _ | ((with_reducible refine permTake (pre := []) rfl ?_); simp only [List.cons_append, List.nil_append]) | ((with_reducible refine permTake (pre := [_]) rfl ?_); simp only [List.cons_append, List.nil_append]) | ((with_reducible refine permTake (pre := [_, _]) rfl ?_); simp only [List.cons_append, List.nil_append]) | ((with_reducible refine permTake (pre := [_, _, _]) rfl ?_); simp only [List.cons_append, List.nil_append]) | ((with_reducible refine permTake (pre := [_, _, _, _]) rfl ?_); simp only [List.cons_append, List.nil_append]) | ((with_reducible refine permTake (pre := [_, _, _, _, _]) rfl ?_); simp only [List.cons_append, List.nil_append]) | ((with_reducible refine permTake (pre := [_, _, _, _, _, _]) rfl ?_); simp only [List.cons_append, List.nil_append]) | fail) fun K q hK hq => ?_
  try simp -implicitDefEqProofs only [go_sem, ↓reduceIte, Int.reduceToNat, Int.reduceBEq, Int.reduceBNe, beq_self_eq_true, bne_self_eq_false, Int.reduceLT, Int.reduceLE, Int.reduceAdd, Int.reduceSub, Int.reduceNeg, decide_true, decide_false, gt_iff_lt, ge_iff_le, Int.natCast_one, Int.natCast_zero, Int.cast_ofNat_Int, Nat.reduceLeDiff, Nat.reduceEqDiff, Nat.reduceAdd, Nat.reduceSub, Nat.reduceMul, reduceCtorEq]
  repeat' first
    | with_reducible refine thn_n ?_
    | with_reducible refine thn_r ?_
    | with_reducible refine thn_e ?_
    | with_reducible refine blk_n ?_
    | with_reducible refine blk_r ?_
    | with_reducible refine blk_h ?_
    | with_reducible refine blk_m rfl ?_
    | with_reducible refine fin_r ?_
    | with_reducible refine VC.rseq hP hk fun K q hK hq => ?_
    | with_reducible refine VC.rend hP hk fun K q hK hq => ?_
    | with_reducible refine VC.seq ?_
    | with_reducible refine VC.skip ?_
    | with_reducible refine VC.ret ?_
    | with_reducible refine VC.exit ?_
    | with_reducible refine VC.block ?_
    | refine vops_gt rfl ?_
    | refine vops_gf rfl ?_
    | refine vsch_gt rfl ?_
    | refine vsch_gf rfl ?_
    | refine vall_gt rfl ?_ ?_
    | refine vall_gf rfl ?_ ?_
    | (refine vops_gb rfl (fun hb => ?_) (fun hb => ?_) <;> (try simp only [Bool.not_true, Bool.not_false] at hb) <;> (try simp -implicitDefEqProofs only [hb, if_true, if_false, ↓reduceIte, Bool.false_eq_true]))
    | (refine vsch_gb rfl (by simp only [noStop]) (fun hb => ?_) (fun hb => ?_) <;> (try simp only [Bool.not_true, Bool.not_false] at hb) <;> (try simp -implicitDefEqProofs only [hb, if_true, if_false, ↓reduceIte, Bool.false_eq_true]))
    | refine vall_gb rfl (fun hb => ?_) (fun hb => ?_) ?_
    | refine VC.condt rfl ?_
    | refine VC.condf rfl ?_
    | (refine hK.out _ _ _ _ (by simp -implicitDefEqProofs only [go_sem, ↓reduceIte, Int.reduceToNat, Int.reduceBEq, Int.reduceBNe, beq_self_eq_true, bne_self_eq_false, Int.reduceLT, Int.reduceLE, Int.reduceAdd, Int.reduceSub, Int.reduceNeg, decide_true, decide_false, gt_iff_lt, ge_iff_le, Int.natCast_one, Int.natCast_zero, Int.cast_ofNat_Int, Nat.reduceLeDiff, Nat.reduceEqDiff, Nat.reduceAdd, Nat.reduceSub, Nat.reduceMul, reduceCtorEq]; rfl) ?_; clear hK hq K q)
    | simp -implicitDefEqProofs only [go_sem, ↓reduceIte, Int.reduceToNat, Int.reduceBEq, Int.reduceBNe, beq_self_eq_true, bne_self_eq_false, Int.reduceLT, Int.reduceLE, Int.reduceAdd, Int.reduceSub, Int.reduceNeg, decide_true, decide_false, gt_iff_lt, ge_iff_le, Int.natCast_one, Int.natCast_zero, Int.cast_ofNat_Int, Nat.reduceLeDiff, Nat.reduceEqDiff, Nat.reduceAdd, Nat.reduceSub, Nat.reduceMul, reduceCtorEq]
    | refine .inl (newB_own' fun b2 => ?_)
    | refine appK.obj [_, _] rfl rfl rfl (by simp only [go_sem]; exact hx) (appT.tl (appT.hd (by omega) (by omega) fun A' c' _ => ?_))
    | refine rd1_hd rfl ?_
    | refine rd1_tl (rd1_hd rfl ?_)
    | refine rd1_tl (rd1_tl (rd1_hd rfl ?_))
    | refine rd1_tl (rd1_tl (rd1_tl (rd1_hd rfl ?_)))
    | refine rd1_tl (rd1_tl (rd1_tl (rd1_tl (rd1_hd rfl ?_))))
    | refine rd1_tl (rd1_tl (rd1_tl (rd1_tl (rd1_tl (rd1_hd rfl ?_)))))
    | refine rd1_tl (rd1_tl (rd1_tl (rd1_tl (rd1_tl (rd1_tl (rd1_hd rfl ?_))))))
    | refine rd1_tl (rd1_tl (rd1_tl (rd1_tl (rd1_tl (rd1_tl (rd1_tl (rd1_hd rfl ?_)))))))
    | refine rd1_tl (rd1_tl (rd1_tl (rd1_tl (rd1_tl (rd1_tl (rd1_tl (rd1_tl (rd1_hd rfl ?_))))))))
    | refine rdN_hd rfl ?_
    | refine rdN_tl (rdN_hd rfl ?_)
    | refine rdN_tl (rdN_tl (rdN_hd rfl ?_))
    | refine rdN_tl (rdN_tl (rdN_tl (rdN_hd rfl ?_)))
    | refine rdN_tl (rdN_tl (rdN_tl (rdN_tl (rdN_hd rfl ?_))))
    | refine rdN_tl (rdN_tl (rdN_tl (rdN_tl (rdN_tl (rdN_hd rfl ?_)))))
    | refine rdN_tl (rdN_tl (rdN_tl (rdN_tl (rdN_tl (rdN_tl (rdN_hd rfl ?_))))))
    | refine rdN_tl (rdN_tl (rdN_tl (rdN_tl (rdN_tl (rdN_tl (rdN_tl (rdN_hd rfl ?_)))))))
    | refine rdN_tl (rdN_tl (rdN_tl (rdN_tl (rdN_tl (rdN_tl (rdN_tl (rdN_tl (rdN_hd rfl ?_))))))))
    | refine stoK.hd (by simp) ?_
    | refine stoK.tl (stoK.hd (by simp) ?_)
    | refine stoK.tl (stoK.tl (stoK.hd (by simp) ?_))
    | refine stoK.tl (stoK.tl (stoK.tl (stoK.hd (by simp) ?_)))
    | refine stoK.tl (stoK.tl (stoK.tl (stoK.tl (stoK.hd (by simp) ?_))))
    | refine stoK.tl (stoK.tl (stoK.tl (stoK.tl (stoK.tl (stoK.hd (by simp) ?_)))))
    | refine stoK.tl (stoK.tl (stoK.tl (stoK.tl (stoK.tl (stoK.tl (stoK.hd (by simp) ?_))))))
    | refine stoK.tl (stoK.tl (stoK.tl (stoK.tl (stoK.tl (stoK.tl (stoK.tl (stoK.hd (by simp) ?_)))))))
    | refine stoK.tl (stoK.tl (stoK.tl (stoK.tl (stoK.tl (stoK.tl (stoK.tl (stoK.tl (stoK.hd (by simp) ?_))))))))
    | exact ⟨rfl, rfl, rfl⟩
    | (refine And.intro ?_ ?_; (· omega))
    | refine ⟨fun hg => ?_, fun hg => ?_⟩
    | (refine VC.condb rfl (fun hg => ?_) (fun hg => ?_) <;> (try simp -implicitDefEqProofs only [hg, if_true, if_false, ↓reduceIte, Bool.false_eq_true]))
    | fail
  have e : IntKind.i64.wrap (↑(n + 1) - 1) = (n : Int) := by rw [wrap64 (by omega) (by omega)]; omega
  rw [e]
  refine Gives.perm (L1 := [.obj s _ 100, .acc _ _ _ _ _, .obj b1 _ _]) (by (try simp only [lent, List.cons_append, List.nil_append]); repeat' first | exact List.Perm.refl _ | ((with_reducible refine permTake (pre := []) rfl ?_); simp only [List.cons_append, List.nil_append]) | ((with_reducible refine permTake (pre := [_]) rfl ?_); simp only [List.cons_append, List.nil_append]) | ((with_reducible refine permTake (pre := [_, _]) rfl ?_); simp only [List.cons_append, List.nil_append]) | ((with_reducible refine permTake (pre := [_, _, _]) rfl ?_); simp only [List.cons_append, List.nil_append]) | ((with_reducible refine permTake (pre := [_, _, _, _]) rfl ?_); simp only [List.cons_append, List.nil_append]) | ((with_reducible refine permTake (pre := [_, _, _, _, _]) rfl ?_); simp only [List.cons_append, List.nil_append]) | ((with_reducible refine permTake (pre := [_, _, _, _, _, _]) rfl ?_); simp only [List.cons_append, List.nil_append]) | fail) ?_
  exact Gives.ret (fun k hk => hk _ _) (by repeat' first | exact List.Sublist.refl _ | exact List.nil_sublist _ | (with_reducible refine List.Sublist.cons_cons _ ?_) | refine List.Sublist.cons _ ?_ | fail)
theorem s27 {G : Stab} {s n c : Nat} {A : Option Addr} {m T1 T2 T3 T4 x0 x1 x2 x3 x4 x5 : Value} {xs : List Value} (hn : n ≤ 1000) (hx : ∀ u ∈ [x0, x1, x2, x3, x4, x5], u.oneCell' = true) :
    Con Try.prog 27 ⟨[.pointer (some ⟨s, 5, none⟩), .agg ⟨[x0, x1, x2, x3, x4, x5]⟩]⟩ G [.obj s [m, T1, T2, T3, T4, .slice A n c] 100, .acc (.slice A n c) n xs 34 6]
      (Gives fun k => ∀ A' c', k (.int .i64 n) G [.obj s [m, T1, T2, T3, T4, .slice A' (n + 1) c'] 100, .acc (.slice A' (n + 1) c') (n + 1) (xs ++ [x0, x1, x2, x3, x4, x5]) 34 6]) := by
  refine Con.of_vc ce27 ks27 mixed (by simp [cd27]) fun Γ hP hk => ?_
  simp only [cd27]
  simp only [go_sem] at hx
  repeat' first
    | with_reducible refine thn_n ?_
    | with_reducible refine thn_r ?_
    | with_reducible refine thn_e ?_
    | with_reducible refine blk_n ?_
    | with_reducible refine blk_r ?_
    | with_reducible refine blk_h ?_
    | with_reducible refine blk_m rfl ?_
    | with_reducible refine fin_n ?_
    | with_reducible refine fin_r ?_
    | with_reducible refine VC.rseq hP hk fun K q hK hq => ?_
    | with_reducible refine VC.rend hP hk fun K q hK hq => ?_
    | with_reducible refine VC.seq ?_
    | with_reducible refine VC.skip ?_
    | with_reducible refine VC.ret ?_
    | with_reducible refine VC.exit ?_
    | with_reducible refine VC.block ?_
    | refine vops_gt rfl ?_
    | refine vops_gf rfl ?_
    | refine vsch_gt rfl ?_
    | refine vsch_gf rfl ?_
    | refine vall_gt rfl ?_ ?_
    | refine vall_gf rfl ?_ ?_
    | (refine vops_gb rfl (fun hb => ?_) (fun hb => ?_) <;> (try simp only [Bool.not_true, Bool.not_false] at hb) <;> (try simp -implicitDefEqProofs only [hb, if_true, if_false, ↓reduceIte, Bool.false_eq_true]))
    | (refine vsch_gb rfl (by simp only [noStop]) (fun hb => ?_) (fun hb => ?_) <;> (try simp only [Bool.not_true, Bool.not_false] at hb) <;> (try simp -implicitDefEqProofs only [hb, if_true, if_false, ↓reduceIte, Bool.false_eq_true]))
    | refine vall_gb rfl (fun hb => ?_) (fun hb => ?_) ?_
    | refine VC.condt rfl ?_
    | refine VC.condf rfl ?_
    | (refine hK.out _ _ _ _ (by simp -implicitDefEqProofs only [go_sem, ↓reduceIte, Int.reduceToNat, Int.reduceBEq, Int.reduceBNe, beq_self_eq_true, bne_self_eq_false, Int.reduceLT, Int.reduceLE, Int.reduceAdd, Int.reduceSub, Int.reduceNeg, decide_true, decide_false, gt_iff_lt, ge_iff_le, Int.natCast_one, Int.natCast_zero, Int.cast_ofNat_Int, Nat.reduceLeDiff, Nat.reduceEqDiff, Nat.reduceAdd, Nat.reduceSub, Nat.reduceMul, reduceCtorEq]; rfl) ?_; clear hK hq K q)
    | simp -implicitDefEqProofs only [go_sem, ↓reduceIte, Int.reduceToNat, Int.reduceBEq, Int.reduceBNe, beq_self_eq_true, bne_self_eq_false, Int.reduceLT, Int.reduceLE, Int.reduceAdd, Int.reduceSub, Int.reduceNeg, decide_true, decide_false, gt_iff_lt, ge_iff_le, Int.natCast_one, Int.natCast_zero, Int.cast_ofNat_Int, Nat.reduceLeDiff, Nat.reduceEqDiff, Nat.reduceAdd, Nat.reduceSub, Nat.reduceMul, reduceCtorEq]
    | refine newB_own' fun b1 => ?_
    | refine rd1_hd rfl ?_
    | refine rd1_tl (rd1_hd rfl ?_)
    | refine rd1_tl (rd1_tl (rd1_hd rfl ?_))
    | refine rd1_tl (rd1_tl (rd1_tl (rd1_hd rfl ?_)))
    | refine rd1_tl (rd1_tl (rd1_tl (rd1_tl (rd1_hd rfl ?_))))
    | refine rd1_tl (rd1_tl (rd1_tl (rd1_tl (rd1_tl (rd1_hd rfl ?_)))))
    | refine rd1_tl (rd1_tl (rd1_tl (rd1_tl (rd1_tl (rd1_tl (rd1_hd rfl ?_))))))
    | refine rd1_tl (rd1_tl (rd1_tl (rd1_tl (rd1_tl (rd1_tl (rd1_tl (rd1_hd rfl ?_)))))))
    | refine rd1_tl (rd1_tl (rd1_tl (rd1_tl (rd1_tl (rd1_tl (rd1_tl (rd1_tl (rd1_hd rfl ?_))))))))
    | refine rdN_hd rfl ?_
    | refine rdN_tl (rdN_hd rfl ?_)
    | refine rdN_tl (rdN_tl (rdN_hd rfl ?_))
    | refine rdN_tl (rdN_tl (rdN_tl (rdN_hd rfl ?_)))
    | refine rdN_tl (rdN_tl (rdN_tl (rdN_tl (rdN_hd rfl ?_))))
    | refine rdN_tl (rdN_tl (rdN_tl (rdN_tl (rdN_tl (rdN_hd rfl ?_)))))
    | refine rdN_tl (rdN_tl (rdN_tl (rdN_tl (rdN_tl (rdN_tl (rdN_hd rfl ?_))))))
    | refine rdN_tl (rdN_tl (rdN_tl (rdN_tl (rdN_tl (rdN_tl (rdN_tl (rdN_hd rfl ?_)))))))
    | refine rdN_tl (rdN_tl (rdN_tl (rdN_tl (rdN_tl (rdN_tl (rdN_tl (rdN_tl (rdN_hd rfl ?_))))))))
    | refine stoK.hd (by simp) ?_
    | refine stoK.tl (stoK.hd (by simp) ?_)
    | refine stoK.tl (stoK.tl (stoK.hd (by simp) ?_))
    | refine stoK.tl (stoK.tl (stoK.tl (stoK.hd (by simp) ?_)))
    | refine stoK.tl (stoK.tl (stoK.tl (stoK.tl (stoK.hd (by simp) ?_))))
    | refine stoK.tl (stoK.tl (stoK.tl (stoK.tl (stoK.tl (stoK.hd (by simp) ?_)))))
    | refine stoK.tl (stoK.tl (stoK.tl (stoK.tl (stoK.tl (stoK.tl (stoK.hd (by simp) ?_))))))
    | refine stoK.tl (stoK.tl (stoK.tl (stoK.tl (stoK.tl (stoK.tl (stoK.tl (stoK.hd (by simp) ?_)))))))
    | refine stoK.tl (stoK.tl (stoK.tl (stoK.tl (stoK.tl (stoK.tl (stoK.tl (stoK.tl (stoK.hd (by simp) ?_))))))))
    | exact ⟨rfl, rfl, rfl⟩
    | (refine And.intro ?_ ?_; (· omega))
    | refine ⟨fun hg => ?_, fun hg => ?_⟩
    | (refine VC.condb rfl (fun hg => ?_) (fun hg => ?_) <;> (try simp -implicitDefEqProofs only [hg, if_true, if_false, ↓reduceIte, Bool.false_eq_true]))
    | fail
  refine VC.dend hP hk ([.obj b1 _ 34, .acc (.slice A n c) n xs 34 6]) ([(.obj s _ 100, some 10)]) (by (try simp only [lent, List.cons_append, List.nil_append]); repeat' first | exact List.Perm.refl _ | ((with_reducible refine permTake (pre := []) rfl ?_); simp only [List.cons_append, List.nil_append]) | ((with_reducible refine permTake (pre := [_]) rfl ?_); simp only [List.cons_append, List.nil_append]) | ((with_reducible refine permTake (pre := [_, _]) rfl ?_); simp only [List.cons_append, List.nil_append]) | ((with_reducible refine permTake (pre := [_, _, _]) rfl ?_); simp only [List.cons_append, List.nil_append]) | ((with_reducible refine permTake (pre := [_, _, _, _]) rfl ?_); simp only [List.cons_append, List.nil_append]) | ((with_reducible refine permTake (pre := [_, _, _, _, _]) rfl ?_); simp only [List.cons_append, List.nil_append]) | ((with_reducible refine permTake (pre := [_, _, _, _, _, _]) rfl ?_); simp only [List.cons_append, List.nil_append]) | fail) fun K q hK hq => ?_
  try simp -implicitDefEqProofs only [go_sem, ↓reduceIte, Int.reduceToNat, Int.reduceBEq, Int.reduceBNe, beq_self_eq_true, bne_self_eq_false, Int.reduceLT, Int.reduceLE, Int.reduceAdd, Int.reduceSub, Int.reduceNeg, decide_true, decide_false, gt_iff_lt, ge_iff_le, Int.natCast_one, Int.natCast_zero, Int.cast_ofNat_Int, Nat.reduceLeDiff, Nat.reduceEqDiff, Nat.reduceAdd, Nat.reduceSub, Nat.reduceMul, reduceCtorEq]
  repeat' first
    | with_reducible refine thn_n ?_
    | with_reducible refine thn_r ?_
    | with_reducible refine thn_e ?_
    | with_reducible refine blk_n ?_
    | with_reducible refine blk_r ?_
    | with_reducible refine blk_h ?_
    | with_reducible refine blk_m rfl ?_
    | with_reducible refine fin_r ?_
    | with_reducible refine VC.rseq hP hk fun K q hK hq => ?_
    | with_reducible refine VC.rend hP hk fun K q hK hq => ?_
    | with_reducible refine VC.seq ?_
    | with_reducible refine VC.skip ?_
    | with_reducible refine VC.ret ?_
    | with_reducible refine VC.exit ?_
    | with_reducible refine VC.block ?_
    | refine vops_gt rfl ?_
    | refine vops_gf rfl ?_
    | refine vsch_gt rfl ?_
    | refine vsch_gf rfl ?_
    | refine vall_gt rfl ?_ ?_
    | refine vall_gf rfl ?_ ?_
    | (refine vops_gb rfl (fun hb => ?_) (fun hb => ?_) <;> (try simp only [Bool.not_true, Bool.not_false] at hb) <;> (try simp -implicitDefEqProofs only [hb, if_true, if_false, ↓reduceIte, Bool.false_eq_true]))
    | (refine vsch_gb rfl (by simp only [noStop]) (fun hb => ?_) (fun hb => ?_) <;> (try simp only [Bool.not_true, Bool.not_false] at hb) <;> (try simp -implicitDefEqProofs only [hb, if_true, if_false, ↓reduceIte, Bool.false_eq_true]))
    | refine vall_gb rfl (fun hb => ?_) (fun hb => ?_) ?_
    | refine VC.condt rfl ?_
    | refine VC.condf rfl ?_
    | (refine hK.out _ _ _ _ (by simp -implicitDefEqProofs only [go_sem, ↓reduceIte, Int.reduceToNat, Int.reduceBEq, Int.reduceBNe, beq_self_eq_true, bne_self_eq_false, Int.reduceLT, Int.reduceLE, Int.reduceAdd, Int.reduceSub, Int.reduceNeg, decide_true, decide_false, gt_iff_lt, ge_iff_le, Int.natCast_one, Int.natCast_zero, Int.cast_ofNat_Int, Nat.reduceLeDiff, Nat.reduceEqDiff, Nat.reduceAdd, Nat.reduceSub, Nat.reduceMul, reduceCtorEq]; rfl) ?_; clear hK hq K q)
    | simp -implicitDefEqProofs only [go_sem, ↓reduceIte, Int.reduceToNat, Int.reduceBEq, Int.reduceBNe, beq_self_eq_true, bne_self_eq_false, Int.reduceLT, Int.reduceLE, Int.reduceAdd, Int.reduceSub, Int.reduceNeg, decide_true, decide_false, gt_iff_lt, ge_iff_le, Int.natCast_one, Int.natCast_zero, Int.cast_ofNat_Int, Nat.reduceLeDiff, Nat.reduceEqDiff, Nat.reduceAdd, Nat.reduceSub, Nat.reduceMul, reduceCtorEq]
    | refine .inl (newB_own' fun b2 => ?_)
    | refine appK.obj [_, _] rfl rfl rfl (by simp only [go_sem]; exact hx) (appT.tl (appT.hd (by omega) (by omega) fun A' c' _ => ?_))
    | refine rd1_hd rfl ?_
    | refine rd1_tl (rd1_hd rfl ?_)
    | refine rd1_tl (rd1_tl (rd1_hd rfl ?_))
    | refine rd1_tl (rd1_tl (rd1_tl (rd1_hd rfl ?_)))
    | refine rd1_tl (rd1_tl (rd1_tl (rd1_tl (rd1_hd rfl ?_))))
    | refine rd1_tl (rd1_tl (rd1_tl (rd1_tl (rd1_tl (rd1_hd rfl ?_)))))
    | refine rd1_tl (rd1_tl (rd1_tl (rd1_tl (rd1_tl (rd1_tl (rd1_hd rfl ?_))))))
    | refine rd1_tl (rd1_tl (rd1_tl (rd1_tl (rd1_tl (rd1_tl (rd1_tl (rd1_hd rfl ?_)))))))
    | refine rd1_tl (rd1_tl (rd1_tl (rd1_tl (rd1_tl (rd1_tl (rd1_tl (rd1_tl (rd1_hd rfl ?_))))))))
    | refine rdN_hd rfl ?_
    | refine rdN_tl (rdN_hd rfl ?_)
    | refine rdN_tl (rdN_tl (rdN_hd rfl ?_))
    | refine rdN_tl (rdN_tl (rdN_tl (rdN_hd rfl ?_)))
    | refine rdN_tl (rdN_tl (rdN_tl (rdN_tl (rdN_hd rfl ?_))))
    | refine rdN_tl (rdN_tl (rdN_tl (rdN_tl (rdN_tl (rdN_hd rfl ?_)))))
    | refine rdN_tl (rdN_tl (rdN_tl (rdN_tl (rdN_tl (rdN_tl (rdN_hd rfl ?_))))))
    | refine rdN_tl (rdN_tl (rdN_tl (rdN_tl (rdN_tl (rdN_tl (rdN_tl (rdN_hd rfl ?_)))))))
    | refine rdN_tl (rdN_tl (rdN_tl (rdN_tl (rdN_tl (rdN_tl (rdN_tl (rdN_tl (rdN_hd rfl ?_))))))))
    | refine stoK.hd (by simp) ?_
    | refine stoK.tl (stoK.hd (by simp) ?_)
    | refine stoK.tl (stoK.tl (stoK.hd (by simp) ?_))
    | refine stoK.tl (stoK.tl (stoK.tl (stoK.hd (by simp) ?_)))
    | refine stoK.tl (stoK.tl (stoK.tl (stoK.tl (stoK.hd (by simp) ?_))))
    | refine stoK.tl (stoK.tl (stoK.tl (stoK.tl (stoK.tl (stoK.hd (by simp) ?_)))))
    | refine stoK.tl (stoK.tl (stoK.tl (stoK.tl (stoK.tl (stoK.tl (stoK.hd (by simp) ?_))))))
    | refine stoK.tl (stoK.tl (stoK.tl (stoK.tl (stoK.tl (stoK.tl (stoK.tl (stoK.hd (by simp) ?_)))))))
    | refine stoK.tl (stoK.tl (stoK.tl (stoK.tl (stoK.tl (stoK.tl (stoK.tl (stoK.tl (stoK.hd (by simp) ?_))))))))
    | exact ⟨rfl, rfl, rfl⟩
    | (refine And.intro ?_ ?_; (· omega))
    | refine ⟨fun hg => ?_, fun hg => ?_⟩
    | (refine VC.condb rfl (fun hg => ?_) (fun hg => ?_) <;> (try simp -implicitDefEqProofs only [hg, if_true, if_false, ↓reduceIte, Bool.false_eq_true]))
    | fail
  have e : IntKind.i64.wrap (↑(n + 1) - 1) = (n : Int) := by rw [wrap64 (by omega) (by omega)]; omega
  rw [e]
  refine Gives.perm (L1 := [.obj s _ 100, .acc _ _ _ _ _, .obj b1 _ _]) (by (try simp only [lent, List.cons_append, List.nil_append]); repeat' first | exact List.Perm.refl _ | ((with_reducible refine permTake (pre := []) rfl ?_); simp only [List.cons_append, List.nil_append]) | ((with_reducible refine permTake (pre := [_]) rfl ?_); simp only [List.cons_append, List.nil_append]) | ((with_reducible refine permTake (pre := [_, _]) rfl ?_); simp only [List.cons_append, List.nil_append]) | ((with_reducible refine permTake (pre := [_, _, _]) rfl ?_); simp only [List.cons_append, List.nil_append]) | ((with_reducible refine permTake (pre := [_, _, _, _]) rfl ?_); simp only [List.cons_append, List.nil_append]) | ((with_reducible refine permTake (pre := [_, _, _, _, _]) rfl ?_); simp only [List.cons_append, List.nil_append]) | ((with_reducible refine permTake (pre := [_, _, _, _, _, _]) rfl ?_); simp only [List.cons_append, List.nil_append]) | fail) ?_
  exact Gives.ret (fun k hk => hk _ _) (by repeat' first | exact List.Sublist.refl _ | exact List.nil_sublist _ | (with_reducible refine List.Sublist.cons_cons _ ?_) | refine List.Sublist.cons _ ?_ | fail)
theorem s38 {G : Stab} {s n c : Nat} {A : Option Addr} {m T1 T3 T4 T5 x0 : Value} {xs : List Value} (hn : n ≤ 1000) (hx : ∀ u ∈ [x0], u.oneCell' = true) :
    Con Try.prog 38 ⟨[.pointer (some ⟨s, 2, none⟩), x0]⟩ G [.obj s [m, T1, .slice A n c, T3, T4, T5] 100, .acc (.slice A n c) n xs 113 1]
      (Gives fun k => ∀ A' c', k (.int .i64 n) G [.obj s [m, T1, .slice A' (n + 1) c', T3, T4, T5] 100, .acc (.slice A' (n + 1) c') (n + 1) (xs ++ [x0]) 113 1]) := by
  refine Con.of_vc ce38 ks38 mixed (by simp [cd38]) fun Γ hP hk => ?_
  simp only [cd38]
  simp only [go_sem] at hx
  have hc := cells_one hx
  repeat' first
    | with_reducible refine thn_n ?_
    | with_reducible refine thn_r ?_
    | with_reducible refine thn_e ?_
    | with_reducible refine blk_n ?_
    | with_reducible refine blk_r ?_
    | with_reducible refine blk_h ?_
    | with_reducible refine blk_m rfl ?_
    | with_reducible refine fin_r ?_
    | with_reducible refine VC.rseq hP hk fun K q hK hq => ?_
    | with_reducible refine VC.rend hP hk fun K q hK hq => ?_
    | with_reducible refine VC.seq ?_
    | with_reducible refine VC.skip ?_
    | with_reducible refine VC.ret ?_
    | with_reducible refine VC.exit ?_
    | with_reducible refine VC.block ?_
    | refine vops_gt rfl ?_
    | refine vops_gf rfl ?_
    | refine vsch_gt rfl ?_
    | refine vsch_gf rfl ?_
    | refine vall_gt rfl ?_ ?_
    | refine vall_gf rfl ?_ ?_
    | (refine vops_gb rfl (fun hb => ?_) (fun hb => ?_) <;> (try simp only [Bool.not_true, Bool.not_false] at hb) <;> (try simp -implicitDefEqProofs only [hb, if_true, if_false, ↓reduceIte, Bool.false_eq_true]))
    | (refine vsch_gb rfl (by simp only [noStop]) (fun hb => ?_) (fun hb => ?_) <;> (try simp only [Bool.not_true, Bool.not_false] at hb) <;> (try simp -implicitDefEqProofs only [hb, if_true, if_false, ↓reduceIte, Bool.false_eq_true]))
    | refine vall_gb rfl (fun hb => ?_) (fun hb => ?_) ?_
    | refine VC.condt rfl ?_
    | refine VC.condf rfl ?_
    | (refine hK.out _ _ _ _ (by simp -implicitDefEqProofs only [go_sem, ↓reduceIte, Int.reduceToNat, Int.reduceBEq, Int.reduceBNe, beq_self_eq_true, bne_self_eq_false, Int.reduceLT, Int.reduceLE, Int.reduceAdd, Int.reduceSub, Int.reduceNeg, decide_true, decide_false, gt_iff_lt, ge_iff_le, Int.natCast_one, Int.natCast_zero, Int.cast_ofNat_Int, Nat.reduceLeDiff, Nat.reduceEqDiff, Nat.reduceAdd, Nat.reduceSub, Nat.reduceMul, reduceCtorEq]; rfl) ?_; clear hK hq K q)
    | simp -implicitDefEqProofs only [go_sem, ↓reduceIte, Int.reduceToNat, Int.reduceBEq, Int.reduceBNe, beq_self_eq_true, bne_self_eq_false, Int.reduceLT, Int.reduceLE, Int.reduceAdd, Int.reduceSub, Int.reduceNeg, decide_true, decide_false, gt_iff_lt, ge_iff_le, Int.natCast_one, Int.natCast_zero, Int.cast_ofNat_Int, Nat.reduceLeDiff, Nat.reduceEqDiff, Nat.reduceAdd, Nat.reduceSub, Nat.reduceMul, reduceCtorEq]
    | refine .inl (newB_own' fun b2 => ?_)
    | rw [hc]
    | refine appK.obj [_, _] rfl rfl rfl (by simp only [go_sem]; exact hx) (appT.tl (appT.hd (by omega) (by omega) fun A' c' _ => ?_))
    | refine rd1_hd rfl ?_
    | refine rd1_tl (rd1_hd rfl ?_)
    | refine rd1_tl (rd1_tl (rd1_hd rfl ?_))
    | refine rd1_tl (rd1_tl (rd1_tl (rd1_hd rfl ?_)))
    | refine rd1_tl (rd1_tl (rd1_tl (rd1_tl (rd1_hd rfl ?_))))
    | refine rd1_tl (rd1_tl (rd1_tl (rd1_tl (rd1_tl (rd1_hd rfl ?_)))))
    | refine rd1_tl (rd1_tl (rd1_tl (rd1_tl (rd1_tl (rd1_tl (rd1_hd rfl ?_))))))
    | refine rd1_tl (rd1_tl (rd1_tl (rd1_tl (rd1_tl (rd1_tl (rd1_tl (rd1_hd rfl ?_)))))))
    | refine rd1_tl (rd1_tl (rd1_tl (rd1_tl (rd1_tl (rd1_tl (rd1_tl (rd1_tl (rd1_hd rfl ?_))))))))
    | refine rdN_hd rfl ?_
    | refine rdN_tl (rdN_hd rfl ?_)
    | refine rdN_tl (rdN_tl (rdN_hd rfl ?_))
    | refine rdN_tl (rdN_tl (rdN_tl (rdN_hd rfl ?_)))
    | refine rdN_tl (rdN_tl (rdN_tl (rdN_tl (rdN_hd rfl ?_))))
    | refine rdN_tl (rdN_tl (rdN_tl (rdN_tl (rdN_tl (rdN_hd rfl ?_)))))
    | refine rdN_tl (rdN_tl (rdN_tl (rdN_tl (rdN_tl (rdN_tl (rdN_hd rfl ?_))))))
    | refine rdN_tl (rdN_tl (rdN_tl (rdN_tl (rdN_tl (rdN_tl (rdN_tl (rdN_hd rfl ?_)))))))
    | refine rdN_tl (rdN_tl (rdN_tl (rdN_tl (rdN_tl (rdN_tl (rdN_tl (rdN_tl (rdN_hd rfl ?_))))))))
    | refine stoK.hd (by simp) ?_
    | refine stoK.tl (stoK.hd (by simp) ?_)
    | refine stoK.tl (stoK.tl (stoK.hd (by simp) ?_))
    | refine stoK.tl (stoK.tl (stoK.tl (stoK.hd (by simp) ?_)))
    | refine stoK.tl (stoK.tl (stoK.tl (stoK.tl (stoK.hd (by simp) ?_))))
    | refine stoK.tl (stoK.tl (stoK.tl (stoK.tl (stoK.tl (stoK.hd (by simp) ?_)))))
    | refine stoK.tl (stoK.tl (stoK.tl (stoK.tl (stoK.tl (stoK.tl (stoK.hd (by simp) ?_))))))
    | refine stoK.tl (stoK.tl (stoK.tl (stoK.tl (stoK.tl (stoK.tl (stoK.tl (stoK.hd (by simp) ?_)))))))
    | refine stoK.tl (stoK.tl (stoK.tl (stoK.tl (stoK.tl (stoK.tl (stoK.tl (stoK.tl (stoK.hd (by simp) ?_))))))))
    | exact ⟨rfl, rfl, rfl⟩
    | (refine And.intro ?_ ?_; (· omega))
    | refine ⟨fun hg => ?_, fun hg => ?_⟩
    | (refine VC.condb rfl (fun hg => ?_) (fun hg => ?_) <;> (try simp -implicitDefEqProofs only [hg, if_true, if_false, ↓reduceIte, Bool.false_eq_true]))
    | fail
  have e : IntKind.i64.wrap (↑(n + 1) - 1) = (n : Int) := by rw [wrap64 (by omega) (by omega)]; omega
  rw [e]
  refine Gives.perm (L1 := [.obj s _ 100, .acc _ _ _ _ _]) (by (try simp only [lent, List.cons_append, List.nil_append]); repeat' first | exact List.Perm.refl _ | ((with_reducible refine permTake (pre := []) rfl ?_); simp only [List.cons_append, List.nil_append]) | ((with_reducible refine permTake (pre := [_]) rfl ?_); simp only [List.cons_append, List.nil_append]) | ((with_reducible refine permTake (pre := [_, _]) rfl ?_); simp only [List.cons_append, List.nil_append]) | ((with_reducible refine permTake (pre := [_, _, _]) rfl ?_); simp only [List.cons_append, List.nil_append]) | ((with_reducible refine permTake (pre := [_, _, _, _]) rfl ?_); simp only [List.cons_append, List.nil_append]) | ((with_reducible refine permTake (pre := [_, _, _, _, _]) rfl ?_); simp only [List.cons_append, List.nil_append]) | ((with_reducible refine permTake (pre := [_, _, _, _, _, _]) rfl ?_); simp only [List.cons_append, List.nil_append]) | fail) ?_
  exact Gives.ret (fun k hk => hk _ _) (by repeat' first | exact List.Sublist.refl _ | exact List.nil_sublist _ | (with_reducible refine List.Sublist.cons_cons _ ?_) | refine List.Sublist.cons _ ?_ | fail)
end Go.Proofs.Ytpddchnapcmmkaa
