import Derived.Test.YtpddchnapcmmkaaA5
namespace Go.Proofs.Ytpddchnapcmmkaa
open Go Go.Sy
set_option linter.unusedSimpArgs false
set_option linter.unusedVariables false
-- 6 trunnion/trunnionlaw28.few
def cd6 : VFun := ⟨59, [.tmp 4], (.seq (.reg [⟨(some 4), none, (.rd (.mov (.val (.bool false))))⟩])
  (.seq (.seq (.reg [⟨(some 7), none, (.rd (.mov (.tmp 0)))⟩, ⟨(some 8), none, (.rd (.lenL (.tmp 7)))⟩, ⟨(some 9), none, (.rd (.mov (.val (.int .i64 0))))⟩])
  (.block 0 (.loop (.seq (.reg [⟨(some 10), none, (.rd (.biI .lss (.tmp 9) (.tmp 8)))⟩])
  (.seq (.cond (.tmp 10) .skip
  (.exit 0))
  (.seq (.block 1 (.seq (.reg [⟨(some 11), none, (.rd (.ia 26 (.tmp 7) (.tmp 9)))⟩, ⟨(some 12), none, (.rd (.loadN 26 (.tmp 11)))⟩, ⟨(some 6), none, (.ef (.alloc 44 [(.int .i64 0), (.int .i64 0), (.int .i64 0), (.slice none 0 0), (.slice none 0 0), (.bool false), (.string ⟨#[]⟩), (.int .i64 0), (.int .i64 0), (.int .i64 0), (.slice none 0 0), (.slice none 0 0), (.int .i64 0), (.int .u32 0), (.int .u32 0), (.bool false), (.int .u8 0), (.bool false), (.int .u64 0), (.slice none 0 0), (.slice none 0 0), (.slice none 0 0), (.slice none 0 0), (.slice none 0 0), (.slice none 0 0), (.string ⟨#[]⟩)]))⟩, ⟨none, none, (.ef (.store 26 (.tmp 6) (.tmp 12)))⟩])
  (.seq (.reg [⟨(some 13), none, (.rd (.fa 3 (.tmp 6)))⟩, ⟨(some 14), none, (.rd (.fa 0 (.tmp 13)))⟩, ⟨(some 15), none, (.rd (.fa 0 (.tmp 14)))⟩, ⟨(some 16), none, (.rd (.load1 (.tmp 15)))⟩, ⟨(some 17), none, (.rd (.lenL (.tmp 16)))⟩, ⟨(some 18), none, (.rd (.fa 3 (.tmp 6)))⟩, ⟨(some 19), none, (.rd (.fa 0 (.tmp 18)))⟩, ⟨(some 20), none, (.rd (.fa 1 (.tmp 19)))⟩, ⟨(some 21), none, (.rd (.load1 (.tmp 20)))⟩, ⟨(some 22), none, (.rd (.lenL (.tmp 21)))⟩, ⟨(some 23), none, (.rd (.biI .add (.tmp 17) (.tmp 22)))⟩, ⟨(some 24), none, (.rd (.fa 19 (.tmp 6)))⟩, ⟨(some 25), none, (.rd (.fa 5 (.tmp 24)))⟩, ⟨(some 26), none, (.rd (.load1 (.tmp 25)))⟩, ⟨(some 27), none, (.rd (.lenL (.tmp 26)))⟩, ⟨(some 28), none, (.rd (.biI .add (.tmp 23) (.tmp 27)))⟩, ⟨(some 29), none, (.rd (.fa 19 (.tmp 6)))⟩, ⟨(some 30), none, (.rd (.fa 0 (.tmp 29)))⟩, ⟨(some 31), none, (.rd (.load1 (.tmp 30)))⟩, ⟨(some 32), none, (.rd (.lenL (.tmp 31)))⟩, ⟨(some 33), none, (.rd (.biI .add (.tmp 28) (.tmp 32)))⟩, ⟨(some 34), none, (.rd (.fa 19 (.tmp 6)))⟩, ⟨(some 35), none, (.rd (.fa 1 (.tmp 34)))⟩, ⟨(some 36), none, (.rd (.load1 (.tmp 35)))⟩, ⟨(some 37), none, (.rd (.lenL (.tmp 36)))⟩, ⟨(some 38), none, (.rd (.biI .add (.tmp 33) (.tmp 37)))⟩, ⟨(some 39), none, (.rd (.biI .gtr (.tmp 38) (.val (.int .i64 50))))⟩, ⟨(some 40), none, (.rd (.mov (.tmp 39)))⟩, ⟨(some 41), (some (40, false)), (.rd (.fa 25 (.tmp 6)))⟩, ⟨(some 42), (some (40, false)), (.rd (.load1 (.tmp 41)))⟩, ⟨(some 43), (some (40, false)), (.rd (.lenS (.tmp 42)))⟩, ⟨(some 44), (some (40, false)), (.rd (.biI .gtr (.tmp 43) (.val (.int .i64 50))))⟩, ⟨(some 45), none, (.rd (.pick (.tmp 40) (.val (.bool true)) (.tmp 44)))⟩, ⟨(some 46), none, (.rd (.mov (.tmp 45)))⟩, ⟨(some 47), (some (46, false)), (.rd (.fa 3 (.tmp 6)))⟩, ⟨(some 48), (some (46, false)), (.rd (.fa 5 (.tmp 47)))⟩, ⟨(some 49), (some (46, false)), (.rd (.fa 3 (.tmp 48)))⟩, ⟨(some 50), (some (46, false)), (.rd (.load1 (.tmp 49)))⟩, ⟨(some 51), (some (46, false)), (.rd (.lenL (.tmp 50)))⟩, ⟨(some 52), (some (46, false)), (.rd (.biI .gtr (.tmp 51) (.val (.int .i64 50))))⟩, ⟨(some 53), none, (.rd (.pick (.tmp 46) (.val (.bool true)) (.tmp 52)))⟩])
  (.cond (.tmp 53) (.seq (.reg [⟨(some 4), none, (.rd (.mov (.val (.bool false))))⟩])
  .ret)
  .skip))))
  (.reg [⟨(some 54), none, (.rd (.biI .add (.tmp 9) (.val (.int .i64 1))))⟩, ⟨(some 9), none, (.rd (.mov (.tmp 54)))⟩])))))))
  (.seq (.reg [⟨(some 55), none, (.rd (.mov (.tmp 0)))⟩, ⟨(some 56), none, (.rd (.lenL (.tmp 55)))⟩, ⟨(some 57), none, (.rd (.mov (.tmp 1)))⟩, ⟨(some 58), none, (.rd (.biI .leq (.tmp 56) (.tmp 57)))⟩, ⟨(some 4), none, (.rd (.mov (.tmp 58)))⟩])
  .ret)))⟩
@[go_sem] def ks6 : List Nat := [0, 1, 4, 6, 7, 8, 9, 10, 53]
theorem ce6 : comp Try.prog 6 = some cd6 := by kernel_rfl
theorem s6 {G : Stab} {b n0 n1 n7 n8 m0 m1 m2 m3 m4 m5 c0 c1 c7 c8 d0 d1 d2 d3 d4 d5 : Nat} {A0 A1 A7 A8 B0 B1 B2 B3 B4 B5 : Option Addr} {hst : Bool} {nm : ByteArray} {i4 i5 i6 i9 : Int}
    (hr : G.has ⟨b, 0, none⟩ [.int .i64 0, .int .i64 0, .int .i64 0, .slice A0 n0 c0, .slice A1 n1 c1, .bool hst, .string nm, .int .i64 i4, .int .i64 i5, .int .i64 i6, .slice A7 n7 c7, .slice A8 n8 c8, .int .i64 i9,
      .int .u32 0, .int .u32 0, .bool false, .int .u8 0, .bool false, .int .u64 0, .slice B0 m0 d0, .slice B1 m1 d1, .slice B2 m2 d2, .slice B3 m3 d3, .slice B4 m4 d4, .slice B5 m5 d5, .string ⟨#[]⟩])
    (h0 : n0 ≤ 140737488351232) (h1 : n1 ≤ 140737488351232) (h2 : m0 ≤ 140737488351232) (h3 : m1 ≤ 140737488351232) (h4 : m5 ≤ 140737488351232) (h5 : n8 ≤ 140737488351232) :
    Con Try.prog 6 ⟨[.slice (some ⟨b, 0, none⟩) 1 1, .int .i64 1]⟩ G [] (Gives fun k => ∀ r : Bool, (r = true → n0 ≤ 50 ∧ n1 ≤ 50 ∧ m0 ≤ 50 ∧ m1 ≤ 50 ∧ m5 ≤ 50 ∧ n8 ≤ 50) → k (.bool r) G []) := by
  refine Con.of_vc ce6 ks6 mixed (by simp [cd6]) fun Γ hP hk => ?_
  simp only [cd6]
  repeat' first
    | with_reducible refine thn_n ?_
    | with_reducible refine thn_r ?_
    | with_reducible refine thn_e ?_
    | with_reducible refine blk_n ?_
    | with_reducible refine blk_r ?_
    | with_reducible refine blk_h ?_
    | with_reducible refine blk_m rfl ?_
    | with_reducible refine fin_r ?_
    | with_reducible refine VC.rseq hP hk fun K q hK hq => ?_
    | with_reducible refine VC.rend hP hk fun K q hK hq => ?_
    | with_reducible refine VC.seq ?_
    | with_reducible refine VC.skip ?_
    | with_reducible refine VC.ret ?_
    | with_reducible refine VC.exit ?_
    | with_reducible refine VC.block ?_
    | refine vops_gt rfl ?_
    | refine vops_gf rfl ?_
    | refine vsch_gt rfl ?_
    | refine vsch_gf rfl ?_
    | refine vall_gt rfl ?_ ?_
    | refine vall_gf rfl ?_ ?_
    | (refine vops_gb rfl (fun hb => ?_) (fun hb => ?_) <;> (try simp only [Bool.not_true, Bool.not_false] at hb) <;> (try simp -implicitDefEqProofs only [hb, if_true, if_false, ↓reduceIte, Bool.false_eq_true]))
    | (refine vsch_gb rfl (by simp only [noStop]) (fun hb => ?_) (fun hb => ?_) <;> (try simp only [Bool.not_true, Bool.not_false] at hb) <;> (try simp -implicitDefEqProofs only [hb, if_true, if_false, ↓reduceIte, Bool.false_eq_true]))
    | refine vall_gb rfl (fun hb => ?_) (fun hb => ?_) ?_
    | refine VC.condt rfl ?_
    | refine VC.condf rfl ?_
    | (refine hK.out _ _ _ _ (by simp -implicitDefEqProofs only [go_sem, ↓reduceIte, Int.reduceToNat, Int.reduceBEq, Int.reduceBNe, beq_self_eq_true, bne_self_eq_false, Int.reduceLT, Int.reduceLE, Int.reduceAdd, Int.reduceSub, Int.reduceNeg, decide_true, decide_false, gt_iff_lt, ge_iff_le, Int.natCast_one, Int.natCast_zero, Int.cast_ofNat_Int, Nat.reduceLeDiff, Nat.reduceEqDiff, Nat.reduceAdd, Nat.reduceSub, Nat.reduceMul, reduceCtorEq]; rfl) ?_; clear hK hq K q)
    | simp -implicitDefEqProofs only [go_sem, ↓reduceIte, Int.reduceToNat, Int.reduceBEq, Int.reduceBNe, beq_self_eq_true, bne_self_eq_false, Int.reduceLT, Int.reduceLE, Int.reduceAdd, Int.reduceSub, Int.reduceNeg, decide_true, decide_false, gt_iff_lt, ge_iff_le, Int.natCast_one, Int.natCast_zero, Int.cast_ofNat_Int, Nat.reduceLeDiff, Nat.reduceEqDiff, Nat.reduceAdd, Nat.reduceSub, Nat.reduceMul, reduceCtorEq]
    | refine rd1_hd rfl ?_
    | refine rd1_tl (rd1_hd rfl ?_)
    | refine rd1_tl (rd1_tl (rd1_hd rfl ?_))
    | refine rd1_tl (rd1_tl (rd1_tl (rd1_hd rfl ?_)))
    | refine rd1_tl (rd1_tl (rd1_tl (rd1_tl (rd1_hd rfl ?_))))
    | refine rd1_tl (rd1_tl (rd1_tl (rd1_tl (rd1_tl (rd1_hd rfl ?_)))))
    | refine rd1_tl (rd1_tl (rd1_tl (rd1_tl (rd1_tl (rd1_tl (rd1_hd rfl ?_))))))
    | refine rd1_tl (rd1_tl (rd1_tl (rd1_tl (rd1_tl (rd1_tl (rd1_tl (rd1_hd rfl ?_)))))))
    | refine rd1_tl (rd1_tl (rd1_tl (rd1_tl (rd1_tl (rd1_tl (rd1_tl (rd1_tl (rd1_hd rfl ?_))))))))
    | refine rdN_hd rfl ?_
    | refine rdN_tl (rdN_hd rfl ?_)
    | refine rdN_tl (rdN_tl (rdN_hd rfl ?_))
    | refine rdN_tl (rdN_tl (rdN_tl (rdN_hd rfl ?_)))
    | refine rdN_tl (rdN_tl (rdN_tl (rdN_tl (rdN_hd rfl ?_))))
    | refine rdN_tl (rdN_tl (rdN_tl (rdN_tl (rdN_tl (rdN_hd rfl ?_)))))
    | refine rdN_tl (rdN_tl (rdN_tl (rdN_tl (rdN_tl (rdN_tl (rdN_hd rfl ?_))))))
    | refine rdN_tl (rdN_tl (rdN_tl (rdN_tl (rdN_tl (rdN_tl (rdN_tl (rdN_hd rfl ?_)))))))
    | refine rdN_tl (rdN_tl (rdN_tl (rdN_tl (rdN_tl (rdN_tl (rdN_tl (rdN_tl (rdN_hd rfl ?_))))))))
    | refine stoK.hd (by simp) ?_
    | refine stoK.tl (stoK.hd (by simp) ?_)
    | refine stoK.tl (stoK.tl (stoK.hd (by simp) ?_))
    | refine stoK.tl (stoK.tl (stoK.tl (stoK.hd (by simp) ?_)))
    | refine stoK.tl (stoK.tl (stoK.tl (stoK.tl (stoK.hd (by simp) ?_))))
    | refine stoK.tl (stoK.tl (stoK.tl (stoK.tl (stoK.tl (stoK.hd (by simp) ?_)))))
    | refine stoK.tl (stoK.tl (stoK.tl (stoK.tl (stoK.tl (stoK.tl (stoK.hd (by simp) ?_))))))
    | refine stoK.tl (stoK.tl (stoK.tl (stoK.tl (stoK.tl (stoK.tl (stoK.tl (stoK.hd (by simp) ?_)))))))
    | refine stoK.tl (stoK.tl (stoK.tl (stoK.tl (stoK.tl (stoK.tl (stoK.tl (stoK.tl (stoK.hd (by simp) ?_))))))))
    | exact ⟨rfl, rfl, rfl⟩
    | (refine And.intro ?_ ?_; (· omega))
    | refine ⟨fun hg => ?_, fun hg => ?_⟩
    | (refine VC.condb rfl (fun hg => ?_) (fun hg => ?_) <;> (try simp -implicitDefEqProofs only [hg, if_true, if_false, ↓reduceIte, Bool.false_eq_true]))
    | fail
  refine VC.loop (fun j : Nat => [(0, .slice (some ⟨b, 0, none⟩) 1 1), (1, .int .i64 1), (7, .slice (some ⟨b, 0, none⟩) 1 1), (8, .int .i64 1), (9, .int .i64 (j : Int))])
    (fun j G' L' => j ≤ 1 ∧ G' = G ∧ (j = 0 → L' = []) ∧ (j = 1 → n0 ≤ 50 ∧ n1 ≤ 50 ∧ m0 ≤ 50 ∧ m1 ≤ 50 ∧ m5 ≤ 50 ∧ n8 ≤ 50)) (fun j => 1 - j) 0 (by simp [Env.Sub, Env.get]) ⟨by omega, rfl, fun _ => rfl, fun h => by omega⟩ ?_
  rintro j _ L' ⟨hj, rfl, hL, hf⟩
  obtain rfl | rfl : j = 0 ∨ j = 1 := by omega
  · obtain rfl := hL rfl
    repeat' first
      | with_reducible refine thn_n ?_
      | with_reducible refine thn_r ?_
      | with_reducible refine thn_e ?_
      | with_reducible refine blk_n ?_
      | with_reducible refine blk_r ?_
      | with_reducible refine blk_h ?_
      | with_reducible refine blk_m rfl ?_
      | with_reducible refine fin_n ?_
      | with_reducible refine fin_r ?_
      | with_reducible refine VC.rseq hP hk fun K q hK hq => ?_
      | with_reducible refine VC.rend hP hk fun K q hK hq => ?_
      | with_reducible refine VC.seq ?_
      | with_reducible refine VC.skip ?_
      | with_reducible refine VC.ret ?_
      | with_reducible refine VC.exit ?_
      | with_reducible refine VC.block ?_
      | refine vops_gt rfl ?_
      | refine vops_gf rfl ?_
      | refine vsch_gt rfl ?_
      | refine vsch_gf rfl ?_
      | refine vall_gt rfl ?_ ?_
      | refine vall_gf rfl ?_ ?_
      | (refine vops_gb rfl (fun hb => ?_) (fun hb => ?_) <;> (try simp only [Bool.not_true, Bool.not_false] at hb) <;> (try simp -implicitDefEqProofs only [hb, if_true, if_false, ↓reduceIte, Bool.false_eq_true]))
      | (refine vsch_gb rfl (by simp only [noStop]) (fun hb => ?_) (fun hb => ?_) <;> (try simp only [Bool.not_true, Bool.not_false] at hb) <;> (try simp -implicitDefEqProofs only [hb, if_true, if_false, ↓reduceIte, Bool.false_eq_true]))
      | refine vall_gb rfl (fun hb => ?_) (fun hb => ?_) ?_
      | refine VC.condt rfl ?_
      | refine VC.condf rfl ?_
      | (refine hK.out _ _ _ _ (by simp -implicitDefEqProofs only [go_sem, ↓reduceIte, Int.reduceToNat, Int.reduceBEq, Int.reduceBNe, beq_self_eq_true, bne_self_eq_false, Int.reduceLT, Int.reduceLE, Int.reduceAdd, Int.reduceSub, Int.reduceNeg, decide_true, decide_false, gt_iff_lt, ge_iff_le, Int.natCast_one, Int.natCast_zero, Int.cast_ofNat_Int, Nat.reduceLeDiff, Nat.reduceEqDiff, Nat.reduceAdd, Nat.reduceSub, Nat.reduceMul, reduceCtorEq]; rfl) ?_; clear hK hq K q)
      | simp -implicitDefEqProofs only [go_sem, ↓reduceIte, Int.reduceToNat, Int.reduceBEq, Int.reduceBNe, beq_self_eq_true, bne_self_eq_false, Int.reduceLT, Int.reduceLE, Int.reduceAdd, Int.reduceSub, Int.reduceNeg, decide_true, decide_false, gt_iff_lt, ge_iff_le, Int.natCast_one, Int.natCast_zero, Int.cast_ofNat_Int, Nat.reduceLeDiff, Nat.reduceEqDiff, Nat.reduceAdd, Nat.reduceSub, Nat.reduceMul, reduceCtorEq]
      | refine newB_own' fun b1 => ?_
      | refine rdN_sub hr rfl ?_
      | refine rd1_hd rfl ?_
      | refine rd1_tl (rd1_hd rfl ?_)
      | refine rd1_tl (rd1_tl (rd1_hd rfl ?_))
      | refine rd1_tl (rd1_tl (rd1_tl (rd1_hd rfl ?_)))
      | refine rd1_tl (rd1_tl (rd1_tl (rd1_tl (rd1_hd rfl ?_))))
      | refine rd1_tl (rd1_tl (rd1_tl (rd1_tl (rd1_tl (rd1_hd rfl ?_)))))
      | refine rd1_tl (rd1_tl (rd1_tl (rd1_tl (rd1_tl (rd1_tl (rd1_hd rfl ?_))))))
      | refine rd1_tl (rd1_tl (rd1_tl (rd1_tl (rd1_tl (rd1_tl (rd1_tl (rd1_hd rfl ?_)))))))
      | refine rd1_tl (rd1_tl (rd1_tl (rd1_tl (rd1_tl (rd1_tl (rd1_tl (rd1_tl (rd1_hd rfl ?_))))))))
      | refine rdN_hd rfl ?_
      | refine rdN_tl (rdN_hd rfl ?_)
      | refine rdN_tl (rdN_tl (rdN_hd rfl ?_))
      | refine rdN_tl (rdN_tl (rdN_tl (rdN_hd rfl ?_)))
      | refine rdN_tl (rdN_tl (rdN_tl (rdN_tl (rdN_hd rfl ?_))))
      | refine rdN_tl (rdN_tl (rdN_tl (rdN_tl (rdN_tl (rdN_hd rfl ?_)))))
      | refine rdN_tl (rdN_tl (rdN_tl (rdN_tl (rdN_tl (rdN_tl (rdN_hd rfl ?_))))))
      | refine rdN_tl (rdN_tl (rdN_tl (rdN_tl (rdN_tl (rdN_tl (rdN_tl (rdN_hd rfl ?_)))))))
      | refine rdN_tl (rdN_tl (rdN_tl (rdN_tl (rdN_tl (rdN_tl (rdN_tl (rdN_tl (rdN_hd rfl ?_))))))))
      | refine stoK.hd (by simp) ?_
      | refine stoK.tl (stoK.hd (by simp) ?_)
      | refine stoK.tl (stoK.tl (stoK.hd (by simp) ?_))
      | refine stoK.tl (stoK.tl (stoK.tl (stoK.hd (by simp) ?_)))
      | refine stoK.tl (stoK.tl (stoK.tl (stoK.tl (stoK.hd (by simp) ?_))))
      | refine stoK.tl (stoK.tl (stoK.tl (stoK.tl (stoK.tl (stoK.hd (by simp) ?_)))))
      | refine stoK.tl (stoK.tl (stoK.tl (stoK.tl (stoK.tl (stoK.tl (stoK.hd (by simp) ?_))))))
      | refine stoK.tl (stoK.tl (stoK.tl (stoK.tl (stoK.tl (stoK.tl (stoK.tl (stoK.hd (by simp) ?_)))))))
      | refine stoK.tl (stoK.tl (stoK.tl (stoK.tl (stoK.tl (stoK.tl (stoK.tl (stoK.tl (stoK.hd (by simp) ?_))))))))
      | exact ⟨rfl, rfl, rfl⟩
      | (refine And.intro ?_ ?_; (· omega))
      | refine ⟨fun hg => ?_, fun hg => ?_⟩
      | (refine VC.condb rfl (fun hg => ?_) (fun hg => ?_) <;> (try simp -implicitDefEqProofs only [hg, if_true, if_false, ↓reduceIte, Bool.false_eq_true]))
      | fail
    · exact Gives.ret (fun k hk => hk _ fun h => by cases h) (by repeat' first | exact List.Sublist.refl _ | exact List.nil_sublist _ | (with_reducible refine List.Sublist.cons_cons _ ?_) | refine List.Sublist.cons _ ?_ | fail)
    · refine ⟨1, by omega, by simp [Env.Sub, Env.get]; exact wrap64 (by omega) (by omega), by omega, fun h => by omega, fun _ => ?_⟩
      rw [wrap64 (i := (n0 : Int) + n1) (by omega) (by omega), wrap64 (i := (n0 : Int) + n1 + m5) (by omega) (by omega), wrap64 (i := (n0 : Int) + n1 + m5 + m0) (by omega) (by omega), wrap64 (i := (n0 : Int) + n1 + m5 + m0 + m1) (by omega) (by omega)] at hb
      have h6 := of_decide_eq_false hb
      have h7 := of_decide_eq_false hg
      omega
    · exact Gives.ret (fun k hk => hk _ fun h => by cases h) (by repeat' first | exact List.Sublist.refl _ | exact List.nil_sublist _ | (with_reducible refine List.Sublist.cons_cons _ ?_) | refine List.Sublist.cons _ ?_ | fail)
  · repeat' first
      | with_reducible refine thn_n ?_
      | with_reducible refine thn_r ?_
      | with_reducible refine thn_e ?_
      | with_reducible refine blk_n ?_
      | with_reducible refine blk_r ?_
      | with_reducible refine blk_h ?_
      | with_reducible refine blk_m rfl ?_
      | with_reducible refine fin_n ?_
      | with_reducible refine fin_r ?_
      | with_reducible refine VC.rseq hP hk fun K q hK hq => ?_
      | with_reducible refine VC.rend hP hk fun K q hK hq => ?_
      | with_reducible refine VC.seq ?_
      | with_reducible refine VC.skip ?_
      | with_reducible refine VC.ret ?_
      | with_reducible refine VC.exit ?_
      | with_reducible refine VC.block ?_
      | refine vops_gt rfl ?_
      | refine vops_gf rfl ?_
      | refine vsch_gt rfl ?_
      | refine vsch_gf rfl ?_
      | refine vall_gt rfl ?_ ?_
      | refine vall_gf rfl ?_ ?_
      | (refine vops_gb rfl (fun hb => ?_) (fun hb => ?_) <;> (try simp only [Bool.not_true, Bool.not_false] at hb) <;> (try simp -implicitDefEqProofs only [hb, if_true, if_false, ↓reduceIte, Bool.false_eq_true]))
      | (refine vsch_gb rfl (by simp only [noStop]) (fun hb => ?_) (fun hb => ?_) <;> (try simp only [Bool.not_true, Bool.not_false] at hb) <;> (try simp -implicitDefEqProofs only [hb, if_true, if_false, ↓reduceIte, Bool.false_eq_true]))
      | refine vall_gb rfl (fun hb => ?_) (fun hb => ?_) ?_
      | refine VC.condt rfl ?_
      | refine VC.condf rfl ?_
      | (refine hK.out _ _ _ _ (by simp -implicitDefEqProofs only [go_sem, ↓reduceIte, Int.reduceToNat, Int.reduceBEq, Int.reduceBNe, beq_self_eq_true, bne_self_eq_false, Int.reduceLT, Int.reduceLE, Int.reduceAdd, Int.reduceSub, Int.reduceNeg, decide_true, decide_false, gt_iff_lt, ge_iff_le, Int.natCast_one, Int.natCast_zero, Int.cast_ofNat_Int, Nat.reduceLeDiff, Nat.reduceEqDiff, Nat.reduceAdd, Nat.reduceSub, Nat.reduceMul, reduceCtorEq]; rfl) ?_; clear hK hq K q)
      | simp -implicitDefEqProofs only [go_sem, ↓reduceIte, Int.reduceToNat, Int.reduceBEq, Int.reduceBNe, beq_self_eq_true, bne_self_eq_false, Int.reduceLT, Int.reduceLE, Int.reduceAdd, Int.reduceSub, Int.reduceNeg, decide_true, decide_false, gt_iff_lt, ge_iff_le, Int.natCast_one, Int.natCast_zero, Int.cast_ofNat_Int, Nat.reduceLeDiff, Nat.reduceEqDiff, Nat.reduceAdd, Nat.reduceSub, Nat.reduceMul, reduceCtorEq]
      | refine rd1_hd rfl ?_
      | refine rd1_tl (rd1_hd rfl ?_)
      | refine rd1_tl (rd1_tl (rd1_hd rfl ?_))
      | refine rd1_tl (rd1_tl (rd1_tl (rd1_hd rfl ?_)))
      | refine rd1_tl (rd1_tl (rd1_tl (rd1_tl (rd1_hd rfl ?_))))
      | refine rd1_tl (rd1_tl (rd1_tl (rd1_tl (rd1_tl (rd1_hd rfl ?_)))))
      | refine rd1_tl (rd1_tl (rd1_tl (rd1_tl (rd1_tl (rd1_tl (rd1_hd rfl ?_))))))
      | refine rd1_tl (rd1_tl (rd1_tl (rd1_tl (rd1_tl (rd1_tl (rd1_tl (rd1_hd rfl ?_)))))))
      | refine rd1_tl (rd1_tl (rd1_tl (rd1_tl (rd1_tl (rd1_tl (rd1_tl (rd1_tl (rd1_hd rfl ?_))))))))
      | refine rdN_hd rfl ?_
      | refine rdN_tl (rdN_hd rfl ?_)
      | refine rdN_tl (rdN_tl (rdN_hd rfl ?_))
      | refine rdN_tl (rdN_tl (rdN_tl (rdN_hd rfl ?_)))
      | refine rdN_tl (rdN_tl (rdN_tl (rdN_tl (rdN_hd rfl ?_))))
      | refine rdN_tl (rdN_tl (rdN_tl (rdN_tl (rdN_tl (rdN_hd rfl ?_)))))
      | refine rdN_tl (rdN_tl (rdN_tl (rdN_tl (rdN_tl (rdN_tl (rdN_hd rfl ?_))))))
      | refine rdN_tl (rdN_tl (rdN_tl (rdN_tl (rdN_tl (rdN_tl (rdN_tl (rdN_hd rfl ?_)))))))
      | refine rdN_tl (rdN_tl (rdN_tl (rdN_tl (rdN_tl (rdN_tl (rdN_tl (rdN_tl (rdN_hd rfl ?_))))))))
      | refine stoK.hd (by simp) ?_
      | refine stoK.tl (stoK.hd (by simp) ?_)
      | refine stoK.tl (stoK.tl (stoK.hd (by simp) ?_))
      | refine stoK.tl (stoK.tl (stoK.tl (stoK.hd (by simp) ?_)))
      | refine stoK.tl (stoK.tl (stoK.tl (stoK.tl (stoK.hd (by simp) ?_))))
      | refine stoK.tl (stoK.tl (stoK.tl (stoK.tl (stoK.tl (stoK.hd (by simp) ?_)))))
      | refine stoK.tl (stoK.tl (stoK.tl (stoK.tl (stoK.tl (stoK.tl (stoK.hd (by simp) ?_))))))
      | refine stoK.tl (stoK.tl (stoK.tl (stoK.tl (stoK.tl (stoK.tl (stoK.tl (stoK.hd (by simp) ?_)))))))
      | refine stoK.tl (stoK.tl (stoK.tl (stoK.tl (stoK.tl (stoK.tl (stoK.tl (stoK.tl (stoK.hd (by simp) ?_))))))))
      | exact ⟨rfl, rfl, rfl⟩
      | (refine And.intro ?_ ?_; (· omega))
      | refine ⟨fun hg => ?_, fun hg => ?_⟩
      | (refine VC.condb rfl (fun hg => ?_) (fun hg => ?_) <;> (try simp -implicitDefEqProofs only [hg, if_true, if_false, ↓reduceIte, Bool.false_eq_true]))
      | fail
    exact Gives.ret (fun k hk => hk _ fun _ => hf rfl) (by repeat' first | exact List.Sublist.refl _ | exact List.nil_sublist _ | (with_reducible refine List.Sublist.cons_cons _ ?_) | refine List.Sublist.cons _ ?_ | fail)
-- 8 (*trunnion/store.Store).AddFunc
def cd8 : VFun := ⟨14, [.tmp 4], (.seq (.reg [⟨(some 3), none, (.ef (.box 29 (.tmp 1)))⟩, ⟨(some 4), none, (.rd (.mov (.val (.int .i64 0))))⟩])
  (.seq (.seq (.reg [⟨(some 5), none, (.rd (.mov (.tmp 0)))⟩, ⟨(some 6), none, (.ef (.call 24 [(.tmp 5)]))⟩, ⟨(some 7), none, (.rd (.not (.tmp 6)))⟩])
  (.cond (.tmp 7) (.seq (.reg [⟨(some 4), none, (.rd (.mov (.val (.int .i64 (-1)))))⟩])
  .ret)
  .skip))
  (.seq (.draw (.take 0 [1, 2, 5, 6] ⟨(some 8), none, (.rd (.mov (.tmp 0)))⟩ (.take 1 [2, 5, 6] ⟨(some 9), none, (.rd (.nilck (.tmp 8)))⟩ (.take 2 [5, 6] ⟨(some 10), none, (.rd (.fa 1 (.tmp 9)))⟩ (.all [(3, ⟨(some 11), none, (.rd (.loadN 10 (.tmp 3)))⟩, (.all [(4, ⟨(some 12), none, (.ef (.call 26 [(.tmp 11)]))⟩, (.all [(5, ⟨(some 13), none, (.ef (.call 25 [(.tmp 10), (.tmp 12)]))⟩, (.take 6 [] ⟨(some 4), none, (.rd (.mov (.tmp 13)))⟩ .done))]))]))])))))
  .ret)))⟩
@[go_sem] def ks8 : List Nat := [0, 1, 3, 4, 7]
theorem ce8 : comp Try.prog 8 = some cd8 := by kernel_rfl
-- 9 (*trunnion/store.Store).AddInst
def cd9 : VFun := ⟨14, [.tmp 4], (.seq (.reg [⟨(some 3), none, (.ef (.box 34 (.tmp 1)))⟩, ⟨(some 4), none, (.rd (.mov (.val (.int .i64 0))))⟩])
  (.seq (.seq (.reg [⟨(some 5), none, (.rd (.mov (.tmp 0)))⟩, ⟨(some 6), none, (.ef (.call 24 [(.tmp 5)]))⟩, ⟨(some 7), none, (.rd (.not (.tmp 6)))⟩])
  (.cond (.tmp 7) (.seq (.reg [⟨(some 4), none, (.rd (.mov (.val (.int .i64 (-1)))))⟩])
  .ret)
  .skip))
  (.seq (.draw (.take 0 [1, 2, 5, 6] ⟨(some 8), none, (.rd (.mov (.tmp 0)))⟩ (.take 1 [2, 5, 6] ⟨(some 9), none, (.rd (.nilck (.tmp 8)))⟩ (.take 2 [5, 6] ⟨(some 10), none, (.rd (.fa 5 (.tmp 9)))⟩ (.all [(3, ⟨(some 11), none, (.rd (.loadN 6 (.tmp 3)))⟩, (.all [(4, ⟨(some 12), none, (.ef (.call 28 [(.tmp 11)]))⟩, (.all [(5, ⟨(some 13), none, (.ef (.call 27 [(.tmp 10), (.tmp 12)]))⟩, (.take 6 [] ⟨(some 4), none, (.rd (.mov (.tmp 13)))⟩ .done))]))]))])))))
  .ret)))⟩
@[go_sem] def ks9 : List Nat := [0, 1, 3, 4, 7]
theorem ce9 : comp Try.prog 9 = some cd9 := by kernel_rfl
-- 29 (*trunnion/store.row[trunnion/api.Fn]).at
def cd29 : VFun := ⟨26, [.cellN 4 10, .tmp 5], (.seq (.reg [⟨(some 4), none, (.ef (.alloc 29 [(.slice none 0 0), (.slice none 0 0), (.bool false), (.string ⟨#[]⟩), (.int .i64 0), (.int .i64 0), (.int .i64 0), (.slice none 0 0), (.slice none 0 0), (.int .i64 0)]))⟩, ⟨(some 5), none, (.rd (.mov (.val (.bool false))))⟩])
  (.seq (.reg [⟨(some 6), none, (.ef (.alloc 29 [(.slice none 0 0), (.slice none 0 0), (.bool false), (.string ⟨#[]⟩), (.int .i64 0), (.int .i64 0), (.int .i64 0), (.slice none 0 0), (.slice none 0 0), (.int .i64 0)]))⟩])
  (.seq (.seq (.reg [⟨(some 7), none, (.rd (.mov (.tmp 1)))⟩, ⟨(some 8), none, (.rd (.biI .lss (.tmp 7) (.val (.int .i64 0))))⟩, ⟨(some 9), none, (.rd (.mov (.tmp 8)))⟩, ⟨(some 10), (some (9, false)), (.rd (.mov (.tmp 1)))⟩, ⟨(some 11), (some (9, false)), (.rd (.mov (.tmp 0)))⟩, ⟨(some 12), (some (9, false)), (.rd (.nilck (.tmp 11)))⟩, ⟨(some 13), (some (9, false)), (.rd (.fa 0 (.tmp 12)))⟩, ⟨(some 14), (some (9, false)), (.rd (.load1 (.tmp 13)))⟩, ⟨(some 15), (some (9, false)), (.rd (.lenL (.tmp 14)))⟩, ⟨(some 16), (some (9, false)), (.rd (.biI .geq (.tmp 10) (.tmp 15)))⟩, ⟨(some 17), none, (.rd (.pick (.tmp 9) (.val (.bool true)) (.tmp 16)))⟩])
  (.cond (.tmp 17) (.seq (.reg [⟨(some 18), none, (.rd (.loadN 10 (.tmp 6)))⟩, ⟨none, none, (.ef (.store 10 (.tmp 4) (.tmp 18)))⟩, ⟨(some 5), none, (.rd (.mov (.val (.bool false))))⟩])
  .ret)
  .skip))
  (.seq (.reg [⟨(some 19), none, (.rd (.mov (.tmp 0)))⟩, ⟨(some 20), none, (.rd (.nilck (.tmp 19)))⟩, ⟨(some 21), none, (.rd (.fa 0 (.tmp 20)))⟩, ⟨(some 22), none, (.rd (.load1 (.tmp 21)))⟩, ⟨(some 23), none, (.rd (.mov (.tmp 1)))⟩, ⟨(some 24), none, (.rd (.ia 10 (.tmp 22) (.tmp 23)))⟩, ⟨(some 25), none, (.rd (.loadN 10 (.tmp 24)))⟩, ⟨none, none, (.ef (.store 10 (.tmp 4) (.tmp 25)))⟩, ⟨(some 5), none, (.rd (.mov (.val (.bool true))))⟩])
  .ret))))⟩
@[go_sem] def ks29 : List Nat := [0, 1, 4, 5, 6, 17]
theorem ce29 : comp Try.prog 29 = some cd29 := by kernel_rfl
-- 30 (*trunnion/store.row[trunnion/api.Inst]).at
def cd30 : VFun := ⟨26, [.cellN 4 6, .tmp 5], (.seq (.reg [⟨(some 4), none, (.ef (.alloc 34 [(.slice none 0 0), (.slice none 0 0), (.slice none 0 0), (.slice none 0 0), (.slice none 0 0), (.slice none 0 0)]))⟩, ⟨(some 5), none, (.rd (.mov (.val (.bool false))))⟩])
  (.seq (.reg [⟨(some 6), none, (.ef (.alloc 34 [(.slice none 0 0), (.slice none 0 0), (.slice none 0 0), (.slice none 0 0), (.slice none 0 0), (.slice none 0 0)]))⟩])
  (.seq (.seq (.reg [⟨(some 7), none, (.rd (.mov (.tmp 1)))⟩, ⟨(some 8), none, (.rd (.biI .lss (.tmp 7) (.val (.int .i64 0))))⟩, ⟨(some 9), none, (.rd (.mov (.tmp 8)))⟩, ⟨(some 10), (some (9, false)), (.rd (.mov (.tmp 1)))⟩, ⟨(some 11), (some (9, false)), (.rd (.mov (.tmp 0)))⟩, ⟨(some 12), (some (9, false)), (.rd (.nilck (.tmp 11)))⟩, ⟨(some 13), (some (9, false)), (.rd (.fa 0 (.tmp 12)))⟩, ⟨(some 14), (some (9, false)), (.rd (.load1 (.tmp 13)))⟩, ⟨(some 15), (some (9, false)), (.rd (.lenL (.tmp 14)))⟩, ⟨(some 16), (some (9, false)), (.rd (.biI .geq (.tmp 10) (.tmp 15)))⟩, ⟨(some 17), none, (.rd (.pick (.tmp 9) (.val (.bool true)) (.tmp 16)))⟩])
  (.cond (.tmp 17) (.seq (.reg [⟨(some 18), none, (.rd (.loadN 6 (.tmp 6)))⟩, ⟨none, none, (.ef (.store 6 (.tmp 4) (.tmp 18)))⟩, ⟨(some 5), none, (.rd (.mov (.val (.bool false))))⟩])
  .ret)
  .skip))
  (.seq (.reg [⟨(some 19), none, (.rd (.mov (.tmp 0)))⟩, ⟨(some 20), none, (.rd (.nilck (.tmp 19)))⟩, ⟨(some 21), none, (.rd (.fa 0 (.tmp 20)))⟩, ⟨(some 22), none, (.rd (.load1 (.tmp 21)))⟩, ⟨(some 23), none, (.rd (.mov (.tmp 1)))⟩, ⟨(some 24), none, (.rd (.ia 6 (.tmp 22) (.tmp 23)))⟩, ⟨(some 25), none, (.rd (.loadN 6 (.tmp 24)))⟩, ⟨none, none, (.ef (.store 6 (.tmp 4) (.tmp 25)))⟩, ⟨(some 5), none, (.rd (.mov (.val (.bool true))))⟩])
  .ret))))⟩
@[go_sem] def ks30 : List Nat := [0, 1, 4, 5, 6, 17]
theorem ce30 : comp Try.prog 30 = some cd30 := by kernel_rfl
-- 10 (*trunnion/store.Store).Func
def cd10 : VFun := ⟨23, [.cellN 4 10, .tmp 5], (.seq (.reg [⟨(some 4), none, (.ef (.alloc 29 [(.slice none 0 0), (.slice none 0 0), (.bool false), (.string ⟨#[]⟩), (.int .i64 0), (.int .i64 0), (.int .i64 0), (.slice none 0 0), (.slice none 0 0), (.int .i64 0)]))⟩, ⟨(some 5), none, (.rd (.mov (.val (.bool false))))⟩])
  (.seq (.seq (.reg [⟨(some 8), none, (.rd (.mov (.tmp 0)))⟩, ⟨(some 9), none, (.ef (.call 24 [(.tmp 8)]))⟩, ⟨(some 10), none, (.rd (.not (.tmp 9)))⟩])
  (.cond (.tmp 10) (.seq (.reg [⟨(some 11), none, (.rd (.bld [(.slice none 0 0), (.slice none 0 0), (.bool false), (.string ⟨#[]⟩), (.int .i64 0), (.int .i64 0), (.int .i64 0), (.slice none 0 0), (.slice none 0 0), (.int .i64 0)] []))⟩, ⟨none, none, (.ef (.store 10 (.tmp 4) (.tmp 11)))⟩, ⟨(some 5), none, (.rd (.mov (.val (.bool false))))⟩])
  .ret)
  .skip))
  (.seq (.reg [⟨(some 13), none, (.rd (.mov (.tmp 0)))⟩, ⟨(some 14), none, (.rd (.nilck (.tmp 13)))⟩, ⟨(some 15), none, (.rd (.fa 1 (.tmp 14)))⟩, ⟨(some 16), none, (.rd (.mov (.tmp 1)))⟩, ⟨(some 17), none, (.ef (.call 29 [(.tmp 15), (.tmp 16)]))⟩, ⟨(some 12), none, (.rd (.mov (.tmp 17)))⟩, ⟨(some 18), none, (.rd (.ext 0 (.tmp 12)))⟩, ⟨(some 19), none, (.rd (.ext 1 (.tmp 12)))⟩, ⟨(some 6), none, (.ef (.alloc 29 [(.slice none 0 0), (.slice none 0 0), (.bool false), (.string ⟨#[]⟩), (.int .i64 0), (.int .i64 0), (.int .i64 0), (.slice none 0 0), (.slice none 0 0), (.int .i64 0)]))⟩, ⟨none, none, (.ef (.store 10 (.tmp 6) (.tmp 18)))⟩, ⟨(some 7), none, (.rd (.mov (.tmp 19)))⟩])
  (.seq (.reg [⟨(some 20), none, (.rd (.loadN 10 (.tmp 6)))⟩, ⟨(some 21), none, (.ef (.call 26 [(.tmp 20)]))⟩, ⟨(some 22), none, (.rd (.mov (.tmp 7)))⟩, ⟨none, none, (.ef (.store 10 (.tmp 4) (.tmp 21)))⟩, ⟨(some 5), none, (.rd (.mov (.tmp 22)))⟩])
  .ret))))⟩
@[go_sem] def ks10 : List Nat := [0, 1, 4, 5, 6, 7, 10]
theorem ce10 : comp Try.prog 10 = some cd10 := by kernel_rfl
-- 11 (*trunnion/store.Store).Inst
def cd11 : VFun := ⟨23, [.cellN 4 6, .tmp 5], (.seq (.reg [⟨(some 4), none, (.ef (.alloc 34 [(.slice none 0 0), (.slice none 0 0), (.slice none 0 0), (.slice none 0 0), (.slice none 0 0), (.slice none 0 0)]))⟩, ⟨(some 5), none, (.rd (.mov (.val (.bool false))))⟩])
  (.seq (.seq (.reg [⟨(some 8), none, (.rd (.mov (.tmp 0)))⟩, ⟨(some 9), none, (.ef (.call 24 [(.tmp 8)]))⟩, ⟨(some 10), none, (.rd (.not (.tmp 9)))⟩])
  (.cond (.tmp 10) (.seq (.reg [⟨(some 11), none, (.rd (.bld [(.slice none 0 0), (.slice none 0 0), (.slice none 0 0), (.slice none 0 0), (.slice none 0 0), (.slice none 0 0)] []))⟩, ⟨none, none, (.ef (.store 6 (.tmp 4) (.tmp 11)))⟩, ⟨(some 5), none, (.rd (.mov (.val (.bool false))))⟩])
  .ret)
  .skip))
  (.seq (.reg [⟨(some 13), none, (.rd (.mov (.tmp 0)))⟩, ⟨(some 14), none, (.rd (.nilck (.tmp 13)))⟩, ⟨(some 15), none, (.rd (.fa 5 (.tmp 14)))⟩, ⟨(some 16), none, (.rd (.mov (.tmp 1)))⟩, ⟨(some 17), none, (.ef (.call 30 [(.tmp 15), (.tmp 16)]))⟩, ⟨(some 12), none, (.rd (.mov (.tmp 17)))⟩, ⟨(some 18), none, (.rd (.ext 0 (.tmp 12)))⟩, ⟨(some 19), none, (.rd (.ext 1 (.tmp 12)))⟩, ⟨(some 6), none, (.ef (.alloc 34 [(.slice none 0 0), (.slice none 0 0), (.slice none 0 0), (.slice none 0 0), (.slice none 0 0), (.slice none 0 0)]))⟩, ⟨none, none, (.ef (.store 6 (.tmp 6) (.tmp 18)))⟩, ⟨(some 7), none, (.rd (.mov (.tmp 19)))⟩])
  (.seq (.reg [⟨(some 20), none, (.rd (.loadN 6 (.tmp 6)))⟩, ⟨(some 21), none, (.ef (.call 28 [(.tmp 20)]))⟩, ⟨(some 22), none, (.rd (.mov (.tmp 7)))⟩, ⟨none, none, (.ef (.store 6 (.tmp 4) (.tmp 21)))⟩, ⟨(some 5), none, (.rd (.mov (.tmp 22)))⟩])
  .ret))))⟩
@[go_sem] def ks11 : List Nat := [0, 1, 4, 5, 6, 7, 10]
theorem ce11 : comp Try.prog 11 = some cd11 := by kernel_rfl
theorem s8 {G : Stab} {s n c : Nat} {A0 A1 A7 A8 A : Option Addr} {n0 n1 n7 n8 c0 c1 c7 c8 : Nat} {p0 p1 p7 st xs : List Value} {hst : Bool} {nm : ByteArray} {i4 i5 i6 i9 : Int} {T2 T3 T4 T5 : Value} (hn : n ≤ 1000)
    (h0 : Row G 1 1 A0 n0 p0) (h1 : Row G 1 1 A1 n1 p1) (h7 : Row G 1 1 A7 n7 p7) (h8 : Row G 5 48 A8 n8 st) (hs : Steps G n8 st) :
    Con Try.prog 8 ⟨[pt s, .agg ⟨[.slice A0 n0 c0, .slice A1 n1 c1, .bool hst, .string nm, .int .i64 i4, .int .i64 i5, .int .i64 i6, .slice A7 n7 c7, .slice A8 n8 c8, .int .i64 i9]⟩]⟩ G
      [.obj s [.bool true, .slice A n c, T2, T3, T4, T5] 100, .acc (.slice A n c) n xs 29 10]
      (Gives fun k => ∀ G' A' c' B0 d0 B1 d1 B7 d7 B8 d8 q1 q7 st', G.Le G' → Row G' 1 1 B0 n0 p0 → Row G' 1 1 B1 n1 q1 → Row G' 1 1 B7 n7 q7 → Row G' 5 48 B8 n8 st' → Steps G' n8 st' → (∀ j, j < n8 → st'[j * 5]? = st[j * 5]?) →
        k (.int .i64 n) G' [.obj s [.bool true, .slice A' (n + 1) c', T2, T3, T4, T5] 100, .acc (.slice A' (n + 1) c') (n + 1) (xs ++ [.slice B0 n0 d0, .slice B1 n1 d1, .bool hst, .string nm, .int .i64 i4, .int .i64 i5, .int .i64 i6, .slice B7 n7 d7, .slice B8 n8 d8, .int .i64 i9]) 29 10]) := by
  refine Con.of_vc ce8 ks8 mixed (by simp [cd8]) fun Γ hP hk => ?_
  simp only [cd8]
  repeat' first
    | with_reducible refine thn_n ?_
    | with_reducible refine thn_r ?_
    | with_reducible refine thn_e ?_
    | with_reducible refine blk_n ?_
    | with_reducible refine blk_r ?_
    | with_reducible refine blk_h ?_
    | with_reducible refine blk_m rfl ?_
    | with_reducible refine fin_n ?_
    | with_reducible refine fin_r ?_
    | with_reducible refine VC.rseq hP hk fun K q hK hq => ?_
    | with_reducible refine VC.rend hP hk fun K q hK hq => ?_
    | with_reducible refine VC.seq ?_
    | with_reducible refine VC.skip ?_
    | with_reducible refine VC.ret ?_
    | with_reducible refine VC.exit ?_
    | with_reducible refine VC.block ?_
    | refine vops_gt rfl ?_
    | refine vops_gf rfl ?_
    | refine vsch_gt rfl ?_
    | refine vsch_gf rfl ?_
    | refine vall_gt rfl ?_ ?_
    | refine vall_gf rfl ?_ ?_
    | (refine vops_gb rfl (fun hb => ?_) (fun hb => ?_) <;> (try simp only [Bool.not_true, Bool.not_false] at hb) <;> (try simp -implicitDefEqProofs only [hb, if_true, if_false, ↓reduceIte, Bool.false_eq_true]))
    | (refine vsch_gb rfl (by simp only [noStop]) (fun hb => ?_) (fun hb => ?_) <;> (try simp only [Bool.not_true, Bool.not_false] at hb) <;> (try simp -implicitDefEqProofs only [hb, if_true, if_false, ↓reduceIte, Bool.false_eq_true]))
    | refine vall_gb rfl (fun hb => ?_) (fun hb => ?_) ?_
    | refine VC.condt rfl ?_
    | refine VC.condf rfl ?_
    | (refine hK.out _ _ _ _ (by simp -implicitDefEqProofs only [go_sem, ↓reduceIte, Int.reduceToNat, Int.reduceBEq, Int.reduceBNe, beq_self_eq_true, bne_self_eq_false, Int.reduceLT, Int.reduceLE, Int.reduceAdd, Int.reduceSub, Int.reduceNeg, decide_true, decide_false, gt_iff_lt, ge_iff_le, Int.natCast_one, Int.natCast_zero, Int.cast_ofNat_Int, Nat.reduceLeDiff, Nat.reduceEqDiff, Nat.reduceAdd, Nat.reduceSub, Nat.reduceMul, reduceCtorEq]; rfl) ?_; clear hK hq K q)
    | simp -implicitDefEqProofs only [go_sem, ↓reduceIte, Int.reduceToNat, Int.reduceBEq, Int.reduceBNe, beq_self_eq_true, bne_self_eq_false, Int.reduceLT, Int.reduceLE, Int.reduceAdd, Int.reduceSub, Int.reduceNeg, decide_true, decide_false, gt_iff_lt, ge_iff_le, Int.natCast_one, Int.natCast_zero, Int.cast_ofNat_Int, Nat.reduceLeDiff, Nat.reduceEqDiff, Nat.reduceAdd, Nat.reduceSub, Nat.reduceMul, reduceCtorEq]
    | refine newB_own' fun b1 => ?_
    | refine callK.cps s24 (by (try simp only [lent, List.cons_append, List.nil_append]); repeat' first | exact List.Perm.refl _ | ((with_reducible refine permTake (pre := []) rfl ?_); simp only [List.cons_append, List.nil_append]) | ((with_reducible refine permTake (pre := [_]) rfl ?_); simp only [List.cons_append, List.nil_append]) | ((with_reducible refine permTake (pre := [_, _]) rfl ?_); simp only [List.cons_append, List.nil_append]) | ((with_reducible refine permTake (pre := [_, _, _]) rfl ?_); simp only [List.cons_append, List.nil_append]) | ((with_reducible refine permTake (pre := [_, _, _, _]) rfl ?_); simp only [List.cons_append, List.nil_append]) | ((with_reducible refine permTake (pre := [_, _, _, _, _]) rfl ?_); simp only [List.cons_append, List.nil_append]) | ((with_reducible refine permTake (pre := [_, _, _, _, _, _]) rfl ?_); simp only [List.cons_append, List.nil_append]) | fail) ?_
    | refine rd1_hd rfl ?_
    | refine rd1_tl (rd1_hd rfl ?_)
    | refine rd1_tl (rd1_tl (rd1_hd rfl ?_))
    | refine rd1_tl (rd1_tl (rd1_tl (rd1_hd rfl ?_)))
    | refine rd1_tl (rd1_tl (rd1_tl (rd1_tl (rd1_hd rfl ?_))))
    | refine rd1_tl (rd1_tl (rd1_tl (rd1_tl (rd1_tl (rd1_hd rfl ?_)))))
    | refine rd1_tl (rd1_tl (rd1_tl (rd1_tl (rd1_tl (rd1_tl (rd1_hd rfl ?_))))))
    | refine rd1_tl (rd1_tl (rd1_tl (rd1_tl (rd1_tl (rd1_tl (rd1_tl (rd1_hd rfl ?_)))))))
    | refine rd1_tl (rd1_tl (rd1_tl (rd1_tl (rd1_tl (rd1_tl (rd1_tl (rd1_tl (rd1_hd rfl ?_))))))))
    | refine rdN_hd rfl ?_
    | refine rdN_tl (rdN_hd rfl ?_)
    | refine rdN_tl (rdN_tl (rdN_hd rfl ?_))
    | refine rdN_tl (rdN_tl (rdN_tl (rdN_hd rfl ?_)))
    | refine rdN_tl (rdN_tl (rdN_tl (rdN_tl (rdN_hd rfl ?_))))
    | refine rdN_tl (rdN_tl (rdN_tl (rdN_tl (rdN_tl (rdN_hd rfl ?_)))))
    | refine rdN_tl (rdN_tl (rdN_tl (rdN_tl (rdN_tl (rdN_tl (rdN_hd rfl ?_))))))
    | refine rdN_tl (rdN_tl (rdN_tl (rdN_tl (rdN_tl (rdN_tl (rdN_tl (rdN_hd rfl ?_)))))))
    | refine rdN_tl (rdN_tl (rdN_tl (rdN_tl (rdN_tl (rdN_tl (rdN_tl (rdN_tl (rdN_hd rfl ?_))))))))
    | refine stoK.hd (by simp) ?_
    | refine stoK.tl (stoK.hd (by simp) ?_)
    | refine stoK.tl (stoK.tl (stoK.hd (by simp) ?_))
    | refine stoK.tl (stoK.tl (stoK.tl (stoK.hd (by simp) ?_)))
    | refine stoK.tl (stoK.tl (stoK.tl (stoK.tl (stoK.hd (by simp) ?_))))
    | refine stoK.tl (stoK.tl (stoK.tl (stoK.tl (stoK.tl (stoK.hd (by simp) ?_)))))
    | refine stoK.tl (stoK.tl (stoK.tl (stoK.tl (stoK.tl (stoK.tl (stoK.hd (by simp) ?_))))))
    | refine stoK.tl (stoK.tl (stoK.tl (stoK.tl (stoK.tl (stoK.tl (stoK.tl (stoK.hd (by simp) ?_)))))))
    | refine stoK.tl (stoK.tl (stoK.tl (stoK.tl (stoK.tl (stoK.tl (stoK.tl (stoK.tl (stoK.hd (by simp) ?_))))))))
    | exact ⟨rfl, rfl, rfl⟩
    | (refine And.intro ?_ ?_; (· omega))
    | refine ⟨fun hg => ?_, fun hg => ?_⟩
    | (refine VC.condb rfl (fun hg => ?_) (fun hg => ?_) <;> (try simp -implicitDefEqProofs only [hg, if_true, if_false, ↓reduceIte, Bool.false_eq_true]))
    | fail
  refine VC.dend hP hk ([.obj b1 _ 29, .obj s _ 100, .acc (.slice A n c) n xs 29 10]) ([]) (by (try simp only [lent, List.cons_append, List.nil_append]); repeat' first | exact List.Perm.refl _ | ((with_reducible refine permTake (pre := []) rfl ?_); simp only [List.cons_append, List.nil_append]) | ((with_reducible refine permTake (pre := [_]) rfl ?_); simp only [List.cons_append, List.nil_append]) | ((with_reducible refine permTake (pre := [_, _]) rfl ?_); simp only [List.cons_append, List.nil_append]) | ((with_reducible refine permTake (pre := [_, _, _]) rfl ?_); simp only [List.cons_append, List.nil_append]) | ((with_reducible refine permTake (pre := [_, _, _, _]) rfl ?_); simp only [List.cons_append, List.nil_append]) | ((with_reducible refine permTake (pre := [_, _, _, _, _]) rfl ?_); simp only [List.cons_append, List.nil_append]) | ((with_reducible refine permTake (pre := [_, _, _, _, _, _]) rfl ?_); simp only [List.cons_append, List.nil_append]) | fail) fun K q hK hq => ?_
  try simp -implicitDefEqProofs only [go_sem, ↓reduceIte, Int.reduceToNat, Int.reduceBEq, Int.reduceBNe, beq_self_eq_true, bne_self_eq_false, Int.reduceLT, Int.reduceLE, Int.reduceAdd, Int.reduceSub, Int.reduceNeg, decide_true, decide_false, gt_iff_lt, ge_iff_le, Int.natCast_one, Int.natCast_zero, Int.cast_ofNat_Int, Nat.reduceLeDiff, Nat.reduceEqDiff, Nat.reduceAdd, Nat.reduceSub, Nat.reduceMul, reduceCtorEq]
  repeat' first
    | with_reducible refine thn_n ?_
    | with_reducible refine thn_r ?_
    | with_reducible refine thn_e ?_
    | with_reducible refine blk_n ?_
    | with_reducible refine blk_r ?_
    | with_reducible refine blk_h ?_
    | with_reducible refine blk_m rfl ?_
    | with_reducible refine fin_r ?_
    | with_reducible refine VC.rseq hP hk fun K q hK hq => ?_
    | with_reducible refine VC.rend hP hk fun K q hK hq => ?_
    | with_reducible refine VC.seq ?_
    | with_reducible refine VC.skip ?_
    | with_reducible refine VC.exit ?_
    | with_reducible refine VC.block ?_
    | refine vops_gt rfl ?_
    | refine vops_gf rfl ?_
    | refine vsch_gt rfl ?_
    | refine vsch_gf rfl ?_
    | refine vall_gt rfl ?_ ?_
    | refine vall_gf rfl ?_ ?_
    | (refine vops_gb rfl (fun hb => ?_) (fun hb => ?_) <;> (try simp only [Bool.not_true, Bool.not_false] at hb) <;> (try simp -implicitDefEqProofs only [hb, if_true, if_false, ↓reduceIte, Bool.false_eq_true]))
    | (refine vsch_gb rfl (by simp only [noStop]) (fun hb => ?_) (fun hb => ?_) <;> (try simp only [Bool.not_true, Bool.not_false] at hb) <;> (try simp -implicitDefEqProofs only [hb, if_true, if_false, ↓reduceIte, Bool.false_eq_true]))
    | refine vall_gb rfl (fun hb => ?_) (fun hb => ?_) ?_
    | refine VC.condt rfl ?_
    | refine VC.condf rfl ?_
    | (refine hK.out _ _ _ _ (by simp -implicitDefEqProofs only [go_sem, ↓reduceIte, Int.reduceToNat, Int.reduceBEq, Int.reduceBNe, beq_self_eq_true, bne_self_eq_false, Int.reduceLT, Int.reduceLE, Int.reduceAdd, Int.reduceSub, Int.reduceNeg, decide_true, decide_false, gt_iff_lt, ge_iff_le, Int.natCast_one, Int.natCast_zero, Int.cast_ofNat_Int, Nat.reduceLeDiff, Nat.reduceEqDiff, Nat.reduceAdd, Nat.reduceSub, Nat.reduceMul, reduceCtorEq]; rfl) ?_; clear hK hq K q)
    | simp -implicitDefEqProofs only [go_sem, ↓reduceIte, Int.reduceToNat, Int.reduceBEq, Int.reduceBNe, beq_self_eq_true, bne_self_eq_false, Int.reduceLT, Int.reduceLE, Int.reduceAdd, Int.reduceSub, Int.reduceNeg, decide_true, decide_false, gt_iff_lt, ge_iff_le, Int.natCast_one, Int.natCast_zero, Int.cast_ofNat_Int, Nat.reduceLeDiff, Nat.reduceEqDiff, Nat.reduceAdd, Nat.reduceSub, Nat.reduceMul, reduceCtorEq]
    | refine callK.cps0 (s26 h0 h1 h7 h8 hs) fun G1 B0 d0 B1 d1 B7 d7 B8 d8 q1 q7 st' g1 f0 f8 r1 r7 rs ro => ?_
    | refine callK.cps (R := [.obj b1 _ 29, .acc _ n0 p0 _ _, .acc _ n8 _ _ _]) (s25 hn (by simp [Value.oneCell'])) (by (try simp only [lent, List.cons_append, List.nil_append]); repeat' first | exact List.Perm.refl _ | ((with_reducible refine permTake (pre := []) rfl ?_); simp only [List.cons_append, List.nil_append]) | ((with_reducible refine permTake (pre := [_]) rfl ?_); simp only [List.cons_append, List.nil_append]) | ((with_reducible refine permTake (pre := [_, _]) rfl ?_); simp only [List.cons_append, List.nil_append]) | ((with_reducible refine permTake (pre := [_, _, _]) rfl ?_); simp only [List.cons_append, List.nil_append]) | ((with_reducible refine permTake (pre := [_, _, _, _]) rfl ?_); simp only [List.cons_append, List.nil_append]) | ((with_reducible refine permTake (pre := [_, _, _, _, _]) rfl ?_); simp only [List.cons_append, List.nil_append]) | ((with_reducible refine permTake (pre := [_, _, _, _, _, _]) rfl ?_); simp only [List.cons_append, List.nil_append]) | fail) fun A' c' => ?_
    | refine rd1_hd rfl ?_
    | refine rd1_tl (rd1_hd rfl ?_)
    | refine rd1_tl (rd1_tl (rd1_hd rfl ?_))
    | refine rd1_tl (rd1_tl (rd1_tl (rd1_hd rfl ?_)))
    | refine rd1_tl (rd1_tl (rd1_tl (rd1_tl (rd1_hd rfl ?_))))
    | refine rd1_tl (rd1_tl (rd1_tl (rd1_tl (rd1_tl (rd1_hd rfl ?_)))))
    | refine rd1_tl (rd1_tl (rd1_tl (rd1_tl (rd1_tl (rd1_tl (rd1_hd rfl ?_))))))
    | refine rd1_tl (rd1_tl (rd1_tl (rd1_tl (rd1_tl (rd1_tl (rd1_tl (rd1_hd rfl ?_)))))))
    | refine rd1_tl (rd1_tl (rd1_tl (rd1_tl (rd1_tl (rd1_tl (rd1_tl (rd1_tl (rd1_hd rfl ?_))))))))
    | refine rdN_hd rfl ?_
    | refine rdN_tl (rdN_hd rfl ?_)
    | refine rdN_tl (rdN_tl (rdN_hd rfl ?_))
    | refine rdN_tl (rdN_tl (rdN_tl (rdN_hd rfl ?_)))
    | refine rdN_tl (rdN_tl (rdN_tl (rdN_tl (rdN_hd rfl ?_))))
    | refine rdN_tl (rdN_tl (rdN_tl (rdN_tl (rdN_tl (rdN_hd rfl ?_)))))
    | refine rdN_tl (rdN_tl (rdN_tl (rdN_tl (rdN_tl (rdN_tl (rdN_hd rfl ?_))))))
    | refine rdN_tl (rdN_tl (rdN_tl (rdN_tl (rdN_tl (rdN_tl (rdN_tl (rdN_hd rfl ?_)))))))
    | refine rdN_tl (rdN_tl (rdN_tl (rdN_tl (rdN_tl (rdN_tl (rdN_tl (rdN_tl (rdN_hd rfl ?_))))))))
    | refine stoK.hd (by simp) ?_
    | refine stoK.tl (stoK.hd (by simp) ?_)
    | refine stoK.tl (stoK.tl (stoK.hd (by simp) ?_))
    | refine stoK.tl (stoK.tl (stoK.tl (stoK.hd (by simp) ?_)))
    | refine stoK.tl (stoK.tl (stoK.tl (stoK.tl (stoK.hd (by simp) ?_))))
    | refine stoK.tl (stoK.tl (stoK.tl (stoK.tl (stoK.tl (stoK.hd (by simp) ?_)))))
    | refine stoK.tl (stoK.tl (stoK.tl (stoK.tl (stoK.tl (stoK.tl (stoK.hd (by simp) ?_))))))
    | refine stoK.tl (stoK.tl (stoK.tl (stoK.tl (stoK.tl (stoK.tl (stoK.tl (stoK.hd (by simp) ?_)))))))
    | refine stoK.tl (stoK.tl (stoK.tl (stoK.tl (stoK.tl (stoK.tl (stoK.tl (stoK.tl (stoK.hd (by simp) ?_))))))))
    | exact ⟨rfl, rfl, rfl⟩
    | (refine And.intro ?_ ?_; (· omega))
    | refine ⟨fun hg => ?_, fun hg => ?_⟩
    | (refine VC.condb rfl (fun hg => ?_) (fun hg => ?_) <;> (try simp -implicitDefEqProofs only [hg, if_true, if_false, ↓reduceIte, Bool.false_eq_true]))
    | fail
  refine VC.fixRow (L1 := [.obj b1 _ _, .acc (.slice B8 n8 d8) n8 _ _ _, .obj s _ _, .acc (.slice A' (n + 1) c') _ _ _ _]) 1 (by (try simp only [lent, List.cons_append, List.nil_append]); repeat' first | exact List.Perm.refl _ | ((with_reducible refine permTake (pre := []) rfl ?_); simp only [List.cons_append, List.nil_append]) | ((with_reducible refine permTake (pre := [_]) rfl ?_); simp only [List.cons_append, List.nil_append]) | ((with_reducible refine permTake (pre := [_, _]) rfl ?_); simp only [List.cons_append, List.nil_append]) | ((with_reducible refine permTake (pre := [_, _, _]) rfl ?_); simp only [List.cons_append, List.nil_append]) | ((with_reducible refine permTake (pre := [_, _, _, _]) rfl ?_); simp only [List.cons_append, List.nil_append]) | ((with_reducible refine permTake (pre := [_, _, _, _, _]) rfl ?_); simp only [List.cons_append, List.nil_append]) | ((with_reducible refine permTake (pre := [_, _, _, _, _, _]) rfl ?_); simp only [List.cons_append, List.nil_append]) | fail) h0.one h0.size fun G2 g2 r2 => ?_
  refine VC.fixRow (L1 := [.obj b1 _ _, .obj s _ _, .acc (.slice A' (n + 1) c') _ _ _ _]) 48 (by (try simp only [lent, List.cons_append, List.nil_append]); repeat' first | exact List.Perm.refl _ | ((with_reducible refine permTake (pre := []) rfl ?_); simp only [List.cons_append, List.nil_append]) | ((with_reducible refine permTake (pre := [_]) rfl ?_); simp only [List.cons_append, List.nil_append]) | ((with_reducible refine permTake (pre := [_, _]) rfl ?_); simp only [List.cons_append, List.nil_append]) | ((with_reducible refine permTake (pre := [_, _, _]) rfl ?_); simp only [List.cons_append, List.nil_append]) | ((with_reducible refine permTake (pre := [_, _, _, _]) rfl ?_); simp only [List.cons_append, List.nil_append]) | ((with_reducible refine permTake (pre := [_, _, _, _, _]) rfl ?_); simp only [List.cons_append, List.nil_append]) | ((with_reducible refine permTake (pre := [_, _, _, _, _, _]) rfl ?_); simp only [List.cons_append, List.nil_append]) | fail) rs.one h8.size fun G3 g3 r3 => ?_
  repeat' first
    | with_reducible refine thn_n ?_
    | with_reducible refine thn_r ?_
    | with_reducible refine thn_e ?_
    | with_reducible refine blk_n ?_
    | with_reducible refine blk_r ?_
    | with_reducible refine blk_h ?_
    | with_reducible refine blk_m rfl ?_
    | with_reducible refine fin_n ?_
    | with_reducible refine fin_r ?_
    | with_reducible refine VC.rseq hP hk fun K q hK hq => ?_
    | with_reducible refine VC.rend hP hk fun K q hK hq => ?_
    | with_reducible refine VC.seq ?_
    | with_reducible refine VC.skip ?_
    | with_reducible refine VC.ret ?_
    | with_reducible refine VC.exit ?_
    | with_reducible refine VC.block ?_
    | refine vops_gt rfl ?_
    | refine vops_gf rfl ?_
    | refine vsch_gt rfl ?_
    | refine vsch_gf rfl ?_
    | refine vall_gt rfl ?_ ?_
    | refine vall_gf rfl ?_ ?_
    | (refine vops_gb rfl (fun hb => ?_) (fun hb => ?_) <;> (try simp only [Bool.not_true, Bool.not_false] at hb) <;> (try simp -implicitDefEqProofs only [hb, if_true, if_false, ↓reduceIte, Bool.false_eq_true]))
    | (refine vsch_gb rfl (by simp only [noStop]) (fun hb => ?_) (fun hb => ?_) <;> (try simp only [Bool.not_true, Bool.not_false] at hb) <;> (try simp -implicitDefEqProofs only [hb, if_true, if_false, ↓reduceIte, Bool.false_eq_true]))
    | refine vall_gb rfl (fun hb => ?_) (fun hb => ?_) ?_
    | refine VC.condt rfl ?_
    | refine VC.condf rfl ?_
    | (refine hK.out _ _ _ _ (by simp -implicitDefEqProofs only [go_sem, ↓reduceIte, Int.reduceToNat, Int.reduceBEq, Int.reduceBNe, beq_self_eq_true, bne_self_eq_false, Int.reduceLT, Int.reduceLE, Int.reduceAdd, Int.reduceSub, Int.reduceNeg, decide_true, decide_false, gt_iff_lt, ge_iff_le, Int.natCast_one, Int.natCast_zero, Int.cast_ofNat_Int, Nat.reduceLeDiff, Nat.reduceEqDiff, Nat.reduceAdd, Nat.reduceSub, Nat.reduceMul, reduceCtorEq]; rfl) ?_; clear hK hq K q)
    | simp -implicitDefEqProofs only [go_sem, ↓reduceIte, Int.reduceToNat, Int.reduceBEq, Int.reduceBNe, beq_self_eq_true, bne_self_eq_false, Int.reduceLT, Int.reduceLE, Int.reduceAdd, Int.reduceSub, Int.reduceNeg, decide_true, decide_false, gt_iff_lt, ge_iff_le, Int.natCast_one, Int.natCast_zero, Int.cast_ofNat_Int, Nat.reduceLeDiff, Nat.reduceEqDiff, Nat.reduceAdd, Nat.reduceSub, Nat.reduceMul, reduceCtorEq]
    | refine rd1_hd rfl ?_
    | refine rd1_tl (rd1_hd rfl ?_)
    | refine rd1_tl (rd1_tl (rd1_hd rfl ?_))
    | refine rd1_tl (rd1_tl (rd1_tl (rd1_hd rfl ?_)))
    | refine rd1_tl (rd1_tl (rd1_tl (rd1_tl (rd1_hd rfl ?_))))
    | refine rd1_tl (rd1_tl (rd1_tl (rd1_tl (rd1_tl (rd1_hd rfl ?_)))))
    | refine rd1_tl (rd1_tl (rd1_tl (rd1_tl (rd1_tl (rd1_tl (rd1_hd rfl ?_))))))
    | refine rd1_tl (rd1_tl (rd1_tl (rd1_tl (rd1_tl (rd1_tl (rd1_tl (rd1_hd rfl ?_)))))))
    | refine rd1_tl (rd1_tl (rd1_tl (rd1_tl (rd1_tl (rd1_tl (rd1_tl (rd1_tl (rd1_hd rfl ?_))))))))
    | refine rdN_hd rfl ?_
    | refine rdN_tl (rdN_hd rfl ?_)
    | refine rdN_tl (rdN_tl (rdN_hd rfl ?_))
    | refine rdN_tl (rdN_tl (rdN_tl (rdN_hd rfl ?_)))
    | refine rdN_tl (rdN_tl (rdN_tl (rdN_tl (rdN_hd rfl ?_))))
    | refine rdN_tl (rdN_tl (rdN_tl (rdN_tl (rdN_tl (rdN_hd rfl ?_)))))
    | refine rdN_tl (rdN_tl (rdN_tl (rdN_tl (rdN_tl (rdN_tl (rdN_hd rfl ?_))))))
    | refine rdN_tl (rdN_tl (rdN_tl (rdN_tl (rdN_tl (rdN_tl (rdN_tl (rdN_hd rfl ?_)))))))
    | refine rdN_tl (rdN_tl (rdN_tl (rdN_tl (rdN_tl (rdN_tl (rdN_tl (rdN_tl (rdN_hd rfl ?_))))))))
    | refine stoK.hd (by simp) ?_
    | refine stoK.tl (stoK.hd (by simp) ?_)
    | refine stoK.tl (stoK.tl (stoK.hd (by simp) ?_))
    | refine stoK.tl (stoK.tl (stoK.tl (stoK.hd (by simp) ?_)))
    | refine stoK.tl (stoK.tl (stoK.tl (stoK.tl (stoK.hd (by simp) ?_))))
    | refine stoK.tl (stoK.tl (stoK.tl (stoK.tl (stoK.tl (stoK.hd (by simp) ?_)))))
    | refine stoK.tl (stoK.tl (stoK.tl (stoK.tl (stoK.tl (stoK.tl (stoK.hd (by simp) ?_))))))
    | refine stoK.tl (stoK.tl (stoK.tl (stoK.tl (stoK.tl (stoK.tl (stoK.tl (stoK.hd (by simp) ?_)))))))
    | refine stoK.tl (stoK.tl (stoK.tl (stoK.tl (stoK.tl (stoK.tl (stoK.tl (stoK.tl (stoK.hd (by simp) ?_))))))))
    | exact ⟨rfl, rfl, rfl⟩
    | (refine And.intro ?_ ?_; (· omega))
    | refine ⟨fun hg => ?_, fun hg => ?_⟩
    | (refine VC.condb rfl (fun hg => ?_) (fun hg => ?_) <;> (try simp -implicitDefEqProofs only [hg, if_true, if_false, ↓reduceIte, Bool.false_eq_true]))
    | fail
  have g := g2.trans g3
  exact Gives.ret (fun k hk => hk _ _ _ _ _ _ _ _ _ _ _ _ _ _ (g1.trans g) (r2.mono g3) (r1.mono g) (r7.mono g) r3 (rs.mono g) ro) (by repeat' first | exact List.Sublist.refl _ | exact List.nil_sublist _ | (with_reducible refine List.Sublist.cons_cons _ ?_) | refine List.Sublist.cons _ ?_ | fail)
end Go.Proofs.Ytpddchnapcmmkaa
