import Derived.Test.YtpddchnapcmmkaaA10
namespace Go.Proofs.Ytpddchnapcmmkaa
open Go Go.Sy
set_option linter.unusedSimpArgs false
set_option linter.unusedVariables false
section
variable {Γ : Ctx} {G : Stab} {b2 b3 s b6 b8 : Nat} {Q : Post} {R : List Ent} {env : Env}
abbrev base2 (b2 b3 s b6 b8 : Nat) : Env := [(2, pt b2), (3, pt b3), (5, pt s), (6, pt b6), (8, pt b8)]
theorem loop0 (hP : Γ.P = Try.prog) (hk : Γ.keep = ks3) {B0 : Option Addr} {n0 d0 : Nat} {r : List Value} (o6 : G.has ⟨b6, 0, none⟩ (.slice B0 n0 d0 :: r)) (f0 : Fresh B0 n0 d0) {p : List Value} (hl : p.length = n0 * 1) (hm : n0 ≤ 9223372036854775807) (hp : ∀ i, i < n0 → ∃ v, p[i]? = some (.int .u8 v))
    (he : Env.Sub (base2 b2 b3 s b6 b8 ++ [(64, .int .i64 n0), (65, .int .i64 0)]) env) (hQ : ∀ env' p', Env.Sub (base2 b2 b3 s b6 b8) env' → Q .normal env' G (.acc (.slice B0 n0 d0) n0 p' 5 1 :: R)) :
    VC Γ cd3_3 env G (.acc (.slice B0 n0 d0) n0 p 5 1 :: R) Q := by
  refine VC.sub _ he ?_
  simp only [cd3_3, base2, List.cons_append, List.nil_append]
  refine VC.block (VC.loop (fun j : Nat => [(2, pt b2), (3, pt b3), (5, pt s), (6, pt b6), (8, pt b8), (64, .int .i64 n0), (65, .int .i64 (j : Int))])
    (fun j G' L' => j ≤ n0 ∧ G = G' ∧ ∃ p', .acc (.slice B0 n0 d0) n0 p' 5 1 :: R = L' ∧ p'.length = n0 * 1 ∧ ∀ i, i < n0 → ∃ v, p'[i]? = some (.int .u8 v)) (fun j => n0 - j) 0 (by simp [Env.Sub, Env.get]) ⟨by omega, rfl, p, rfl, hl, hp⟩ ?_)
  rintro j _ _ ⟨hj, rfl, p', rfl, hl', hp'⟩
  repeat' first
    | with_reducible refine thn_n ?_
    | with_reducible refine thn_r ?_
    | with_reducible refine thn_e ?_
    | with_reducible refine blk_n ?_
    | with_reducible refine blk_r ?_
    | with_reducible refine blk_h ?_
    | with_reducible refine blk_m rfl ?_
    | with_reducible refine fin_r ?_
    | with_reducible refine VC.rseq hP hk fun K q hK hq => ?_
    | with_reducible refine VC.rend hP hk fun K q hK hq => ?_
    | with_reducible refine VC.seq ?_
    | with_reducible refine VC.skip ?_
    | with_reducible refine VC.ret ?_
    | with_reducible refine VC.exit ?_
    | with_reducible refine VC.block ?_
    | refine vops_gt rfl ?_
    | refine vops_gf rfl ?_
    | refine vsch_gt rfl ?_
    | refine vsch_gf rfl ?_
    | refine vall_gt rfl ?_ ?_
    | refine vall_gf rfl ?_ ?_
    | (refine vops_gb rfl (fun hb => ?_) (fun hb => ?_) <;> (try simp only [Bool.not_true, Bool.not_false] at hb) <;> (try simp -implicitDefEqProofs only [hb, if_true, if_false, ↓reduceIte, Bool.false_eq_true]))
    | (refine vsch_gb rfl (by simp only [noStop]) (fun hb => ?_) (fun hb => ?_) <;> (try simp only [Bool.not_true, Bool.not_false] at hb) <;> (try simp -implicitDefEqProofs only [hb, if_true, if_false, ↓reduceIte, Bool.false_eq_true]))
    | refine vall_gb rfl (fun hb => ?_) (fun hb => ?_) ?_
    | refine VC.condt rfl ?_
    | refine VC.condf rfl ?_
    | (refine hK.out _ _ _ _ (by simp -implicitDefEqProofs only [go_sem, ↓reduceIte, Int.reduceToNat, Nat.mul_one, Int.reduceBEq, Int.reduceBNe, beq_self_eq_true, bne_self_eq_false, Int.reduceLT, Int.reduceLE, Int.reduceAdd, Int.reduceSub, Int.reduceNeg, decide_true, decide_false, gt_iff_lt, ge_iff_le, Int.natCast_one, Int.natCast_zero, Int.cast_ofNat_Int, Nat.reduceLeDiff, Nat.reduceEqDiff, Nat.reduceAdd, Nat.reduceSub, Nat.reduceMul, reduceCtorEq]; rfl) ?_; clear hK hq K q)
    | simp -implicitDefEqProofs only [go_sem, ↓reduceIte, Int.reduceToNat, Nat.mul_one, Int.reduceBEq, Int.reduceBNe, beq_self_eq_true, bne_self_eq_false, Int.reduceLT, Int.reduceLE, Int.reduceAdd, Int.reduceSub, Int.reduceNeg, decide_true, decide_false, gt_iff_lt, ge_iff_le, Int.natCast_one, Int.natCast_zero, Int.cast_ofNat_Int, Nat.reduceLeDiff, Nat.reduceEqDiff, Nat.reduceAdd, Nat.reduceSub, Nat.reduceMul, reduceCtorEq]
    | refine rd1_hd rfl ?_
    | refine rd1_tl (rd1_hd rfl ?_)
    | refine rd1_tl (rd1_tl (rd1_hd rfl ?_))
    | refine rd1_tl (rd1_tl (rd1_tl (rd1_hd rfl ?_)))
    | refine rd1_tl (rd1_tl (rd1_tl (rd1_tl (rd1_hd rfl ?_))))
    | refine rd1_tl (rd1_tl (rd1_tl (rd1_tl (rd1_tl (rd1_hd rfl ?_)))))
    | refine rd1_tl (rd1_tl (rd1_tl (rd1_tl (rd1_tl (rd1_tl (rd1_hd rfl ?_))))))
    | refine rd1_tl (rd1_tl (rd1_tl (rd1_tl (rd1_tl (rd1_tl (rd1_tl (rd1_hd rfl ?_)))))))
    | refine rd1_tl (rd1_tl (rd1_tl (rd1_tl (rd1_tl (rd1_tl (rd1_tl (rd1_tl (rd1_hd rfl ?_))))))))
    | refine rdN_hd rfl ?_
    | refine rdN_tl (rdN_hd rfl ?_)
    | refine rdN_tl (rdN_tl (rdN_hd rfl ?_))
    | refine rdN_tl (rdN_tl (rdN_tl (rdN_hd rfl ?_)))
    | refine rdN_tl (rdN_tl (rdN_tl (rdN_tl (rdN_hd rfl ?_))))
    | refine rdN_tl (rdN_tl (rdN_tl (rdN_tl (rdN_tl (rdN_hd rfl ?_)))))
    | refine rdN_tl (rdN_tl (rdN_tl (rdN_tl (rdN_tl (rdN_tl (rdN_hd rfl ?_))))))
    | refine rdN_tl (rdN_tl (rdN_tl (rdN_tl (rdN_tl (rdN_tl (rdN_tl (rdN_hd rfl ?_)))))))
    | refine rdN_tl (rdN_tl (rdN_tl (rdN_tl (rdN_tl (rdN_tl (rdN_tl (rdN_tl (rdN_hd rfl ?_))))))))
    | refine stoK.hd (by simp) ?_
    | refine stoK.tl (stoK.hd (by simp) ?_)
    | refine stoK.tl (stoK.tl (stoK.hd (by simp) ?_))
    | refine stoK.tl (stoK.tl (stoK.tl (stoK.hd (by simp) ?_)))
    | refine stoK.tl (stoK.tl (stoK.tl (stoK.tl (stoK.hd (by simp) ?_))))
    | refine stoK.tl (stoK.tl (stoK.tl (stoK.tl (stoK.tl (stoK.hd (by simp) ?_)))))
    | refine stoK.tl (stoK.tl (stoK.tl (stoK.tl (stoK.tl (stoK.tl (stoK.hd (by simp) ?_))))))
    | refine stoK.tl (stoK.tl (stoK.tl (stoK.tl (stoK.tl (stoK.tl (stoK.tl (stoK.hd (by simp) ?_)))))))
    | refine stoK.tl (stoK.tl (stoK.tl (stoK.tl (stoK.tl (stoK.tl (stoK.tl (stoK.tl (stoK.hd (by simp) ?_))))))))
    | exact ⟨rfl, rfl, rfl⟩
    | (refine And.intro ?_ ?_; (· omega))
    | refine ⟨fun hg => ?_, fun hg => ?_⟩
    | (refine VC.condb rfl (fun hg => ?_) (fun hg => ?_) <;> (try simp -implicitDefEqProofs only [hg, if_true, if_false, ↓reduceIte, Bool.false_eq_true]))
    | fail
  · have hj' : j < n0 := by simpa using hg
    obtain ⟨v0, ex⟩ := hp' j hj'
    rcases f0 with ⟨_, h, _⟩ | ⟨y, rfl⟩
    · omega
    repeat' first
      | with_reducible refine thn_n ?_
      | with_reducible refine thn_r ?_
      | with_reducible refine thn_e ?_
      | with_reducible refine blk_n ?_
      | with_reducible refine blk_r ?_
      | with_reducible refine blk_h ?_
      | with_reducible refine blk_m rfl ?_
      | with_reducible refine fin_n ?_
      | with_reducible refine fin_r ?_
      | with_reducible refine VC.rseq hP hk fun K q hK hq => ?_
      | with_reducible refine VC.rend hP hk fun K q hK hq => ?_
      | with_reducible refine VC.seq ?_
      | with_reducible refine VC.skip ?_
      | with_reducible refine VC.ret ?_
      | with_reducible refine VC.exit ?_
      | with_reducible refine VC.block ?_
      | refine vops_gt rfl ?_
      | refine vops_gf rfl ?_
      | refine vsch_gt rfl ?_
      | refine vsch_gf rfl ?_
      | refine vall_gt rfl ?_ ?_
      | refine vall_gf rfl ?_ ?_
      | (refine vops_gb rfl (fun hb => ?_) (fun hb => ?_) <;> (try simp only [Bool.not_true, Bool.not_false] at hb) <;> (try simp -implicitDefEqProofs only [hb, if_true, if_false, ↓reduceIte, Bool.false_eq_true]))
      | (refine vsch_gb rfl (by simp only [noStop]) (fun hb => ?_) (fun hb => ?_) <;> (try simp only [Bool.not_true, Bool.not_false] at hb) <;> (try simp -implicitDefEqProofs only [hb, if_true, if_false, ↓reduceIte, Bool.false_eq_true]))
      | refine vall_gb rfl (fun hb => ?_) (fun hb => ?_) ?_
      | refine VC.condt rfl ?_
      | refine VC.condf rfl ?_
      | (refine hK.out _ _ _ _ (by simp -implicitDefEqProofs only [go_sem, ↓reduceIte, Int.reduceToNat, Nat.mul_one, Int.reduceBEq, Int.reduceBNe, beq_self_eq_true, bne_self_eq_false, Int.reduceLT, Int.reduceLE, Int.reduceAdd, Int.reduceSub, Int.reduceNeg, decide_true, decide_false, gt_iff_lt, ge_iff_le, Int.natCast_one, Int.natCast_zero, Int.cast_ofNat_Int, Nat.reduceLeDiff, Nat.reduceEqDiff, Nat.reduceAdd, Nat.reduceSub, Nat.reduceMul, reduceCtorEq]; rfl) ?_; clear hK hq K q)
      | simp -implicitDefEqProofs only [go_sem, ↓reduceIte, Int.reduceToNat, Nat.mul_one, Int.reduceBEq, Int.reduceBNe, beq_self_eq_true, bne_self_eq_false, Int.reduceLT, Int.reduceLE, Int.reduceAdd, Int.reduceSub, Int.reduceNeg, decide_true, decide_false, gt_iff_lt, ge_iff_le, Int.natCast_one, Int.natCast_zero, Int.cast_ofNat_Int, Nat.reduceLeDiff, Nat.reduceEqDiff, Nat.reduceAdd, Nat.reduceSub, Nat.reduceMul, reduceCtorEq]
      | refine rd1_sub o6 rfl ?_
      | refine ⟨_, rfl, ?_⟩
      | refine rd1_acc ex ?_
      | refine stoK.hdA (by simp; omega) ?_
      | refine rd1_hd rfl ?_
      | refine rd1_tl (rd1_hd rfl ?_)
      | refine rd1_tl (rd1_tl (rd1_hd rfl ?_))
      | refine rd1_tl (rd1_tl (rd1_tl (rd1_hd rfl ?_)))
      | refine rd1_tl (rd1_tl (rd1_tl (rd1_tl (rd1_hd rfl ?_))))
      | refine rd1_tl (rd1_tl (rd1_tl (rd1_tl (rd1_tl (rd1_hd rfl ?_)))))
      | refine rd1_tl (rd1_tl (rd1_tl (rd1_tl (rd1_tl (rd1_tl (rd1_hd rfl ?_))))))
      | refine rd1_tl (rd1_tl (rd1_tl (rd1_tl (rd1_tl (rd1_tl (rd1_tl (rd1_hd rfl ?_)))))))
      | refine rd1_tl (rd1_tl (rd1_tl (rd1_tl (rd1_tl (rd1_tl (rd1_tl (rd1_tl (rd1_hd rfl ?_))))))))
      | refine rdN_hd rfl ?_
      | refine rdN_tl (rdN_hd rfl ?_)
      | refine rdN_tl (rdN_tl (rdN_hd rfl ?_))
      | refine rdN_tl (rdN_tl (rdN_tl (rdN_hd rfl ?_)))
      | refine rdN_tl (rdN_tl (rdN_tl (rdN_tl (rdN_hd rfl ?_))))
      | refine rdN_tl (rdN_tl (rdN_tl (rdN_tl (rdN_tl (rdN_hd rfl ?_)))))
      | refine rdN_tl (rdN_tl (rdN_tl (rdN_tl (rdN_tl (rdN_tl (rdN_hd rfl ?_))))))
      | refine rdN_tl (rdN_tl (rdN_tl (rdN_tl (rdN_tl (rdN_tl (rdN_tl (rdN_hd rfl ?_)))))))
      | refine rdN_tl (rdN_tl (rdN_tl (rdN_tl (rdN_tl (rdN_tl (rdN_tl (rdN_tl (rdN_hd rfl ?_))))))))
      | refine stoK.hd (by simp) ?_
      | refine stoK.tl (stoK.hd (by simp) ?_)
      | refine stoK.tl (stoK.tl (stoK.hd (by simp) ?_))
      | refine stoK.tl (stoK.tl (stoK.tl (stoK.hd (by simp) ?_)))
      | refine stoK.tl (stoK.tl (stoK.tl (stoK.tl (stoK.hd (by simp) ?_))))
      | refine stoK.tl (stoK.tl (stoK.tl (stoK.tl (stoK.tl (stoK.hd (by simp) ?_)))))
      | refine stoK.tl (stoK.tl (stoK.tl (stoK.tl (stoK.tl (stoK.tl (stoK.hd (by simp) ?_))))))
      | refine stoK.tl (stoK.tl (stoK.tl (stoK.tl (stoK.tl (stoK.tl (stoK.tl (stoK.hd (by simp) ?_)))))))
      | refine stoK.tl (stoK.tl (stoK.tl (stoK.tl (stoK.tl (stoK.tl (stoK.tl (stoK.tl (stoK.hd (by simp) ?_))))))))
      | exact ⟨rfl, rfl, rfl⟩
      | (refine And.intro ?_ ?_; (· omega))
      | refine ⟨fun hg => ?_, fun hg => ?_⟩
      | (refine VC.condb rfl (fun hg => ?_) (fun hg => ?_) <;> (try simp -implicitDefEqProofs only [hg, if_true, if_false, ↓reduceIte, Bool.false_eq_true]))
      | fail
    refine ⟨j + 1, by omega, ?_, by omega, _, rfl, ?_, fun i hi => ?_⟩
    · simp [Env.Sub, Env.get]
      exact wrap64 (by omega) (by omega)
    · rw [putAt_length (by simp; omega)]; omega
    · rw [putAt_one (by omega)]
      split
      · exact ⟨_, rfl⟩
      · exact hp' i hi
  · exact hQ _ _ (by simp [Env.Sub, Env.get])
theorem loop2 (hP : Γ.P = Try.prog) (hk : Γ.keep = ks3) {B0 : Option Addr} {n0 d0 : Nat} {x0 x1 x2 x3 x4 x5 x6 x7 x9 : Value} (o6 : G.has ⟨b6, 0, none⟩ [x0, x1, x2, x3, x4, x5, x6, x7, .slice B0 n0 d0, x9]) (f0 : Fresh B0 n0 d0) {p : List Value} (hl : p.length = n0 * 5) (hm : n0 ≤ 9223372036854775807) (hp : ∀ i, i < n0 → ∃ v, p[i * 5]? = some (.int .i64 v))
    (he : Env.Sub (base2 b2 b3 s b6 b8 ++ [(80, .int .i64 n0), (81, .int .i64 0)]) env) (hQ : ∀ env' p', Env.Sub (base2 b2 b3 s b6 b8) env' → Q .normal env' G (.acc (.slice B0 n0 d0) n0 p' 56 5 :: R)) :
    VC Γ cd3_4 env G (.acc (.slice B0 n0 d0) n0 p 56 5 :: R) Q := by
  refine VC.sub _ he ?_
  simp only [cd3_4, base2, List.cons_append, List.nil_append]
  refine VC.block (VC.loop (fun j : Nat => [(2, pt b2), (3, pt b3), (5, pt s), (6, pt b6), (8, pt b8), (80, .int .i64 n0), (81, .int .i64 (j : Int))])
    (fun j G' L' => j ≤ n0 ∧ G = G' ∧ ∃ p', .acc (.slice B0 n0 d0) n0 p' 56 5 :: R = L' ∧ p'.length = n0 * 5 ∧ ∀ i, i < n0 → ∃ v, p'[i * 5]? = some (.int .i64 v)) (fun j => n0 - j) 0 (by simp [Env.Sub, Env.get]) ⟨by omega, rfl, p, rfl, hl, hp⟩ ?_)
  rintro j _ _ ⟨hj, rfl, p', rfl, hl', hp'⟩
  repeat' first
    | with_reducible refine thn_n ?_
    | with_reducible refine thn_r ?_
    | with_reducible refine thn_e ?_
    | with_reducible refine blk_n ?_
    | with_reducible refine blk_r ?_
    | with_reducible refine blk_h ?_
    | with_reducible refine blk_m rfl ?_
    | with_reducible refine fin_r ?_
    | with_reducible refine VC.rseq hP hk fun K q hK hq => ?_
    | with_reducible refine VC.rend hP hk fun K q hK hq => ?_
    | with_reducible refine VC.seq ?_
    | with_reducible refine VC.skip ?_
    | with_reducible refine VC.ret ?_
    | with_reducible refine VC.exit ?_
    | with_reducible refine VC.block ?_
    | refine vops_gt rfl ?_
    | refine vops_gf rfl ?_
    | refine vsch_gt rfl ?_
    | refine vsch_gf rfl ?_
    | refine vall_gt rfl ?_ ?_
    | refine vall_gf rfl ?_ ?_
    | (refine vops_gb rfl (fun hb => ?_) (fun hb => ?_) <;> (try simp only [Bool.not_true, Bool.not_false] at hb) <;> (try simp -implicitDefEqProofs only [hb, if_true, if_false, ↓reduceIte, Bool.false_eq_true]))
    | (refine vsch_gb rfl (by simp only [noStop]) (fun hb => ?_) (fun hb => ?_) <;> (try simp only [Bool.not_true, Bool.not_false] at hb) <;> (try simp -implicitDefEqProofs only [hb, if_true, if_false, ↓reduceIte, Bool.false_eq_true]))
    | refine vall_gb rfl (fun hb => ?_) (fun hb => ?_) ?_
    | refine VC.condt rfl ?_
    | refine VC.condf rfl ?_
    | (refine hK.out _ _ _ _ (by simp -implicitDefEqProofs only [go_sem, ↓reduceIte, Int.reduceToNat, Nat.mul_one, Int.reduceBEq, Int.reduceBNe, beq_self_eq_true, bne_self_eq_false, Int.reduceLT, Int.reduceLE, Int.reduceAdd, Int.reduceSub, Int.reduceNeg, decide_true, decide_false, gt_iff_lt, ge_iff_le, Int.natCast_one, Int.natCast_zero, Int.cast_ofNat_Int, Nat.reduceLeDiff, Nat.reduceEqDiff, Nat.reduceAdd, Nat.reduceSub, Nat.reduceMul, reduceCtorEq]; rfl) ?_; clear hK hq K q)
    | simp -implicitDefEqProofs only [go_sem, ↓reduceIte, Int.reduceToNat, Nat.mul_one, Int.reduceBEq, Int.reduceBNe, beq_self_eq_true, bne_self_eq_false, Int.reduceLT, Int.reduceLE, Int.reduceAdd, Int.reduceSub, Int.reduceNeg, decide_true, decide_false, gt_iff_lt, ge_iff_le, Int.natCast_one, Int.natCast_zero, Int.cast_ofNat_Int, Nat.reduceLeDiff, Nat.reduceEqDiff, Nat.reduceAdd, Nat.reduceSub, Nat.reduceMul, reduceCtorEq]
    | refine rd1_hd rfl ?_
    | refine rd1_tl (rd1_hd rfl ?_)
    | refine rd1_tl (rd1_tl (rd1_hd rfl ?_))
    | refine rd1_tl (rd1_tl (rd1_tl (rd1_hd rfl ?_)))
    | refine rd1_tl (rd1_tl (rd1_tl (rd1_tl (rd1_hd rfl ?_))))
    | refine rd1_tl (rd1_tl (rd1_tl (rd1_tl (rd1_tl (rd1_hd rfl ?_)))))
    | refine rd1_tl (rd1_tl (rd1_tl (rd1_tl (rd1_tl (rd1_tl (rd1_hd rfl ?_))))))
    | refine rd1_tl (rd1_tl (rd1_tl (rd1_tl (rd1_tl (rd1_tl (rd1_tl (rd1_hd rfl ?_)))))))
    | refine rd1_tl (rd1_tl (rd1_tl (rd1_tl (rd1_tl (rd1_tl (rd1_tl (rd1_tl (rd1_hd rfl ?_))))))))
    | refine rdN_hd rfl ?_
    | refine rdN_tl (rdN_hd rfl ?_)
    | refine rdN_tl (rdN_tl (rdN_hd rfl ?_))
    | refine rdN_tl (rdN_tl (rdN_tl (rdN_hd rfl ?_)))
    | refine rdN_tl (rdN_tl (rdN_tl (rdN_tl (rdN_hd rfl ?_))))
    | refine rdN_tl (rdN_tl (rdN_tl (rdN_tl (rdN_tl (rdN_hd rfl ?_)))))
    | refine rdN_tl (rdN_tl (rdN_tl (rdN_tl (rdN_tl (rdN_tl (rdN_hd rfl ?_))))))
    | refine rdN_tl (rdN_tl (rdN_tl (rdN_tl (rdN_tl (rdN_tl (rdN_tl (rdN_hd rfl ?_)))))))
    | refine rdN_tl (rdN_tl (rdN_tl (rdN_tl (rdN_tl (rdN_tl (rdN_tl (rdN_tl (rdN_hd rfl ?_))))))))
    | refine stoK.hd (by simp) ?_
    | refine stoK.tl (stoK.hd (by simp) ?_)
    | refine stoK.tl (stoK.tl (stoK.hd (by simp) ?_))
    | refine stoK.tl (stoK.tl (stoK.tl (stoK.hd (by simp) ?_)))
    | refine stoK.tl (stoK.tl (stoK.tl (stoK.tl (stoK.hd (by simp) ?_))))
    | refine stoK.tl (stoK.tl (stoK.tl (stoK.tl (stoK.tl (stoK.hd (by simp) ?_)))))
    | refine stoK.tl (stoK.tl (stoK.tl (stoK.tl (stoK.tl (stoK.tl (stoK.hd (by simp) ?_))))))
    | refine stoK.tl (stoK.tl (stoK.tl (stoK.tl (stoK.tl (stoK.tl (stoK.tl (stoK.hd (by simp) ?_)))))))
    | refine stoK.tl (stoK.tl (stoK.tl (stoK.tl (stoK.tl (stoK.tl (stoK.tl (stoK.tl (stoK.hd (by simp) ?_))))))))
    | exact ⟨rfl, rfl, rfl⟩
    | (refine And.intro ?_ ?_; (· omega))
    | refine ⟨fun hg => ?_, fun hg => ?_⟩
    | (refine VC.condb rfl (fun hg => ?_) (fun hg => ?_) <;> (try simp -implicitDefEqProofs only [hg, if_true, if_false, ↓reduceIte, Bool.false_eq_true]))
    | fail
  · have hj' : j < n0 := by simpa using hg
    obtain ⟨v0, ex⟩ := hp' j hj'
    rcases f0 with ⟨_, h, _⟩ | ⟨y, rfl⟩
    · omega
    repeat' first
      | with_reducible refine thn_n ?_
      | with_reducible refine thn_r ?_
      | with_reducible refine thn_e ?_
      | with_reducible refine blk_n ?_
      | with_reducible refine blk_r ?_
      | with_reducible refine blk_h ?_
      | with_reducible refine blk_m rfl ?_
      | with_reducible refine fin_n ?_
      | with_reducible refine fin_r ?_
      | with_reducible refine VC.rseq hP hk fun K q hK hq => ?_
      | with_reducible refine VC.rend hP hk fun K q hK hq => ?_
      | with_reducible refine VC.seq ?_
      | with_reducible refine VC.skip ?_
      | with_reducible refine VC.ret ?_
      | with_reducible refine VC.exit ?_
      | with_reducible refine VC.block ?_
      | refine vops_gt rfl ?_
      | refine vops_gf rfl ?_
      | refine vsch_gt rfl ?_
      | refine vsch_gf rfl ?_
      | refine vall_gt rfl ?_ ?_
      | refine vall_gf rfl ?_ ?_
      | (refine vops_gb rfl (fun hb => ?_) (fun hb => ?_) <;> (try simp only [Bool.not_true, Bool.not_false] at hb) <;> (try simp -implicitDefEqProofs only [hb, if_true, if_false, ↓reduceIte, Bool.false_eq_true]))
      | (refine vsch_gb rfl (by simp only [noStop]) (fun hb => ?_) (fun hb => ?_) <;> (try simp only [Bool.not_true, Bool.not_false] at hb) <;> (try simp -implicitDefEqProofs only [hb, if_true, if_false, ↓reduceIte, Bool.false_eq_true]))
      | refine vall_gb rfl (fun hb => ?_) (fun hb => ?_) ?_
      | refine VC.condt rfl ?_
      | refine VC.condf rfl ?_
      | (refine hK.out _ _ _ _ (by simp -implicitDefEqProofs only [go_sem, ↓reduceIte, Int.reduceToNat, Nat.mul_one, Int.reduceBEq, Int.reduceBNe, beq_self_eq_true, bne_self_eq_false, Int.reduceLT, Int.reduceLE, Int.reduceAdd, Int.reduceSub, Int.reduceNeg, decide_true, decide_false, gt_iff_lt, ge_iff_le, Int.natCast_one, Int.natCast_zero, Int.cast_ofNat_Int, Nat.reduceLeDiff, Nat.reduceEqDiff, Nat.reduceAdd, Nat.reduceSub, Nat.reduceMul, reduceCtorEq]; rfl) ?_; clear hK hq K q)
      | simp -implicitDefEqProofs only [go_sem, ↓reduceIte, Int.reduceToNat, Nat.mul_one, Int.reduceBEq, Int.reduceBNe, beq_self_eq_true, bne_self_eq_false, Int.reduceLT, Int.reduceLE, Int.reduceAdd, Int.reduceSub, Int.reduceNeg, decide_true, decide_false, gt_iff_lt, ge_iff_le, Int.natCast_one, Int.natCast_zero, Int.cast_ofNat_Int, Nat.reduceLeDiff, Nat.reduceEqDiff, Nat.reduceAdd, Nat.reduceSub, Nat.reduceMul, reduceCtorEq]
      | refine rd1_sub o6 rfl ?_
      | refine ⟨_, rfl, ?_⟩
      | refine rd1_acc ex ?_
      | refine stoK.hdA (by simp; omega) ?_
      | refine rd1_hd rfl ?_
      | refine rd1_tl (rd1_hd rfl ?_)
      | refine rd1_tl (rd1_tl (rd1_hd rfl ?_))
      | refine rd1_tl (rd1_tl (rd1_tl (rd1_hd rfl ?_)))
      | refine rd1_tl (rd1_tl (rd1_tl (rd1_tl (rd1_hd rfl ?_))))
      | refine rd1_tl (rd1_tl (rd1_tl (rd1_tl (rd1_tl (rd1_hd rfl ?_)))))
      | refine rd1_tl (rd1_tl (rd1_tl (rd1_tl (rd1_tl (rd1_tl (rd1_hd rfl ?_))))))
      | refine rd1_tl (rd1_tl (rd1_tl (rd1_tl (rd1_tl (rd1_tl (rd1_tl (rd1_hd rfl ?_)))))))
      | refine rd1_tl (rd1_tl (rd1_tl (rd1_tl (rd1_tl (rd1_tl (rd1_tl (rd1_tl (rd1_hd rfl ?_))))))))
      | refine rdN_hd rfl ?_
      | refine rdN_tl (rdN_hd rfl ?_)
      | refine rdN_tl (rdN_tl (rdN_hd rfl ?_))
      | refine rdN_tl (rdN_tl (rdN_tl (rdN_hd rfl ?_)))
      | refine rdN_tl (rdN_tl (rdN_tl (rdN_tl (rdN_hd rfl ?_))))
      | refine rdN_tl (rdN_tl (rdN_tl (rdN_tl (rdN_tl (rdN_hd rfl ?_)))))
      | refine rdN_tl (rdN_tl (rdN_tl (rdN_tl (rdN_tl (rdN_tl (rdN_hd rfl ?_))))))
      | refine rdN_tl (rdN_tl (rdN_tl (rdN_tl (rdN_tl (rdN_tl (rdN_tl (rdN_hd rfl ?_)))))))
      | refine rdN_tl (rdN_tl (rdN_tl (rdN_tl (rdN_tl (rdN_tl (rdN_tl (rdN_tl (rdN_hd rfl ?_))))))))
      | refine stoK.hd (by simp) ?_
      | refine stoK.tl (stoK.hd (by simp) ?_)
      | refine stoK.tl (stoK.tl (stoK.hd (by simp) ?_))
      | refine stoK.tl (stoK.tl (stoK.tl (stoK.hd (by simp) ?_)))
      | refine stoK.tl (stoK.tl (stoK.tl (stoK.tl (stoK.hd (by simp) ?_))))
      | refine stoK.tl (stoK.tl (stoK.tl (stoK.tl (stoK.tl (stoK.hd (by simp) ?_)))))
      | refine stoK.tl (stoK.tl (stoK.tl (stoK.tl (stoK.tl (stoK.tl (stoK.hd (by simp) ?_))))))
      | refine stoK.tl (stoK.tl (stoK.tl (stoK.tl (stoK.tl (stoK.tl (stoK.tl (stoK.hd (by simp) ?_)))))))
      | refine stoK.tl (stoK.tl (stoK.tl (stoK.tl (stoK.tl (stoK.tl (stoK.tl (stoK.tl (stoK.hd (by simp) ?_))))))))
      | exact ⟨rfl, rfl, rfl⟩
      | (refine And.intro ?_ ?_; (· omega))
      | refine ⟨fun hg => ?_, fun hg => ?_⟩
      | (refine VC.condb rfl (fun hg => ?_) (fun hg => ?_) <;> (try simp -implicitDefEqProofs only [hg, if_true, if_false, ↓reduceIte, Bool.false_eq_true]))
      | fail
    refine ⟨j + 1, by omega, ?_, by omega, _, rfl, ?_, fun i hi => ?_⟩
    · simp [Env.Sub, Env.get]
      exact wrap64 (by omega) (by omega)
    · rw [putAt_length (by simp; omega)]; omega
    · rw [putAt_one (by omega)]
      split
      · exact ⟨_, rfl⟩
      · exact hp' i hi
  · exact hQ _ _ (by simp [Env.Sub, Env.get])
theorem loop4 (hP : Γ.P = Try.prog) (hk : Γ.keep = ks3) {B0 : Option Addr} {n0 d0 : Nat} {x0 x2 x3 x4 x5 : Value} (o6 : G.has ⟨b8, 0, none⟩ [x0, .slice B0 n0 d0, x2, x3, x4, x5]) (f0 : Fresh B0 n0 d0) {p : List Value} (hl : p.length = n0 * 1) (hm : n0 ≤ 9223372036854775807) (hp : ∀ i, i < n0 → ∃ v, p[i]? = some (.int .i64 v))
    (he : Env.Sub (base2 b2 b3 s b6 b8 ++ [(97, .int .i64 n0), (98, .int .i64 0)]) env) (hQ : ∀ env' p', Env.Sub (base2 b2 b3 s b6 b8) env' → Q .normal env' G (.acc (.slice B0 n0 d0) n0 p' 3 1 :: R)) :
    VC Γ cd3_5 env G (.acc (.slice B0 n0 d0) n0 p 3 1 :: R) Q := by
  refine VC.sub _ he ?_
  simp only [cd3_5, base2, List.cons_append, List.nil_append]
  refine VC.block (VC.loop (fun j : Nat => [(2, pt b2), (3, pt b3), (5, pt s), (6, pt b6), (8, pt b8), (97, .int .i64 n0), (98, .int .i64 (j : Int))])
    (fun j G' L' => j ≤ n0 ∧ G = G' ∧ ∃ p', .acc (.slice B0 n0 d0) n0 p' 3 1 :: R = L' ∧ p'.length = n0 * 1 ∧ ∀ i, i < n0 → ∃ v, p'[i]? = some (.int .i64 v)) (fun j => n0 - j) 0 (by simp [Env.Sub, Env.get]) ⟨by omega, rfl, p, rfl, hl, hp⟩ ?_)
  rintro j _ _ ⟨hj, rfl, p', rfl, hl', hp'⟩
  repeat' first
    | with_reducible refine thn_n ?_
    | with_reducible refine thn_r ?_
    | with_reducible refine thn_e ?_
    | with_reducible refine blk_n ?_
    | with_reducible refine blk_r ?_
    | with_reducible refine blk_h ?_
    | with_reducible refine blk_m rfl ?_
    | with_reducible refine fin_r ?_
    | with_reducible refine VC.rseq hP hk fun K q hK hq => ?_
    | with_reducible refine VC.rend hP hk fun K q hK hq => ?_
    | with_reducible refine VC.seq ?_
    | with_reducible refine VC.skip ?_
    | with_reducible refine VC.ret ?_
    | with_reducible refine VC.exit ?_
    | with_reducible refine VC.block ?_
    | refine vops_gt rfl ?_
    | refine vops_gf rfl ?_
    | refine vsch_gt rfl ?_
    | refine vsch_gf rfl ?_
    | refine vall_gt rfl ?_ ?_
    | refine vall_gf rfl ?_ ?_
    | (refine vops_gb rfl (fun hb => ?_) (fun hb => ?_) <;> (try simp only [Bool.not_true, Bool.not_false] at hb) <;> (try simp -implicitDefEqProofs only [hb, if_true, if_false, ↓reduceIte, Bool.false_eq_true]))
    | (refine vsch_gb rfl (by simp only [noStop]) (fun hb => ?_) (fun hb => ?_) <;> (try simp only [Bool.not_true, Bool.not_false] at hb) <;> (try simp -implicitDefEqProofs only [hb, if_true, if_false, ↓reduceIte, Bool.false_eq_true]))
    | refine vall_gb rfl (fun hb => ?_) (fun hb => ?_) ?_
    | refine VC.condt rfl ?_
    | refine VC.condf rfl ?_
    | (refine hK.out _ _ _ _ (by simp -implicitDefEqProofs only [go_sem, ↓reduceIte, Int.reduceToNat, Nat.mul_one, Int.reduceBEq, Int.reduceBNe, beq_self_eq_true, bne_self_eq_false, Int.reduceLT, Int.reduceLE, Int.reduceAdd, Int.reduceSub, Int.reduceNeg, decide_true, decide_false, gt_iff_lt, ge_iff_le, Int.natCast_one, Int.natCast_zero, Int.cast_ofNat_Int, Nat.reduceLeDiff, Nat.reduceEqDiff, Nat.reduceAdd, Nat.reduceSub, Nat.reduceMul, reduceCtorEq]; rfl) ?_; clear hK hq K q)
    | simp -implicitDefEqProofs only [go_sem, ↓reduceIte, Int.reduceToNat, Nat.mul_one, Int.reduceBEq, Int.reduceBNe, beq_self_eq_true, bne_self_eq_false, Int.reduceLT, Int.reduceLE, Int.reduceAdd, Int.reduceSub, Int.reduceNeg, decide_true, decide_false, gt_iff_lt, ge_iff_le, Int.natCast_one, Int.natCast_zero, Int.cast_ofNat_Int, Nat.reduceLeDiff, Nat.reduceEqDiff, Nat.reduceAdd, Nat.reduceSub, Nat.reduceMul, reduceCtorEq]
    | refine rd1_hd rfl ?_
    | refine rd1_tl (rd1_hd rfl ?_)
    | refine rd1_tl (rd1_tl (rd1_hd rfl ?_))
    | refine rd1_tl (rd1_tl (rd1_tl (rd1_hd rfl ?_)))
    | refine rd1_tl (rd1_tl (rd1_tl (rd1_tl (rd1_hd rfl ?_))))
    | refine rd1_tl (rd1_tl (rd1_tl (rd1_tl (rd1_tl (rd1_hd rfl ?_)))))
    | refine rd1_tl (rd1_tl (rd1_tl (rd1_tl (rd1_tl (rd1_tl (rd1_hd rfl ?_))))))
    | refine rd1_tl (rd1_tl (rd1_tl (rd1_tl (rd1_tl (rd1_tl (rd1_tl (rd1_hd rfl ?_)))))))
    | refine rd1_tl (rd1_tl (rd1_tl (rd1_tl (rd1_tl (rd1_tl (rd1_tl (rd1_tl (rd1_hd rfl ?_))))))))
    | refine rdN_hd rfl ?_
    | refine rdN_tl (rdN_hd rfl ?_)
    | refine rdN_tl (rdN_tl (rdN_hd rfl ?_))
    | refine rdN_tl (rdN_tl (rdN_tl (rdN_hd rfl ?_)))
    | refine rdN_tl (rdN_tl (rdN_tl (rdN_tl (rdN_hd rfl ?_))))
    | refine rdN_tl (rdN_tl (rdN_tl (rdN_tl (rdN_tl (rdN_hd rfl ?_)))))
    | refine rdN_tl (rdN_tl (rdN_tl (rdN_tl (rdN_tl (rdN_tl (rdN_hd rfl ?_))))))
    | refine rdN_tl (rdN_tl (rdN_tl (rdN_tl (rdN_tl (rdN_tl (rdN_tl (rdN_hd rfl ?_)))))))
    | refine rdN_tl (rdN_tl (rdN_tl (rdN_tl (rdN_tl (rdN_tl (rdN_tl (rdN_tl (rdN_hd rfl ?_))))))))
    | refine stoK.hd (by simp) ?_
    | refine stoK.tl (stoK.hd (by simp) ?_)
    | refine stoK.tl (stoK.tl (stoK.hd (by simp) ?_))
    | refine stoK.tl (stoK.tl (stoK.tl (stoK.hd (by simp) ?_)))
    | refine stoK.tl (stoK.tl (stoK.tl (stoK.tl (stoK.hd (by simp) ?_))))
    | refine stoK.tl (stoK.tl (stoK.tl (stoK.tl (stoK.tl (stoK.hd (by simp) ?_)))))
    | refine stoK.tl (stoK.tl (stoK.tl (stoK.tl (stoK.tl (stoK.tl (stoK.hd (by simp) ?_))))))
    | refine stoK.tl (stoK.tl (stoK.tl (stoK.tl (stoK.tl (stoK.tl (stoK.tl (stoK.hd (by simp) ?_)))))))
    | refine stoK.tl (stoK.tl (stoK.tl (stoK.tl (stoK.tl (stoK.tl (stoK.tl (stoK.tl (stoK.hd (by simp) ?_))))))))
    | exact ⟨rfl, rfl, rfl⟩
    | (refine And.intro ?_ ?_; (· omega))
    | refine ⟨fun hg => ?_, fun hg => ?_⟩
    | (refine VC.condb rfl (fun hg => ?_) (fun hg => ?_) <;> (try simp -implicitDefEqProofs only [hg, if_true, if_false, ↓reduceIte, Bool.false_eq_true]))
    | fail
  · have hj' : j < n0 := by simpa using hg
    obtain ⟨v0, ex⟩ := hp' j hj'
    rcases f0 with ⟨_, h, _⟩ | ⟨y, rfl⟩
    · omega
    repeat' first
      | with_reducible refine thn_n ?_
      | with_reducible refine thn_r ?_
      | with_reducible refine thn_e ?_
      | with_reducible refine blk_n ?_
      | with_reducible refine blk_r ?_
      | with_reducible refine blk_h ?_
      | with_reducible refine blk_m rfl ?_
      | with_reducible refine fin_n ?_
      | with_reducible refine fin_r ?_
      | with_reducible refine VC.rseq hP hk fun K q hK hq => ?_
      | with_reducible refine VC.rend hP hk fun K q hK hq => ?_
      | with_reducible refine VC.seq ?_
      | with_reducible refine VC.skip ?_
      | with_reducible refine VC.ret ?_
      | with_reducible refine VC.exit ?_
      | with_reducible refine VC.block ?_
      | refine vops_gt rfl ?_
      | refine vops_gf rfl ?_
      | refine vsch_gt rfl ?_
      | refine vsch_gf rfl ?_
      | refine vall_gt rfl ?_ ?_
      | refine vall_gf rfl ?_ ?_
      | (refine vops_gb rfl (fun hb => ?_) (fun hb => ?_) <;> (try simp only [Bool.not_true, Bool.not_false] at hb) <;> (try simp -implicitDefEqProofs only [hb, if_true, if_false, ↓reduceIte, Bool.false_eq_true]))
      | (refine vsch_gb rfl (by simp only [noStop]) (fun hb => ?_) (fun hb => ?_) <;> (try simp only [Bool.not_true, Bool.not_false] at hb) <;> (try simp -implicitDefEqProofs only [hb, if_true, if_false, ↓reduceIte, Bool.false_eq_true]))
      | refine vall_gb rfl (fun hb => ?_) (fun hb => ?_) ?_
      | refine VC.condt rfl ?_
      | refine VC.condf rfl ?_
      | (refine hK.out _ _ _ _ (by simp -implicitDefEqProofs only [go_sem, ↓reduceIte, Int.reduceToNat, Nat.mul_one, Int.reduceBEq, Int.reduceBNe, beq_self_eq_true, bne_self_eq_false, Int.reduceLT, Int.reduceLE, Int.reduceAdd, Int.reduceSub, Int.reduceNeg, decide_true, decide_false, gt_iff_lt, ge_iff_le, Int.natCast_one, Int.natCast_zero, Int.cast_ofNat_Int, Nat.reduceLeDiff, Nat.reduceEqDiff, Nat.reduceAdd, Nat.reduceSub, Nat.reduceMul, reduceCtorEq]; rfl) ?_; clear hK hq K q)
      | simp -implicitDefEqProofs only [go_sem, ↓reduceIte, Int.reduceToNat, Nat.mul_one, Int.reduceBEq, Int.reduceBNe, beq_self_eq_true, bne_self_eq_false, Int.reduceLT, Int.reduceLE, Int.reduceAdd, Int.reduceSub, Int.reduceNeg, decide_true, decide_false, gt_iff_lt, ge_iff_le, Int.natCast_one, Int.natCast_zero, Int.cast_ofNat_Int, Nat.reduceLeDiff, Nat.reduceEqDiff, Nat.reduceAdd, Nat.reduceSub, Nat.reduceMul, reduceCtorEq]
      | refine rd1_sub o6 rfl ?_
      | refine ⟨_, rfl, ?_⟩
      | refine rd1_acc ex ?_
      | refine stoK.hdA (by simp; omega) ?_
      | refine rd1_hd rfl ?_
      | refine rd1_tl (rd1_hd rfl ?_)
      | refine rd1_tl (rd1_tl (rd1_hd rfl ?_))
      | refine rd1_tl (rd1_tl (rd1_tl (rd1_hd rfl ?_)))
      | refine rd1_tl (rd1_tl (rd1_tl (rd1_tl (rd1_hd rfl ?_))))
      | refine rd1_tl (rd1_tl (rd1_tl (rd1_tl (rd1_tl (rd1_hd rfl ?_)))))
      | refine rd1_tl (rd1_tl (rd1_tl (rd1_tl (rd1_tl (rd1_tl (rd1_hd rfl ?_))))))
      | refine rd1_tl (rd1_tl (rd1_tl (rd1_tl (rd1_tl (rd1_tl (rd1_tl (rd1_hd rfl ?_)))))))
      | refine rd1_tl (rd1_tl (rd1_tl (rd1_tl (rd1_tl (rd1_tl (rd1_tl (rd1_tl (rd1_hd rfl ?_))))))))
      | refine rdN_hd rfl ?_
      | refine rdN_tl (rdN_hd rfl ?_)
      | refine rdN_tl (rdN_tl (rdN_hd rfl ?_))
      | refine rdN_tl (rdN_tl (rdN_tl (rdN_hd rfl ?_)))
      | refine rdN_tl (rdN_tl (rdN_tl (rdN_tl (rdN_hd rfl ?_))))
      | refine rdN_tl (rdN_tl (rdN_tl (rdN_tl (rdN_tl (rdN_hd rfl ?_)))))
      | refine rdN_tl (rdN_tl (rdN_tl (rdN_tl (rdN_tl (rdN_tl (rdN_hd rfl ?_))))))
      | refine rdN_tl (rdN_tl (rdN_tl (rdN_tl (rdN_tl (rdN_tl (rdN_tl (rdN_hd rfl ?_)))))))
      | refine rdN_tl (rdN_tl (rdN_tl (rdN_tl (rdN_tl (rdN_tl (rdN_tl (rdN_tl (rdN_hd rfl ?_))))))))
      | refine stoK.hd (by simp) ?_
      | refine stoK.tl (stoK.hd (by simp) ?_)
      | refine stoK.tl (stoK.tl (stoK.hd (by simp) ?_))
      | refine stoK.tl (stoK.tl (stoK.tl (stoK.hd (by simp) ?_)))
      | refine stoK.tl (stoK.tl (stoK.tl (stoK.tl (stoK.hd (by simp) ?_))))
      | refine stoK.tl (stoK.tl (stoK.tl (stoK.tl (stoK.tl (stoK.hd (by simp) ?_)))))
      | refine stoK.tl (stoK.tl (stoK.tl (stoK.tl (stoK.tl (stoK.tl (stoK.hd (by simp) ?_))))))
      | refine stoK.tl (stoK.tl (stoK.tl (stoK.tl (stoK.tl (stoK.tl (stoK.tl (stoK.hd (by simp) ?_)))))))
      | refine stoK.tl (stoK.tl (stoK.tl (stoK.tl (stoK.tl (stoK.tl (stoK.tl (stoK.tl (stoK.hd (by simp) ?_))))))))
      | exact ⟨rfl, rfl, rfl⟩
      | (refine And.intro ?_ ?_; (· omega))
      | refine ⟨fun hg => ?_, fun hg => ?_⟩
      | (refine VC.condb rfl (fun hg => ?_) (fun hg => ?_) <;> (try simp -implicitDefEqProofs only [hg, if_true, if_false, ↓reduceIte, Bool.false_eq_true]))
      | fail
    refine ⟨j + 1, by omega, ?_, by omega, _, rfl, ?_, fun i hi => ?_⟩
    · simp [Env.Sub, Env.get]
      exact wrap64 (by omega) (by omega)
    · rw [putAt_length (by simp; omega)]; omega
    · rw [putAt_one (by omega)]
      split
      · exact ⟨_, rfl⟩
      · exact hp' i hi
  · exact hQ _ _ (by simp [Env.Sub, Env.get])
theorem loop6 (hP : Γ.P = Try.prog) (hk : Γ.keep = ks3) {B0 : Option Addr} {n0 d0 : Nat} {x0 x1 x2 x3 x4 : Value} (o6 : G.has ⟨b8, 0, none⟩ [x0, x1, x2, x3, x4, .slice B0 n0 d0]) (f0 : Fresh B0 n0 d0) {p : List Value} (hl : p.length = n0 * 3) (hm : n0 ≤ 9223372036854775807) (hp : ∀ i, i < n0 → ∃ v, p[i * 3]? = some (.string v) ∧ v.size ≤ 140737488351232)
    (he : Env.Sub (base2 b2 b3 s b6 b8 ++ [(111, .int .i64 n0), (112, .int .i64 0)]) env) (hQ : ∀ env' p', Env.Sub (base2 b2 b3 s b6 b8) env' → Q .normal env' G (.acc (.slice B0 n0 d0) n0 p' 58 3 :: R)) :
    VC Γ cd3_6 env G (.acc (.slice B0 n0 d0) n0 p 58 3 :: R) Q := by
  refine VC.sub _ he ?_
  simp only [cd3_6, base2, List.cons_append, List.nil_append]
  refine VC.block (VC.loop (fun j : Nat => [(2, pt b2), (3, pt b3), (5, pt s), (6, pt b6), (8, pt b8), (111, .int .i64 n0), (112, .int .i64 (j : Int))])
    (fun j G' L' => j ≤ n0 ∧ G = G' ∧ ∃ p', .acc (.slice B0 n0 d0) n0 p' 58 3 :: R = L' ∧ p'.length = n0 * 3 ∧ ∀ i, j ≤ i → i < n0 → ∃ v, p'[i * 3]? = some (.string v) ∧ v.size ≤ 140737488351232) (fun j => n0 - j) 0 (by simp [Env.Sub, Env.get]) ⟨by omega, rfl, p, rfl, hl, fun i _ h => hp i h⟩ ?_)
  rintro j _ _ ⟨hj, rfl, p', rfl, hl', hp'⟩
  repeat' first
    | with_reducible refine thn_n ?_
    | with_reducible refine thn_r ?_
    | with_reducible refine thn_e ?_
    | with_reducible refine blk_n ?_
    | with_reducible refine blk_r ?_
    | with_reducible refine blk_h ?_
    | with_reducible refine blk_m rfl ?_
    | with_reducible refine fin_r ?_
    | with_reducible refine VC.rseq hP hk fun K q hK hq => ?_
    | with_reducible refine VC.rend hP hk fun K q hK hq => ?_
    | with_reducible refine VC.seq ?_
    | with_reducible refine VC.skip ?_
    | with_reducible refine VC.ret ?_
    | with_reducible refine VC.exit ?_
    | with_reducible refine VC.block ?_
    | refine vops_gt rfl ?_
    | refine vops_gf rfl ?_
    | refine vsch_gt rfl ?_
    | refine vsch_gf rfl ?_
    | refine vall_gt rfl ?_ ?_
    | refine vall_gf rfl ?_ ?_
    | (refine vops_gb rfl (fun hb => ?_) (fun hb => ?_) <;> (try simp only [Bool.not_true, Bool.not_false] at hb) <;> (try simp -implicitDefEqProofs only [hb, if_true, if_false, ↓reduceIte, Bool.false_eq_true]))
    | (refine vsch_gb rfl (by simp only [noStop]) (fun hb => ?_) (fun hb => ?_) <;> (try simp only [Bool.not_true, Bool.not_false] at hb) <;> (try simp -implicitDefEqProofs only [hb, if_true, if_false, ↓reduceIte, Bool.false_eq_true]))
    | refine vall_gb rfl (fun hb => ?_) (fun hb => ?_) ?_
    | refine VC.condt rfl ?_
    | refine VC.condf rfl ?_
    | (refine hK.out _ _ _ _ (by simp -implicitDefEqProofs only [go_sem, ↓reduceIte, Int.reduceToNat, Nat.mul_one, Int.reduceBEq, Int.reduceBNe, beq_self_eq_true, bne_self_eq_false, Int.reduceLT, Int.reduceLE, Int.reduceAdd, Int.reduceSub, Int.reduceNeg, decide_true, decide_false, gt_iff_lt, ge_iff_le, Int.natCast_one, Int.natCast_zero, Int.cast_ofNat_Int, Nat.reduceLeDiff, Nat.reduceEqDiff, Nat.reduceAdd, Nat.reduceSub, Nat.reduceMul, reduceCtorEq]; rfl) ?_; clear hK hq K q)
    | simp -implicitDefEqProofs only [go_sem, ↓reduceIte, Int.reduceToNat, Nat.mul_one, Int.reduceBEq, Int.reduceBNe, beq_self_eq_true, bne_self_eq_false, Int.reduceLT, Int.reduceLE, Int.reduceAdd, Int.reduceSub, Int.reduceNeg, decide_true, decide_false, gt_iff_lt, ge_iff_le, Int.natCast_one, Int.natCast_zero, Int.cast_ofNat_Int, Nat.reduceLeDiff, Nat.reduceEqDiff, Nat.reduceAdd, Nat.reduceSub, Nat.reduceMul, reduceCtorEq]
    | refine rd1_hd rfl ?_
    | refine rd1_tl (rd1_hd rfl ?_)
    | refine rd1_tl (rd1_tl (rd1_hd rfl ?_))
    | refine rd1_tl (rd1_tl (rd1_tl (rd1_hd rfl ?_)))
    | refine rd1_tl (rd1_tl (rd1_tl (rd1_tl (rd1_hd rfl ?_))))
    | refine rd1_tl (rd1_tl (rd1_tl (rd1_tl (rd1_tl (rd1_hd rfl ?_)))))
    | refine rd1_tl (rd1_tl (rd1_tl (rd1_tl (rd1_tl (rd1_tl (rd1_hd rfl ?_))))))
    | refine rd1_tl (rd1_tl (rd1_tl (rd1_tl (rd1_tl (rd1_tl (rd1_tl (rd1_hd rfl ?_)))))))
    | refine rd1_tl (rd1_tl (rd1_tl (rd1_tl (rd1_tl (rd1_tl (rd1_tl (rd1_tl (rd1_hd rfl ?_))))))))
    | refine rdN_hd rfl ?_
    | refine rdN_tl (rdN_hd rfl ?_)
    | refine rdN_tl (rdN_tl (rdN_hd rfl ?_))
    | refine rdN_tl (rdN_tl (rdN_tl (rdN_hd rfl ?_)))
    | refine rdN_tl (rdN_tl (rdN_tl (rdN_tl (rdN_hd rfl ?_))))
    | refine rdN_tl (rdN_tl (rdN_tl (rdN_tl (rdN_tl (rdN_hd rfl ?_)))))
    | refine rdN_tl (rdN_tl (rdN_tl (rdN_tl (rdN_tl (rdN_tl (rdN_hd rfl ?_))))))
    | refine rdN_tl (rdN_tl (rdN_tl (rdN_tl (rdN_tl (rdN_tl (rdN_tl (rdN_hd rfl ?_)))))))
    | refine rdN_tl (rdN_tl (rdN_tl (rdN_tl (rdN_tl (rdN_tl (rdN_tl (rdN_tl (rdN_hd rfl ?_))))))))
    | refine stoK.hd (by simp) ?_
    | refine stoK.tl (stoK.hd (by simp) ?_)
    | refine stoK.tl (stoK.tl (stoK.hd (by simp) ?_))
    | refine stoK.tl (stoK.tl (stoK.tl (stoK.hd (by simp) ?_)))
    | refine stoK.tl (stoK.tl (stoK.tl (stoK.tl (stoK.hd (by simp) ?_))))
    | refine stoK.tl (stoK.tl (stoK.tl (stoK.tl (stoK.tl (stoK.hd (by simp) ?_)))))
    | refine stoK.tl (stoK.tl (stoK.tl (stoK.tl (stoK.tl (stoK.tl (stoK.hd (by simp) ?_))))))
    | refine stoK.tl (stoK.tl (stoK.tl (stoK.tl (stoK.tl (stoK.tl (stoK.tl (stoK.hd (by simp) ?_)))))))
    | refine stoK.tl (stoK.tl (stoK.tl (stoK.tl (stoK.tl (stoK.tl (stoK.tl (stoK.tl (stoK.hd (by simp) ?_))))))))
    | exact ⟨rfl, rfl, rfl⟩
    | (refine And.intro ?_ ?_; (· omega))
    | refine ⟨fun hg => ?_, fun hg => ?_⟩
    | (refine VC.condb rfl (fun hg => ?_) (fun hg => ?_) <;> (try simp -implicitDefEqProofs only [hg, if_true, if_false, ↓reduceIte, Bool.false_eq_true]))
    | fail
  · have hj' : j < n0 := by simpa using hg
    obtain ⟨v0, ex, hv0⟩ := hp' j (Nat.le_refl _) hj'
    rcases f0 with ⟨_, h, _⟩ | ⟨y, rfl⟩
    · omega
    have hs1 : v0.size + (⟨#[120]⟩ : ByteArray).size ≤ 9223372036854775807 := by
      have : (⟨#[120]⟩ : ByteArray).size = 1 := rfl
      omega
    repeat' first
      | with_reducible refine thn_n ?_
      | with_reducible refine thn_r ?_
      | with_reducible refine thn_e ?_
      | with_reducible refine blk_n ?_
      | with_reducible refine blk_r ?_
      | with_reducible refine blk_h ?_
      | with_reducible refine blk_m rfl ?_
      | with_reducible refine fin_n ?_
      | with_reducible refine fin_r ?_
      | with_reducible refine VC.rseq hP hk fun K q hK hq => ?_
      | with_reducible refine VC.rend hP hk fun K q hK hq => ?_
      | with_reducible refine VC.seq ?_
      | with_reducible refine VC.skip ?_
      | with_reducible refine VC.ret ?_
      | with_reducible refine VC.exit ?_
      | with_reducible refine VC.block ?_
      | refine vops_gt rfl ?_
      | refine vops_gf rfl ?_
      | refine vsch_gt rfl ?_
      | refine vsch_gf rfl ?_
      | refine vall_gt rfl ?_ ?_
      | refine vall_gf rfl ?_ ?_
      | (refine vops_gb rfl (fun hb => ?_) (fun hb => ?_) <;> (try simp only [Bool.not_true, Bool.not_false] at hb) <;> (try simp -implicitDefEqProofs only [hb, if_true, if_false, ↓reduceIte, Bool.false_eq_true]))
      | (refine vsch_gb rfl (by simp only [noStop]) (fun hb => ?_) (fun hb => ?_) <;> (try simp only [Bool.not_true, Bool.not_false] at hb) <;> (try simp -implicitDefEqProofs only [hb, if_true, if_false, ↓reduceIte, Bool.false_eq_true]))
      | refine vall_gb rfl (fun hb => ?_) (fun hb => ?_) ?_
      | refine VC.condt rfl ?_
      | refine VC.condf rfl ?_
      | (refine hK.out _ _ _ _ (by simp -implicitDefEqProofs only [go_sem, ↓reduceIte, Int.reduceToNat, Nat.mul_one, Int.reduceBEq, Int.reduceBNe, beq_self_eq_true, bne_self_eq_false, Int.reduceLT, Int.reduceLE, Int.reduceAdd, Int.reduceSub, Int.reduceNeg, decide_true, decide_false, gt_iff_lt, ge_iff_le, Int.natCast_one, Int.natCast_zero, Int.cast_ofNat_Int, Nat.reduceLeDiff, Nat.reduceEqDiff, Nat.reduceAdd, Nat.reduceSub, Nat.reduceMul, reduceCtorEq]; rfl) ?_; clear hK hq K q)
      | simp -implicitDefEqProofs only [go_sem, ↓reduceIte, Int.reduceToNat, Nat.mul_one, Int.reduceBEq, Int.reduceBNe, beq_self_eq_true, bne_self_eq_false, Int.reduceLT, Int.reduceLE, Int.reduceAdd, Int.reduceSub, Int.reduceNeg, decide_true, decide_false, gt_iff_lt, ge_iff_le, Int.natCast_one, Int.natCast_zero, Int.cast_ofNat_Int, Nat.reduceLeDiff, Nat.reduceEqDiff, Nat.reduceAdd, Nat.reduceSub, Nat.reduceMul, reduceCtorEq]
      | refine And.intro hs1 ?_
      | refine rd1_sub o6 rfl ?_
      | refine ⟨_, rfl, ?_⟩
      | refine rd1_acc ex ?_
      | refine stoK.hdA (by simp; omega) ?_
      | refine rd1_hd rfl ?_
      | refine rd1_tl (rd1_hd rfl ?_)
      | refine rd1_tl (rd1_tl (rd1_hd rfl ?_))
      | refine rd1_tl (rd1_tl (rd1_tl (rd1_hd rfl ?_)))
      | refine rd1_tl (rd1_tl (rd1_tl (rd1_tl (rd1_hd rfl ?_))))
      | refine rd1_tl (rd1_tl (rd1_tl (rd1_tl (rd1_tl (rd1_hd rfl ?_)))))
      | refine rd1_tl (rd1_tl (rd1_tl (rd1_tl (rd1_tl (rd1_tl (rd1_hd rfl ?_))))))
      | refine rd1_tl (rd1_tl (rd1_tl (rd1_tl (rd1_tl (rd1_tl (rd1_tl (rd1_hd rfl ?_)))))))
      | refine rd1_tl (rd1_tl (rd1_tl (rd1_tl (rd1_tl (rd1_tl (rd1_tl (rd1_tl (rd1_hd rfl ?_))))))))
      | refine rdN_hd rfl ?_
      | refine rdN_tl (rdN_hd rfl ?_)
      | refine rdN_tl (rdN_tl (rdN_hd rfl ?_))
      | refine rdN_tl (rdN_tl (rdN_tl (rdN_hd rfl ?_)))
      | refine rdN_tl (rdN_tl (rdN_tl (rdN_tl (rdN_hd rfl ?_))))
      | refine rdN_tl (rdN_tl (rdN_tl (rdN_tl (rdN_tl (rdN_hd rfl ?_)))))
      | refine rdN_tl (rdN_tl (rdN_tl (rdN_tl (rdN_tl (rdN_tl (rdN_hd rfl ?_))))))
      | refine rdN_tl (rdN_tl (rdN_tl (rdN_tl (rdN_tl (rdN_tl (rdN_tl (rdN_hd rfl ?_)))))))
      | refine rdN_tl (rdN_tl (rdN_tl (rdN_tl (rdN_tl (rdN_tl (rdN_tl (rdN_tl (rdN_hd rfl ?_))))))))
      | refine stoK.hd (by simp) ?_
      | refine stoK.tl (stoK.hd (by simp) ?_)
      | refine stoK.tl (stoK.tl (stoK.hd (by simp) ?_))
      | refine stoK.tl (stoK.tl (stoK.tl (stoK.hd (by simp) ?_)))
      | refine stoK.tl (stoK.tl (stoK.tl (stoK.tl (stoK.hd (by simp) ?_))))
      | refine stoK.tl (stoK.tl (stoK.tl (stoK.tl (stoK.tl (stoK.hd (by simp) ?_)))))
      | refine stoK.tl (stoK.tl (stoK.tl (stoK.tl (stoK.tl (stoK.tl (stoK.hd (by simp) ?_))))))
      | refine stoK.tl (stoK.tl (stoK.tl (stoK.tl (stoK.tl (stoK.tl (stoK.tl (stoK.hd (by simp) ?_)))))))
      | refine stoK.tl (stoK.tl (stoK.tl (stoK.tl (stoK.tl (stoK.tl (stoK.tl (stoK.tl (stoK.hd (by simp) ?_))))))))
      | exact ⟨rfl, rfl, rfl⟩
      | (refine And.intro ?_ ?_; (· omega))
      | refine ⟨fun hg => ?_, fun hg => ?_⟩
      | (refine VC.condb rfl (fun hg => ?_) (fun hg => ?_) <;> (try simp -implicitDefEqProofs only [hg, if_true, if_false, ↓reduceIte, Bool.false_eq_true]))
      | fail
    refine ⟨j + 1, by omega, ?_, by omega, _, rfl, ?_, fun i hi hi2 => ?_⟩
    · simp [Env.Sub, Env.get]
      exact wrap64 (by omega) (by omega)
    · rw [putAt_length (by simp; omega)]; omega
    · rw [putAt_one (by omega)]
      rw [if_neg (by omega)]
      exact hp' i (by omega) hi2
  · exact hQ _ _ (by simp [Env.Sub, Env.get])
end
end Go.Proofs.Ytpddchnapcmmkaa
