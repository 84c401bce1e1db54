import Derived.Test.YtpddchnapcmmkaaA7
namespace Go.Proofs.Ytpddchnapcmmkaa
open Go Go.Sy
set_option linter.unusedSimpArgs false
set_option linter.unusedVariables false
theorem s10 {G : Stab} {s b c : Nat} {T2 T3 T4 T5 : Value} {A0 A1 A7 A8 : Option Addr} {n0 n1 n7 n8 c0 c1 c7 c8 : Nat} {p0 p1 p7 st : List Value} {hst : Bool} {nm : ByteArray} {i4 i5 i6 i9 : Int}
    (hS : G.has ⟨s, 0, none⟩ [.bool true, .slice (some ⟨b, 0, none⟩) 1 c, T2, T3, T4, T5])
    (hr : G.has ⟨b, 0, none⟩ [.slice A0 n0 c0, .slice A1 n1 c1, .bool hst, .string nm, .int .i64 i4, .int .i64 i5, .int .i64 i6, .slice A7 n7 c7, .slice A8 n8 c8, .int .i64 i9])
    (h0 : Row G 1 1 A0 n0 p0) (h1 : Row G 1 1 A1 n1 p1) (h7 : Row G 1 1 A7 n7 p7) (h8 : Row G 5 48 A8 n8 st) (hs : Steps G n8 st) :
    Con Try.prog 10 ⟨[pt s, .int .i64 0]⟩ G [] (Gives fun k => ∀ G' A0 c0 A1 c1 A7 c7 A8 c8 p1 p7 st', G.Le G' → Fresh A0 n0 c0 → Fresh A8 n8 c8 → Row G' 1 1 A1 n1 p1 → Row G' 1 1 A7 n7 p7 → Steps G' n8 st' → (∀ j, j < n8 → st'[j * 5]? = st[j * 5]?) →
      k (.tuple ⟨[.agg ⟨[.slice A0 n0 c0, .slice A1 n1 c1, .bool hst, .string nm, .int .i64 i4, .int .i64 i5, .int .i64 i6, .slice A7 n7 c7, .slice A8 n8 c8, .int .i64 i9]⟩, .bool true]⟩) G'
        [.acc (.slice A0 n0 c0) n0 p0 5 1, .acc (.slice A8 n8 c8) n8 st' 56 5]) := by
  refine Con.of_vc ce10 ks10 mixed (by simp [cd10]) fun Γ hP hk => ?_
  simp only [cd10]
  repeat' first
    | with_reducible refine thn_n ?_
    | with_reducible refine thn_r ?_
    | with_reducible refine thn_e ?_
    | with_reducible refine blk_n ?_
    | with_reducible refine blk_r ?_
    | with_reducible refine blk_h ?_
    | with_reducible refine blk_m rfl ?_
    | with_reducible refine fin_n ?_
    | with_reducible refine fin_r ?_
    | with_reducible refine VC.rseq hP hk fun K q hK hq => ?_
    | with_reducible refine VC.rend hP hk fun K q hK hq => ?_
    | with_reducible refine VC.seq ?_
    | with_reducible refine VC.skip ?_
    | with_reducible refine VC.ret ?_
    | with_reducible refine VC.exit ?_
    | with_reducible refine VC.block ?_
    | refine vops_gt rfl ?_
    | refine vops_gf rfl ?_
    | refine vsch_gt rfl ?_
    | refine vsch_gf rfl ?_
    | refine vall_gt rfl ?_ ?_
    | refine vall_gf rfl ?_ ?_
    | (refine vops_gb rfl (fun hb => ?_) (fun hb => ?_) <;> (try simp only [Bool.not_true, Bool.not_false] at hb) <;> (try simp -implicitDefEqProofs only [hb, if_true, if_false, ↓reduceIte, Bool.false_eq_true]))
    | (refine vsch_gb rfl (by simp only [noStop]) (fun hb => ?_) (fun hb => ?_) <;> (try simp only [Bool.not_true, Bool.not_false] at hb) <;> (try simp -implicitDefEqProofs only [hb, if_true, if_false, ↓reduceIte, Bool.false_eq_true]))
    | refine vall_gb rfl (fun hb => ?_) (fun hb => ?_) ?_
    | refine VC.condt rfl ?_
    | refine VC.condf rfl ?_
    | (refine hK.out _ _ _ _ (by simp -implicitDefEqProofs only [go_sem, ↓reduceIte, Int.reduceToNat, Int.reduceBEq, Int.reduceBNe, beq_self_eq_true, bne_self_eq_false, Int.reduceLT, Int.reduceLE, Int.reduceAdd, Int.reduceSub, Int.reduceNeg, decide_true, decide_false, gt_iff_lt, ge_iff_le, Int.natCast_one, Int.natCast_zero, Int.cast_ofNat_Int, Nat.reduceLeDiff, Nat.reduceEqDiff, Nat.reduceAdd, Nat.reduceSub, Nat.reduceMul, reduceCtorEq]; rfl) ?_; clear hK hq K q)
    | simp -implicitDefEqProofs only [go_sem, ↓reduceIte, Int.reduceToNat, Int.reduceBEq, Int.reduceBNe, beq_self_eq_true, bne_self_eq_false, Int.reduceLT, Int.reduceLE, Int.reduceAdd, Int.reduceSub, Int.reduceNeg, decide_true, decide_false, gt_iff_lt, ge_iff_le, Int.natCast_one, Int.natCast_zero, Int.cast_ofNat_Int, Nat.reduceLeDiff, Nat.reduceEqDiff, Nat.reduceAdd, Nat.reduceSub, Nat.reduceMul, reduceCtorEq]
    | refine newB_own' fun b1 => ?_
    | refine callK.cps0 (s24s hS) ?_
    | refine callK.cps0 (s29 hS hr (by simp [Value.oneCell'])) ?_
    | refine callK.cps0 (s26 h0 h1 h7 h8 hs) fun G1 B0 d0 B1 d1 B7 d7 B8 d8 q1 q7 st' g1 f0 f8 r1 r7 rs ro => ?_
    | refine rd1_hd rfl ?_
    | refine rd1_tl (rd1_hd rfl ?_)
    | refine rd1_tl (rd1_tl (rd1_hd rfl ?_))
    | refine rd1_tl (rd1_tl (rd1_tl (rd1_hd rfl ?_)))
    | refine rd1_tl (rd1_tl (rd1_tl (rd1_tl (rd1_hd rfl ?_))))
    | refine rd1_tl (rd1_tl (rd1_tl (rd1_tl (rd1_tl (rd1_hd rfl ?_)))))
    | refine rd1_tl (rd1_tl (rd1_tl (rd1_tl (rd1_tl (rd1_tl (rd1_hd rfl ?_))))))
    | refine rd1_tl (rd1_tl (rd1_tl (rd1_tl (rd1_tl (rd1_tl (rd1_tl (rd1_hd rfl ?_)))))))
    | refine rd1_tl (rd1_tl (rd1_tl (rd1_tl (rd1_tl (rd1_tl (rd1_tl (rd1_tl (rd1_hd rfl ?_))))))))
    | refine rdN_hd rfl ?_
    | refine rdN_tl (rdN_hd rfl ?_)
    | refine rdN_tl (rdN_tl (rdN_hd rfl ?_))
    | refine rdN_tl (rdN_tl (rdN_tl (rdN_hd rfl ?_)))
    | refine rdN_tl (rdN_tl (rdN_tl (rdN_tl (rdN_hd rfl ?_))))
    | refine rdN_tl (rdN_tl (rdN_tl (rdN_tl (rdN_tl (rdN_hd rfl ?_)))))
    | refine rdN_tl (rdN_tl (rdN_tl (rdN_tl (rdN_tl (rdN_tl (rdN_hd rfl ?_))))))
    | refine rdN_tl (rdN_tl (rdN_tl (rdN_tl (rdN_tl (rdN_tl (rdN_tl (rdN_hd rfl ?_)))))))
    | refine rdN_tl (rdN_tl (rdN_tl (rdN_tl (rdN_tl (rdN_tl (rdN_tl (rdN_tl (rdN_hd rfl ?_))))))))
    | refine stoK.hd (by simp) ?_
    | refine stoK.tl (stoK.hd (by simp) ?_)
    | refine stoK.tl (stoK.tl (stoK.hd (by simp) ?_))
    | refine stoK.tl (stoK.tl (stoK.tl (stoK.hd (by simp) ?_)))
    | refine stoK.tl (stoK.tl (stoK.tl (stoK.tl (stoK.hd (by simp) ?_))))
    | refine stoK.tl (stoK.tl (stoK.tl (stoK.tl (stoK.tl (stoK.hd (by simp) ?_)))))
    | refine stoK.tl (stoK.tl (stoK.tl (stoK.tl (stoK.tl (stoK.tl (stoK.hd (by simp) ?_))))))
    | refine stoK.tl (stoK.tl (stoK.tl (stoK.tl (stoK.tl (stoK.tl (stoK.tl (stoK.hd (by simp) ?_)))))))
    | refine stoK.tl (stoK.tl (stoK.tl (stoK.tl (stoK.tl (stoK.tl (stoK.tl (stoK.tl (stoK.hd (by simp) ?_))))))))
    | exact ⟨rfl, rfl, rfl⟩
    | (refine And.intro ?_ ?_; (· omega))
    | refine ⟨fun hg => ?_, fun hg => ?_⟩
    | (refine VC.condb rfl (fun hg => ?_) (fun hg => ?_) <;> (try simp -implicitDefEqProofs only [hg, if_true, if_false, ↓reduceIte, Bool.false_eq_true]))
    | fail
  exact Gives.ret (fun k hk => hk _ _ _ _ _ _ _ _ _ _ _ _ g1 f0 f8 r1 r7 rs ro) (by repeat' first | exact List.Sublist.refl _ | exact List.nil_sublist _ | (with_reducible refine List.Sublist.cons_cons _ ?_) | refine List.Sublist.cons _ ?_ | fail)
theorem s11 {G : Stab} {s b c : Nat} {T1 T2 T3 T4 : Value} {A0 A1 A2 A3 A4 A5 : Option Addr} {n0 n1 n2 n3 n4 n5 c0 c1 c2 c3 c4 c5 : Nat} {ts fs p2 p3 p4 es : List Value}
    (hS : G.has ⟨s, 0, none⟩ [.bool true, T1, T2, T3, T4, .slice (some ⟨b, 0, none⟩) 1 c])
    (hr : G.has ⟨b, 0, none⟩ [.slice A0 n0 c0, .slice A1 n1 c1, .slice A2 n2 c2, .slice A3 n3 c3, .slice A4 n4 c4, .slice A5 n5 c5])
    (h0 : Row G 2 48 A0 n0 ts) (hs : Types G n0 ts) (h1 : Row G 1 8 A1 n1 fs) (h2 : Row G 1 8 A2 n2 p2) (h3 : Row G 1 8 A3 n3 p3) (h4 : Row G 1 8 A4 n4 p4) (h5 : Row G 3 32 A5 n5 es) :
    Con Try.prog 11 ⟨[pt s, .int .i64 0]⟩ G [] (Gives fun k => ∀ G' A0 c0 A1 c1 A2 c2 A3 c3 A4 c4 A5 c5, G.Le G' → Fresh A1 n1 c1 → Fresh A5 n5 c5 →
      k (.tuple ⟨[.agg ⟨[.slice A0 n0 c0, .slice A1 n1 c1, .slice A2 n2 c2, .slice A3 n3 c3, .slice A4 n4 c4, .slice A5 n5 c5]⟩, .bool true]⟩) G' [.acc (.slice A1 n1 c1) n1 fs 3 1, .acc (.slice A5 n5 c5) n5 es 58 3]) := by
  refine Con.of_vc ce11 ks11 mixed (by simp [cd11]) fun Γ hP hk => ?_
  simp only [cd11]
  repeat' first
    | with_reducible refine thn_n ?_
    | with_reducible refine thn_r ?_
    | with_reducible refine thn_e ?_
    | with_reducible refine blk_n ?_
    | with_reducible refine blk_r ?_
    | with_reducible refine blk_h ?_
    | with_reducible refine blk_m rfl ?_
    | with_reducible refine fin_n ?_
    | with_reducible refine fin_r ?_
    | with_reducible refine VC.rseq hP hk fun K q hK hq => ?_
    | with_reducible refine VC.rend hP hk fun K q hK hq => ?_
    | with_reducible refine VC.seq ?_
    | with_reducible refine VC.skip ?_
    | with_reducible refine VC.ret ?_
    | with_reducible refine VC.exit ?_
    | with_reducible refine VC.block ?_
    | refine vops_gt rfl ?_
    | refine vops_gf rfl ?_
    | refine vsch_gt rfl ?_
    | refine vsch_gf rfl ?_
    | refine vall_gt rfl ?_ ?_
    | refine vall_gf rfl ?_ ?_
    | (refine vops_gb rfl (fun hb => ?_) (fun hb => ?_) <;> (try simp only [Bool.not_true, Bool.not_false] at hb) <;> (try simp -implicitDefEqProofs only [hb, if_true, if_false, ↓reduceIte, Bool.false_eq_true]))
    | (refine vsch_gb rfl (by simp only [noStop]) (fun hb => ?_) (fun hb => ?_) <;> (try simp only [Bool.not_true, Bool.not_false] at hb) <;> (try simp -implicitDefEqProofs only [hb, if_true, if_false, ↓reduceIte, Bool.false_eq_true]))
    | refine vall_gb rfl (fun hb => ?_) (fun hb => ?_) ?_
    | refine VC.condt rfl ?_
    | refine VC.condf rfl ?_
    | (refine hK.out _ _ _ _ (by simp -implicitDefEqProofs only [go_sem, ↓reduceIte, Int.reduceToNat, Int.reduceBEq, Int.reduceBNe, beq_self_eq_true, bne_self_eq_false, Int.reduceLT, Int.reduceLE, Int.reduceAdd, Int.reduceSub, Int.reduceNeg, decide_true, decide_false, gt_iff_lt, ge_iff_le, Int.natCast_one, Int.natCast_zero, Int.cast_ofNat_Int, Nat.reduceLeDiff, Nat.reduceEqDiff, Nat.reduceAdd, Nat.reduceSub, Nat.reduceMul, reduceCtorEq]; rfl) ?_; clear hK hq K q)
    | simp -implicitDefEqProofs only [go_sem, ↓reduceIte, Int.reduceToNat, Int.reduceBEq, Int.reduceBNe, beq_self_eq_true, bne_self_eq_false, Int.reduceLT, Int.reduceLE, Int.reduceAdd, Int.reduceSub, Int.reduceNeg, decide_true, decide_false, gt_iff_lt, ge_iff_le, Int.natCast_one, Int.natCast_zero, Int.cast_ofNat_Int, Nat.reduceLeDiff, Nat.reduceEqDiff, Nat.reduceAdd, Nat.reduceSub, Nat.reduceMul, reduceCtorEq]
    | refine newB_own' fun b1 => ?_
    | refine callK.cps0 (s24s hS) ?_
    | refine callK.cps0 (s30 hS hr (by simp [Value.oneCell'])) ?_
    | refine callK.cps0 (s28 h0 hs h1 h2 h3 h4 h5) fun G1 B0 d0 B1 d1 B2 d2 B3 d3 B4 d4 B5 d5 ts' q2 q3 q4 g1 f1 f5 r0 rt r2 r3 r4 => ?_
    | refine rd1_hd rfl ?_
    | refine rd1_tl (rd1_hd rfl ?_)
    | refine rd1_tl (rd1_tl (rd1_hd rfl ?_))
    | refine rd1_tl (rd1_tl (rd1_tl (rd1_hd rfl ?_)))
    | refine rd1_tl (rd1_tl (rd1_tl (rd1_tl (rd1_hd rfl ?_))))
    | refine rd1_tl (rd1_tl (rd1_tl (rd1_tl (rd1_tl (rd1_hd rfl ?_)))))
    | refine rd1_tl (rd1_tl (rd1_tl (rd1_tl (rd1_tl (rd1_tl (rd1_hd rfl ?_))))))
    | refine rd1_tl (rd1_tl (rd1_tl (rd1_tl (rd1_tl (rd1_tl (rd1_tl (rd1_hd rfl ?_)))))))
    | refine rd1_tl (rd1_tl (rd1_tl (rd1_tl (rd1_tl (rd1_tl (rd1_tl (rd1_tl (rd1_hd rfl ?_))))))))
    | refine rdN_hd rfl ?_
    | refine rdN_tl (rdN_hd rfl ?_)
    | refine rdN_tl (rdN_tl (rdN_hd rfl ?_))
    | refine rdN_tl (rdN_tl (rdN_tl (rdN_hd rfl ?_)))
    | refine rdN_tl (rdN_tl (rdN_tl (rdN_tl (rdN_hd rfl ?_))))
    | refine rdN_tl (rdN_tl (rdN_tl (rdN_tl (rdN_tl (rdN_hd rfl ?_)))))
    | refine rdN_tl (rdN_tl (rdN_tl (rdN_tl (rdN_tl (rdN_tl (rdN_hd rfl ?_))))))
    | refine rdN_tl (rdN_tl (rdN_tl (rdN_tl (rdN_tl (rdN_tl (rdN_tl (rdN_hd rfl ?_)))))))
    | refine rdN_tl (rdN_tl (rdN_tl (rdN_tl (rdN_tl (rdN_tl (rdN_tl (rdN_tl (rdN_hd rfl ?_))))))))
    | refine stoK.hd (by simp) ?_
    | refine stoK.tl (stoK.hd (by simp) ?_)
    | refine stoK.tl (stoK.tl (stoK.hd (by simp) ?_))
    | refine stoK.tl (stoK.tl (stoK.tl (stoK.hd (by simp) ?_)))
    | refine stoK.tl (stoK.tl (stoK.tl (stoK.tl (stoK.hd (by simp) ?_))))
    | refine stoK.tl (stoK.tl (stoK.tl (stoK.tl (stoK.tl (stoK.hd (by simp) ?_)))))
    | refine stoK.tl (stoK.tl (stoK.tl (stoK.tl (stoK.tl (stoK.tl (stoK.hd (by simp) ?_))))))
    | refine stoK.tl (stoK.tl (stoK.tl (stoK.tl (stoK.tl (stoK.tl (stoK.tl (stoK.hd (by simp) ?_)))))))
    | refine stoK.tl (stoK.tl (stoK.tl (stoK.tl (stoK.tl (stoK.tl (stoK.tl (stoK.tl (stoK.hd (by simp) ?_))))))))
    | exact ⟨rfl, rfl, rfl⟩
    | (refine And.intro ?_ ?_; (· omega))
    | refine ⟨fun hg => ?_, fun hg => ?_⟩
    | (refine VC.condb rfl (fun hg => ?_) (fun hg => ?_) <;> (try simp -implicitDefEqProofs only [hg, if_true, if_false, ↓reduceIte, Bool.false_eq_true]))
    | fail
  exact Gives.ret (fun k hk => hk _ _ _ _ _ _ _ _ _ _ _ _ _ g1 f1 f5) (by repeat' first | exact List.Sublist.refl _ | exact List.nil_sublist _ | (with_reducible refine List.Sublist.cons_cons _ ?_) | refine List.Sublist.cons _ ?_ | fail)
end Go.Proofs.Ytpddchnapcmmkaa
