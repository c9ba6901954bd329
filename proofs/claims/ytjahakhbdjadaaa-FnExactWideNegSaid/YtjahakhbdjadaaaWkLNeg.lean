/- WkLNeg: walks, written by a program of this session. -/
import Derived.Test.YtjahakhbdjadaaaWk9
set_option linter.unusedVariables false
set_option linter.unusedSimpArgs false
namespace Go.Proofs.Ytjahakhbdjadaaa.W
open Go Go.RowKit Go.Proofs.Ytjahakhbdjadaaa.Fw
attribute [local irreducible] RunK LW AW DV OE Ct
theorem co22 : callOk Try.prog 22 = true := by kernel_rfl
theorem co23 : callOk Try.prog 23 = true := by kernel_rfl
theorem co24 : callOk Try.prog 24 = true := by kernel_rfl
theorem co25 : callOk Try.prog 25 = true := by kernel_rfl
theorem co26 : callOk Try.prog 26 = true := by kernel_rfl
set_option maxHeartbeats 1000000 in
theorem lawWideNeg_ok {w : World} {a3 a2 a1 a0 : Int} (h3 : 0 ≤ a3 ∧ a3 < 18446744073709551616) (h2 : 0 ≤ a2 ∧ a2 < 18446744073709551616) (h1 : 0 ≤ a1 ∧ a1 < 18446744073709551616) (h0 : 0 ≤ a0 ∧ a0 < 18446744073709551616) : Ct Try.prog 7 [.agg #[.int .u64 a3, .int .u64 a2, .int .u64 a1, .int .u64 a0]] w fun v w1 => v = .bool true ∧ Ext w w1 := by
  refine ct_run (n := 28) Try.func7 rfl Try.ntmps7 rfl ?_
  have E0 : Below w.heap.size w w := Below.refl _ _
  refine rk_seq ?_
  refine rk_reg ?_
  refine lw_e (oe_box (v := .agg #[.int .u64 a3, .int .u64 a2, .int .u64 a1, .int .u64 a0]) (cs := #[.int .u64 a3, .int .u64 a2, .int .u64 a1, .int .u64 a0]) (T rfl rfl) rfl ?_)
  intro b1 w2 n3
  have N4 : w.heap.size ≤ b1 := n3.eq ▸ E0.size
  have E5 := below_ext E0 E0.size n3.ext
  refine lw_v (.bool false) (dv_assign C) ?_
  refine lw_nil ?_
  refine rk_seq ?_
  refine rk_reg ?_
  refine lw_v (.agg #[.int .u64 a3, .int .u64 a2, .int .u64 a1, .int .u64 a0]) (dv_loads (l := [.int .u64 a3, .int .u64 a2, .int .u64 a1, .int .u64 a0]) agt24 sz24 (T rfl rfl) n3.blk rfl) ?_
  refine lw_e (oe_callf (vs := [.agg #[.int .u64 a3, .int .u64 a2, .int .u64 a1, .int .u64 a0]]) co16 (ar1 (T rfl rfl)) (toWide_ok ) ?_)
  rintro _ w6 ⟨rfl, e7⟩
  have E8 := below_ext E5 E5.size e7
  refine lw_e (oe_callf (vs := [.agg #[.int .u64 a3, .int .u64 a2, .int .u64 a1, .int .u64 a0]]) co25 (ar1 (T rfl rfl)) (sWideNeg_ok (by omega) (by omega) (by omega) (by omega)) ?_)
  rintro _ w9 ⟨rfl, e10⟩
  have E11 := below_ext E8 E8.size e10
  refine lw_v (.tuple #[.agg #[.int .u64 (wv3 (-(wz a3 a2 a1 a0))), .int .u64 (wv2 (-(wz a3 a2 a1 a0))), .int .u64 (wv1 (-(wz a3 a2 a1 a0))), .int .u64 (wv0 (-(wz a3 a2 a1 a0)))], .bool (decide (fits (-(wz a3 a2 a1 a0))))]) (dv_move (T rfl rfl)) ?_
  refine lw_v (.agg #[.int .u64 (wv3 (-(wz a3 a2 a1 a0))), .int .u64 (wv2 (-(wz a3 a2 a1 a0))), .int .u64 (wv1 (-(wz a3 a2 a1 a0))), .int .u64 (wv0 (-(wz a3 a2 a1 a0)))]) (dv_extract (vs := #[.agg #[.int .u64 (wv3 (-(wz a3 a2 a1 a0))), .int .u64 (wv2 (-(wz a3 a2 a1 a0))), .int .u64 (wv1 (-(wz a3 a2 a1 a0))), .int .u64 (wv0 (-(wz a3 a2 a1 a0)))], .bool (decide (fits (-(wz a3 a2 a1 a0))))]) (T rfl rfl) rfl) ?_
  refine lw_v (.bool (decide (fits (-(wz a3 a2 a1 a0))))) (dv_extract (vs := #[.agg #[.int .u64 (wv3 (-(wz a3 a2 a1 a0))), .int .u64 (wv2 (-(wz a3 a2 a1 a0))), .int .u64 (wv1 (-(wz a3 a2 a1 a0))), .int .u64 (wv0 (-(wz a3 a2 a1 a0)))], .bool (decide (fits (-(wz a3 a2 a1 a0))))]) (T rfl rfl) rfl) ?_
  refine lw_e (oe_alloc ze26 ?_)
  intro b12 w13 n14
  have N15 : w.heap.size ≤ b12 := n14.eq ▸ E11.size
  have H16 := (e10.blk (e7.blk n3.blk))
  have : b1 < b12 := n14.eq ▸ lt_of_blk H16
  have E17 := below_ext E11 E11.size n14.ext
  refine lw_e (oe_store (v := .agg #[.int .u64 (wv3 (-(wz a3 a2 a1 a0))), .int .u64 (wv2 (-(wz a3 a2 a1 a0))), .int .u64 (wv1 (-(wz a3 a2 a1 a0))), .int .u64 (wv0 (-(wz a3 a2 a1 a0)))]) (vs := [.int .u64 (wv3 (-(wz a3 a2 a1 a0))), .int .u64 (wv2 (-(wz a3 a2 a1 a0))), .int .u64 (wv1 (-(wz a3 a2 a1 a0))), .int .u64 (wv0 (-(wz a3 a2 a1 a0)))]) (l := [.int .u64 (wv3 (-(wz a3 a2 a1 a0))), .int .u64 (wv2 (-(wz a3 a2 a1 a0))), .int .u64 (wv1 (-(wz a3 a2 a1 a0))), .int .u64 (wv0 (-(wz a3 a2 a1 a0)))]) (T rfl rfl) (T rfl rfl) sz26 rfl rfl rfl n14.blk rfl ?_)
  intro w18 s19 H20
  have E21 := below_st E17 N15 s19
  refine lw_v (.bool (decide (fits (-(wz a3 a2 a1 a0))))) (dv_assign (T rfl rfl)) ?_
  refine lw_nil ?_
  refine rk_seq ?_
  refine rk_reg ?_
  have H22 := (s19.blk (n14.ext.blk H16) (by omega))
  refine lw_v (.agg #[.int .u64 a3, .int .u64 a2, .int .u64 a1, .int .u64 a0]) (dv_loads (l := [.int .u64 a3, .int .u64 a2, .int .u64 a1, .int .u64 a0]) agt24 sz24 (T rfl rfl) H22 rfl) ?_
  refine lw_e (oe_callf (vs := [.agg #[.int .u64 a3, .int .u64 a2, .int .u64 a1, .int .u64 a0]]) co16 (ar1 (T rfl rfl)) (toWide_ok ) ?_)
  rintro _ w23 ⟨rfl, e24⟩
  have E25 := below_ext E21 E21.size e24
  refine lw_e (oe_callf (vs := [.agg #[.int .u64 a3, .int .u64 a2, .int .u64 a1, .int .u64 a0]]) co26 (ar1 (T rfl rfl)) (iWideNeg_ok (by omega) (by omega) (by omega) (by omega)) ?_)
  rintro _ w26 ⟨rfl, e27⟩
  have E28 := below_ext E25 E25.size e27
  refine lw_v (.tuple #[.agg #[.int .u64 (wv3 (-(wz a3 a2 a1 a0))), .int .u64 (wv2 (-(wz a3 a2 a1 a0))), .int .u64 (wv1 (-(wz a3 a2 a1 a0))), .int .u64 (wv0 (-(wz a3 a2 a1 a0)))], .bool (decide (fits (-(wz a3 a2 a1 a0))))]) (dv_move (T rfl rfl)) ?_
  refine lw_v (.agg #[.int .u64 (wv3 (-(wz a3 a2 a1 a0))), .int .u64 (wv2 (-(wz a3 a2 a1 a0))), .int .u64 (wv1 (-(wz a3 a2 a1 a0))), .int .u64 (wv0 (-(wz a3 a2 a1 a0)))]) (dv_extract (vs := #[.agg #[.int .u64 (wv3 (-(wz a3 a2 a1 a0))), .int .u64 (wv2 (-(wz a3 a2 a1 a0))), .int .u64 (wv1 (-(wz a3 a2 a1 a0))), .int .u64 (wv0 (-(wz a3 a2 a1 a0)))], .bool (decide (fits (-(wz a3 a2 a1 a0))))]) (T rfl rfl) rfl) ?_
  refine lw_v (.bool (decide (fits (-(wz a3 a2 a1 a0))))) (dv_extract (vs := #[.agg #[.int .u64 (wv3 (-(wz a3 a2 a1 a0))), .int .u64 (wv2 (-(wz a3 a2 a1 a0))), .int .u64 (wv1 (-(wz a3 a2 a1 a0))), .int .u64 (wv0 (-(wz a3 a2 a1 a0)))], .bool (decide (fits (-(wz a3 a2 a1 a0))))]) (T rfl rfl) rfl) ?_
  refine lw_e (oe_alloc ze26 ?_)
  intro b29 w30 n31
  have N32 : w.heap.size ≤ b29 := n31.eq ▸ E28.size
  have H33 := (e27.blk (e24.blk H20))
  have : b12 < b29 := n31.eq ▸ lt_of_blk H33
  have E34 := below_ext E28 E28.size n31.ext
  refine lw_e (oe_store (v := .agg #[.int .u64 (wv3 (-(wz a3 a2 a1 a0))), .int .u64 (wv2 (-(wz a3 a2 a1 a0))), .int .u64 (wv1 (-(wz a3 a2 a1 a0))), .int .u64 (wv0 (-(wz a3 a2 a1 a0)))]) (vs := [.int .u64 (wv3 (-(wz a3 a2 a1 a0))), .int .u64 (wv2 (-(wz a3 a2 a1 a0))), .int .u64 (wv1 (-(wz a3 a2 a1 a0))), .int .u64 (wv0 (-(wz a3 a2 a1 a0)))]) (l := [.int .u64 (wv3 (-(wz a3 a2 a1 a0))), .int .u64 (wv2 (-(wz a3 a2 a1 a0))), .int .u64 (wv1 (-(wz a3 a2 a1 a0))), .int .u64 (wv0 (-(wz a3 a2 a1 a0)))]) (T rfl rfl) (T rfl rfl) sz26 rfl rfl rfl n31.blk rfl ?_)
  intro w35 s36 H37
  have E38 := below_st E34 N32 s36
  refine lw_v (.bool (decide (fits (-(wz a3 a2 a1 a0))))) (dv_assign (T rfl rfl)) ?_
  refine lw_nil ?_
  refine rk_seq ?_
  refine rk_seq ?_
  refine rk_reg ?_
  refine lw_v (.agg #[.int .u64 (wv3 (-(wz a3 a2 a1 a0))), .int .u64 (wv2 (-(wz a3 a2 a1 a0))), .int .u64 (wv1 (-(wz a3 a2 a1 a0))), .int .u64 (wv0 (-(wz a3 a2 a1 a0)))]) (dv_loads (l := [.int .u64 (wv3 (-(wz a3 a2 a1 a0))), .int .u64 (wv2 (-(wz a3 a2 a1 a0))), .int .u64 (wv1 (-(wz a3 a2 a1 a0))), .int .u64 (wv0 (-(wz a3 a2 a1 a0)))]) agt26 sz26 (T rfl rfl) H37 rfl) ?_
  have H39 := (s36.blk (n31.ext.blk H33) (by omega))
  refine lw_v (.agg #[.int .u64 (wv3 (-(wz a3 a2 a1 a0))), .int .u64 (wv2 (-(wz a3 a2 a1 a0))), .int .u64 (wv1 (-(wz a3 a2 a1 a0))), .int .u64 (wv0 (-(wz a3 a2 a1 a0)))]) (dv_loads (l := [.int .u64 (wv3 (-(wz a3 a2 a1 a0))), .int .u64 (wv2 (-(wz a3 a2 a1 a0))), .int .u64 (wv1 (-(wz a3 a2 a1 a0))), .int .u64 (wv0 (-(wz a3 a2 a1 a0)))]) agt26 sz26 (T rfl rfl) H39 rfl) ?_
  refine lw_e (oe_callf (vs := [.agg #[.int .u64 (wv3 (-(wz a3 a2 a1 a0))), .int .u64 (wv2 (-(wz a3 a2 a1 a0))), .int .u64 (wv1 (-(wz a3 a2 a1 a0))), .int .u64 (wv0 (-(wz a3 a2 a1 a0)))], .agg #[.int .u64 (wv3 (-(wz a3 a2 a1 a0))), .int .u64 (wv2 (-(wz a3 a2 a1 a0))), .int .u64 (wv1 (-(wz a3 a2 a1 a0))), .int .u64 (wv0 (-(wz a3 a2 a1 a0)))]]) co24 (ar2 (T rfl rfl) (T rfl rfl)) (eqWide_ok ) ?_)
  rintro _ w40 ⟨rfl, e41⟩
  have E42 := below_ext E38 E38.size e41
  refine lw_v (.bool (decide (¬ ((wv3 (-(wz a3 a2 a1 a0))) = (wv3 (-(wz a3 a2 a1 a0))) ∧ (wv2 (-(wz a3 a2 a1 a0))) = (wv2 (-(wz a3 a2 a1 a0))) ∧ (wv1 (-(wz a3 a2 a1 a0))) = (wv1 (-(wz a3 a2 a1 a0))) ∧ (wv0 (-(wz a3 a2 a1 a0))) = (wv0 (-(wz a3 a2 a1 a0))))))) (dv_notd (p := (wv3 (-(wz a3 a2 a1 a0))) = (wv3 (-(wz a3 a2 a1 a0))) ∧ (wv2 (-(wz a3 a2 a1 a0))) = (wv2 (-(wz a3 a2 a1 a0))) ∧ (wv1 (-(wz a3 a2 a1 a0))) = (wv1 (-(wz a3 a2 a1 a0))) ∧ (wv0 (-(wz a3 a2 a1 a0))) = (wv0 (-(wz a3 a2 a1 a0)))) (T rfl rfl)) ?_
  refine lw_v (.bool (decide (¬ ((wv3 (-(wz a3 a2 a1 a0))) = (wv3 (-(wz a3 a2 a1 a0))) ∧ (wv2 (-(wz a3 a2 a1 a0))) = (wv2 (-(wz a3 a2 a1 a0))) ∧ (wv1 (-(wz a3 a2 a1 a0))) = (wv1 (-(wz a3 a2 a1 a0))) ∧ (wv0 (-(wz a3 a2 a1 a0))) = (wv0 (-(wz a3 a2 a1 a0))))))) (dv_move (T rfl rfl)) ?_
  by_cases hb43 : (wv3 (-(wz a3 a2 a1 a0))) = (wv3 (-(wz a3 a2 a1 a0))) ∧ (wv2 (-(wz a3 a2 a1 a0))) = (wv2 (-(wz a3 a2 a1 a0))) ∧ (wv1 (-(wz a3 a2 a1 a0))) = (wv1 (-(wz a3 a2 a1 a0))) ∧ (wv0 (-(wz a3 a2 a1 a0))) = (wv0 (-(wz a3 a2 a1 a0)))
  · -- T
    refine lw_vy (.bool (decide (fits (-(wz a3 a2 a1 a0))))) (d := 23) rfl rfl (congrArg Value.bool (decide_eq_false (not_not_intro hb43))) (dv_move (T rfl rfl)) ?_
    refine lw_vy (.bool (decide (fits (-(wz a3 a2 a1 a0))))) (d := 23) rfl rfl (congrArg Value.bool (decide_eq_false (not_not_intro hb43))) (dv_move (T rfl rfl)) ?_
    refine lw_vy (.bool ((decide (fits (-(wz a3 a2 a1 a0)))) != (decide (fits (-(wz a3 a2 a1 a0)))))) (d := 23) rfl rfl (congrArg Value.bool (decide_eq_false (not_not_intro hb43))) (dv_neqb (a := decide (fits (-(wz a3 a2 a1 a0)))) (b := decide (fits (-(wz a3 a2 a1 a0)))) ub4 (T rfl rfl) (T rfl rfl)) ?_
    refine lw_v (.bool ((decide (fits (-(wz a3 a2 a1 a0)))) != (decide (fits (-(wz a3 a2 a1 a0)))))) (dv_pick_f (T rfl (congrArg Value.bool (decide_eq_false (not_not_intro hb43)))) (T rfl rfl)) ?_
    refine lw_nil ?_
    rcases Bool.eq_false_or_eq_true ((decide (fits (-(wz a3 a2 a1 a0)))) != (decide (fits (-(wz a3 a2 a1 a0))))) with hb44 | hb44
    · -- TT
      refine rk_ct (T rfl (congrArg Value.bool hb44)) ?_
      refine rk_seq ?_
      refine rk_reg ?_
      refine lw_v (.bool false) (dv_assign C) ?_
      refine lw_nil ?_
      refine rk_ret Try.func7 (v := .bool false) (res1 Try.results7 (rv_tmp rfl rfl)) ⟨_, rfl, ?_⟩
      exact ⟨(congrArg Value.bool (by grind)), E42⟩
    · -- TF
      refine rk_cf (T rfl (congrArg Value.bool hb44)) ?_
      refine rk_skip ?_
      refine rk_seq ?_
      refine rk_reg ?_
      refine lw_v (.bool true) (dv_assign C) ?_
      refine lw_nil ?_
      refine rk_ret Try.func7 (v := .bool true) (res1 Try.results7 (rv_tmp rfl rfl)) ⟨_, rfl, ?_⟩
      exact ⟨rfl, E42⟩
  · -- F
    refine lw_no (d := 23) rfl rfl (congrArg Value.bool (decide_eq_true hb43)) ?_
    refine lw_no (d := 23) rfl rfl (congrArg Value.bool (decide_eq_true hb43)) ?_
    refine lw_no (d := 23) rfl rfl (congrArg Value.bool (decide_eq_true hb43)) ?_
    refine lw_v (.bool true) (dv_pick_t (T rfl (congrArg Value.bool (decide_eq_true hb43))) C) ?_
    refine lw_nil ?_
    refine rk_ct (T rfl rfl) ?_
    refine rk_seq ?_
    refine rk_reg ?_
    refine lw_v (.bool false) (dv_assign C) ?_
    refine lw_nil ?_
    refine rk_ret Try.func7 (v := .bool false) (res1 Try.results7 (rv_tmp rfl rfl)) ⟨_, rfl, ?_⟩
    exact ⟨(congrArg Value.bool (by grind)), E42⟩

end Go.Proofs.Ytjahakhbdjadaaa.W
