/- WkLOf: walks, written by a program of this session. -/
import Derived.Test.YtjahakhbdjadaaaWk9
set_option linter.unusedVariables false
set_option linter.unusedSimpArgs false
namespace Go.Proofs.Ytjahakhbdjadaaa.W
open Go Go.RowKit Go.Proofs.Ytjahakhbdjadaaa.Fw
attribute [local irreducible] RunK LW AW DV OE Ct
theorem co22 : callOk Try.prog 22 = true := by kernel_rfl
theorem co23 : callOk Try.prog 23 = true := by kernel_rfl
theorem co24 : callOk Try.prog 24 = true := by kernel_rfl
set_option maxHeartbeats 1000000 in
theorem lawWideOf_ok {w : World} {x : Int} (hx : -9223372036854775808 ≤ x ∧ x ≤ 9223372036854775807) : Ct Try.prog 6 [.int .i64 x] w fun v w1 => v = .bool true ∧ Ext w w1 := by
  refine ct_run (n := 13) Try.func6 rfl Try.ntmps6 rfl ?_
  have E0 : Below w.heap.size w w := Below.refl _ _
  refine rk_seq ?_
  refine rk_reg ?_
  refine lw_v (.bool false) (dv_assign C) ?_
  refine lw_nil ?_
  refine rk_seq ?_
  refine rk_reg ?_
  refine lw_v (.int .i64 x) (dv_move (T rfl rfl)) ?_
  refine lw_e (oe_callf (vs := [.int .i64 x]) co22 (ar1 (T rfl rfl)) (sWideOf_ok (by omega)) ?_)
  rintro _ w1 ⟨rfl, e2⟩
  have E3 := below_ext E0 E0.size e2
  refine lw_e (oe_alloc ze26 ?_)
  intro b4 w5 n6
  have N7 : w.heap.size ≤ b4 := n6.eq ▸ E3.size
  have E8 := below_ext E3 E3.size n6.ext
  refine lw_e (oe_store (v := .agg #[.int .u64 (wv3 x), .int .u64 (wv2 x), .int .u64 (wv1 x), .int .u64 (wv0 x)]) (vs := [.int .u64 (wv3 x), .int .u64 (wv2 x), .int .u64 (wv1 x), .int .u64 (wv0 x)]) (l := [.int .u64 (wv3 x), .int .u64 (wv2 x), .int .u64 (wv1 x), .int .u64 (wv0 x)]) (T rfl rfl) (T rfl rfl) sz26 rfl rfl rfl n6.blk rfl ?_)
  intro w9 s10 H11
  have E12 := below_st E8 N7 s10
  refine lw_nil ?_
  refine rk_seq ?_
  refine rk_reg ?_
  refine lw_v (.int .i64 x) (dv_move (T rfl rfl)) ?_
  refine lw_e (oe_callf (vs := [.int .i64 x]) co23 (ar1 (T rfl rfl)) (iWideOf_ok (by omega)) ?_)
  rintro _ w13 ⟨rfl, e14⟩
  have E15 := below_ext E12 E12.size e14
  refine lw_e (oe_alloc ze26 ?_)
  intro b16 w17 n18
  have N19 : w.heap.size ≤ b16 := n18.eq ▸ E15.size
  have H20 := (e14.blk H11)
  have : b4 < b16 := n18.eq ▸ lt_of_blk H20
  have E21 := below_ext E15 E15.size n18.ext
  refine lw_e (oe_store (v := .agg #[.int .u64 (wv3 x), .int .u64 (wv2 x), .int .u64 (wv1 x), .int .u64 (wv0 x)]) (vs := [.int .u64 (wv3 x), .int .u64 (wv2 x), .int .u64 (wv1 x), .int .u64 (wv0 x)]) (l := [.int .u64 (wv3 x), .int .u64 (wv2 x), .int .u64 (wv1 x), .int .u64 (wv0 x)]) (T rfl rfl) (T rfl rfl) sz26 rfl rfl rfl n18.blk rfl ?_)
  intro w22 s23 H24
  have E25 := below_st E21 N19 s23
  refine lw_nil ?_
  refine rk_seq ?_
  refine rk_seq ?_
  refine rk_reg ?_
  refine lw_v (.agg #[.int .u64 (wv3 x), .int .u64 (wv2 x), .int .u64 (wv1 x), .int .u64 (wv0 x)]) (dv_loads (l := [.int .u64 (wv3 x), .int .u64 (wv2 x), .int .u64 (wv1 x), .int .u64 (wv0 x)]) agt26 sz26 (T rfl rfl) H24 rfl) ?_
  have H26 := (s23.blk (n18.ext.blk H20) (by omega))
  refine lw_v (.agg #[.int .u64 (wv3 x), .int .u64 (wv2 x), .int .u64 (wv1 x), .int .u64 (wv0 x)]) (dv_loads (l := [.int .u64 (wv3 x), .int .u64 (wv2 x), .int .u64 (wv1 x), .int .u64 (wv0 x)]) agt26 sz26 (T rfl rfl) H26 rfl) ?_
  refine lw_e (oe_callf (vs := [.agg #[.int .u64 (wv3 x), .int .u64 (wv2 x), .int .u64 (wv1 x), .int .u64 (wv0 x)], .agg #[.int .u64 (wv3 x), .int .u64 (wv2 x), .int .u64 (wv1 x), .int .u64 (wv0 x)]]) co24 (ar2 (T rfl rfl) (T rfl rfl)) (eqWide_ok ) ?_)
  rintro _ w27 ⟨rfl, e28⟩
  have E29 := below_ext E25 E25.size e28
  refine lw_v (.bool (decide (¬ ((wv3 x) = (wv3 x) ∧ (wv2 x) = (wv2 x) ∧ (wv1 x) = (wv1 x) ∧ (wv0 x) = (wv0 x))))) (dv_notd (p := (wv3 x) = (wv3 x) ∧ (wv2 x) = (wv2 x) ∧ (wv1 x) = (wv1 x) ∧ (wv0 x) = (wv0 x)) (T rfl rfl)) ?_
  refine lw_nil ?_
  by_cases hb30 : (wv3 x) = (wv3 x) ∧ (wv2 x) = (wv2 x) ∧ (wv1 x) = (wv1 x) ∧ (wv0 x) = (wv0 x)
  · -- T
    refine rk_cf (T rfl (congrArg Value.bool (decide_eq_false (not_not_intro hb30)))) ?_
    refine rk_skip ?_
    refine rk_seq ?_
    refine rk_reg ?_
    refine lw_v (.bool true) (dv_assign C) ?_
    refine lw_nil ?_
    refine rk_ret Try.func6 (v := .bool true) (res1 Try.results6 (rv_tmp rfl rfl)) ⟨_, rfl, ?_⟩
    exact ⟨rfl, E29⟩
  · -- F
    refine rk_ct (T rfl (congrArg Value.bool (decide_eq_true hb30))) ?_
    refine rk_seq ?_
    refine rk_reg ?_
    refine lw_v (.bool false) (dv_assign C) ?_
    refine lw_nil ?_
    refine rk_ret Try.func6 (v := .bool false) (res1 Try.results6 (rv_tmp rfl rfl)) ⟨_, rfl, ?_⟩
    exact ⟨(congrArg Value.bool (by grind)), E29⟩

end Go.Proofs.Ytjahakhbdjadaaa.W
