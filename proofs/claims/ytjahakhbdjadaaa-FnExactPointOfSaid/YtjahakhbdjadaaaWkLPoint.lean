/- WkLPoint: walks, written by a program of this session. -/
import Derived.Test.YtjahakhbdjadaaaWk10
set_option linter.unusedVariables false
set_option linter.unusedSimpArgs false
namespace Go.Proofs.Ytjahakhbdjadaaa.W
open Go Go.RowKit Go.Proofs.Ytjahakhbdjadaaa.Fw
attribute [local irreducible] RunK LW AW DV OE Ct
theorem agt37 : aggB Try.prog 37 = some true := by kernel_rfl
theorem co27 : callOk Try.prog 27 = true := by kernel_rfl
theorem co28 : callOk Try.prog 28 = true := by kernel_rfl
theorem co29 : callOk Try.prog 29 = true := by kernel_rfl
theorem co30 : callOk Try.prog 30 = true := by kernel_rfl
theorem sz37 : sizeB Try.prog 37 = some 2 := by kernel_rfl
set_option maxHeartbeats 1000000 in
theorem lawPointOf_ok {w : World} {x y : Int} (hx : -9223372036854775808 ≤ x ∧ x ≤ 9223372036854775807) (hy : -9223372036854775808 ≤ y ∧ y ≤ 9223372036854775807) : Ct Try.prog 8 [.agg #[.int .i64 x, .int .i64 y]] w fun v w1 => v = .bool true ∧ Ext w w1 := by
  refine ct_run (n := 15) Try.func8 rfl Try.ntmps8 rfl ?_
  have E0 : Below w.heap.size w w := Below.refl _ _
  refine rk_seq ?_
  refine rk_reg ?_
  refine lw_e (oe_box (v := .agg #[.int .i64 x, .int .i64 y]) (cs := #[.int .i64 x, .int .i64 y]) (T rfl rfl) rfl ?_)
  intro b1 w2 n3
  have N4 : w.heap.size ≤ b1 := n3.eq ▸ E0.size
  have E5 := below_ext E0 E0.size n3.ext
  refine lw_v (.bool false) (dv_assign C) ?_
  refine lw_nil ?_
  refine rk_seq ?_
  refine rk_reg ?_
  refine lw_v (.agg #[.int .i64 x, .int .i64 y]) (dv_loads (l := [.int .i64 x, .int .i64 y]) agt37 sz37 (T rfl rfl) n3.blk rfl) ?_
  refine lw_e (oe_callf (vs := [.agg #[.int .i64 x, .int .i64 y]]) co28 (ar1 (T rfl rfl)) (toSpot_ok ) ?_)
  rintro _ w6 ⟨rfl, e7⟩
  have E8 := below_ext E5 E5.size e7
  refine lw_e (oe_callf (vs := [.agg #[.int .i64 x, .int .i64 y]]) co27 (ar1 (T rfl rfl)) (sPointOf_ok (by omega) (by omega)) ?_)
  rintro _ w9 ⟨rfl, e10⟩
  have E11 := below_ext E8 E8.size e10
  refine lw_e (oe_alloc ze39 ?_)
  intro b12 w13 n14
  have N15 : w.heap.size ≤ b12 := n14.eq ▸ E11.size
  have H16 := (e10.blk (e7.blk n3.blk))
  have : b1 < b12 := n14.eq ▸ lt_of_blk H16
  have E17 := below_ext E11 E11.size n14.ext
  refine lw_e (oe_store (v := .agg #[.int .u64 (wv3 x), .int .u64 (wv2 x), .int .u64 (wv1 x), .int .u64 (wv0 x), .int .u64 (wv3 y), .int .u64 (wv2 y), .int .u64 (wv1 y), .int .u64 (wv0 y), .int .u64 (wv3 1), .int .u64 (wv2 1), .int .u64 (wv1 1), .int .u64 (wv0 1)]) (vs := [.int .u64 (wv3 x), .int .u64 (wv2 x), .int .u64 (wv1 x), .int .u64 (wv0 x), .int .u64 (wv3 y), .int .u64 (wv2 y), .int .u64 (wv1 y), .int .u64 (wv0 y), .int .u64 (wv3 1), .int .u64 (wv2 1), .int .u64 (wv1 1), .int .u64 (wv0 1)]) (l := [.int .u64 (wv3 x), .int .u64 (wv2 x), .int .u64 (wv1 x), .int .u64 (wv0 x), .int .u64 (wv3 y), .int .u64 (wv2 y), .int .u64 (wv1 y), .int .u64 (wv0 y), .int .u64 (wv3 1), .int .u64 (wv2 1), .int .u64 (wv1 1), .int .u64 (wv0 1)]) (T rfl rfl) (T rfl rfl) sz39 rfl rfl rfl n14.blk rfl ?_)
  intro w18 s19 H20
  have E21 := below_st E17 N15 s19
  refine lw_nil ?_
  refine rk_seq ?_
  refine rk_reg ?_
  have H22 := (s19.blk (n14.ext.blk H16) (by omega))
  refine lw_v (.agg #[.int .i64 x, .int .i64 y]) (dv_loads (l := [.int .i64 x, .int .i64 y]) agt37 sz37 (T rfl rfl) H22 rfl) ?_
  refine lw_e (oe_callf (vs := [.agg #[.int .i64 x, .int .i64 y]]) co28 (ar1 (T rfl rfl)) (toSpot_ok ) ?_)
  rintro _ w23 ⟨rfl, e24⟩
  have E25 := below_ext E21 E21.size e24
  refine lw_e (oe_callf (vs := [.agg #[.int .i64 x, .int .i64 y]]) co29 (ar1 (T rfl rfl)) (iPointOf_ok (by omega) (by omega)) ?_)
  rintro _ w26 ⟨rfl, e27⟩
  have E28 := below_ext E25 E25.size e27
  refine lw_e (oe_alloc ze39 ?_)
  intro b29 w30 n31
  have N32 : w.heap.size ≤ b29 := n31.eq ▸ E28.size
  have H33 := (e27.blk (e24.blk H20))
  have : b12 < b29 := n31.eq ▸ lt_of_blk H33
  have E34 := below_ext E28 E28.size n31.ext
  refine lw_e (oe_store (v := .agg #[.int .u64 (wv3 x), .int .u64 (wv2 x), .int .u64 (wv1 x), .int .u64 (wv0 x), .int .u64 (wv3 y), .int .u64 (wv2 y), .int .u64 (wv1 y), .int .u64 (wv0 y), .int .u64 (wv3 1), .int .u64 (wv2 1), .int .u64 (wv1 1), .int .u64 (wv0 1)]) (vs := [.int .u64 (wv3 x), .int .u64 (wv2 x), .int .u64 (wv1 x), .int .u64 (wv0 x), .int .u64 (wv3 y), .int .u64 (wv2 y), .int .u64 (wv1 y), .int .u64 (wv0 y), .int .u64 (wv3 1), .int .u64 (wv2 1), .int .u64 (wv1 1), .int .u64 (wv0 1)]) (l := [.int .u64 (wv3 x), .int .u64 (wv2 x), .int .u64 (wv1 x), .int .u64 (wv0 x), .int .u64 (wv3 y), .int .u64 (wv2 y), .int .u64 (wv1 y), .int .u64 (wv0 y), .int .u64 (wv3 1), .int .u64 (wv2 1), .int .u64 (wv1 1), .int .u64 (wv0 1)]) (T rfl rfl) (T rfl rfl) sz39 rfl rfl rfl n31.blk rfl ?_)
  intro w35 s36 H37
  have E38 := below_st E34 N32 s36
  refine lw_nil ?_
  refine rk_seq ?_
  refine rk_seq ?_
  refine rk_reg ?_
  refine lw_v (.agg #[.int .u64 (wv3 x), .int .u64 (wv2 x), .int .u64 (wv1 x), .int .u64 (wv0 x), .int .u64 (wv3 y), .int .u64 (wv2 y), .int .u64 (wv1 y), .int .u64 (wv0 y), .int .u64 (wv3 1), .int .u64 (wv2 1), .int .u64 (wv1 1), .int .u64 (wv0 1)]) (dv_loads (l := [.int .u64 (wv3 x), .int .u64 (wv2 x), .int .u64 (wv1 x), .int .u64 (wv0 x), .int .u64 (wv3 y), .int .u64 (wv2 y), .int .u64 (wv1 y), .int .u64 (wv0 y), .int .u64 (wv3 1), .int .u64 (wv2 1), .int .u64 (wv1 1), .int .u64 (wv0 1)]) agt39 sz39 (T rfl rfl) H37 rfl) ?_
  have H39 := (s36.blk (n31.ext.blk H33) (by omega))
  refine lw_v (.agg #[.int .u64 (wv3 x), .int .u64 (wv2 x), .int .u64 (wv1 x), .int .u64 (wv0 x), .int .u64 (wv3 y), .int .u64 (wv2 y), .int .u64 (wv1 y), .int .u64 (wv0 y), .int .u64 (wv3 1), .int .u64 (wv2 1), .int .u64 (wv1 1), .int .u64 (wv0 1)]) (dv_loads (l := [.int .u64 (wv3 x), .int .u64 (wv2 x), .int .u64 (wv1 x), .int .u64 (wv0 x), .int .u64 (wv3 y), .int .u64 (wv2 y), .int .u64 (wv1 y), .int .u64 (wv0 y), .int .u64 (wv3 1), .int .u64 (wv2 1), .int .u64 (wv1 1), .int .u64 (wv0 1)]) agt39 sz39 (T rfl rfl) H39 rfl) ?_
  refine lw_e (oe_callf (vs := [.agg #[.int .u64 (wv3 x), .int .u64 (wv2 x), .int .u64 (wv1 x), .int .u64 (wv0 x), .int .u64 (wv3 y), .int .u64 (wv2 y), .int .u64 (wv1 y), .int .u64 (wv0 y), .int .u64 (wv3 1), .int .u64 (wv2 1), .int .u64 (wv1 1), .int .u64 (wv0 1)], .agg #[.int .u64 (wv3 x), .int .u64 (wv2 x), .int .u64 (wv1 x), .int .u64 (wv0 x), .int .u64 (wv3 y), .int .u64 (wv2 y), .int .u64 (wv1 y), .int .u64 (wv0 y), .int .u64 (wv3 1), .int .u64 (wv2 1), .int .u64 (wv1 1), .int .u64 (wv0 1)]]) co30 (ar2 (T rfl rfl) (T rfl rfl)) (eqPoint_ok ) ?_)
  rintro _ w40 ⟨rfl, e41⟩
  have E42 := below_ext E38 E38.size e41
  refine lw_v (.bool (decide (¬ ((wv3 x) = (wv3 x) ∧ (wv2 x) = (wv2 x) ∧ (wv1 x) = (wv1 x) ∧ (wv0 x) = (wv0 x) ∧ (wv3 y) = (wv3 y) ∧ (wv2 y) = (wv2 y) ∧ (wv1 y) = (wv1 y) ∧ (wv0 y) = (wv0 y) ∧ (wv3 1) = (wv3 1) ∧ (wv2 1) = (wv2 1) ∧ (wv1 1) = (wv1 1) ∧ (wv0 1) = (wv0 1))))) (dv_notd (p := (wv3 x) = (wv3 x) ∧ (wv2 x) = (wv2 x) ∧ (wv1 x) = (wv1 x) ∧ (wv0 x) = (wv0 x) ∧ (wv3 y) = (wv3 y) ∧ (wv2 y) = (wv2 y) ∧ (wv1 y) = (wv1 y) ∧ (wv0 y) = (wv0 y) ∧ (wv3 1) = (wv3 1) ∧ (wv2 1) = (wv2 1) ∧ (wv1 1) = (wv1 1) ∧ (wv0 1) = (wv0 1)) (T rfl rfl)) ?_
  refine lw_nil ?_
  by_cases hb43 : (wv3 x) = (wv3 x) ∧ (wv2 x) = (wv2 x) ∧ (wv1 x) = (wv1 x) ∧ (wv0 x) = (wv0 x) ∧ (wv3 y) = (wv3 y) ∧ (wv2 y) = (wv2 y) ∧ (wv1 y) = (wv1 y) ∧ (wv0 y) = (wv0 y) ∧ (wv3 1) = (wv3 1) ∧ (wv2 1) = (wv2 1) ∧ (wv1 1) = (wv1 1) ∧ (wv0 1) = (wv0 1)
  · -- T
    refine rk_cf (T rfl (congrArg Value.bool (decide_eq_false (not_not_intro hb43)))) ?_
    refine rk_skip ?_
    refine rk_seq ?_
    refine rk_reg ?_
    refine lw_v (.bool true) (dv_assign C) ?_
    refine lw_nil ?_
    refine rk_ret Try.func8 (v := .bool true) (res1 Try.results8 (rv_tmp rfl rfl)) ⟨_, rfl, ?_⟩
    exact ⟨rfl, E42⟩
  · -- F
    refine rk_ct (T rfl (congrArg Value.bool (decide_eq_true hb43))) ?_
    refine rk_seq ?_
    refine rk_reg ?_
    refine lw_v (.bool false) (dv_assign C) ?_
    refine lw_nil ?_
    refine rk_ret Try.func8 (v := .bool false) (res1 Try.results8 (rv_tmp rfl rfl)) ⟨_, rfl, ?_⟩
    exact ⟨(congrArg Value.bool (by grind)), E42⟩

end Go.Proofs.Ytjahakhbdjadaaa.W
