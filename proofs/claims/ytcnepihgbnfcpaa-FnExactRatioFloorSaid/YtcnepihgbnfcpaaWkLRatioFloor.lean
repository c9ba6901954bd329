/- WkLRatioFloor: walks, written by a program of this session. -/
import Derived.Test.YtcnepihgbnfcpaaWk20
set_option linter.unusedVariables false
set_option linter.unusedSimpArgs false
namespace Go.Proofs.Ytcnepihgbnfcpaa.W
open Go Go.RowKit Go.Proofs.Ytcnepihgbnfcpaa.Fw
attribute [local irreducible] RunK LW AW DV OE Ct
theorem agt48 : aggB Try.prog 48 = some true := by kernel_rfl
theorem co43 : callOk Try.prog 43 = true := by kernel_rfl
theorem co45 : callOk Try.prog 45 = true := by kernel_rfl
theorem co46 : callOk Try.prog 46 = true := by kernel_rfl
theorem co47 : callOk Try.prog 47 = true := by kernel_rfl
theorem co48 : callOk Try.prog 48 = true := by kernel_rfl
theorem sz48 : sizeB Try.prog 48 = some 8 := by kernel_rfl
set_option maxHeartbeats 1000000 in
theorem lawRatioFloor_ok {w : World} {x y : Int} (fx_ : fits x) (fy_ : fits y)  : Ct Try.prog 14 [.agg #[.int .u64 (wv3 x), .int .u64 (wv2 x), .int .u64 (wv1 x), .int .u64 (wv0 x), .int .u64 (wv3 y), .int .u64 (wv2 y), .int .u64 (wv1 y), .int .u64 (wv0 y)]] w fun v w1 => v = .bool true ∧ Ext w w1 := by
  refine ct_run (n := 28) Try.func14 rfl Try.ntmps14 rfl ?_
  have E0 : Below w.heap.size w w := Below.refl _ _
  refine rk_seq ?_
  refine rk_reg ?_
  refine lw_e (oe_box (v := .agg #[.int .u64 (wv3 x), .int .u64 (wv2 x), .int .u64 (wv1 x), .int .u64 (wv0 x), .int .u64 (wv3 y), .int .u64 (wv2 y), .int .u64 (wv1 y), .int .u64 (wv0 y)]) (cs := #[.int .u64 (wv3 x), .int .u64 (wv2 x), .int .u64 (wv1 x), .int .u64 (wv0 x), .int .u64 (wv3 y), .int .u64 (wv2 y), .int .u64 (wv1 y), .int .u64 (wv0 y)]) (T rfl rfl) rfl ?_)
  intro b1 w2 n3
  have N4 : w.heap.size ≤ b1 := n3.eq ▸ E0.size
  have E5 := below_ext E0 E0.size n3.ext
  refine lw_v (.bool false) (dv_assign C) ?_
  refine lw_nil ?_
  refine rk_seq ?_
  refine rk_reg ?_
  refine lw_v (.agg #[.int .u64 (wv3 x), .int .u64 (wv2 x), .int .u64 (wv1 x), .int .u64 (wv0 x), .int .u64 (wv3 y), .int .u64 (wv2 y), .int .u64 (wv1 y), .int .u64 (wv0 y)]) (dv_loads (l := [.int .u64 (wv3 x), .int .u64 (wv2 x), .int .u64 (wv1 x), .int .u64 (wv0 x), .int .u64 (wv3 y), .int .u64 (wv2 y), .int .u64 (wv1 y), .int .u64 (wv0 y)]) agt48 sz48 (T rfl rfl) n3.blk rfl) ?_
  refine lw_e (oe_callf (vs := [.agg #[.int .u64 (wv3 x), .int .u64 (wv2 x), .int .u64 (wv1 x), .int .u64 (wv0 x), .int .u64 (wv3 y), .int .u64 (wv2 y), .int .u64 (wv1 y), .int .u64 (wv0 y)]]) co43 (ar1 (T rfl rfl)) (toRatio_ok (x := x) (y := y)  ) ?_)
  rintro _ w6 ⟨rfl, e7⟩
  have E8 := below_ext E5 E5.size e7
  refine lw_e (oe_callf (vs := [.agg #[.int .u64 (wv3 x), .int .u64 (wv2 x), .int .u64 (wv1 x), .int .u64 (wv0 x), .int .u64 (wv3 y), .int .u64 (wv2 y), .int .u64 (wv1 y), .int .u64 (wv0 y)]]) co47 (ar1 (T rfl rfl)) (sRatioFloor_ok (x := x) (y := y) fx_ fy_ ) ?_)
  rintro _ w9 ⟨rfl, e10⟩
  have E11 := below_ext E8 E8.size e10
  refine lw_v (.tuple #[.agg #[.int .u64 (wv3 (pkz (rOk x y ∧ fits (x / y)) (x / y))), .int .u64 (wv2 (pkz (rOk x y ∧ fits (x / y)) (x / y))), .int .u64 (wv1 (pkz (rOk x y ∧ fits (x / y)) (x / y))), .int .u64 (wv0 (pkz (rOk x y ∧ fits (x / y)) (x / y)))], .bool (decide (rOk x y ∧ fits (x / y)))]) (dv_move (T rfl rfl)) ?_
  refine lw_v (.agg #[.int .u64 (wv3 (pkz (rOk x y ∧ fits (x / y)) (x / y))), .int .u64 (wv2 (pkz (rOk x y ∧ fits (x / y)) (x / y))), .int .u64 (wv1 (pkz (rOk x y ∧ fits (x / y)) (x / y))), .int .u64 (wv0 (pkz (rOk x y ∧ fits (x / y)) (x / y)))]) (dv_extract (vs := #[.agg #[.int .u64 (wv3 (pkz (rOk x y ∧ fits (x / y)) (x / y))), .int .u64 (wv2 (pkz (rOk x y ∧ fits (x / y)) (x / y))), .int .u64 (wv1 (pkz (rOk x y ∧ fits (x / y)) (x / y))), .int .u64 (wv0 (pkz (rOk x y ∧ fits (x / y)) (x / y)))], .bool (decide (rOk x y ∧ fits (x / y)))]) (T rfl rfl) rfl) ?_
  refine lw_v (.bool (decide (rOk x y ∧ fits (x / y)))) (dv_extract (vs := #[.agg #[.int .u64 (wv3 (pkz (rOk x y ∧ fits (x / y)) (x / y))), .int .u64 (wv2 (pkz (rOk x y ∧ fits (x / y)) (x / y))), .int .u64 (wv1 (pkz (rOk x y ∧ fits (x / y)) (x / y))), .int .u64 (wv0 (pkz (rOk x y ∧ fits (x / y)) (x / y)))], .bool (decide (rOk x y ∧ fits (x / y)))]) (T rfl rfl) rfl) ?_
  refine lw_e (oe_alloc ze26 ?_)
  intro b12 w13 n14
  have N15 : w.heap.size ≤ b12 := n14.eq ▸ E11.size
  have H16 := (e10.blk (e7.blk n3.blk))
  have : b1 < b12 := n14.eq ▸ lt_of_blk H16
  have E17 := below_ext E11 E11.size n14.ext
  refine lw_e (oe_store (v := .agg #[.int .u64 (wv3 (pkz (rOk x y ∧ fits (x / y)) (x / y))), .int .u64 (wv2 (pkz (rOk x y ∧ fits (x / y)) (x / y))), .int .u64 (wv1 (pkz (rOk x y ∧ fits (x / y)) (x / y))), .int .u64 (wv0 (pkz (rOk x y ∧ fits (x / y)) (x / y)))]) (vs := [.int .u64 (wv3 (pkz (rOk x y ∧ fits (x / y)) (x / y))), .int .u64 (wv2 (pkz (rOk x y ∧ fits (x / y)) (x / y))), .int .u64 (wv1 (pkz (rOk x y ∧ fits (x / y)) (x / y))), .int .u64 (wv0 (pkz (rOk x y ∧ fits (x / y)) (x / y)))]) (l := [.int .u64 (wv3 (pkz (rOk x y ∧ fits (x / y)) (x / y))), .int .u64 (wv2 (pkz (rOk x y ∧ fits (x / y)) (x / y))), .int .u64 (wv1 (pkz (rOk x y ∧ fits (x / y)) (x / y))), .int .u64 (wv0 (pkz (rOk x y ∧ fits (x / y)) (x / y)))]) (T rfl rfl) (T rfl rfl) sz26 rfl rfl rfl n14.blk rfl ?_)
  intro w18 s19 H20
  have E21 := below_st E17 N15 s19
  refine lw_v (.bool (decide (rOk x y ∧ fits (x / y)))) (dv_assign (T rfl rfl)) ?_
  refine lw_nil ?_
  refine rk_seq ?_
  refine rk_reg ?_
  have H22 := (s19.blk (n14.ext.blk H16) (by omega))
  refine lw_v (.agg #[.int .u64 (wv3 x), .int .u64 (wv2 x), .int .u64 (wv1 x), .int .u64 (wv0 x), .int .u64 (wv3 y), .int .u64 (wv2 y), .int .u64 (wv1 y), .int .u64 (wv0 y)]) (dv_loads (l := [.int .u64 (wv3 x), .int .u64 (wv2 x), .int .u64 (wv1 x), .int .u64 (wv0 x), .int .u64 (wv3 y), .int .u64 (wv2 y), .int .u64 (wv1 y), .int .u64 (wv0 y)]) agt48 sz48 (T rfl rfl) H22 rfl) ?_
  refine lw_e (oe_callf (vs := [.agg #[.int .u64 (wv3 x), .int .u64 (wv2 x), .int .u64 (wv1 x), .int .u64 (wv0 x), .int .u64 (wv3 y), .int .u64 (wv2 y), .int .u64 (wv1 y), .int .u64 (wv0 y)]]) co43 (ar1 (T rfl rfl)) (toRatio_ok (x := x) (y := y)  ) ?_)
  rintro _ w23 ⟨rfl, e24⟩
  have E25 := below_ext E21 E21.size e24
  refine lw_e (oe_callf (vs := [.agg #[.int .u64 (wv3 x), .int .u64 (wv2 x), .int .u64 (wv1 x), .int .u64 (wv0 x), .int .u64 (wv3 y), .int .u64 (wv2 y), .int .u64 (wv1 y), .int .u64 (wv0 y)]]) co48 (ar1 (T rfl rfl)) (iRatioFloor_ok (x := x) (y := y) fx_ fy_ ) ?_)
  rintro _ w26 ⟨rfl, e27⟩
  have E28 := below_ext E25 E25.size e27
  refine lw_v (.tuple #[.agg #[.int .u64 (wv3 (pkz (rOk x y ∧ fits (x / y)) (x / y))), .int .u64 (wv2 (pkz (rOk x y ∧ fits (x / y)) (x / y))), .int .u64 (wv1 (pkz (rOk x y ∧ fits (x / y)) (x / y))), .int .u64 (wv0 (pkz (rOk x y ∧ fits (x / y)) (x / y)))], .bool (decide (rOk x y ∧ fits (x / y)))]) (dv_move (T rfl rfl)) ?_
  refine lw_v (.agg #[.int .u64 (wv3 (pkz (rOk x y ∧ fits (x / y)) (x / y))), .int .u64 (wv2 (pkz (rOk x y ∧ fits (x / y)) (x / y))), .int .u64 (wv1 (pkz (rOk x y ∧ fits (x / y)) (x / y))), .int .u64 (wv0 (pkz (rOk x y ∧ fits (x / y)) (x / y)))]) (dv_extract (vs := #[.agg #[.int .u64 (wv3 (pkz (rOk x y ∧ fits (x / y)) (x / y))), .int .u64 (wv2 (pkz (rOk x y ∧ fits (x / y)) (x / y))), .int .u64 (wv1 (pkz (rOk x y ∧ fits (x / y)) (x / y))), .int .u64 (wv0 (pkz (rOk x y ∧ fits (x / y)) (x / y)))], .bool (decide (rOk x y ∧ fits (x / y)))]) (T rfl rfl) rfl) ?_
  refine lw_v (.bool (decide (rOk x y ∧ fits (x / y)))) (dv_extract (vs := #[.agg #[.int .u64 (wv3 (pkz (rOk x y ∧ fits (x / y)) (x / y))), .int .u64 (wv2 (pkz (rOk x y ∧ fits (x / y)) (x / y))), .int .u64 (wv1 (pkz (rOk x y ∧ fits (x / y)) (x / y))), .int .u64 (wv0 (pkz (rOk x y ∧ fits (x / y)) (x / y)))], .bool (decide (rOk x y ∧ fits (x / y)))]) (T rfl rfl) rfl) ?_
  refine lw_e (oe_alloc ze26 ?_)
  intro b29 w30 n31
  have N32 : w.heap.size ≤ b29 := n31.eq ▸ E28.size
  have H33 := (e27.blk (e24.blk H20))
  have : b12 < b29 := n31.eq ▸ lt_of_blk H33
  have E34 := below_ext E28 E28.size n31.ext
  refine lw_e (oe_store (v := .agg #[.int .u64 (wv3 (pkz (rOk x y ∧ fits (x / y)) (x / y))), .int .u64 (wv2 (pkz (rOk x y ∧ fits (x / y)) (x / y))), .int .u64 (wv1 (pkz (rOk x y ∧ fits (x / y)) (x / y))), .int .u64 (wv0 (pkz (rOk x y ∧ fits (x / y)) (x / y)))]) (vs := [.int .u64 (wv3 (pkz (rOk x y ∧ fits (x / y)) (x / y))), .int .u64 (wv2 (pkz (rOk x y ∧ fits (x / y)) (x / y))), .int .u64 (wv1 (pkz (rOk x y ∧ fits (x / y)) (x / y))), .int .u64 (wv0 (pkz (rOk x y ∧ fits (x / y)) (x / y)))]) (l := [.int .u64 (wv3 (pkz (rOk x y ∧ fits (x / y)) (x / y))), .int .u64 (wv2 (pkz (rOk x y ∧ fits (x / y)) (x / y))), .int .u64 (wv1 (pkz (rOk x y ∧ fits (x / y)) (x / y))), .int .u64 (wv0 (pkz (rOk x y ∧ fits (x / y)) (x / y)))]) (T rfl rfl) (T rfl rfl) sz26 rfl rfl rfl n31.blk rfl ?_)
  intro w35 s36 H37
  have E38 := below_st E34 N32 s36
  refine lw_v (.bool (decide (rOk x y ∧ fits (x / y)))) (dv_assign (T rfl rfl)) ?_
  refine lw_nil ?_
  refine rk_seq ?_
  refine rk_seq ?_
  refine rk_reg ?_
  refine lw_v (.agg #[.int .u64 (wv3 (pkz (rOk x y ∧ fits (x / y)) (x / y))), .int .u64 (wv2 (pkz (rOk x y ∧ fits (x / y)) (x / y))), .int .u64 (wv1 (pkz (rOk x y ∧ fits (x / y)) (x / y))), .int .u64 (wv0 (pkz (rOk x y ∧ fits (x / y)) (x / y)))]) (dv_loads (l := [.int .u64 (wv3 (pkz (rOk x y ∧ fits (x / y)) (x / y))), .int .u64 (wv2 (pkz (rOk x y ∧ fits (x / y)) (x / y))), .int .u64 (wv1 (pkz (rOk x y ∧ fits (x / y)) (x / y))), .int .u64 (wv0 (pkz (rOk x y ∧ fits (x / y)) (x / y)))]) agt26 sz26 (T rfl rfl) H37 rfl) ?_
  have H39 := (s36.blk (n31.ext.blk H33) (by omega))
  refine lw_v (.agg #[.int .u64 (wv3 (pkz (rOk x y ∧ fits (x / y)) (x / y))), .int .u64 (wv2 (pkz (rOk x y ∧ fits (x / y)) (x / y))), .int .u64 (wv1 (pkz (rOk x y ∧ fits (x / y)) (x / y))), .int .u64 (wv0 (pkz (rOk x y ∧ fits (x / y)) (x / y)))]) (dv_loads (l := [.int .u64 (wv3 (pkz (rOk x y ∧ fits (x / y)) (x / y))), .int .u64 (wv2 (pkz (rOk x y ∧ fits (x / y)) (x / y))), .int .u64 (wv1 (pkz (rOk x y ∧ fits (x / y)) (x / y))), .int .u64 (wv0 (pkz (rOk x y ∧ fits (x / y)) (x / y)))]) agt26 sz26 (T rfl rfl) H39 rfl) ?_
  refine lw_e (oe_callf (vs := [.agg #[.int .u64 (wv3 (pkz (rOk x y ∧ fits (x / y)) (x / y))), .int .u64 (wv2 (pkz (rOk x y ∧ fits (x / y)) (x / y))), .int .u64 (wv1 (pkz (rOk x y ∧ fits (x / y)) (x / y))), .int .u64 (wv0 (pkz (rOk x y ∧ fits (x / y)) (x / y)))], .agg #[.int .u64 (wv3 (pkz (rOk x y ∧ fits (x / y)) (x / y))), .int .u64 (wv2 (pkz (rOk x y ∧ fits (x / y)) (x / y))), .int .u64 (wv1 (pkz (rOk x y ∧ fits (x / y)) (x / y))), .int .u64 (wv0 (pkz (rOk x y ∧ fits (x / y)) (x / y)))]]) co20 (ar2 (T rfl rfl) (T rfl rfl)) (eqWide_ok (x := pkz (rOk x y ∧ fits (x / y)) (x / y)) (y := pkz (rOk x y ∧ fits (x / y)) (x / y)) (fits_pkz fun h => h.2) (fits_pkz fun h => h.2) ) ?_)
  rintro _ w40 ⟨rfl, e41⟩
  have E42 := below_ext E38 E38.size e41
  refine lw_v (.bool (decide (¬ ((pkz (rOk x y ∧ fits (x / y)) (x / y)) = (pkz (rOk x y ∧ fits (x / y)) (x / y)))))) (dv_notd (p := (pkz (rOk x y ∧ fits (x / y)) (x / y)) = (pkz (rOk x y ∧ fits (x / y)) (x / y))) (T rfl rfl)) ?_
  refine lw_v (.bool (decide (¬ ((pkz (rOk x y ∧ fits (x / y)) (x / y)) = (pkz (rOk x y ∧ fits (x / y)) (x / y)))))) (dv_move (T rfl rfl)) ?_
  by_cases hb43 : (pkz (rOk x y ∧ fits (x / y)) (x / y)) = (pkz (rOk x y ∧ fits (x / y)) (x / y))
  · -- T
    refine lw_vy (.bool (decide (rOk x y ∧ fits (x / y)))) (d := 23) rfl rfl (congrArg Value.bool (decide_eq_false (not_not_intro hb43))) (dv_move (T rfl rfl)) ?_
    refine lw_vy (.bool (decide (rOk x y ∧ fits (x / y)))) (d := 23) rfl rfl (congrArg Value.bool (decide_eq_false (not_not_intro hb43))) (dv_move (T rfl rfl)) ?_
    refine lw_vy (.bool ((decide (rOk x y ∧ fits (x / y))) != (decide (rOk x y ∧ fits (x / y))))) (d := 23) rfl rfl (congrArg Value.bool (decide_eq_false (not_not_intro hb43))) (dv_neqb (a := decide (rOk x y ∧ fits (x / y))) (b := decide (rOk x y ∧ fits (x / y))) ub4 (T rfl rfl) (T rfl rfl)) ?_
    refine lw_v (.bool ((decide (rOk x y ∧ fits (x / y))) != (decide (rOk x y ∧ fits (x / y))))) (dv_pick_f (T rfl (congrArg Value.bool (decide_eq_false (not_not_intro hb43)))) (T rfl rfl)) ?_
    refine lw_nil ?_
    rcases Bool.eq_false_or_eq_true ((decide (rOk x y ∧ fits (x / y))) != (decide (rOk x y ∧ fits (x / y)))) with hb44 | hb44
    · -- TT
      refine rk_ct (T rfl (congrArg Value.bool hb44)) ?_
      refine rk_seq ?_
      refine rk_reg ?_
      refine lw_v (.bool false) (dv_assign C) ?_
      refine lw_nil ?_
      refine rk_ret Try.func14 (v := .bool false) (res1 Try.results14 (rv_tmp rfl rfl)) ⟨_, rfl, ?_⟩
      exact ⟨(by exfalso; grind), E42⟩
    · -- TF
      refine rk_cf (T rfl (congrArg Value.bool hb44)) ?_
      refine rk_skip ?_
      refine rk_seq ?_
      refine rk_reg ?_
      refine lw_v (.bool true) (dv_assign C) ?_
      refine lw_nil ?_
      refine rk_ret Try.func14 (v := .bool true) (res1 Try.results14 (rv_tmp rfl rfl)) ⟨_, rfl, ?_⟩
      exact ⟨rfl, E42⟩
  · -- F
    refine lw_no (d := 23) rfl rfl (congrArg Value.bool (decide_eq_true hb43)) ?_
    refine lw_no (d := 23) rfl rfl (congrArg Value.bool (decide_eq_true hb43)) ?_
    refine lw_no (d := 23) rfl rfl (congrArg Value.bool (decide_eq_true hb43)) ?_
    refine lw_v (.bool true) (dv_pick_t (T rfl (congrArg Value.bool (decide_eq_true hb43))) C) ?_
    refine lw_nil ?_
    refine rk_ct (T rfl rfl) ?_
    refine rk_seq ?_
    refine rk_reg ?_
    refine lw_v (.bool false) (dv_assign C) ?_
    refine lw_nil ?_
    refine rk_ret Try.func14 (v := .bool false) (res1 Try.results14 (rv_tmp rfl rfl)) ⟨_, rfl, ?_⟩
    exact ⟨(by exfalso; grind), E42⟩

theorem lawRatioFloor_w {w : World} {x3 x2 x1 x0 y3 y2 y1 y0 : Int} (hx3 : 0 ≤ x3 ∧ x3 < 18446744073709551616) (hx2 : 0 ≤ x2 ∧ x2 < 18446744073709551616) (hx1 : 0 ≤ x1 ∧ x1 < 18446744073709551616) (hx0 : 0 ≤ x0 ∧ x0 < 18446744073709551616) (hy3 : 0 ≤ y3 ∧ y3 < 18446744073709551616) (hy2 : 0 ≤ y2 ∧ y2 < 18446744073709551616) (hy1 : 0 ≤ y1 ∧ y1 < 18446744073709551616) (hy0 : 0 ≤ y0 ∧ y0 < 18446744073709551616) : Ct Try.prog 14 [.agg #[.int .u64 x3, .int .u64 x2, .int .u64 x1, .int .u64 x0, .int .u64 y3, .int .u64 y2, .int .u64 y1, .int .u64 y0]] w fun v w1 => v = .bool true ∧ Ext w w1 := by
  obtain ⟨x, fx, rfl, rfl, rfl, rfl⟩ := words_z hx3 hx2 hx1 hx0
  obtain ⟨y, fy, rfl, rfl, rfl, rfl⟩ := words_z hy3 hy2 hy1 hy0
  exact lawRatioFloor_ok fx fy
end Go.Proofs.Ytcnepihgbnfcpaa.W
