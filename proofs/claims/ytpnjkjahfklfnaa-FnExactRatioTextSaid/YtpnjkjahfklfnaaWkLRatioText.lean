/- WkLRatioText: walks, written by a program of this session. -/
import Derived.Test.YtpnjkjahfklfnaaWk28
set_option linter.unusedVariables false
set_option linter.unusedSimpArgs false
namespace Go.Proofs.Ytpnjkjahfklfnaa.W
open Go Go.RowKit Go.Proofs.Ytpnjkjahfklfnaa.Fw
attribute [local irreducible] RunK LW AW DV OE Ct
theorem agt34 : aggB Try.prog 34 = some true := by kernel_rfl
theorem co20 : callOk Try.prog 20 = true := by kernel_rfl
theorem co26 : callOk Try.prog 26 = true := by kernel_rfl
theorem co27 : callOk Try.prog 27 = true := by kernel_rfl
theorem sz34 : sizeB Try.prog 34 = some 8 := by kernel_rfl
set_option maxHeartbeats 1000000 in
theorem lawRatioText_ok {w : World} {x y : Int} (fx_ : fits x) (fy_ : fits y)  : Ct Try.prog 7 [.agg #[.int .u64 (wv3 x), .int .u64 (wv2 x), .int .u64 (wv1 x), .int .u64 (wv0 x), .int .u64 (wv3 y), .int .u64 (wv2 y), .int .u64 (wv1 y), .int .u64 (wv0 y)]] w fun v w1 => v = .bool true ∧ Ext w w1 := by
  refine ct_run (n := 14) Try.func7 rfl Try.ntmps7 rfl ?_
  have E0 : Below w.heap.size w w := Below.refl _ _
  refine rk_seq ?_
  refine rk_reg ?_
  refine lw_e (oe_box (v := .agg #[.int .u64 (wv3 x), .int .u64 (wv2 x), .int .u64 (wv1 x), .int .u64 (wv0 x), .int .u64 (wv3 y), .int .u64 (wv2 y), .int .u64 (wv1 y), .int .u64 (wv0 y)]) (cs := #[.int .u64 (wv3 x), .int .u64 (wv2 x), .int .u64 (wv1 x), .int .u64 (wv0 x), .int .u64 (wv3 y), .int .u64 (wv2 y), .int .u64 (wv1 y), .int .u64 (wv0 y)]) (T rfl rfl) rfl ?_)
  intro b1 w2 n3
  have N4 : w.heap.size ≤ b1 := n3.eq ▸ E0.size
  have E5 := below_ext E0 E0.size n3.ext
  refine lw_v (.bool false) (dv_assign C) ?_
  refine lw_nil ?_
  refine rk_seq ?_
  refine rk_reg ?_
  refine lw_v (.agg #[.int .u64 (wv3 x), .int .u64 (wv2 x), .int .u64 (wv1 x), .int .u64 (wv0 x), .int .u64 (wv3 y), .int .u64 (wv2 y), .int .u64 (wv1 y), .int .u64 (wv0 y)]) (dv_loads (l := [.int .u64 (wv3 x), .int .u64 (wv2 x), .int .u64 (wv1 x), .int .u64 (wv0 x), .int .u64 (wv3 y), .int .u64 (wv2 y), .int .u64 (wv1 y), .int .u64 (wv0 y)]) agt34 sz34 (T rfl rfl) n3.blk rfl) ?_
  refine lw_e (oe_callf (vs := [.agg #[.int .u64 (wv3 x), .int .u64 (wv2 x), .int .u64 (wv1 x), .int .u64 (wv0 x), .int .u64 (wv3 y), .int .u64 (wv2 y), .int .u64 (wv1 y), .int .u64 (wv0 y)]]) co20 (ar1 (T rfl rfl)) (toRatio_ok (x := x) (y := y)  ) ?_)
  rintro _ w6 ⟨rfl, e7⟩
  have E8 := below_ext E5 E5.size e7
  refine lw_e (oe_callf (vs := [.agg #[.int .u64 (wv3 x), .int .u64 (wv2 x), .int .u64 (wv1 x), .int .u64 (wv0 x), .int .u64 (wv3 y), .int .u64 (wv2 y), .int .u64 (wv1 y), .int .u64 (wv0 y)]]) co26 (ar1 (T rfl rfl)) (sRatioText_ok (x := x) (y := y) fx_ fy_ ) ?_)
  rintro _ w9 ⟨rfl, e10⟩
  have E11 := below_ext E8 E8.size e10
  refine lw_v (.string (bOf (rTxt x y))) (dv_assign (T rfl rfl)) ?_
  refine lw_nil ?_
  refine rk_seq ?_
  refine rk_reg ?_
  have H12 := (e10.blk (e7.blk n3.blk))
  refine lw_v (.agg #[.int .u64 (wv3 x), .int .u64 (wv2 x), .int .u64 (wv1 x), .int .u64 (wv0 x), .int .u64 (wv3 y), .int .u64 (wv2 y), .int .u64 (wv1 y), .int .u64 (wv0 y)]) (dv_loads (l := [.int .u64 (wv3 x), .int .u64 (wv2 x), .int .u64 (wv1 x), .int .u64 (wv0 x), .int .u64 (wv3 y), .int .u64 (wv2 y), .int .u64 (wv1 y), .int .u64 (wv0 y)]) agt34 sz34 (T rfl rfl) H12 rfl) ?_
  refine lw_e (oe_callf (vs := [.agg #[.int .u64 (wv3 x), .int .u64 (wv2 x), .int .u64 (wv1 x), .int .u64 (wv0 x), .int .u64 (wv3 y), .int .u64 (wv2 y), .int .u64 (wv1 y), .int .u64 (wv0 y)]]) co20 (ar1 (T rfl rfl)) (toRatio_ok (x := x) (y := y)  ) ?_)
  rintro _ w13 ⟨rfl, e14⟩
  have E15 := below_ext E11 E11.size e14
  refine lw_e (oe_callf (vs := [.agg #[.int .u64 (wv3 x), .int .u64 (wv2 x), .int .u64 (wv1 x), .int .u64 (wv0 x), .int .u64 (wv3 y), .int .u64 (wv2 y), .int .u64 (wv1 y), .int .u64 (wv0 y)]]) co27 (ar1 (T rfl rfl)) (iRatioText_ok (x := x) (y := y) fx_ fy_ ) ?_)
  rintro _ w16 ⟨rfl, e17⟩
  have E18 := below_ext E15 E15.size e17
  refine lw_v (.string (bOf (rTxt x y))) (dv_assign (T rfl rfl)) ?_
  refine lw_nil ?_
  refine rk_seq ?_
  refine rk_seq ?_
  refine rk_reg ?_
  refine lw_v (.string (bOf (rTxt x y))) (dv_move (T rfl rfl)) ?_
  refine lw_v (.string (bOf (rTxt x y))) (dv_move (T rfl rfl)) ?_
  refine lw_v (.bool (decide ((((rTxt x y)) : List Int) ≠ ((rTxt x y))))) (dv_neS (L := (rTxt x y)) (M := (rTxt x y)) (T rfl rfl) (T rfl rfl) (okC_rTxt _ _) (okC_rTxt _ _)) ?_
  refine lw_nil ?_
  by_cases hb19 : (((rTxt x y)) : List Int) ≠ ((rTxt x y))
  · -- T
    refine rk_ct (T rfl (congrArg Value.bool (decide_eq_true hb19))) ?_
    refine rk_seq ?_
    refine rk_reg ?_
    refine lw_v (.bool false) (dv_assign C) ?_
    refine lw_nil ?_
    refine rk_ret Try.func7 (v := .bool false) (res1 Try.results7 (rv_tmp rfl rfl)) ⟨_, rfl, ?_⟩
    exact ⟨(by exfalso; grind), E18⟩
  · -- F
    refine rk_cf (T rfl (congrArg Value.bool (decide_eq_false hb19))) ?_
    refine rk_skip ?_
    refine rk_seq ?_
    refine rk_reg ?_
    refine lw_v (.bool true) (dv_assign C) ?_
    refine lw_nil ?_
    refine rk_ret Try.func7 (v := .bool true) (res1 Try.results7 (rv_tmp rfl rfl)) ⟨_, rfl, ?_⟩
    exact ⟨rfl, E18⟩

theorem lawRatioText_w {w : World} {x3 x2 x1 x0 y3 y2 y1 y0 : Int} (hx3 : 0 ≤ x3 ∧ x3 < 18446744073709551616) (hx2 : 0 ≤ x2 ∧ x2 < 18446744073709551616) (hx1 : 0 ≤ x1 ∧ x1 < 18446744073709551616) (hx0 : 0 ≤ x0 ∧ x0 < 18446744073709551616) (hy3 : 0 ≤ y3 ∧ y3 < 18446744073709551616) (hy2 : 0 ≤ y2 ∧ y2 < 18446744073709551616) (hy1 : 0 ≤ y1 ∧ y1 < 18446744073709551616) (hy0 : 0 ≤ y0 ∧ y0 < 18446744073709551616) : Ct Try.prog 7 [.agg #[.int .u64 x3, .int .u64 x2, .int .u64 x1, .int .u64 x0, .int .u64 y3, .int .u64 y2, .int .u64 y1, .int .u64 y0]] w fun v w1 => v = .bool true ∧ Ext w w1 := by
  obtain ⟨x, fx, rfl, rfl, rfl, rfl⟩ := words_z hx3 hx2 hx1 hx0
  obtain ⟨y, fy, rfl, rfl, rfl, rfl⟩ := words_z hy3 hy2 hy1 hy0
  exact lawRatioText_ok fx fy
end Go.Proofs.Ytpnjkjahfklfnaa.W
