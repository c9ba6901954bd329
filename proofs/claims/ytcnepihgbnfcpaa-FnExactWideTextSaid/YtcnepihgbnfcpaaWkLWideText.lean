/- WkLWideText: walks, written by a program of this session. -/
import Derived.Test.YtcnepihgbnfcpaaWk36
set_option linter.unusedVariables false
set_option linter.unusedSimpArgs false
namespace Go.Proofs.Ytcnepihgbnfcpaa.W
open Go Go.RowKit Go.Proofs.Ytcnepihgbnfcpaa.Fw
attribute [local irreducible] RunK LW AW DV OE Ct
theorem agt24 : aggB Try.prog 24 = some true := by kernel_rfl
theorem co15 : callOk Try.prog 15 = true := by kernel_rfl
theorem co16 : callOk Try.prog 16 = true := by kernel_rfl
theorem co17 : callOk Try.prog 17 = true := by kernel_rfl
theorem co49 : callOk Try.prog 49 = true := by kernel_rfl
theorem co52 : callOk Try.prog 52 = true := by kernel_rfl
theorem sz24 : sizeB Try.prog 24 = some 4 := by kernel_rfl
set_option maxHeartbeats 1000000 in
theorem iWideText_ok {w : World} {x : Int} (fx_ : fits x)  : Ct Try.prog 17 [.agg #[.int .u64 (wv3 x), .int .u64 (wv2 x), .int .u64 (wv1 x), .int .u64 (wv0 x)]] w fun v w1 => v = .string (bOf (txtL x)) ∧ Ext w w1 := by
  refine ct_run (n := 6) Try.func17 rfl Try.ntmps17 rfl ?_
  have E0 : Below w.heap.size w w := Below.refl _ _
  refine rk_seq ?_
  refine rk_reg ?_
  refine lw_e (oe_box (v := .agg #[.int .u64 (wv3 x), .int .u64 (wv2 x), .int .u64 (wv1 x), .int .u64 (wv0 x)]) (cs := #[.int .u64 (wv3 x), .int .u64 (wv2 x), .int .u64 (wv1 x), .int .u64 (wv0 x)]) (T rfl rfl) rfl ?_)
  intro b1 w2 n3
  have N4 : w.heap.size ≤ b1 := n3.eq ▸ E0.size
  have E5 := below_ext E0 E0.size n3.ext
  refine lw_v (.string (bOf [])) (dv_assign C) ?_
  refine lw_nil ?_
  refine rk_seq ?_
  refine rk_reg ?_
  refine lw_v (.agg #[.int .u64 (wv3 x), .int .u64 (wv2 x), .int .u64 (wv1 x), .int .u64 (wv0 x)]) (dv_loads (l := [.int .u64 (wv3 x), .int .u64 (wv2 x), .int .u64 (wv1 x), .int .u64 (wv0 x)]) agt26 sz26 (T rfl rfl) n3.blk rfl) ?_
  refine lw_e (oe_callf (vs := [.agg #[.int .u64 (wv3 x), .int .u64 (wv2 x), .int .u64 (wv1 x), .int .u64 (wv0 x)]]) co51 (ar1 (T rfl rfl)) (wnumz_ok (z := x) fx_) ?_)
  rintro _ w11 ⟨nr6, A7, n8, c9, rfl, e12, h10⟩
  have E13 := below_ext E5 E5.size e12
  have lh10 := Num.len (by decide) h10
  refine lw_e (oe_callf (vs := [.agg #[.bool nr6, .slice A7 n8 c9]]) co52 (ar1 (T rfl rfl)) (ntext_ok h10 (by first | decide | omega)) ?_)
  rintro _ w15 ⟨rfl, e16⟩
  have E17 := below_ext E13 E13.size e16
  have ht14 := txt_len (h10).lt
  refine lw_v (.string (bOf (txtL x))) (dv_assign (T rfl rfl)) ?_
  refine lw_nil ?_
  refine rk_ret Try.func17 (v := .string (bOf (txtL x))) (res1 Try.results17 (rv_tmp rfl rfl)) ⟨_, rfl, ?_⟩
  exact ⟨rfl, E17⟩

set_option maxHeartbeats 1000000 in
theorem sWideText_ok {w : World} {x : Int} (fx_ : fits x)  : Ct Try.prog 15 [.agg #[.int .u64 (wv3 x), .int .u64 (wv2 x), .int .u64 (wv1 x), .int .u64 (wv0 x)]] w fun v w1 => v = .string (bOf (txtL x)) ∧ Ext w w1 := by
  refine ct_run (n := 6) Try.func15 rfl Try.ntmps15 rfl ?_
  have E0 : Below w.heap.size w w := Below.refl _ _
  refine rk_seq ?_
  refine rk_reg ?_
  refine lw_e (oe_box (v := .agg #[.int .u64 (wv3 x), .int .u64 (wv2 x), .int .u64 (wv1 x), .int .u64 (wv0 x)]) (cs := #[.int .u64 (wv3 x), .int .u64 (wv2 x), .int .u64 (wv1 x), .int .u64 (wv0 x)]) (T rfl rfl) rfl ?_)
  intro b1 w2 n3
  have N4 : w.heap.size ≤ b1 := n3.eq ▸ E0.size
  have E5 := below_ext E0 E0.size n3.ext
  refine lw_v (.string (bOf [])) (dv_assign C) ?_
  refine lw_nil ?_
  refine rk_seq ?_
  refine rk_reg ?_
  refine lw_v (.agg #[.int .u64 (wv3 x), .int .u64 (wv2 x), .int .u64 (wv1 x), .int .u64 (wv0 x)]) (dv_loads (l := [.int .u64 (wv3 x), .int .u64 (wv2 x), .int .u64 (wv1 x), .int .u64 (wv0 x)]) agt26 sz26 (T rfl rfl) n3.blk rfl) ?_
  refine lw_e (oe_callf (vs := [.agg #[.int .u64 (wv3 x), .int .u64 (wv2 x), .int .u64 (wv1 x), .int .u64 (wv0 x)]]) co50 (ar1 (T rfl rfl)) (l1Fromz_ok (z := x) fx_) ?_)
  rintro _ w11 ⟨nr6, A7, n8, c9, rfl, e12, h10⟩
  have E13 := below_ext E5 E5.size e12
  have lh10 := Num.len (by decide) h10
  refine lw_e (oe_callf (vs := [.agg #[.bool nr6, .slice A7 n8 c9]]) co49 (ar1 (T rfl rfl)) (l1Text_ok h10 (by first | decide | omega)) ?_)
  rintro _ w15 ⟨rfl, e16⟩
  have E17 := below_ext E13 E13.size e16
  have ht14 := txt_len (h10).lt
  refine lw_v (.string (bOf (txtL x))) (dv_assign (T rfl rfl)) ?_
  refine lw_nil ?_
  refine rk_ret Try.func15 (v := .string (bOf (txtL x))) (res1 Try.results15 (rv_tmp rfl rfl)) ⟨_, rfl, ?_⟩
  exact ⟨rfl, E17⟩

set_option maxHeartbeats 1000000 in
theorem lawWideText_ok {w : World} {x : Int} (fx_ : fits x)  : Ct Try.prog 3 [.agg #[.int .u64 (wv3 x), .int .u64 (wv2 x), .int .u64 (wv1 x), .int .u64 (wv0 x)]] w fun v w1 => v = .bool true ∧ Ext w w1 := by
  refine ct_run (n := 14) Try.func3 rfl Try.ntmps3 rfl ?_
  have E0 : Below w.heap.size w w := Below.refl _ _
  refine rk_seq ?_
  refine rk_reg ?_
  refine lw_e (oe_box (v := .agg #[.int .u64 (wv3 x), .int .u64 (wv2 x), .int .u64 (wv1 x), .int .u64 (wv0 x)]) (cs := #[.int .u64 (wv3 x), .int .u64 (wv2 x), .int .u64 (wv1 x), .int .u64 (wv0 x)]) (T rfl rfl) rfl ?_)
  intro b1 w2 n3
  have N4 : w.heap.size ≤ b1 := n3.eq ▸ E0.size
  have E5 := below_ext E0 E0.size n3.ext
  refine lw_v (.bool false) (dv_assign C) ?_
  refine lw_nil ?_
  refine rk_seq ?_
  refine rk_reg ?_
  refine lw_v (.agg #[.int .u64 (wv3 x), .int .u64 (wv2 x), .int .u64 (wv1 x), .int .u64 (wv0 x)]) (dv_loads (l := [.int .u64 (wv3 x), .int .u64 (wv2 x), .int .u64 (wv1 x), .int .u64 (wv0 x)]) agt24 sz24 (T rfl rfl) n3.blk rfl) ?_
  refine lw_e (oe_callf (vs := [.agg #[.int .u64 (wv3 x), .int .u64 (wv2 x), .int .u64 (wv1 x), .int .u64 (wv0 x)]]) co16 (ar1 (T rfl rfl)) (toWide_ok (z := x)  ) ?_)
  rintro _ w6 ⟨rfl, e7⟩
  have E8 := below_ext E5 E5.size e7
  refine lw_e (oe_callf (vs := [.agg #[.int .u64 (wv3 x), .int .u64 (wv2 x), .int .u64 (wv1 x), .int .u64 (wv0 x)]]) co15 (ar1 (T rfl rfl)) (sWideText_ok (x := x) fx_ ) ?_)
  rintro _ w9 ⟨rfl, e10⟩
  have E11 := below_ext E8 E8.size e10
  refine lw_v (.string (bOf (txtL x))) (dv_assign (T rfl rfl)) ?_
  refine lw_nil ?_
  refine rk_seq ?_
  refine rk_reg ?_
  have H12 := (e10.blk (e7.blk n3.blk))
  refine lw_v (.agg #[.int .u64 (wv3 x), .int .u64 (wv2 x), .int .u64 (wv1 x), .int .u64 (wv0 x)]) (dv_loads (l := [.int .u64 (wv3 x), .int .u64 (wv2 x), .int .u64 (wv1 x), .int .u64 (wv0 x)]) agt24 sz24 (T rfl rfl) H12 rfl) ?_
  refine lw_e (oe_callf (vs := [.agg #[.int .u64 (wv3 x), .int .u64 (wv2 x), .int .u64 (wv1 x), .int .u64 (wv0 x)]]) co16 (ar1 (T rfl rfl)) (toWide_ok (z := x)  ) ?_)
  rintro _ w13 ⟨rfl, e14⟩
  have E15 := below_ext E11 E11.size e14
  refine lw_e (oe_callf (vs := [.agg #[.int .u64 (wv3 x), .int .u64 (wv2 x), .int .u64 (wv1 x), .int .u64 (wv0 x)]]) co17 (ar1 (T rfl rfl)) (iWideText_ok (x := x) fx_ ) ?_)
  rintro _ w16 ⟨rfl, e17⟩
  have E18 := below_ext E15 E15.size e17
  refine lw_v (.string (bOf (txtL x))) (dv_assign (T rfl rfl)) ?_
  refine lw_nil ?_
  refine rk_seq ?_
  refine rk_seq ?_
  refine rk_reg ?_
  refine lw_v (.string (bOf (txtL x))) (dv_move (T rfl rfl)) ?_
  refine lw_v (.string (bOf (txtL x))) (dv_move (T rfl rfl)) ?_
  refine lw_v (.bool (decide ((((txtL x)) : List Int) ≠ ((txtL x))))) (dv_neS (L := (txtL x)) (M := (txtL x)) (T rfl rfl) (T rfl rfl) (okC_txt _) (okC_txt _)) ?_
  refine lw_nil ?_
  by_cases hb19 : (((txtL x)) : List Int) ≠ ((txtL x))
  · -- T
    refine rk_ct (T rfl (congrArg Value.bool (decide_eq_true hb19))) ?_
    refine rk_seq ?_
    refine rk_reg ?_
    refine lw_v (.bool false) (dv_assign C) ?_
    refine lw_nil ?_
    refine rk_ret Try.func3 (v := .bool false) (res1 Try.results3 (rv_tmp rfl rfl)) ⟨_, rfl, ?_⟩
    exact ⟨(by exfalso; grind), E18⟩
  · -- F
    refine rk_cf (T rfl (congrArg Value.bool (decide_eq_false hb19))) ?_
    refine rk_skip ?_
    refine rk_seq ?_
    refine rk_reg ?_
    refine lw_v (.bool true) (dv_assign C) ?_
    refine lw_nil ?_
    refine rk_ret Try.func3 (v := .bool true) (res1 Try.results3 (rv_tmp rfl rfl)) ⟨_, rfl, ?_⟩
    exact ⟨rfl, E18⟩

theorem lawWideText_w {w : World} {x3 x2 x1 x0 : Int} (hx3 : 0 ≤ x3 ∧ x3 < 18446744073709551616) (hx2 : 0 ≤ x2 ∧ x2 < 18446744073709551616) (hx1 : 0 ≤ x1 ∧ x1 < 18446744073709551616) (hx0 : 0 ≤ x0 ∧ x0 < 18446744073709551616) : Ct Try.prog 3 [.agg #[.int .u64 x3, .int .u64 x2, .int .u64 x1, .int .u64 x0]] w fun v w1 => v = .bool true ∧ Ext w w1 := by
  obtain ⟨x, fx, rfl, rfl, rfl, rfl⟩ := words_z hx3 hx2 hx1 hx0
  exact lawWideText_ok fx
end Go.Proofs.Ytcnepihgbnfcpaa.W
