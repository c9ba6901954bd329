/- Wk9: walks, written by a program of this session. -/
import Derived.Test.YtjahakhbdjadaaaWk4
set_option linter.unusedVariables false
set_option linter.unusedSimpArgs false
namespace Go.Proofs.Ytjahakhbdjadaaa.W
open Go Go.RowKit Go.Proofs.Ytjahakhbdjadaaa.Fw
attribute [local irreducible] RunK LW AW DV OE Ct
theorem co51 : callOk Try.prog 51 = true := by kernel_rfl
theorem co52 : callOk Try.prog 52 = true := by kernel_rfl
theorem co54 : callOk Try.prog 54 = true := by kernel_rfl
set_option maxHeartbeats 1000000 in
theorem eqWide_ok {w : World} {a3 a2 a1 a0 y3 y2 y1 y0 : Int}  : Ct Try.prog 24 [.agg #[.int .u64 a3, .int .u64 a2, .int .u64 a1, .int .u64 a0], .agg #[.int .u64 y3, .int .u64 y2, .int .u64 y1, .int .u64 y0]] w fun v w1 => v = .bool (decide (a3 = y3 ∧ a2 = y2 ∧ a1 = y1 ∧ a0 = y0)) ∧ Ext w w1 := by
  refine ct_run (n := 25) Try.func24 rfl Try.ntmps24 rfl ?_
  have E0 : Below w.heap.size w w := Below.refl _ _
  refine rk_seq ?_
  refine rk_reg ?_
  refine lw_e (oe_box (v := .agg #[.int .u64 a3, .int .u64 a2, .int .u64 a1, .int .u64 a0]) (cs := #[.int .u64 a3, .int .u64 a2, .int .u64 a1, .int .u64 a0]) (T rfl rfl) rfl ?_)
  intro b1 w2 n3
  have N4 : w.heap.size ≤ b1 := n3.eq ▸ E0.size
  have E5 := below_ext E0 E0.size n3.ext
  refine lw_e (oe_box (v := .agg #[.int .u64 y3, .int .u64 y2, .int .u64 y1, .int .u64 y0]) (cs := #[.int .u64 y3, .int .u64 y2, .int .u64 y1, .int .u64 y0]) (T rfl rfl) rfl ?_)
  intro b6 w7 n8
  have N9 : w.heap.size ≤ b6 := n8.eq ▸ E5.size
  have : b1 < b6 := n8.eq ▸ lt_of_blk n3.blk
  have E10 := below_ext E5 E5.size n8.ext
  refine lw_v (.bool false) (dv_assign C) ?_
  refine lw_nil ?_
  refine rk_seq ?_
  refine rk_seq ?_
  refine rk_reg ?_
  refine lw_v (.pointer (some ⟨b1, 0, none⟩)) (dv_fieldAddr (a := ⟨b1, 0, none⟩) (a' := ⟨b1, 0, none⟩) fo26_0 (T rfl rfl) rfl) ?_
  have H11 := (n8.ext.blk n3.blk)
  refine lw_v (.int .u64 a3) (dv_load1 (b := b1) (o := 0) agt22 (T rfl rfl) H11 rfl) ?_
  refine lw_v (.pointer (some ⟨b6, 0, none⟩)) (dv_fieldAddr (a := ⟨b6, 0, none⟩) (a' := ⟨b6, 0, none⟩) fo26_0 (T rfl rfl) rfl) ?_
  refine lw_v (.int .u64 y3) (dv_load1 (b := b6) (o := 0) agt22 (T rfl rfl) n8.blk rfl) ?_
  refine lw_v (.bool (decide (a3 ≠ y3))) (dv_neq (a := a3) (b := y3) (T rfl rfl) (T rfl rfl)) ?_
  refine lw_nil ?_
  by_cases hb12 : a3 ≠ y3
  · -- T
    refine rk_ct (T rfl (congrArg Value.bool (decide_eq_true hb12))) ?_
    refine rk_seq ?_
    refine rk_reg ?_
    refine lw_v (.bool false) (dv_assign C) ?_
    refine lw_nil ?_
    refine rk_ret Try.func24 (v := .bool false) (res1 Try.results24 (rv_tmp rfl rfl)) ⟨_, rfl, ?_⟩
    exact ⟨(vf (by grind)), E10⟩
  · -- F
    refine rk_cf (T rfl (congrArg Value.bool (decide_eq_false hb12))) ?_
    refine rk_skip ?_
    refine rk_seq ?_
    refine rk_seq ?_
    refine rk_reg ?_
    refine lw_v (.pointer (some ⟨b1, 1, none⟩)) (dv_fieldAddr (a := ⟨b1, 0, none⟩) (a' := ⟨b1, 1, none⟩) fo26_1 (T rfl rfl) rfl) ?_
    refine lw_v (.int .u64 a2) (dv_load1 (b := b1) (o := 1) agt22 (T rfl rfl) H11 rfl) ?_
    refine lw_v (.pointer (some ⟨b6, 1, none⟩)) (dv_fieldAddr (a := ⟨b6, 0, none⟩) (a' := ⟨b6, 1, none⟩) fo26_1 (T rfl rfl) rfl) ?_
    refine lw_v (.int .u64 y2) (dv_load1 (b := b6) (o := 1) agt22 (T rfl rfl) n8.blk rfl) ?_
    refine lw_v (.bool (decide (a2 ≠ y2))) (dv_neq (a := a2) (b := y2) (T rfl rfl) (T rfl rfl)) ?_
    refine lw_nil ?_
    by_cases hb13 : a2 ≠ y2
    · -- FT
      refine rk_ct (T rfl (congrArg Value.bool (decide_eq_true hb13))) ?_
      refine rk_seq ?_
      refine rk_reg ?_
      refine lw_v (.bool false) (dv_assign C) ?_
      refine lw_nil ?_
      refine rk_ret Try.func24 (v := .bool false) (res1 Try.results24 (rv_tmp rfl rfl)) ⟨_, rfl, ?_⟩
      exact ⟨(vf (by grind)), E10⟩
    · -- FF
      refine rk_cf (T rfl (congrArg Value.bool (decide_eq_false hb13))) ?_
      refine rk_skip ?_
      refine rk_seq ?_
      refine rk_seq ?_
      refine rk_reg ?_
      refine lw_v (.pointer (some ⟨b1, 2, none⟩)) (dv_fieldAddr (a := ⟨b1, 0, none⟩) (a' := ⟨b1, 2, none⟩) fo26_2 (T rfl rfl) rfl) ?_
      refine lw_v (.int .u64 a1) (dv_load1 (b := b1) (o := 2) agt22 (T rfl rfl) H11 rfl) ?_
      refine lw_v (.pointer (some ⟨b6, 2, none⟩)) (dv_fieldAddr (a := ⟨b6, 0, none⟩) (a' := ⟨b6, 2, none⟩) fo26_2 (T rfl rfl) rfl) ?_
      refine lw_v (.int .u64 y1) (dv_load1 (b := b6) (o := 2) agt22 (T rfl rfl) n8.blk rfl) ?_
      refine lw_v (.bool (decide (a1 ≠ y1))) (dv_neq (a := a1) (b := y1) (T rfl rfl) (T rfl rfl)) ?_
      refine lw_nil ?_
      by_cases hb14 : a1 ≠ y1
      · -- FFT
        refine rk_ct (T rfl (congrArg Value.bool (decide_eq_true hb14))) ?_
        refine rk_seq ?_
        refine rk_reg ?_
        refine lw_v (.bool false) (dv_assign C) ?_
        refine lw_nil ?_
        refine rk_ret Try.func24 (v := .bool false) (res1 Try.results24 (rv_tmp rfl rfl)) ⟨_, rfl, ?_⟩
        exact ⟨(vf (by grind)), E10⟩
      · -- FFF
        refine rk_cf (T rfl (congrArg Value.bool (decide_eq_false hb14))) ?_
        refine rk_skip ?_
        refine rk_seq ?_
        refine rk_seq ?_
        refine rk_reg ?_
        refine lw_v (.pointer (some ⟨b1, 3, none⟩)) (dv_fieldAddr (a := ⟨b1, 0, none⟩) (a' := ⟨b1, 3, none⟩) fo26_3 (T rfl rfl) rfl) ?_
        refine lw_v (.int .u64 a0) (dv_load1 (b := b1) (o := 3) agt22 (T rfl rfl) H11 rfl) ?_
        refine lw_v (.pointer (some ⟨b6, 3, none⟩)) (dv_fieldAddr (a := ⟨b6, 0, none⟩) (a' := ⟨b6, 3, none⟩) fo26_3 (T rfl rfl) rfl) ?_
        refine lw_v (.int .u64 y0) (dv_load1 (b := b6) (o := 3) agt22 (T rfl rfl) n8.blk rfl) ?_
        refine lw_v (.bool (decide (a0 ≠ y0))) (dv_neq (a := a0) (b := y0) (T rfl rfl) (T rfl rfl)) ?_
        refine lw_nil ?_
        by_cases hb15 : a0 ≠ y0
        · -- FFFT
          refine rk_ct (T rfl (congrArg Value.bool (decide_eq_true hb15))) ?_
          refine rk_seq ?_
          refine rk_reg ?_
          refine lw_v (.bool false) (dv_assign C) ?_
          refine lw_nil ?_
          refine rk_ret Try.func24 (v := .bool false) (res1 Try.results24 (rv_tmp rfl rfl)) ⟨_, rfl, ?_⟩
          exact ⟨(vf (by grind)), E10⟩
        · -- FFFF
          refine rk_cf (T rfl (congrArg Value.bool (decide_eq_false hb15))) ?_
          refine rk_skip ?_
          refine rk_seq ?_
          refine rk_reg ?_
          refine lw_v (.bool true) (dv_assign C) ?_
          refine lw_nil ?_
          refine rk_ret Try.func24 (v := .bool true) (res1 Try.results24 (rv_tmp rfl rfl)) ⟨_, rfl, ?_⟩
          exact ⟨(vt (by grind)), E10⟩

set_option maxHeartbeats 1000000 in
theorem sWideOf_ok {w : World} {x : Int} (hx : -9223372036854775808 ≤ x ∧ x ≤ 9223372036854775807) : Ct Try.prog 22 [.int .i64 x] w fun v w1 => v = .agg #[.int .u64 (wv3 x), .int .u64 (wv2 x), .int .u64 (wv1 x), .int .u64 (wv0 x)] ∧ Ext w w1 := by
  refine ct_run (n := 12) Try.func22 rfl Try.ntmps22 rfl ?_
  have E0 : Below w.heap.size w w := Below.refl _ _
  refine rk_seq ?_
  refine rk_reg ?_
  refine lw_e (oe_alloc ze26 ?_)
  intro b1 w2 n3
  have N4 : w.heap.size ≤ b1 := n3.eq ▸ E0.size
  have E5 := below_ext E0 E0.size n3.ext
  refine lw_nil ?_
  refine rk_seq ?_
  refine rk_reg ?_
  refine lw_v (.int .i64 x) (dv_move (T rfl rfl)) ?_
  refine lw_e (oe_callf (vs := [.int .i64 x]) co52 (ar1 (T rfl rfl)) (l1Int_ok  (by omega)) ?_)
  rintro _ w11 ⟨nr6, A7, n8, c9, rfl, e12, h10⟩
  have E13 := below_ext E5 E5.size e12
  have lh10 := Num.len (by decide) h10
  refine lw_e (oe_callf (vs := [.agg #[.bool nr6, .slice A7 n8 c9]]) co51 (ar1 (T rfl rfl)) (l1Wide_ok h10 (by first | decide | omega)) ?_)
  rintro _ w15 ⟨rfl, e16⟩
  have E17 := below_ext E13 E13.size e16
  have bw14 := w_rg (x)
  refine lw_v (.tuple #[.agg #[.int .u64 (wv3 x), .int .u64 (wv2 x), .int .u64 (wv1 x), .int .u64 (wv0 x)], .bool (decide (fits x))]) (dv_move (T rfl rfl)) ?_
  refine lw_v (.agg #[.int .u64 (wv3 x), .int .u64 (wv2 x), .int .u64 (wv1 x), .int .u64 (wv0 x)]) (dv_extract (vs := #[.agg #[.int .u64 (wv3 x), .int .u64 (wv2 x), .int .u64 (wv1 x), .int .u64 (wv0 x)], .bool (decide (fits x))]) (T rfl rfl) rfl) ?_
  refine lw_v (.bool (decide (fits x))) (dv_extract (vs := #[.agg #[.int .u64 (wv3 x), .int .u64 (wv2 x), .int .u64 (wv1 x), .int .u64 (wv0 x)], .bool (decide (fits x))]) (T rfl rfl) rfl) ?_
  refine lw_e (oe_alloc ze26 ?_)
  intro b18 w19 n20
  have N21 : w.heap.size ≤ b18 := n20.eq ▸ E17.size
  have H22 := (e16.blk (e12.blk n3.blk))
  have : b1 < b18 := n20.eq ▸ lt_of_blk H22
  have E23 := below_ext E17 E17.size n20.ext
  refine lw_e (oe_store (v := .agg #[.int .u64 (wv3 x), .int .u64 (wv2 x), .int .u64 (wv1 x), .int .u64 (wv0 x)]) (vs := [.int .u64 (wv3 x), .int .u64 (wv2 x), .int .u64 (wv1 x), .int .u64 (wv0 x)]) (l := [.int .u64 (wv3 x), .int .u64 (wv2 x), .int .u64 (wv1 x), .int .u64 (wv0 x)]) (T rfl rfl) (T rfl rfl) sz26 rfl rfl rfl n20.blk rfl ?_)
  intro w24 s25 H26
  have E27 := below_st E23 N21 s25
  refine lw_v (.bool (decide (fits x))) (dv_assign (T rfl rfl)) ?_
  refine lw_nil ?_
  refine rk_seq ?_
  refine rk_reg ?_
  refine lw_v (.agg #[.int .u64 (wv3 x), .int .u64 (wv2 x), .int .u64 (wv1 x), .int .u64 (wv0 x)]) (dv_loads (l := [.int .u64 (wv3 x), .int .u64 (wv2 x), .int .u64 (wv1 x), .int .u64 (wv0 x)]) agt26 sz26 (T rfl rfl) H26 rfl) ?_
  have H28 := (s25.blk (n20.ext.blk H22) (by omega))
  refine lw_e (oe_store (v := .agg #[.int .u64 (wv3 x), .int .u64 (wv2 x), .int .u64 (wv1 x), .int .u64 (wv0 x)]) (vs := [.int .u64 (wv3 x), .int .u64 (wv2 x), .int .u64 (wv1 x), .int .u64 (wv0 x)]) (l := [.int .u64 (wv3 x), .int .u64 (wv2 x), .int .u64 (wv1 x), .int .u64 (wv0 x)]) (T rfl rfl) (T rfl rfl) sz26 rfl rfl rfl H28 rfl ?_)
  intro w29 s30 H31
  have E32 := below_st E27 N4 s30
  refine lw_nil ?_
  refine rk_ret Try.func22 (v := .agg #[.int .u64 (wv3 x), .int .u64 (wv2 x), .int .u64 (wv1 x), .int .u64 (wv0 x)]) (res1 Try.results22 (rv_cells (l := [.int .u64 (wv3 x), .int .u64 (wv2 x), .int .u64 (wv1 x), .int .u64 (wv0 x)]) agt26 sz26 rfl rfl H31 rfl)) ⟨_, rfl, ?_⟩
  exact ⟨rfl, E32⟩

set_option maxHeartbeats 1000000 in
theorem sWideNeg_ok {w : World} {a3 a2 a1 a0 : Int} (h3 : 0 ≤ a3 ∧ a3 < 18446744073709551616) (h2 : 0 ≤ a2 ∧ a2 < 18446744073709551616) (h1 : 0 ≤ a1 ∧ a1 < 18446744073709551616) (h0 : 0 ≤ a0 ∧ a0 < 18446744073709551616) : Ct Try.prog 25 [.agg #[.int .u64 a3, .int .u64 a2, .int .u64 a1, .int .u64 a0]] w fun v w1 => v = .tuple #[.agg #[.int .u64 (wv3 (-(wz a3 a2 a1 a0))), .int .u64 (wv2 (-(wz a3 a2 a1 a0))), .int .u64 (wv1 (-(wz a3 a2 a1 a0))), .int .u64 (wv0 (-(wz a3 a2 a1 a0)))], .bool (decide (fits (-(wz a3 a2 a1 a0))))] ∧ Ext w w1 := by
  refine ct_run (n := 10) Try.func25 rfl Try.ntmps25 rfl ?_
  have E0 : Below w.heap.size w w := Below.refl _ _
  refine rk_seq ?_
  refine rk_reg ?_
  refine lw_e (oe_box (v := .agg #[.int .u64 a3, .int .u64 a2, .int .u64 a1, .int .u64 a0]) (cs := #[.int .u64 a3, .int .u64 a2, .int .u64 a1, .int .u64 a0]) (T rfl rfl) rfl ?_)
  intro b1 w2 n3
  have N4 : w.heap.size ≤ b1 := n3.eq ▸ E0.size
  have E5 := below_ext E0 E0.size n3.ext
  refine lw_e (oe_alloc ze26 ?_)
  intro b6 w7 n8
  have N9 : w.heap.size ≤ b6 := n8.eq ▸ E5.size
  have : b1 < b6 := n8.eq ▸ lt_of_blk n3.blk
  have E10 := below_ext E5 E5.size n8.ext
  refine lw_v (.bool false) (dv_assign C) ?_
  refine lw_nil ?_
  refine rk_seq ?_
  refine rk_reg ?_
  have H11 := (n8.ext.blk n3.blk)
  refine lw_v (.agg #[.int .u64 a3, .int .u64 a2, .int .u64 a1, .int .u64 a0]) (dv_loads (l := [.int .u64 a3, .int .u64 a2, .int .u64 a1, .int .u64 a0]) agt26 sz26 (T rfl rfl) H11 rfl) ?_
  refine lw_e (oe_callf (vs := [.agg #[.int .u64 a3, .int .u64 a2, .int .u64 a1, .int .u64 a0]]) co44 (ar1 (T rfl rfl)) (l1From_ok (by omega) (by omega) (by omega) (by omega)) ?_)
  rintro _ w17 ⟨nr12, A13, n14, c15, rfl, e18, h16⟩
  have E19 := below_ext E10 E10.size e18
  have lh16 := Num.len (by decide) h16
  refine lw_e (oe_callf (vs := [.agg #[.bool nr12, .slice A13 n14 c15]]) co55 (ar1 (T rfl rfl)) (l1Neg_ok h16 ) ?_)
  rintro _ w25 ⟨nr20, A21, n22, c23, rfl, e26, h24⟩
  have E27 := below_ext E19 E19.size e26
  have lh24 := Num.len (by decide) h24
  refine lw_e (oe_callf (vs := [.agg #[.bool nr20, .slice A21 n22 c23]]) co51 (ar1 (T rfl rfl)) (l1Wide_ok h24 (by first | decide | omega)) ?_)
  rintro _ w29 ⟨rfl, e30⟩
  have E31 := below_ext E27 E27.size e30
  have bw28 := w_rg (-(wz a3 a2 a1 a0))
  refine lw_v (.agg #[.int .u64 (wv3 (-(wz a3 a2 a1 a0))), .int .u64 (wv2 (-(wz a3 a2 a1 a0))), .int .u64 (wv1 (-(wz a3 a2 a1 a0))), .int .u64 (wv0 (-(wz a3 a2 a1 a0)))]) (dv_extract (vs := #[.agg #[.int .u64 (wv3 (-(wz a3 a2 a1 a0))), .int .u64 (wv2 (-(wz a3 a2 a1 a0))), .int .u64 (wv1 (-(wz a3 a2 a1 a0))), .int .u64 (wv0 (-(wz a3 a2 a1 a0)))], .bool (decide (fits (-(wz a3 a2 a1 a0))))]) (T rfl rfl) rfl) ?_
  refine lw_v (.bool (decide (fits (-(wz a3 a2 a1 a0))))) (dv_extract (vs := #[.agg #[.int .u64 (wv3 (-(wz a3 a2 a1 a0))), .int .u64 (wv2 (-(wz a3 a2 a1 a0))), .int .u64 (wv1 (-(wz a3 a2 a1 a0))), .int .u64 (wv0 (-(wz a3 a2 a1 a0)))], .bool (decide (fits (-(wz a3 a2 a1 a0))))]) (T rfl rfl) rfl) ?_
  have H32 := (e30.blk (e26.blk (e18.blk n8.blk)))
  refine lw_e (oe_store (v := .agg #[.int .u64 (wv3 (-(wz a3 a2 a1 a0))), .int .u64 (wv2 (-(wz a3 a2 a1 a0))), .int .u64 (wv1 (-(wz a3 a2 a1 a0))), .int .u64 (wv0 (-(wz a3 a2 a1 a0)))]) (vs := [.int .u64 (wv3 (-(wz a3 a2 a1 a0))), .int .u64 (wv2 (-(wz a3 a2 a1 a0))), .int .u64 (wv1 (-(wz a3 a2 a1 a0))), .int .u64 (wv0 (-(wz a3 a2 a1 a0)))]) (l := [.int .u64 (wv3 (-(wz a3 a2 a1 a0))), .int .u64 (wv2 (-(wz a3 a2 a1 a0))), .int .u64 (wv1 (-(wz a3 a2 a1 a0))), .int .u64 (wv0 (-(wz a3 a2 a1 a0)))]) (T rfl rfl) (T rfl rfl) sz26 rfl rfl rfl H32 rfl ?_)
  intro w33 s34 H35
  have E36 := below_st E31 N9 s34
  refine lw_v (.bool (decide (fits (-(wz a3 a2 a1 a0))))) (dv_assign (T rfl rfl)) ?_
  refine lw_nil ?_
  refine rk_ret Try.func25 (v := .tuple #[.agg #[.int .u64 (wv3 (-(wz a3 a2 a1 a0))), .int .u64 (wv2 (-(wz a3 a2 a1 a0))), .int .u64 (wv1 (-(wz a3 a2 a1 a0))), .int .u64 (wv0 (-(wz a3 a2 a1 a0)))], .bool (decide (fits (-(wz a3 a2 a1 a0))))]) (res2 Try.results25 (rv_cells (l := [.int .u64 (wv3 (-(wz a3 a2 a1 a0))), .int .u64 (wv2 (-(wz a3 a2 a1 a0))), .int .u64 (wv1 (-(wz a3 a2 a1 a0))), .int .u64 (wv0 (-(wz a3 a2 a1 a0)))]) agt26 sz26 rfl rfl H35 rfl) (rv_tmp rfl rfl)) ⟨_, rfl, ?_⟩
  exact ⟨rfl, E36⟩

set_option maxHeartbeats 1000000 in
theorem sWideAdd_ok {w : World} {a3 a2 a1 a0 y3 y2 y1 y0 : Int} (h3 : 0 ≤ a3 ∧ a3 < 18446744073709551616) (h2 : 0 ≤ a2 ∧ a2 < 18446744073709551616) (h1 : 0 ≤ a1 ∧ a1 < 18446744073709551616) (h0 : 0 ≤ a0 ∧ a0 < 18446744073709551616) (k3 : 0 ≤ y3 ∧ y3 < 18446744073709551616) (k2 : 0 ≤ y2 ∧ y2 < 18446744073709551616) (k1 : 0 ≤ y1 ∧ y1 < 18446744073709551616) (k0 : 0 ≤ y0 ∧ y0 < 18446744073709551616) : Ct Try.prog 31 [.agg #[.int .u64 a3, .int .u64 a2, .int .u64 a1, .int .u64 a0], .agg #[.int .u64 y3, .int .u64 y2, .int .u64 y1, .int .u64 y0]] w fun v w1 => v = .tuple #[.agg #[.int .u64 (wv3 ((wz a3 a2 a1 a0) + (wz y3 y2 y1 y0))), .int .u64 (wv2 ((wz a3 a2 a1 a0) + (wz y3 y2 y1 y0))), .int .u64 (wv1 ((wz a3 a2 a1 a0) + (wz y3 y2 y1 y0))), .int .u64 (wv0 ((wz a3 a2 a1 a0) + (wz y3 y2 y1 y0)))], .bool (decide (fits ((wz a3 a2 a1 a0) + (wz y3 y2 y1 y0))))] ∧ Ext w w1 := by
  refine ct_run (n := 14) Try.func31 rfl Try.ntmps31 rfl ?_
  have E0 : Below w.heap.size w w := Below.refl _ _
  refine rk_seq ?_
  refine rk_reg ?_
  refine lw_e (oe_box (v := .agg #[.int .u64 a3, .int .u64 a2, .int .u64 a1, .int .u64 a0]) (cs := #[.int .u64 a3, .int .u64 a2, .int .u64 a1, .int .u64 a0]) (T rfl rfl) rfl ?_)
  intro b1 w2 n3
  have N4 : w.heap.size ≤ b1 := n3.eq ▸ E0.size
  have E5 := below_ext E0 E0.size n3.ext
  refine lw_e (oe_box (v := .agg #[.int .u64 y3, .int .u64 y2, .int .u64 y1, .int .u64 y0]) (cs := #[.int .u64 y3, .int .u64 y2, .int .u64 y1, .int .u64 y0]) (T rfl rfl) rfl ?_)
  intro b6 w7 n8
  have N9 : w.heap.size ≤ b6 := n8.eq ▸ E5.size
  have : b1 < b6 := n8.eq ▸ lt_of_blk n3.blk
  have E10 := below_ext E5 E5.size n8.ext
  refine lw_e (oe_alloc ze26 ?_)
  intro b11 w12 n13
  have N14 : w.heap.size ≤ b11 := n13.eq ▸ E10.size
  have : b6 < b11 := n13.eq ▸ lt_of_blk n8.blk
  have E15 := below_ext E10 E10.size n13.ext
  refine lw_v (.bool false) (dv_assign C) ?_
  refine lw_nil ?_
  refine rk_seq ?_
  refine rk_any (fun w => w.heap[b1]? = some (.cells #[.int .u64 a3, .int .u64 a2, .int .u64 a1, .int .u64 a0] 26) ∧ w.heap[b6]? = some (.cells #[.int .u64 y3, .int .u64 y2, .int .u64 y1, .int .u64 y0] 26)) [9] mo ?_
  intro w16 d17
  have E18 := below_ext E15 E15.size d17.ext
  have H19 := (d17.ext.blk (n13.ext.blk (n8.ext.blk n3.blk)))
  have H20 := (d17.ext.blk (n13.ext.blk n8.blk))
  refine aw_load 0 (.agg #[.int .u64 a3, .int .u64 a2, .int .u64 a1, .int .u64 a0]) rfl (by kernel_rfl) .none ⟨H19, H20⟩ (fun _ s => dv_loads (l := [.int .u64 a3, .int .u64 a2, .int .u64 a1, .int .u64 a0]) agt26 sz26 (T rfl rfl) s.1 rfl) ?_
  refine aw_load 2 (.agg #[.int .u64 y3, .int .u64 y2, .int .u64 y1, .int .u64 y0]) rfl (by kernel_rfl) .none ⟨H19, H20⟩ (fun _ s => dv_loads (l := [.int .u64 y3, .int .u64 y2, .int .u64 y1, .int .u64 y0]) agt26 sz26 (T rfl rfl) s.2 rfl) ?_
  refine aw_one 1 rfl (by kernel_rfl) .none (oe_callf (vs := [.agg #[.int .u64 a3, .int .u64 a2, .int .u64 a1, .int .u64 a0]]) co44 (ar1 (T rfl rfl)) (l1From_ok (by omega) (by omega) (by omega) (by omega)) ?_)
  rintro _ w26 ⟨nr21, A22, n23, c24, rfl, e27, h25⟩
  have E28 := below_ext E18 E18.size e27
  have lh25 := Num.len (by decide) h25
  have H29 := (e27.blk H19)
  have H30 := (e27.blk H20)
  refine ⟨.inr ⟨H29, H30⟩, ?_⟩
  refine aw_one 3 rfl (by kernel_rfl) .none (oe_callf (vs := [.agg #[.int .u64 y3, .int .u64 y2, .int .u64 y1, .int .u64 y0]]) co44 (ar1 (T rfl rfl)) (l1From_ok (by omega) (by omega) (by omega) (by omega)) ?_)
  rintro _ w36 ⟨nr31, A32, n33, c34, rfl, e37, h35⟩
  have E38 := below_ext E28 E28.size e37
  have lh35 := Num.len (by decide) h35
  have H39 := (e37.blk H29)
  have H40 := (e37.blk H30)
  refine ⟨.inr ⟨H39, H40⟩, ?_⟩
  have h41 := (h25.ext e37)
  refine aw_one 4 rfl (by kernel_rfl) .none (oe_callf (vs := [.agg #[.bool nr21, .slice A22 n23 c24], .agg #[.bool nr31, .slice A32 n33 c34]]) co59 (ar2 (T rfl rfl) (T rfl rfl)) (l1Add_ok h41 h35 (by first | decide | omega) (by first | decide | omega)) ?_)
  rintro _ w47 ⟨nr42, A43, n44, c45, rfl, e48, h46⟩
  have E49 := below_ext E38 E38.size e48
  have lh46 := Num.len (by decide) h46
  have H50 := (e48.blk H39)
  have H51 := (e48.blk H40)
  refine ⟨.inr ⟨H50, H51⟩, ?_⟩
  refine aw_one 5 rfl (by kernel_rfl) .none (oe_callf (vs := [.agg #[.bool nr42, .slice A43 n44 c45]]) co51 (ar1 (T rfl rfl)) (l1Wide_ok h46 (by first | decide | omega)) ?_)
  rintro _ w53 ⟨rfl, e54⟩
  have E55 := below_ext E49 E49.size e54
  have bw52 := w_rg ((wz a3 a2 a1 a0) + (wz y3 y2 y1 y0))
  have H56 := (e54.blk H50)
  have H57 := (e54.blk H51)
  refine ⟨.inr ⟨H56, H57⟩, ?_⟩
  refine aw_pure 6 (.agg #[.int .u64 (wv3 ((wz a3 a2 a1 a0) + (wz y3 y2 y1 y0))), .int .u64 (wv2 ((wz a3 a2 a1 a0) + (wz y3 y2 y1 y0))), .int .u64 (wv1 ((wz a3 a2 a1 a0) + (wz y3 y2 y1 y0))), .int .u64 (wv0 ((wz a3 a2 a1 a0) + (wz y3 y2 y1 y0)))]) rfl (by kernel_rfl) .none ⟨H56, H57⟩ (fun _ => dv_extract (vs := #[.agg #[.int .u64 (wv3 ((wz a3 a2 a1 a0) + (wz y3 y2 y1 y0))), .int .u64 (wv2 ((wz a3 a2 a1 a0) + (wz y3 y2 y1 y0))), .int .u64 (wv1 ((wz a3 a2 a1 a0) + (wz y3 y2 y1 y0))), .int .u64 (wv0 ((wz a3 a2 a1 a0) + (wz y3 y2 y1 y0)))], .bool (decide (fits ((wz a3 a2 a1 a0) + (wz y3 y2 y1 y0))))]) (T rfl rfl) rfl) ?_
  refine aw_pure 7 (.bool (decide (fits ((wz a3 a2 a1 a0) + (wz y3 y2 y1 y0))))) rfl (by kernel_rfl) .none ⟨H56, H57⟩ (fun _ => dv_extract (vs := #[.agg #[.int .u64 (wv3 ((wz a3 a2 a1 a0) + (wz y3 y2 y1 y0))), .int .u64 (wv2 ((wz a3 a2 a1 a0) + (wz y3 y2 y1 y0))), .int .u64 (wv1 ((wz a3 a2 a1 a0) + (wz y3 y2 y1 y0))), .int .u64 (wv0 ((wz a3 a2 a1 a0) + (wz y3 y2 y1 y0)))], .bool (decide (fits ((wz a3 a2 a1 a0) + (wz y3 y2 y1 y0))))]) (T rfl rfl) rfl) ?_
  have H58 := (e54.blk (e48.blk (e37.blk (e27.blk (d17.ext.blk n13.blk)))))
  refine aw_one 8 rfl (by kernel_rfl) .none (oe_store (v := .agg #[.int .u64 (wv3 ((wz a3 a2 a1 a0) + (wz y3 y2 y1 y0))), .int .u64 (wv2 ((wz a3 a2 a1 a0) + (wz y3 y2 y1 y0))), .int .u64 (wv1 ((wz a3 a2 a1 a0) + (wz y3 y2 y1 y0))), .int .u64 (wv0 ((wz a3 a2 a1 a0) + (wz y3 y2 y1 y0)))]) (vs := [.int .u64 (wv3 ((wz a3 a2 a1 a0) + (wz y3 y2 y1 y0))), .int .u64 (wv2 ((wz a3 a2 a1 a0) + (wz y3 y2 y1 y0))), .int .u64 (wv1 ((wz a3 a2 a1 a0) + (wz y3 y2 y1 y0))), .int .u64 (wv0 ((wz a3 a2 a1 a0) + (wz y3 y2 y1 y0)))]) (l := [.int .u64 (wv3 ((wz a3 a2 a1 a0) + (wz y3 y2 y1 y0))), .int .u64 (wv2 ((wz a3 a2 a1 a0) + (wz y3 y2 y1 y0))), .int .u64 (wv1 ((wz a3 a2 a1 a0) + (wz y3 y2 y1 y0))), .int .u64 (wv0 ((wz a3 a2 a1 a0) + (wz y3 y2 y1 y0)))]) (T rfl rfl) (T rfl rfl) sz26 rfl rfl rfl H58 rfl ?_)
  intro w59 s60 H61
  have E62 := below_st E55 N14 s60
  have H63 := (s60.blk H56 (by omega))
  have H64 := (s60.blk H57 (by omega))
  refine ⟨.inr ⟨H63, H64⟩, ?_⟩
  refine aw_last 9 (.bool (decide (fits ((wz a3 a2 a1 a0) + (wz y3 y2 y1 y0))))) rfl (by kernel_rfl) .none (fun _ => dv_assign (T rfl rfl)) ?_
  refine aw_done (by kernel_rfl) ?_
  refine rk_ret Try.func31 (v := .tuple #[.agg #[.int .u64 (wv3 ((wz a3 a2 a1 a0) + (wz y3 y2 y1 y0))), .int .u64 (wv2 ((wz a3 a2 a1 a0) + (wz y3 y2 y1 y0))), .int .u64 (wv1 ((wz a3 a2 a1 a0) + (wz y3 y2 y1 y0))), .int .u64 (wv0 ((wz a3 a2 a1 a0) + (wz y3 y2 y1 y0)))], .bool (decide (fits ((wz a3 a2 a1 a0) + (wz y3 y2 y1 y0))))]) (res2 Try.results31 (rv_cells (l := [.int .u64 (wv3 ((wz a3 a2 a1 a0) + (wz y3 y2 y1 y0))), .int .u64 (wv2 ((wz a3 a2 a1 a0) + (wz y3 y2 y1 y0))), .int .u64 (wv1 ((wz a3 a2 a1 a0) + (wz y3 y2 y1 y0))), .int .u64 (wv0 ((wz a3 a2 a1 a0) + (wz y3 y2 y1 y0)))]) agt26 sz26 rfl rfl H61 rfl) (rv_tmp rfl rfl)) ⟨_, rfl, ?_⟩
  exact ⟨rfl, E62⟩

set_option maxHeartbeats 1000000 in
theorem sWideSub_ok {w : World} {a3 a2 a1 a0 y3 y2 y1 y0 : Int} (h3 : 0 ≤ a3 ∧ a3 < 18446744073709551616) (h2 : 0 ≤ a2 ∧ a2 < 18446744073709551616) (h1 : 0 ≤ a1 ∧ a1 < 18446744073709551616) (h0 : 0 ≤ a0 ∧ a0 < 18446744073709551616) (k3 : 0 ≤ y3 ∧ y3 < 18446744073709551616) (k2 : 0 ≤ y2 ∧ y2 < 18446744073709551616) (k1 : 0 ≤ y1 ∧ y1 < 18446744073709551616) (k0 : 0 ≤ y0 ∧ y0 < 18446744073709551616) : Ct Try.prog 33 [.agg #[.int .u64 a3, .int .u64 a2, .int .u64 a1, .int .u64 a0], .agg #[.int .u64 y3, .int .u64 y2, .int .u64 y1, .int .u64 y0]] w fun v w1 => v = .tuple #[.agg #[.int .u64 (wv3 ((wz a3 a2 a1 a0) - (wz y3 y2 y1 y0))), .int .u64 (wv2 ((wz a3 a2 a1 a0) - (wz y3 y2 y1 y0))), .int .u64 (wv1 ((wz a3 a2 a1 a0) - (wz y3 y2 y1 y0))), .int .u64 (wv0 ((wz a3 a2 a1 a0) - (wz y3 y2 y1 y0)))], .bool (decide (fits ((wz a3 a2 a1 a0) - (wz y3 y2 y1 y0))))] ∧ Ext w w1 := by
  refine ct_run (n := 14) Try.func33 rfl Try.ntmps33 rfl ?_
  have E0 : Below w.heap.size w w := Below.refl _ _
  refine rk_seq ?_
  refine rk_reg ?_
  refine lw_e (oe_box (v := .agg #[.int .u64 a3, .int .u64 a2, .int .u64 a1, .int .u64 a0]) (cs := #[.int .u64 a3, .int .u64 a2, .int .u64 a1, .int .u64 a0]) (T rfl rfl) rfl ?_)
  intro b1 w2 n3
  have N4 : w.heap.size ≤ b1 := n3.eq ▸ E0.size
  have E5 := below_ext E0 E0.size n3.ext
  refine lw_e (oe_box (v := .agg #[.int .u64 y3, .int .u64 y2, .int .u64 y1, .int .u64 y0]) (cs := #[.int .u64 y3, .int .u64 y2, .int .u64 y1, .int .u64 y0]) (T rfl rfl) rfl ?_)
  intro b6 w7 n8
  have N9 : w.heap.size ≤ b6 := n8.eq ▸ E5.size
  have : b1 < b6 := n8.eq ▸ lt_of_blk n3.blk
  have E10 := below_ext E5 E5.size n8.ext
  refine lw_e (oe_alloc ze26 ?_)
  intro b11 w12 n13
  have N14 : w.heap.size ≤ b11 := n13.eq ▸ E10.size
  have : b6 < b11 := n13.eq ▸ lt_of_blk n8.blk
  have E15 := below_ext E10 E10.size n13.ext
  refine lw_v (.bool false) (dv_assign C) ?_
  refine lw_nil ?_
  refine rk_seq ?_
  refine rk_any (fun w => w.heap[b1]? = some (.cells #[.int .u64 a3, .int .u64 a2, .int .u64 a1, .int .u64 a0] 26) ∧ w.heap[b6]? = some (.cells #[.int .u64 y3, .int .u64 y2, .int .u64 y1, .int .u64 y0] 26)) [9] mo ?_
  intro w16 d17
  have E18 := below_ext E15 E15.size d17.ext
  have H19 := (d17.ext.blk (n13.ext.blk (n8.ext.blk n3.blk)))
  have H20 := (d17.ext.blk (n13.ext.blk n8.blk))
  refine aw_load 0 (.agg #[.int .u64 a3, .int .u64 a2, .int .u64 a1, .int .u64 a0]) rfl (by kernel_rfl) .none ⟨H19, H20⟩ (fun _ s => dv_loads (l := [.int .u64 a3, .int .u64 a2, .int .u64 a1, .int .u64 a0]) agt26 sz26 (T rfl rfl) s.1 rfl) ?_
  refine aw_load 2 (.agg #[.int .u64 y3, .int .u64 y2, .int .u64 y1, .int .u64 y0]) rfl (by kernel_rfl) .none ⟨H19, H20⟩ (fun _ s => dv_loads (l := [.int .u64 y3, .int .u64 y2, .int .u64 y1, .int .u64 y0]) agt26 sz26 (T rfl rfl) s.2 rfl) ?_
  refine aw_one 1 rfl (by kernel_rfl) .none (oe_callf (vs := [.agg #[.int .u64 a3, .int .u64 a2, .int .u64 a1, .int .u64 a0]]) co44 (ar1 (T rfl rfl)) (l1From_ok (by omega) (by omega) (by omega) (by omega)) ?_)
  rintro _ w26 ⟨nr21, A22, n23, c24, rfl, e27, h25⟩
  have E28 := below_ext E18 E18.size e27
  have lh25 := Num.len (by decide) h25
  have H29 := (e27.blk H19)
  have H30 := (e27.blk H20)
  refine ⟨.inr ⟨H29, H30⟩, ?_⟩
  refine aw_one 3 rfl (by kernel_rfl) .none (oe_callf (vs := [.agg #[.int .u64 y3, .int .u64 y2, .int .u64 y1, .int .u64 y0]]) co44 (ar1 (T rfl rfl)) (l1From_ok (by omega) (by omega) (by omega) (by omega)) ?_)
  rintro _ w36 ⟨nr31, A32, n33, c34, rfl, e37, h35⟩
  have E38 := below_ext E28 E28.size e37
  have lh35 := Num.len (by decide) h35
  have H39 := (e37.blk H29)
  have H40 := (e37.blk H30)
  refine ⟨.inr ⟨H39, H40⟩, ?_⟩
  have h41 := (h25.ext e37)
  refine aw_one 4 rfl (by kernel_rfl) .none (oe_callf (vs := [.agg #[.bool nr21, .slice A22 n23 c24], .agg #[.bool nr31, .slice A32 n33 c34]]) co61 (ar2 (T rfl rfl) (T rfl rfl)) (l1Sub_ok h41 h35 (by first | decide | omega) (by first | decide | omega)) ?_)
  rintro _ w47 ⟨nr42, A43, n44, c45, rfl, e48, h46⟩
  have E49 := below_ext E38 E38.size e48
  have lh46 := Num.len (by decide) h46
  have H50 := (e48.blk H39)
  have H51 := (e48.blk H40)
  refine ⟨.inr ⟨H50, H51⟩, ?_⟩
  refine aw_one 5 rfl (by kernel_rfl) .none (oe_callf (vs := [.agg #[.bool nr42, .slice A43 n44 c45]]) co51 (ar1 (T rfl rfl)) (l1Wide_ok h46 (by first | decide | omega)) ?_)
  rintro _ w53 ⟨rfl, e54⟩
  have E55 := below_ext E49 E49.size e54
  have bw52 := w_rg ((wz a3 a2 a1 a0) - (wz y3 y2 y1 y0))
  have H56 := (e54.blk H50)
  have H57 := (e54.blk H51)
  refine ⟨.inr ⟨H56, H57⟩, ?_⟩
  refine aw_pure 6 (.agg #[.int .u64 (wv3 ((wz a3 a2 a1 a0) - (wz y3 y2 y1 y0))), .int .u64 (wv2 ((wz a3 a2 a1 a0) - (wz y3 y2 y1 y0))), .int .u64 (wv1 ((wz a3 a2 a1 a0) - (wz y3 y2 y1 y0))), .int .u64 (wv0 ((wz a3 a2 a1 a0) - (wz y3 y2 y1 y0)))]) rfl (by kernel_rfl) .none ⟨H56, H57⟩ (fun _ => dv_extract (vs := #[.agg #[.int .u64 (wv3 ((wz a3 a2 a1 a0) - (wz y3 y2 y1 y0))), .int .u64 (wv2 ((wz a3 a2 a1 a0) - (wz y3 y2 y1 y0))), .int .u64 (wv1 ((wz a3 a2 a1 a0) - (wz y3 y2 y1 y0))), .int .u64 (wv0 ((wz a3 a2 a1 a0) - (wz y3 y2 y1 y0)))], .bool (decide (fits ((wz a3 a2 a1 a0) - (wz y3 y2 y1 y0))))]) (T rfl rfl) rfl) ?_
  refine aw_pure 7 (.bool (decide (fits ((wz a3 a2 a1 a0) - (wz y3 y2 y1 y0))))) rfl (by kernel_rfl) .none ⟨H56, H57⟩ (fun _ => dv_extract (vs := #[.agg #[.int .u64 (wv3 ((wz a3 a2 a1 a0) - (wz y3 y2 y1 y0))), .int .u64 (wv2 ((wz a3 a2 a1 a0) - (wz y3 y2 y1 y0))), .int .u64 (wv1 ((wz a3 a2 a1 a0) - (wz y3 y2 y1 y0))), .int .u64 (wv0 ((wz a3 a2 a1 a0) - (wz y3 y2 y1 y0)))], .bool (decide (fits ((wz a3 a2 a1 a0) - (wz y3 y2 y1 y0))))]) (T rfl rfl) rfl) ?_
  have H58 := (e54.blk (e48.blk (e37.blk (e27.blk (d17.ext.blk n13.blk)))))
  refine aw_one 8 rfl (by kernel_rfl) .none (oe_store (v := .agg #[.int .u64 (wv3 ((wz a3 a2 a1 a0) - (wz y3 y2 y1 y0))), .int .u64 (wv2 ((wz a3 a2 a1 a0) - (wz y3 y2 y1 y0))), .int .u64 (wv1 ((wz a3 a2 a1 a0) - (wz y3 y2 y1 y0))), .int .u64 (wv0 ((wz a3 a2 a1 a0) - (wz y3 y2 y1 y0)))]) (vs := [.int .u64 (wv3 ((wz a3 a2 a1 a0) - (wz y3 y2 y1 y0))), .int .u64 (wv2 ((wz a3 a2 a1 a0) - (wz y3 y2 y1 y0))), .int .u64 (wv1 ((wz a3 a2 a1 a0) - (wz y3 y2 y1 y0))), .int .u64 (wv0 ((wz a3 a2 a1 a0) - (wz y3 y2 y1 y0)))]) (l := [.int .u64 (wv3 ((wz a3 a2 a1 a0) - (wz y3 y2 y1 y0))), .int .u64 (wv2 ((wz a3 a2 a1 a0) - (wz y3 y2 y1 y0))), .int .u64 (wv1 ((wz a3 a2 a1 a0) - (wz y3 y2 y1 y0))), .int .u64 (wv0 ((wz a3 a2 a1 a0) - (wz y3 y2 y1 y0)))]) (T rfl rfl) (T rfl rfl) sz26 rfl rfl rfl H58 rfl ?_)
  intro w59 s60 H61
  have E62 := below_st E55 N14 s60
  have H63 := (s60.blk H56 (by omega))
  have H64 := (s60.blk H57 (by omega))
  refine ⟨.inr ⟨H63, H64⟩, ?_⟩
  refine aw_last 9 (.bool (decide (fits ((wz a3 a2 a1 a0) - (wz y3 y2 y1 y0))))) rfl (by kernel_rfl) .none (fun _ => dv_assign (T rfl rfl)) ?_
  refine aw_done (by kernel_rfl) ?_
  refine rk_ret Try.func33 (v := .tuple #[.agg #[.int .u64 (wv3 ((wz a3 a2 a1 a0) - (wz y3 y2 y1 y0))), .int .u64 (wv2 ((wz a3 a2 a1 a0) - (wz y3 y2 y1 y0))), .int .u64 (wv1 ((wz a3 a2 a1 a0) - (wz y3 y2 y1 y0))), .int .u64 (wv0 ((wz a3 a2 a1 a0) - (wz y3 y2 y1 y0)))], .bool (decide (fits ((wz a3 a2 a1 a0) - (wz y3 y2 y1 y0))))]) (res2 Try.results33 (rv_cells (l := [.int .u64 (wv3 ((wz a3 a2 a1 a0) - (wz y3 y2 y1 y0))), .int .u64 (wv2 ((wz a3 a2 a1 a0) - (wz y3 y2 y1 y0))), .int .u64 (wv1 ((wz a3 a2 a1 a0) - (wz y3 y2 y1 y0))), .int .u64 (wv0 ((wz a3 a2 a1 a0) - (wz y3 y2 y1 y0)))]) agt26 sz26 rfl rfl H61 rfl) (rv_tmp rfl rfl)) ⟨_, rfl, ?_⟩
  exact ⟨rfl, E62⟩

set_option maxHeartbeats 1000000 in
theorem iWideOf_ok {w : World} {x : Int} (hx : -9223372036854775808 ≤ x ∧ x ≤ 9223372036854775807) : Ct Try.prog 23 [.int .i64 x] w fun v w1 => v = .agg #[.int .u64 (wv3 x), .int .u64 (wv2 x), .int .u64 (wv1 x), .int .u64 (wv0 x)] ∧ Ext w w1 := by
  refine ct_run (n := 12) Try.func23 rfl Try.ntmps23 rfl ?_
  have E0 : Below w.heap.size w w := Below.refl _ _
  refine rk_seq ?_
  refine rk_reg ?_
  refine lw_e (oe_alloc ze26 ?_)
  intro b1 w2 n3
  have N4 : w.heap.size ≤ b1 := n3.eq ▸ E0.size
  have E5 := below_ext E0 E0.size n3.ext
  refine lw_nil ?_
  refine rk_seq ?_
  refine rk_reg ?_
  refine lw_v (.int .i64 x) (dv_move (T rfl rfl)) ?_
  refine lw_e (oe_callf (vs := [.int .i64 x]) co53 (ar1 (T rfl rfl)) (whole_ok  (by omega)) ?_)
  rintro _ w11 ⟨nr6, A7, n8, c9, rfl, e12, h10⟩
  have E13 := below_ext E5 E5.size e12
  have lh10 := Num.len (by decide) h10
  refine lw_e (oe_callf (vs := [.agg #[.bool nr6, .slice A7 n8 c9]]) co54 (ar1 (T rfl rfl)) (nwide_ok h10 (by first | decide | omega)) ?_)
  rintro _ w15 ⟨rfl, e16⟩
  have E17 := below_ext E13 E13.size e16
  have bw14 := w_rg (x)
  refine lw_v (.tuple #[.agg #[.int .u64 (wv3 x), .int .u64 (wv2 x), .int .u64 (wv1 x), .int .u64 (wv0 x)], .bool (decide (fits x))]) (dv_move (T rfl rfl)) ?_
  refine lw_v (.agg #[.int .u64 (wv3 x), .int .u64 (wv2 x), .int .u64 (wv1 x), .int .u64 (wv0 x)]) (dv_extract (vs := #[.agg #[.int .u64 (wv3 x), .int .u64 (wv2 x), .int .u64 (wv1 x), .int .u64 (wv0 x)], .bool (decide (fits x))]) (T rfl rfl) rfl) ?_
  refine lw_v (.bool (decide (fits x))) (dv_extract (vs := #[.agg #[.int .u64 (wv3 x), .int .u64 (wv2 x), .int .u64 (wv1 x), .int .u64 (wv0 x)], .bool (decide (fits x))]) (T rfl rfl) rfl) ?_
  refine lw_e (oe_alloc ze26 ?_)
  intro b18 w19 n20
  have N21 : w.heap.size ≤ b18 := n20.eq ▸ E17.size
  have H22 := (e16.blk (e12.blk n3.blk))
  have : b1 < b18 := n20.eq ▸ lt_of_blk H22
  have E23 := below_ext E17 E17.size n20.ext
  refine lw_e (oe_store (v := .agg #[.int .u64 (wv3 x), .int .u64 (wv2 x), .int .u64 (wv1 x), .int .u64 (wv0 x)]) (vs := [.int .u64 (wv3 x), .int .u64 (wv2 x), .int .u64 (wv1 x), .int .u64 (wv0 x)]) (l := [.int .u64 (wv3 x), .int .u64 (wv2 x), .int .u64 (wv1 x), .int .u64 (wv0 x)]) (T rfl rfl) (T rfl rfl) sz26 rfl rfl rfl n20.blk rfl ?_)
  intro w24 s25 H26
  have E27 := below_st E23 N21 s25
  refine lw_v (.bool (decide (fits x))) (dv_assign (T rfl rfl)) ?_
  refine lw_nil ?_
  refine rk_seq ?_
  refine rk_reg ?_
  refine lw_v (.agg #[.int .u64 (wv3 x), .int .u64 (wv2 x), .int .u64 (wv1 x), .int .u64 (wv0 x)]) (dv_loads (l := [.int .u64 (wv3 x), .int .u64 (wv2 x), .int .u64 (wv1 x), .int .u64 (wv0 x)]) agt26 sz26 (T rfl rfl) H26 rfl) ?_
  have H28 := (s25.blk (n20.ext.blk H22) (by omega))
  refine lw_e (oe_store (v := .agg #[.int .u64 (wv3 x), .int .u64 (wv2 x), .int .u64 (wv1 x), .int .u64 (wv0 x)]) (vs := [.int .u64 (wv3 x), .int .u64 (wv2 x), .int .u64 (wv1 x), .int .u64 (wv0 x)]) (l := [.int .u64 (wv3 x), .int .u64 (wv2 x), .int .u64 (wv1 x), .int .u64 (wv0 x)]) (T rfl rfl) (T rfl rfl) sz26 rfl rfl rfl H28 rfl ?_)
  intro w29 s30 H31
  have E32 := below_st E27 N4 s30
  refine lw_nil ?_
  refine rk_ret Try.func23 (v := .agg #[.int .u64 (wv3 x), .int .u64 (wv2 x), .int .u64 (wv1 x), .int .u64 (wv0 x)]) (res1 Try.results23 (rv_cells (l := [.int .u64 (wv3 x), .int .u64 (wv2 x), .int .u64 (wv1 x), .int .u64 (wv0 x)]) agt26 sz26 rfl rfl H31 rfl)) ⟨_, rfl, ?_⟩
  exact ⟨rfl, E32⟩

set_option maxHeartbeats 1000000 in
theorem iWideNeg_ok {w : World} {a3 a2 a1 a0 : Int} (h3 : 0 ≤ a3 ∧ a3 < 18446744073709551616) (h2 : 0 ≤ a2 ∧ a2 < 18446744073709551616) (h1 : 0 ≤ a1 ∧ a1 < 18446744073709551616) (h0 : 0 ≤ a0 ∧ a0 < 18446744073709551616) : Ct Try.prog 26 [.agg #[.int .u64 a3, .int .u64 a2, .int .u64 a1, .int .u64 a0]] w fun v w1 => v = .tuple #[.agg #[.int .u64 (wv3 (-(wz a3 a2 a1 a0))), .int .u64 (wv2 (-(wz a3 a2 a1 a0))), .int .u64 (wv1 (-(wz a3 a2 a1 a0))), .int .u64 (wv0 (-(wz a3 a2 a1 a0)))], .bool (decide (fits (-(wz a3 a2 a1 a0))))] ∧ Ext w w1 := by
  refine ct_run (n := 10) Try.func26 rfl Try.ntmps26 rfl ?_
  have E0 : Below w.heap.size w w := Below.refl _ _
  refine rk_seq ?_
  refine rk_reg ?_
  refine lw_e (oe_box (v := .agg #[.int .u64 a3, .int .u64 a2, .int .u64 a1, .int .u64 a0]) (cs := #[.int .u64 a3, .int .u64 a2, .int .u64 a1, .int .u64 a0]) (T rfl rfl) rfl ?_)
  intro b1 w2 n3
  have N4 : w.heap.size ≤ b1 := n3.eq ▸ E0.size
  have E5 := below_ext E0 E0.size n3.ext
  refine lw_e (oe_alloc ze26 ?_)
  intro b6 w7 n8
  have N9 : w.heap.size ≤ b6 := n8.eq ▸ E5.size
  have : b1 < b6 := n8.eq ▸ lt_of_blk n3.blk
  have E10 := below_ext E5 E5.size n8.ext
  refine lw_v (.bool false) (dv_assign C) ?_
  refine lw_nil ?_
  refine rk_seq ?_
  refine rk_reg ?_
  have H11 := (n8.ext.blk n3.blk)
  refine lw_v (.agg #[.int .u64 a3, .int .u64 a2, .int .u64 a1, .int .u64 a0]) (dv_loads (l := [.int .u64 a3, .int .u64 a2, .int .u64 a1, .int .u64 a0]) agt26 sz26 (T rfl rfl) H11 rfl) ?_
  refine lw_e (oe_callf (vs := [.agg #[.int .u64 a3, .int .u64 a2, .int .u64 a1, .int .u64 a0]]) co45 (ar1 (T rfl rfl)) (wnum_ok (by omega) (by omega) (by omega) (by omega)) ?_)
  rintro _ w17 ⟨nr12, A13, n14, c15, rfl, e18, h16⟩
  have E19 := below_ext E10 E10.size e18
  have lh16 := Num.len (by decide) h16
  refine lw_e (oe_callf (vs := [.agg #[.bool nr12, .slice A13 n14 c15]]) co56 (ar1 (T rfl rfl)) (minus_ok h16 (by first | decide | omega)) ?_)
  rintro _ w25 ⟨nr20, A21, n22, c23, rfl, e26, h24⟩
  have E27 := below_ext E19 E19.size e26
  have lh24 := Num.len (by decide) h24
  refine lw_e (oe_callf (vs := [.agg #[.bool nr20, .slice A21 n22 c23]]) co54 (ar1 (T rfl rfl)) (nwide_ok h24 (by first | decide | omega)) ?_)
  rintro _ w29 ⟨rfl, e30⟩
  have E31 := below_ext E27 E27.size e30
  have bw28 := w_rg (-(wz a3 a2 a1 a0))
  refine lw_v (.agg #[.int .u64 (wv3 (-(wz a3 a2 a1 a0))), .int .u64 (wv2 (-(wz a3 a2 a1 a0))), .int .u64 (wv1 (-(wz a3 a2 a1 a0))), .int .u64 (wv0 (-(wz a3 a2 a1 a0)))]) (dv_extract (vs := #[.agg #[.int .u64 (wv3 (-(wz a3 a2 a1 a0))), .int .u64 (wv2 (-(wz a3 a2 a1 a0))), .int .u64 (wv1 (-(wz a3 a2 a1 a0))), .int .u64 (wv0 (-(wz a3 a2 a1 a0)))], .bool (decide (fits (-(wz a3 a2 a1 a0))))]) (T rfl rfl) rfl) ?_
  refine lw_v (.bool (decide (fits (-(wz a3 a2 a1 a0))))) (dv_extract (vs := #[.agg #[.int .u64 (wv3 (-(wz a3 a2 a1 a0))), .int .u64 (wv2 (-(wz a3 a2 a1 a0))), .int .u64 (wv1 (-(wz a3 a2 a1 a0))), .int .u64 (wv0 (-(wz a3 a2 a1 a0)))], .bool (decide (fits (-(wz a3 a2 a1 a0))))]) (T rfl rfl) rfl) ?_
  have H32 := (e30.blk (e26.blk (e18.blk n8.blk)))
  refine lw_e (oe_store (v := .agg #[.int .u64 (wv3 (-(wz a3 a2 a1 a0))), .int .u64 (wv2 (-(wz a3 a2 a1 a0))), .int .u64 (wv1 (-(wz a3 a2 a1 a0))), .int .u64 (wv0 (-(wz a3 a2 a1 a0)))]) (vs := [.int .u64 (wv3 (-(wz a3 a2 a1 a0))), .int .u64 (wv2 (-(wz a3 a2 a1 a0))), .int .u64 (wv1 (-(wz a3 a2 a1 a0))), .int .u64 (wv0 (-(wz a3 a2 a1 a0)))]) (l := [.int .u64 (wv3 (-(wz a3 a2 a1 a0))), .int .u64 (wv2 (-(wz a3 a2 a1 a0))), .int .u64 (wv1 (-(wz a3 a2 a1 a0))), .int .u64 (wv0 (-(wz a3 a2 a1 a0)))]) (T rfl rfl) (T rfl rfl) sz26 rfl rfl rfl H32 rfl ?_)
  intro w33 s34 H35
  have E36 := below_st E31 N9 s34
  refine lw_v (.bool (decide (fits (-(wz a3 a2 a1 a0))))) (dv_assign (T rfl rfl)) ?_
  refine lw_nil ?_
  refine rk_ret Try.func26 (v := .tuple #[.agg #[.int .u64 (wv3 (-(wz a3 a2 a1 a0))), .int .u64 (wv2 (-(wz a3 a2 a1 a0))), .int .u64 (wv1 (-(wz a3 a2 a1 a0))), .int .u64 (wv0 (-(wz a3 a2 a1 a0)))], .bool (decide (fits (-(wz a3 a2 a1 a0))))]) (res2 Try.results26 (rv_cells (l := [.int .u64 (wv3 (-(wz a3 a2 a1 a0))), .int .u64 (wv2 (-(wz a3 a2 a1 a0))), .int .u64 (wv1 (-(wz a3 a2 a1 a0))), .int .u64 (wv0 (-(wz a3 a2 a1 a0)))]) agt26 sz26 rfl rfl H35 rfl) (rv_tmp rfl rfl)) ⟨_, rfl, ?_⟩
  exact ⟨rfl, E36⟩

set_option maxHeartbeats 1000000 in
theorem iWideAdd_ok {w : World} {a3 a2 a1 a0 y3 y2 y1 y0 : Int} (h3 : 0 ≤ a3 ∧ a3 < 18446744073709551616) (h2 : 0 ≤ a2 ∧ a2 < 18446744073709551616) (h1 : 0 ≤ a1 ∧ a1 < 18446744073709551616) (h0 : 0 ≤ a0 ∧ a0 < 18446744073709551616) (k3 : 0 ≤ y3 ∧ y3 < 18446744073709551616) (k2 : 0 ≤ y2 ∧ y2 < 18446744073709551616) (k1 : 0 ≤ y1 ∧ y1 < 18446744073709551616) (k0 : 0 ≤ y0 ∧ y0 < 18446744073709551616) : Ct Try.prog 32 [.agg #[.int .u64 a3, .int .u64 a2, .int .u64 a1, .int .u64 a0], .agg #[.int .u64 y3, .int .u64 y2, .int .u64 y1, .int .u64 y0]] w fun v w1 => v = .tuple #[.agg #[.int .u64 (wv3 ((wz a3 a2 a1 a0) + (wz y3 y2 y1 y0))), .int .u64 (wv2 ((wz a3 a2 a1 a0) + (wz y3 y2 y1 y0))), .int .u64 (wv1 ((wz a3 a2 a1 a0) + (wz y3 y2 y1 y0))), .int .u64 (wv0 ((wz a3 a2 a1 a0) + (wz y3 y2 y1 y0)))], .bool (decide (fits ((wz a3 a2 a1 a0) + (wz y3 y2 y1 y0))))] ∧ Ext w w1 := by
  refine ct_run (n := 14) Try.func32 rfl Try.ntmps32 rfl ?_
  have E0 : Below w.heap.size w w := Below.refl _ _
  refine rk_seq ?_
  refine rk_reg ?_
  refine lw_e (oe_box (v := .agg #[.int .u64 a3, .int .u64 a2, .int .u64 a1, .int .u64 a0]) (cs := #[.int .u64 a3, .int .u64 a2, .int .u64 a1, .int .u64 a0]) (T rfl rfl) rfl ?_)
  intro b1 w2 n3
  have N4 : w.heap.size ≤ b1 := n3.eq ▸ E0.size
  have E5 := below_ext E0 E0.size n3.ext
  refine lw_e (oe_box (v := .agg #[.int .u64 y3, .int .u64 y2, .int .u64 y1, .int .u64 y0]) (cs := #[.int .u64 y3, .int .u64 y2, .int .u64 y1, .int .u64 y0]) (T rfl rfl) rfl ?_)
  intro b6 w7 n8
  have N9 : w.heap.size ≤ b6 := n8.eq ▸ E5.size
  have : b1 < b6 := n8.eq ▸ lt_of_blk n3.blk
  have E10 := below_ext E5 E5.size n8.ext
  refine lw_e (oe_alloc ze26 ?_)
  intro b11 w12 n13
  have N14 : w.heap.size ≤ b11 := n13.eq ▸ E10.size
  have : b6 < b11 := n13.eq ▸ lt_of_blk n8.blk
  have E15 := below_ext E10 E10.size n13.ext
  refine lw_v (.bool false) (dv_assign C) ?_
  refine lw_nil ?_
  refine rk_seq ?_
  refine rk_any (fun w => w.heap[b1]? = some (.cells #[.int .u64 a3, .int .u64 a2, .int .u64 a1, .int .u64 a0] 26) ∧ w.heap[b6]? = some (.cells #[.int .u64 y3, .int .u64 y2, .int .u64 y1, .int .u64 y0] 26)) [9] mo ?_
  intro w16 d17
  have E18 := below_ext E15 E15.size d17.ext
  have H19 := (d17.ext.blk (n13.ext.blk (n8.ext.blk n3.blk)))
  have H20 := (d17.ext.blk (n13.ext.blk n8.blk))
  refine aw_load 0 (.agg #[.int .u64 a3, .int .u64 a2, .int .u64 a1, .int .u64 a0]) rfl (by kernel_rfl) .none ⟨H19, H20⟩ (fun _ s => dv_loads (l := [.int .u64 a3, .int .u64 a2, .int .u64 a1, .int .u64 a0]) agt26 sz26 (T rfl rfl) s.1 rfl) ?_
  refine aw_load 2 (.agg #[.int .u64 y3, .int .u64 y2, .int .u64 y1, .int .u64 y0]) rfl (by kernel_rfl) .none ⟨H19, H20⟩ (fun _ s => dv_loads (l := [.int .u64 y3, .int .u64 y2, .int .u64 y1, .int .u64 y0]) agt26 sz26 (T rfl rfl) s.2 rfl) ?_
  refine aw_one 1 rfl (by kernel_rfl) .none (oe_callf (vs := [.agg #[.int .u64 a3, .int .u64 a2, .int .u64 a1, .int .u64 a0]]) co45 (ar1 (T rfl rfl)) (wnum_ok (by omega) (by omega) (by omega) (by omega)) ?_)
  rintro _ w26 ⟨nr21, A22, n23, c24, rfl, e27, h25⟩
  have E28 := below_ext E18 E18.size e27
  have lh25 := Num.len (by decide) h25
  have H29 := (e27.blk H19)
  have H30 := (e27.blk H20)
  refine ⟨.inr ⟨H29, H30⟩, ?_⟩
  refine aw_one 3 rfl (by kernel_rfl) .none (oe_callf (vs := [.agg #[.int .u64 y3, .int .u64 y2, .int .u64 y1, .int .u64 y0]]) co45 (ar1 (T rfl rfl)) (wnum_ok (by omega) (by omega) (by omega) (by omega)) ?_)
  rintro _ w36 ⟨nr31, A32, n33, c34, rfl, e37, h35⟩
  have E38 := below_ext E28 E28.size e37
  have lh35 := Num.len (by decide) h35
  have H39 := (e37.blk H29)
  have H40 := (e37.blk H30)
  refine ⟨.inr ⟨H39, H40⟩, ?_⟩
  have h41 := (h25.ext e37)
  refine aw_one 4 rfl (by kernel_rfl) .none (oe_callf (vs := [.agg #[.bool nr21, .slice A22 n23 c24], .agg #[.bool nr31, .slice A32 n33 c34]]) co60 (ar2 (T rfl rfl) (T rfl rfl)) (plus_ok h41 h35 (by first | decide | omega) (by first | decide | omega)) ?_)
  rintro _ w47 ⟨nr42, A43, n44, c45, rfl, e48, h46⟩
  have E49 := below_ext E38 E38.size e48
  have lh46 := Num.len (by decide) h46
  have H50 := (e48.blk H39)
  have H51 := (e48.blk H40)
  refine ⟨.inr ⟨H50, H51⟩, ?_⟩
  refine aw_one 5 rfl (by kernel_rfl) .none (oe_callf (vs := [.agg #[.bool nr42, .slice A43 n44 c45]]) co54 (ar1 (T rfl rfl)) (nwide_ok h46 (by first | decide | omega)) ?_)
  rintro _ w53 ⟨rfl, e54⟩
  have E55 := below_ext E49 E49.size e54
  have bw52 := w_rg ((wz a3 a2 a1 a0) + (wz y3 y2 y1 y0))
  have H56 := (e54.blk H50)
  have H57 := (e54.blk H51)
  refine ⟨.inr ⟨H56, H57⟩, ?_⟩
  refine aw_pure 6 (.agg #[.int .u64 (wv3 ((wz a3 a2 a1 a0) + (wz y3 y2 y1 y0))), .int .u64 (wv2 ((wz a3 a2 a1 a0) + (wz y3 y2 y1 y0))), .int .u64 (wv1 ((wz a3 a2 a1 a0) + (wz y3 y2 y1 y0))), .int .u64 (wv0 ((wz a3 a2 a1 a0) + (wz y3 y2 y1 y0)))]) rfl (by kernel_rfl) .none ⟨H56, H57⟩ (fun _ => dv_extract (vs := #[.agg #[.int .u64 (wv3 ((wz a3 a2 a1 a0) + (wz y3 y2 y1 y0))), .int .u64 (wv2 ((wz a3 a2 a1 a0) + (wz y3 y2 y1 y0))), .int .u64 (wv1 ((wz a3 a2 a1 a0) + (wz y3 y2 y1 y0))), .int .u64 (wv0 ((wz a3 a2 a1 a0) + (wz y3 y2 y1 y0)))], .bool (decide (fits ((wz a3 a2 a1 a0) + (wz y3 y2 y1 y0))))]) (T rfl rfl) rfl) ?_
  refine aw_pure 7 (.bool (decide (fits ((wz a3 a2 a1 a0) + (wz y3 y2 y1 y0))))) rfl (by kernel_rfl) .none ⟨H56, H57⟩ (fun _ => dv_extract (vs := #[.agg #[.int .u64 (wv3 ((wz a3 a2 a1 a0) + (wz y3 y2 y1 y0))), .int .u64 (wv2 ((wz a3 a2 a1 a0) + (wz y3 y2 y1 y0))), .int .u64 (wv1 ((wz a3 a2 a1 a0) + (wz y3 y2 y1 y0))), .int .u64 (wv0 ((wz a3 a2 a1 a0) + (wz y3 y2 y1 y0)))], .bool (decide (fits ((wz a3 a2 a1 a0) + (wz y3 y2 y1 y0))))]) (T rfl rfl) rfl) ?_
  have H58 := (e54.blk (e48.blk (e37.blk (e27.blk (d17.ext.blk n13.blk)))))
  refine aw_one 8 rfl (by kernel_rfl) .none (oe_store (v := .agg #[.int .u64 (wv3 ((wz a3 a2 a1 a0) + (wz y3 y2 y1 y0))), .int .u64 (wv2 ((wz a3 a2 a1 a0) + (wz y3 y2 y1 y0))), .int .u64 (wv1 ((wz a3 a2 a1 a0) + (wz y3 y2 y1 y0))), .int .u64 (wv0 ((wz a3 a2 a1 a0) + (wz y3 y2 y1 y0)))]) (vs := [.int .u64 (wv3 ((wz a3 a2 a1 a0) + (wz y3 y2 y1 y0))), .int .u64 (wv2 ((wz a3 a2 a1 a0) + (wz y3 y2 y1 y0))), .int .u64 (wv1 ((wz a3 a2 a1 a0) + (wz y3 y2 y1 y0))), .int .u64 (wv0 ((wz a3 a2 a1 a0) + (wz y3 y2 y1 y0)))]) (l := [.int .u64 (wv3 ((wz a3 a2 a1 a0) + (wz y3 y2 y1 y0))), .int .u64 (wv2 ((wz a3 a2 a1 a0) + (wz y3 y2 y1 y0))), .int .u64 (wv1 ((wz a3 a2 a1 a0) + (wz y3 y2 y1 y0))), .int .u64 (wv0 ((wz a3 a2 a1 a0) + (wz y3 y2 y1 y0)))]) (T rfl rfl) (T rfl rfl) sz26 rfl rfl rfl H58 rfl ?_)
  intro w59 s60 H61
  have E62 := below_st E55 N14 s60
  have H63 := (s60.blk H56 (by omega))
  have H64 := (s60.blk H57 (by omega))
  refine ⟨.inr ⟨H63, H64⟩, ?_⟩
  refine aw_last 9 (.bool (decide (fits ((wz a3 a2 a1 a0) + (wz y3 y2 y1 y0))))) rfl (by kernel_rfl) .none (fun _ => dv_assign (T rfl rfl)) ?_
  refine aw_done (by kernel_rfl) ?_
  refine rk_ret Try.func32 (v := .tuple #[.agg #[.int .u64 (wv3 ((wz a3 a2 a1 a0) + (wz y3 y2 y1 y0))), .int .u64 (wv2 ((wz a3 a2 a1 a0) + (wz y3 y2 y1 y0))), .int .u64 (wv1 ((wz a3 a2 a1 a0) + (wz y3 y2 y1 y0))), .int .u64 (wv0 ((wz a3 a2 a1 a0) + (wz y3 y2 y1 y0)))], .bool (decide (fits ((wz a3 a2 a1 a0) + (wz y3 y2 y1 y0))))]) (res2 Try.results32 (rv_cells (l := [.int .u64 (wv3 ((wz a3 a2 a1 a0) + (wz y3 y2 y1 y0))), .int .u64 (wv2 ((wz a3 a2 a1 a0) + (wz y3 y2 y1 y0))), .int .u64 (wv1 ((wz a3 a2 a1 a0) + (wz y3 y2 y1 y0))), .int .u64 (wv0 ((wz a3 a2 a1 a0) + (wz y3 y2 y1 y0)))]) agt26 sz26 rfl rfl H61 rfl) (rv_tmp rfl rfl)) ⟨_, rfl, ?_⟩
  exact ⟨rfl, E62⟩

set_option maxHeartbeats 1000000 in
theorem iWideSub_ok {w : World} {a3 a2 a1 a0 y3 y2 y1 y0 : Int} (h3 : 0 ≤ a3 ∧ a3 < 18446744073709551616) (h2 : 0 ≤ a2 ∧ a2 < 18446744073709551616) (h1 : 0 ≤ a1 ∧ a1 < 18446744073709551616) (h0 : 0 ≤ a0 ∧ a0 < 18446744073709551616) (k3 : 0 ≤ y3 ∧ y3 < 18446744073709551616) (k2 : 0 ≤ y2 ∧ y2 < 18446744073709551616) (k1 : 0 ≤ y1 ∧ y1 < 18446744073709551616) (k0 : 0 ≤ y0 ∧ y0 < 18446744073709551616) : Ct Try.prog 34 [.agg #[.int .u64 a3, .int .u64 a2, .int .u64 a1, .int .u64 a0], .agg #[.int .u64 y3, .int .u64 y2, .int .u64 y1, .int .u64 y0]] w fun v w1 => v = .tuple #[.agg #[.int .u64 (wv3 ((wz a3 a2 a1 a0) - (wz y3 y2 y1 y0))), .int .u64 (wv2 ((wz a3 a2 a1 a0) - (wz y3 y2 y1 y0))), .int .u64 (wv1 ((wz a3 a2 a1 a0) - (wz y3 y2 y1 y0))), .int .u64 (wv0 ((wz a3 a2 a1 a0) - (wz y3 y2 y1 y0)))], .bool (decide (fits ((wz a3 a2 a1 a0) - (wz y3 y2 y1 y0))))] ∧ Ext w w1 := by
  refine ct_run (n := 14) Try.func34 rfl Try.ntmps34 rfl ?_
  have E0 : Below w.heap.size w w := Below.refl _ _
  refine rk_seq ?_
  refine rk_reg ?_
  refine lw_e (oe_box (v := .agg #[.int .u64 a3, .int .u64 a2, .int .u64 a1, .int .u64 a0]) (cs := #[.int .u64 a3, .int .u64 a2, .int .u64 a1, .int .u64 a0]) (T rfl rfl) rfl ?_)
  intro b1 w2 n3
  have N4 : w.heap.size ≤ b1 := n3.eq ▸ E0.size
  have E5 := below_ext E0 E0.size n3.ext
  refine lw_e (oe_box (v := .agg #[.int .u64 y3, .int .u64 y2, .int .u64 y1, .int .u64 y0]) (cs := #[.int .u64 y3, .int .u64 y2, .int .u64 y1, .int .u64 y0]) (T rfl rfl) rfl ?_)
  intro b6 w7 n8
  have N9 : w.heap.size ≤ b6 := n8.eq ▸ E5.size
  have : b1 < b6 := n8.eq ▸ lt_of_blk n3.blk
  have E10 := below_ext E5 E5.size n8.ext
  refine lw_e (oe_alloc ze26 ?_)
  intro b11 w12 n13
  have N14 : w.heap.size ≤ b11 := n13.eq ▸ E10.size
  have : b6 < b11 := n13.eq ▸ lt_of_blk n8.blk
  have E15 := below_ext E10 E10.size n13.ext
  refine lw_v (.bool false) (dv_assign C) ?_
  refine lw_nil ?_
  refine rk_seq ?_
  refine rk_any (fun w => w.heap[b1]? = some (.cells #[.int .u64 a3, .int .u64 a2, .int .u64 a1, .int .u64 a0] 26) ∧ w.heap[b6]? = some (.cells #[.int .u64 y3, .int .u64 y2, .int .u64 y1, .int .u64 y0] 26)) [9] mo ?_
  intro w16 d17
  have E18 := below_ext E15 E15.size d17.ext
  have H19 := (d17.ext.blk (n13.ext.blk (n8.ext.blk n3.blk)))
  have H20 := (d17.ext.blk (n13.ext.blk n8.blk))
  refine aw_load 0 (.agg #[.int .u64 a3, .int .u64 a2, .int .u64 a1, .int .u64 a0]) rfl (by kernel_rfl) .none ⟨H19, H20⟩ (fun _ s => dv_loads (l := [.int .u64 a3, .int .u64 a2, .int .u64 a1, .int .u64 a0]) agt26 sz26 (T rfl rfl) s.1 rfl) ?_
  refine aw_load 2 (.agg #[.int .u64 y3, .int .u64 y2, .int .u64 y1, .int .u64 y0]) rfl (by kernel_rfl) .none ⟨H19, H20⟩ (fun _ s => dv_loads (l := [.int .u64 y3, .int .u64 y2, .int .u64 y1, .int .u64 y0]) agt26 sz26 (T rfl rfl) s.2 rfl) ?_
  refine aw_one 1 rfl (by kernel_rfl) .none (oe_callf (vs := [.agg #[.int .u64 a3, .int .u64 a2, .int .u64 a1, .int .u64 a0]]) co45 (ar1 (T rfl rfl)) (wnum_ok (by omega) (by omega) (by omega) (by omega)) ?_)
  rintro _ w26 ⟨nr21, A22, n23, c24, rfl, e27, h25⟩
  have E28 := below_ext E18 E18.size e27
  have lh25 := Num.len (by decide) h25
  have H29 := (e27.blk H19)
  have H30 := (e27.blk H20)
  refine ⟨.inr ⟨H29, H30⟩, ?_⟩
  refine aw_one 3 rfl (by kernel_rfl) .none (oe_callf (vs := [.agg #[.int .u64 y3, .int .u64 y2, .int .u64 y1, .int .u64 y0]]) co45 (ar1 (T rfl rfl)) (wnum_ok (by omega) (by omega) (by omega) (by omega)) ?_)
  rintro _ w36 ⟨nr31, A32, n33, c34, rfl, e37, h35⟩
  have E38 := below_ext E28 E28.size e37
  have lh35 := Num.len (by decide) h35
  have H39 := (e37.blk H29)
  have H40 := (e37.blk H30)
  refine ⟨.inr ⟨H39, H40⟩, ?_⟩
  have h41 := (h25.ext e37)
  refine aw_one 4 rfl (by kernel_rfl) .none (oe_callf (vs := [.agg #[.bool nr21, .slice A22 n23 c24], .agg #[.bool nr31, .slice A32 n33 c34]]) co62 (ar2 (T rfl rfl) (T rfl rfl)) (less_ok h41 h35 (by first | decide | omega) (by first | decide | omega)) ?_)
  rintro _ w47 ⟨nr42, A43, n44, c45, rfl, e48, h46⟩
  have E49 := below_ext E38 E38.size e48
  have lh46 := Num.len (by decide) h46
  have H50 := (e48.blk H39)
  have H51 := (e48.blk H40)
  refine ⟨.inr ⟨H50, H51⟩, ?_⟩
  refine aw_one 5 rfl (by kernel_rfl) .none (oe_callf (vs := [.agg #[.bool nr42, .slice A43 n44 c45]]) co54 (ar1 (T rfl rfl)) (nwide_ok h46 (by first | decide | omega)) ?_)
  rintro _ w53 ⟨rfl, e54⟩
  have E55 := below_ext E49 E49.size e54
  have bw52 := w_rg ((wz a3 a2 a1 a0) - (wz y3 y2 y1 y0))
  have H56 := (e54.blk H50)
  have H57 := (e54.blk H51)
  refine ⟨.inr ⟨H56, H57⟩, ?_⟩
  refine aw_pure 6 (.agg #[.int .u64 (wv3 ((wz a3 a2 a1 a0) - (wz y3 y2 y1 y0))), .int .u64 (wv2 ((wz a3 a2 a1 a0) - (wz y3 y2 y1 y0))), .int .u64 (wv1 ((wz a3 a2 a1 a0) - (wz y3 y2 y1 y0))), .int .u64 (wv0 ((wz a3 a2 a1 a0) - (wz y3 y2 y1 y0)))]) rfl (by kernel_rfl) .none ⟨H56, H57⟩ (fun _ => dv_extract (vs := #[.agg #[.int .u64 (wv3 ((wz a3 a2 a1 a0) - (wz y3 y2 y1 y0))), .int .u64 (wv2 ((wz a3 a2 a1 a0) - (wz y3 y2 y1 y0))), .int .u64 (wv1 ((wz a3 a2 a1 a0) - (wz y3 y2 y1 y0))), .int .u64 (wv0 ((wz a3 a2 a1 a0) - (wz y3 y2 y1 y0)))], .bool (decide (fits ((wz a3 a2 a1 a0) - (wz y3 y2 y1 y0))))]) (T rfl rfl) rfl) ?_
  refine aw_pure 7 (.bool (decide (fits ((wz a3 a2 a1 a0) - (wz y3 y2 y1 y0))))) rfl (by kernel_rfl) .none ⟨H56, H57⟩ (fun _ => dv_extract (vs := #[.agg #[.int .u64 (wv3 ((wz a3 a2 a1 a0) - (wz y3 y2 y1 y0))), .int .u64 (wv2 ((wz a3 a2 a1 a0) - (wz y3 y2 y1 y0))), .int .u64 (wv1 ((wz a3 a2 a1 a0) - (wz y3 y2 y1 y0))), .int .u64 (wv0 ((wz a3 a2 a1 a0) - (wz y3 y2 y1 y0)))], .bool (decide (fits ((wz a3 a2 a1 a0) - (wz y3 y2 y1 y0))))]) (T rfl rfl) rfl) ?_
  have H58 := (e54.blk (e48.blk (e37.blk (e27.blk (d17.ext.blk n13.blk)))))
  refine aw_one 8 rfl (by kernel_rfl) .none (oe_store (v := .agg #[.int .u64 (wv3 ((wz a3 a2 a1 a0) - (wz y3 y2 y1 y0))), .int .u64 (wv2 ((wz a3 a2 a1 a0) - (wz y3 y2 y1 y0))), .int .u64 (wv1 ((wz a3 a2 a1 a0) - (wz y3 y2 y1 y0))), .int .u64 (wv0 ((wz a3 a2 a1 a0) - (wz y3 y2 y1 y0)))]) (vs := [.int .u64 (wv3 ((wz a3 a2 a1 a0) - (wz y3 y2 y1 y0))), .int .u64 (wv2 ((wz a3 a2 a1 a0) - (wz y3 y2 y1 y0))), .int .u64 (wv1 ((wz a3 a2 a1 a0) - (wz y3 y2 y1 y0))), .int .u64 (wv0 ((wz a3 a2 a1 a0) - (wz y3 y2 y1 y0)))]) (l := [.int .u64 (wv3 ((wz a3 a2 a1 a0) - (wz y3 y2 y1 y0))), .int .u64 (wv2 ((wz a3 a2 a1 a0) - (wz y3 y2 y1 y0))), .int .u64 (wv1 ((wz a3 a2 a1 a0) - (wz y3 y2 y1 y0))), .int .u64 (wv0 ((wz a3 a2 a1 a0) - (wz y3 y2 y1 y0)))]) (T rfl rfl) (T rfl rfl) sz26 rfl rfl rfl H58 rfl ?_)
  intro w59 s60 H61
  have E62 := below_st E55 N14 s60
  have H63 := (s60.blk H56 (by omega))
  have H64 := (s60.blk H57 (by omega))
  refine ⟨.inr ⟨H63, H64⟩, ?_⟩
  refine aw_last 9 (.bool (decide (fits ((wz a3 a2 a1 a0) - (wz y3 y2 y1 y0))))) rfl (by kernel_rfl) .none (fun _ => dv_assign (T rfl rfl)) ?_
  refine aw_done (by kernel_rfl) ?_
  refine rk_ret Try.func34 (v := .tuple #[.agg #[.int .u64 (wv3 ((wz a3 a2 a1 a0) - (wz y3 y2 y1 y0))), .int .u64 (wv2 ((wz a3 a2 a1 a0) - (wz y3 y2 y1 y0))), .int .u64 (wv1 ((wz a3 a2 a1 a0) - (wz y3 y2 y1 y0))), .int .u64 (wv0 ((wz a3 a2 a1 a0) - (wz y3 y2 y1 y0)))], .bool (decide (fits ((wz a3 a2 a1 a0) - (wz y3 y2 y1 y0))))]) (res2 Try.results34 (rv_cells (l := [.int .u64 (wv3 ((wz a3 a2 a1 a0) - (wz y3 y2 y1 y0))), .int .u64 (wv2 ((wz a3 a2 a1 a0) - (wz y3 y2 y1 y0))), .int .u64 (wv1 ((wz a3 a2 a1 a0) - (wz y3 y2 y1 y0))), .int .u64 (wv0 ((wz a3 a2 a1 a0) - (wz y3 y2 y1 y0)))]) agt26 sz26 rfl rfl H61 rfl) (rv_tmp rfl rfl)) ⟨_, rfl, ?_⟩
  exact ⟨rfl, E62⟩

end Go.Proofs.Ytjahakhbdjadaaa.W
