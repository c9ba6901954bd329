/- Wk22: walks, written by a program of this session. -/
import Derived.Test.YtpnjkjahfklfnaaWk21
set_option linter.unusedVariables false
set_option linter.unusedSimpArgs false
namespace Go.Proofs.Ytpnjkjahfklfnaa.W
open Go Go.RowKit Go.Proofs.Ytpnjkjahfklfnaa.Fw
attribute [local irreducible] RunK LW AW DV OE Ct
theorem co49 : callOk Try.prog 49 = true := by kernel_rfl
set_option maxHeartbeats 1000000 in
theorem eqRatio_ok {w : World} {x y p q : Int} (fx_ : fits x) (fy_ : fits y) (fp_ : fits p) (fq_ : fits q)  : Ct Try.prog 18 [.agg #[.int .u64 (wv3 x), .int .u64 (wv2 x), .int .u64 (wv1 x), .int .u64 (wv0 x), .int .u64 (wv3 y), .int .u64 (wv2 y), .int .u64 (wv1 y), .int .u64 (wv0 y)], .agg #[.int .u64 (wv3 p), .int .u64 (wv2 p), .int .u64 (wv1 p), .int .u64 (wv0 p), .int .u64 (wv3 q), .int .u64 (wv2 q), .int .u64 (wv1 q), .int .u64 (wv0 q)]] w fun v w1 => v = .bool (decide (x = p ∧ y = q)) ∧ Ext w w1 := by
  refine ct_run (n := 17) Try.func18 rfl Try.ntmps18 rfl ?_
  have E0 : Below w.heap.size w w := Below.refl _ _
  refine rk_seq ?_
  refine rk_reg ?_
  refine lw_e (oe_box (v := .agg #[.int .u64 (wv3 x), .int .u64 (wv2 x), .int .u64 (wv1 x), .int .u64 (wv0 x), .int .u64 (wv3 y), .int .u64 (wv2 y), .int .u64 (wv1 y), .int .u64 (wv0 y)]) (cs := #[.int .u64 (wv3 x), .int .u64 (wv2 x), .int .u64 (wv1 x), .int .u64 (wv0 x), .int .u64 (wv3 y), .int .u64 (wv2 y), .int .u64 (wv1 y), .int .u64 (wv0 y)]) (T rfl rfl) rfl ?_)
  intro b1 w2 n3
  have N4 : w.heap.size ≤ b1 := n3.eq ▸ E0.size
  have E5 := below_ext E0 E0.size n3.ext
  refine lw_e (oe_box (v := .agg #[.int .u64 (wv3 p), .int .u64 (wv2 p), .int .u64 (wv1 p), .int .u64 (wv0 p), .int .u64 (wv3 q), .int .u64 (wv2 q), .int .u64 (wv1 q), .int .u64 (wv0 q)]) (cs := #[.int .u64 (wv3 p), .int .u64 (wv2 p), .int .u64 (wv1 p), .int .u64 (wv0 p), .int .u64 (wv3 q), .int .u64 (wv2 q), .int .u64 (wv1 q), .int .u64 (wv0 q)]) (T rfl rfl) rfl ?_)
  intro b6 w7 n8
  have N9 : w.heap.size ≤ b6 := n8.eq ▸ E5.size
  have : b1 < b6 := n8.eq ▸ lt_of_blk n3.blk
  have E10 := below_ext E5 E5.size n8.ext
  refine lw_v (.bool false) (dv_assign C) ?_
  refine lw_nil ?_
  refine rk_seq ?_
  refine rk_seq ?_
  refine rk_reg ?_
  refine lw_v (.pointer (some ⟨b1, 0, none⟩)) (dv_fieldAddr (a := ⟨b1, 0, none⟩) (a' := ⟨b1, 0, none⟩) fo27_0 (T rfl rfl) rfl) ?_
  have H11 := (n8.ext.blk n3.blk)
  refine lw_v (.agg #[.int .u64 (wv3 x), .int .u64 (wv2 x), .int .u64 (wv1 x), .int .u64 (wv0 x)]) (dv_loads (l := [.int .u64 (wv3 x), .int .u64 (wv2 x), .int .u64 (wv1 x), .int .u64 (wv0 x)]) agt25 sz25 (T rfl rfl) H11 rfl) ?_
  refine lw_v (.pointer (some ⟨b6, 0, none⟩)) (dv_fieldAddr (a := ⟨b6, 0, none⟩) (a' := ⟨b6, 0, none⟩) fo27_0 (T rfl rfl) rfl) ?_
  refine lw_v (.agg #[.int .u64 (wv3 p), .int .u64 (wv2 p), .int .u64 (wv1 p), .int .u64 (wv0 p)]) (dv_loads (l := [.int .u64 (wv3 p), .int .u64 (wv2 p), .int .u64 (wv1 p), .int .u64 (wv0 p)]) agt25 sz25 (T rfl rfl) n8.blk rfl) ?_
  refine lw_e (oe_callf (vs := [.agg #[.int .u64 (wv3 x), .int .u64 (wv2 x), .int .u64 (wv1 x), .int .u64 (wv0 x)], .agg #[.int .u64 (wv3 p), .int .u64 (wv2 p), .int .u64 (wv1 p), .int .u64 (wv0 p)]]) co49 (ar2 (T rfl rfl) (T rfl rfl)) (eqWide_ok (x := x) (y := p) fx_ fp_ ) ?_)
  rintro _ w12 ⟨rfl, e13⟩
  have E14 := below_ext E10 E10.size e13
  refine lw_v (.bool (decide (¬ (x = p)))) (dv_notd (p := x = p) (T rfl rfl)) ?_
  refine lw_nil ?_
  by_cases hb15 : x = p
  · -- T
    refine rk_cf (T rfl (congrArg Value.bool (decide_eq_false (not_not_intro hb15)))) ?_
    refine rk_skip ?_
    refine rk_seq ?_
    refine rk_seq ?_
    refine rk_reg ?_
    refine lw_v (.pointer (some ⟨b1, 4, none⟩)) (dv_fieldAddr (a := ⟨b1, 0, none⟩) (a' := ⟨b1, 4, none⟩) fo27_1 (T rfl rfl) rfl) ?_
    have H16 := (e13.blk H11)
    refine lw_v (.agg #[.int .u64 (wv3 y), .int .u64 (wv2 y), .int .u64 (wv1 y), .int .u64 (wv0 y)]) (dv_loads (l := [.int .u64 (wv3 y), .int .u64 (wv2 y), .int .u64 (wv1 y), .int .u64 (wv0 y)]) agt25 sz25 (T rfl rfl) H16 rfl) ?_
    refine lw_v (.pointer (some ⟨b6, 4, none⟩)) (dv_fieldAddr (a := ⟨b6, 0, none⟩) (a' := ⟨b6, 4, none⟩) fo27_1 (T rfl rfl) rfl) ?_
    have H17 := (e13.blk n8.blk)
    refine lw_v (.agg #[.int .u64 (wv3 q), .int .u64 (wv2 q), .int .u64 (wv1 q), .int .u64 (wv0 q)]) (dv_loads (l := [.int .u64 (wv3 q), .int .u64 (wv2 q), .int .u64 (wv1 q), .int .u64 (wv0 q)]) agt25 sz25 (T rfl rfl) H17 rfl) ?_
    refine lw_e (oe_callf (vs := [.agg #[.int .u64 (wv3 y), .int .u64 (wv2 y), .int .u64 (wv1 y), .int .u64 (wv0 y)], .agg #[.int .u64 (wv3 q), .int .u64 (wv2 q), .int .u64 (wv1 q), .int .u64 (wv0 q)]]) co49 (ar2 (T rfl rfl) (T rfl rfl)) (eqWide_ok (x := y) (y := q) fy_ fq_ ) ?_)
    rintro _ w18 ⟨rfl, e19⟩
    have E20 := below_ext E14 E14.size e19
    refine lw_v (.bool (decide (¬ (y = q)))) (dv_notd (p := y = q) (T rfl rfl)) ?_
    refine lw_nil ?_
    by_cases hb21 : y = q
    · -- TT
      refine rk_cf (T rfl (congrArg Value.bool (decide_eq_false (not_not_intro hb21)))) ?_
      refine rk_skip ?_
      refine rk_seq ?_
      refine rk_reg ?_
      refine lw_v (.bool true) (dv_assign C) ?_
      refine lw_nil ?_
      refine rk_ret Try.func18 (v := .bool true) (res1 Try.results18 (rv_tmp rfl rfl)) ⟨_, rfl, ?_⟩
      exact ⟨(vt (by omega)), E20⟩
    · -- TF
      refine rk_ct (T rfl (congrArg Value.bool (decide_eq_true hb21))) ?_
      refine rk_seq ?_
      refine rk_reg ?_
      refine lw_v (.bool false) (dv_assign C) ?_
      refine lw_nil ?_
      refine rk_ret Try.func18 (v := .bool false) (res1 Try.results18 (rv_tmp rfl rfl)) ⟨_, rfl, ?_⟩
      exact ⟨(vf (by omega)), E20⟩
  · -- F
    refine rk_ct (T rfl (congrArg Value.bool (decide_eq_true hb15))) ?_
    refine rk_seq ?_
    refine rk_reg ?_
    refine lw_v (.bool false) (dv_assign C) ?_
    refine lw_nil ?_
    refine rk_ret Try.func18 (v := .bool false) (res1 Try.results18 (rv_tmp rfl rfl)) ⟨_, rfl, ?_⟩
    exact ⟨(vf (by omega)), E14⟩

end Go.Proofs.Ytpnjkjahfklfnaa.W
