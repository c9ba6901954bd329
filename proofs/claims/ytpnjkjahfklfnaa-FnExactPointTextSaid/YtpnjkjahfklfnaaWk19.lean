/- Wk19: walks, written by a program of this session. -/
import Derived.Test.YtpnjkjahfklfnaaWk18
import Derived.Test.YtpnjkjahfklfnaaWk8
set_option linter.unusedVariables false
set_option linter.unusedSimpArgs false
namespace Go.Proofs.Ytpnjkjahfklfnaa.W
open Go Go.RowKit Go.Proofs.Ytpnjkjahfklfnaa.Fw
attribute [local irreducible] RunK LW AW DV OE Ct
theorem fo24_0 : fieldOffB Try.prog 24 0 = some 0 := by kernel_rfl
theorem fo24_1 : fieldOffB Try.prog 24 1 = some 1 := by kernel_rfl
theorem fo24_2 : fieldOffB Try.prog 24 2 = some 2 := by kernel_rfl
theorem fo24_3 : fieldOffB Try.prog 24 3 = some 3 := by kernel_rfl
set_option maxHeartbeats 1000000 in
theorem toWide_ok {w : World} {z : Int}   : Ct Try.prog 16 [.agg #[.int .u64 (wv3 z), .int .u64 (wv2 z), .int .u64 (wv1 z), .int .u64 (wv0 z)]] w fun v w1 => v = .agg #[.int .u64 (wv3 z), .int .u64 (wv2 z), .int .u64 (wv1 z), .int .u64 (wv0 z)] ∧ Ext w w1 := by
  refine ct_run (n := 17) Try.func16 rfl Try.ntmps16 rfl ?_
  have E0 : Below w.heap.size w w := Below.refl _ _
  refine rk_seq ?_
  refine rk_reg ?_
  refine lw_e (oe_box (v := .agg #[.int .u64 (wv3 z), .int .u64 (wv2 z), .int .u64 (wv1 z), .int .u64 (wv0 z)]) (cs := #[.int .u64 (wv3 z), .int .u64 (wv2 z), .int .u64 (wv1 z), .int .u64 (wv0 z)]) (T rfl rfl) rfl ?_)
  intro b1 w2 n3
  have N4 : w.heap.size ≤ b1 := n3.eq ▸ E0.size
  have E5 := below_ext E0 E0.size n3.ext
  refine lw_e (oe_alloc ze25 ?_)
  intro b6 w7 n8
  have N9 : w.heap.size ≤ b6 := n8.eq ▸ E5.size
  have : b1 < b6 := n8.eq ▸ lt_of_blk n3.blk
  have E10 := below_ext E5 E5.size n8.ext
  refine lw_nil ?_
  refine rk_seq ?_
  refine rk_reg ?_
  refine lw_e (oe_alloc ze25 ?_)
  intro b11 w12 n13
  have N14 : w.heap.size ≤ b11 := n13.eq ▸ E10.size
  have : b6 < b11 := n13.eq ▸ lt_of_blk n8.blk
  have E15 := below_ext E10 E10.size n13.ext
  refine lw_nil ?_
  refine rk_seq ?_
  refine rk_reg ?_
  refine lw_v (.pointer (some ⟨b1, 0, none⟩)) (dv_fieldAddr (a := ⟨b1, 0, none⟩) (a' := ⟨b1, 0, none⟩) fo24_0 (T rfl rfl) rfl) ?_
  have H16 := (n13.ext.blk (n8.ext.blk n3.blk))
  refine lw_v (.int .u64 (wv3 z)) (dv_load1 (b := b1) (o := 0) agt22 (T rfl rfl) H16 rfl) ?_
  refine lw_v (.pointer (some ⟨b11, 0, none⟩)) (dv_fieldAddr (a := ⟨b11, 0, none⟩) (a' := ⟨b11, 0, none⟩) fo25_0 (T rfl rfl) rfl) ?_
  refine lw_e (oe_store (v := .int .u64 (wv3 z)) (vs := [.int .u64 (wv3 z)]) (l := [.int .u64 (wv3 z), .int .u64 0, .int .u64 0, .int .u64 0]) (T rfl rfl) (T rfl rfl) sz22 rfl rfl rfl n13.blk rfl ?_)
  intro w17 s18 H19
  have E20 := below_st E15 N14 s18
  refine lw_nil ?_
  refine rk_seq ?_
  refine rk_reg ?_
  refine lw_v (.pointer (some ⟨b1, 1, none⟩)) (dv_fieldAddr (a := ⟨b1, 0, none⟩) (a' := ⟨b1, 1, none⟩) fo24_1 (T rfl rfl) rfl) ?_
  have H21 := (s18.blk H16 (by omega))
  refine lw_v (.int .u64 (wv2 z)) (dv_load1 (b := b1) (o := 1) agt22 (T rfl rfl) H21 rfl) ?_
  refine lw_v (.pointer (some ⟨b11, 1, none⟩)) (dv_fieldAddr (a := ⟨b11, 0, none⟩) (a' := ⟨b11, 1, none⟩) fo25_1 (T rfl rfl) rfl) ?_
  refine lw_e (oe_store (v := .int .u64 (wv2 z)) (vs := [.int .u64 (wv2 z)]) (l := [.int .u64 (wv3 z), .int .u64 (wv2 z), .int .u64 0, .int .u64 0]) (T rfl rfl) (T rfl rfl) sz22 rfl rfl rfl H19 rfl ?_)
  intro w22 s23 H24
  have E25 := below_st E20 N14 s23
  refine lw_nil ?_
  refine rk_seq ?_
  refine rk_reg ?_
  refine lw_v (.pointer (some ⟨b1, 2, none⟩)) (dv_fieldAddr (a := ⟨b1, 0, none⟩) (a' := ⟨b1, 2, none⟩) fo24_2 (T rfl rfl) rfl) ?_
  have H26 := (s23.blk H21 (by omega))
  refine lw_v (.int .u64 (wv1 z)) (dv_load1 (b := b1) (o := 2) agt22 (T rfl rfl) H26 rfl) ?_
  refine lw_v (.pointer (some ⟨b11, 2, none⟩)) (dv_fieldAddr (a := ⟨b11, 0, none⟩) (a' := ⟨b11, 2, none⟩) fo25_2 (T rfl rfl) rfl) ?_
  refine lw_e (oe_store (v := .int .u64 (wv1 z)) (vs := [.int .u64 (wv1 z)]) (l := [.int .u64 (wv3 z), .int .u64 (wv2 z), .int .u64 (wv1 z), .int .u64 0]) (T rfl rfl) (T rfl rfl) sz22 rfl rfl rfl H24 rfl ?_)
  intro w27 s28 H29
  have E30 := below_st E25 N14 s28
  refine lw_nil ?_
  refine rk_seq ?_
  refine rk_reg ?_
  refine lw_v (.pointer (some ⟨b1, 3, none⟩)) (dv_fieldAddr (a := ⟨b1, 0, none⟩) (a' := ⟨b1, 3, none⟩) fo24_3 (T rfl rfl) rfl) ?_
  have H31 := (s28.blk H26 (by omega))
  refine lw_v (.int .u64 (wv0 z)) (dv_load1 (b := b1) (o := 3) agt22 (T rfl rfl) H31 rfl) ?_
  refine lw_v (.pointer (some ⟨b11, 3, none⟩)) (dv_fieldAddr (a := ⟨b11, 0, none⟩) (a' := ⟨b11, 3, none⟩) fo25_3 (T rfl rfl) rfl) ?_
  refine lw_e (oe_store (v := .int .u64 (wv0 z)) (vs := [.int .u64 (wv0 z)]) (l := [.int .u64 (wv3 z), .int .u64 (wv2 z), .int .u64 (wv1 z), .int .u64 (wv0 z)]) (T rfl rfl) (T rfl rfl) sz22 rfl rfl rfl H29 rfl ?_)
  intro w32 s33 H34
  have E35 := below_st E30 N14 s33
  refine lw_nil ?_
  refine rk_seq ?_
  refine rk_reg ?_
  refine lw_v (.agg #[.int .u64 (wv3 z), .int .u64 (wv2 z), .int .u64 (wv1 z), .int .u64 (wv0 z)]) (dv_loads (l := [.int .u64 (wv3 z), .int .u64 (wv2 z), .int .u64 (wv1 z), .int .u64 (wv0 z)]) agt25 sz25 (T rfl rfl) H34 rfl) ?_
  have H36 := (s33.blk (s28.blk (s23.blk (s18.blk (n13.ext.blk n8.blk) (by omega)) (by omega)) (by omega)) (by omega))
  refine lw_e (oe_store (v := .agg #[.int .u64 (wv3 z), .int .u64 (wv2 z), .int .u64 (wv1 z), .int .u64 (wv0 z)]) (vs := [.int .u64 (wv3 z), .int .u64 (wv2 z), .int .u64 (wv1 z), .int .u64 (wv0 z)]) (l := [.int .u64 (wv3 z), .int .u64 (wv2 z), .int .u64 (wv1 z), .int .u64 (wv0 z)]) (T rfl rfl) (T rfl rfl) sz25 rfl rfl rfl H36 rfl ?_)
  intro w37 s38 H39
  have E40 := below_st E35 N9 s38
  refine lw_nil ?_
  refine rk_ret Try.func16 (v := .agg #[.int .u64 (wv3 z), .int .u64 (wv2 z), .int .u64 (wv1 z), .int .u64 (wv0 z)]) (res1 Try.results16 (rv_cells (l := [.int .u64 (wv3 z), .int .u64 (wv2 z), .int .u64 (wv1 z), .int .u64 (wv0 z)]) agt25 sz25 rfl rfl H39 rfl)) ⟨_, rfl, ?_⟩
  exact ⟨rfl, E40⟩

set_option maxHeartbeats 1000000 in
theorem eqWide_ok {w : World} {x y : Int} (fx_ : fits x) (fy_ : fits y)  : Ct Try.prog 49 [.agg #[.int .u64 (wv3 x), .int .u64 (wv2 x), .int .u64 (wv1 x), .int .u64 (wv0 x)], .agg #[.int .u64 (wv3 y), .int .u64 (wv2 y), .int .u64 (wv1 y), .int .u64 (wv0 y)]] w fun v w1 => v = .bool (decide (x = y)) ∧ Ext w w1 := by
  refine ct_run (n := 25) Try.func49 rfl Try.ntmps49 rfl ?_
  have E0 : Below w.heap.size w w := Below.refl _ _
  refine rk_seq ?_
  refine rk_reg ?_
  refine lw_e (oe_box (v := .agg #[.int .u64 (wv3 x), .int .u64 (wv2 x), .int .u64 (wv1 x), .int .u64 (wv0 x)]) (cs := #[.int .u64 (wv3 x), .int .u64 (wv2 x), .int .u64 (wv1 x), .int .u64 (wv0 x)]) (T rfl rfl) rfl ?_)
  intro b1 w2 n3
  have N4 : w.heap.size ≤ b1 := n3.eq ▸ E0.size
  have E5 := below_ext E0 E0.size n3.ext
  refine lw_e (oe_box (v := .agg #[.int .u64 (wv3 y), .int .u64 (wv2 y), .int .u64 (wv1 y), .int .u64 (wv0 y)]) (cs := #[.int .u64 (wv3 y), .int .u64 (wv2 y), .int .u64 (wv1 y), .int .u64 (wv0 y)]) (T rfl rfl) rfl ?_)
  intro b6 w7 n8
  have N9 : w.heap.size ≤ b6 := n8.eq ▸ E5.size
  have : b1 < b6 := n8.eq ▸ lt_of_blk n3.blk
  have E10 := below_ext E5 E5.size n8.ext
  refine lw_v (.bool false) (dv_assign C) ?_
  refine lw_nil ?_
  refine rk_seq ?_
  refine rk_seq ?_
  refine rk_reg ?_
  refine lw_v (.pointer (some ⟨b1, 0, none⟩)) (dv_fieldAddr (a := ⟨b1, 0, none⟩) (a' := ⟨b1, 0, none⟩) fo25_0 (T rfl rfl) rfl) ?_
  have H11 := (n8.ext.blk n3.blk)
  refine lw_v (.int .u64 (wv3 x)) (dv_load1 (b := b1) (o := 0) agt22 (T rfl rfl) H11 rfl) ?_
  refine lw_v (.pointer (some ⟨b6, 0, none⟩)) (dv_fieldAddr (a := ⟨b6, 0, none⟩) (a' := ⟨b6, 0, none⟩) fo25_0 (T rfl rfl) rfl) ?_
  refine lw_v (.int .u64 (wv3 y)) (dv_load1 (b := b6) (o := 0) agt22 (T rfl rfl) n8.blk rfl) ?_
  refine lw_v (.bool (decide ((wv3 x) ≠ (wv3 y)))) (dv_neq (a := wv3 x) (b := wv3 y) (T rfl rfl) (T rfl rfl)) ?_
  refine lw_nil ?_
  by_cases hb12 : (wv3 x) ≠ (wv3 y)
  · -- T
    refine rk_ct (T rfl (congrArg Value.bool (decide_eq_true hb12))) ?_
    refine rk_seq ?_
    refine rk_reg ?_
    refine lw_v (.bool false) (dv_assign C) ?_
    refine lw_nil ?_
    refine rk_ret Try.func49 (v := .bool false) (res1 Try.results49 (rv_tmp rfl rfl)) ⟨_, rfl, ?_⟩
    exact ⟨(vf (by intro he; subst he; exact absurd rfl (by assumption))), E10⟩
  · -- F
    refine rk_cf (T rfl (congrArg Value.bool (decide_eq_false hb12))) ?_
    refine rk_skip ?_
    refine rk_seq ?_
    refine rk_seq ?_
    refine rk_reg ?_
    refine lw_v (.pointer (some ⟨b1, 1, none⟩)) (dv_fieldAddr (a := ⟨b1, 0, none⟩) (a' := ⟨b1, 1, none⟩) fo25_1 (T rfl rfl) rfl) ?_
    refine lw_v (.int .u64 (wv2 x)) (dv_load1 (b := b1) (o := 1) agt22 (T rfl rfl) H11 rfl) ?_
    refine lw_v (.pointer (some ⟨b6, 1, none⟩)) (dv_fieldAddr (a := ⟨b6, 0, none⟩) (a' := ⟨b6, 1, none⟩) fo25_1 (T rfl rfl) rfl) ?_
    refine lw_v (.int .u64 (wv2 y)) (dv_load1 (b := b6) (o := 1) agt22 (T rfl rfl) n8.blk rfl) ?_
    refine lw_v (.bool (decide ((wv2 x) ≠ (wv2 y)))) (dv_neq (a := wv2 x) (b := wv2 y) (T rfl rfl) (T rfl rfl)) ?_
    refine lw_nil ?_
    by_cases hb13 : (wv2 x) ≠ (wv2 y)
    · -- FT
      refine rk_ct (T rfl (congrArg Value.bool (decide_eq_true hb13))) ?_
      refine rk_seq ?_
      refine rk_reg ?_
      refine lw_v (.bool false) (dv_assign C) ?_
      refine lw_nil ?_
      refine rk_ret Try.func49 (v := .bool false) (res1 Try.results49 (rv_tmp rfl rfl)) ⟨_, rfl, ?_⟩
      exact ⟨(vf (by intro he; subst he; exact absurd rfl (by assumption))), E10⟩
    · -- FF
      refine rk_cf (T rfl (congrArg Value.bool (decide_eq_false hb13))) ?_
      refine rk_skip ?_
      refine rk_seq ?_
      refine rk_seq ?_
      refine rk_reg ?_
      refine lw_v (.pointer (some ⟨b1, 2, none⟩)) (dv_fieldAddr (a := ⟨b1, 0, none⟩) (a' := ⟨b1, 2, none⟩) fo25_2 (T rfl rfl) rfl) ?_
      refine lw_v (.int .u64 (wv1 x)) (dv_load1 (b := b1) (o := 2) agt22 (T rfl rfl) H11 rfl) ?_
      refine lw_v (.pointer (some ⟨b6, 2, none⟩)) (dv_fieldAddr (a := ⟨b6, 0, none⟩) (a' := ⟨b6, 2, none⟩) fo25_2 (T rfl rfl) rfl) ?_
      refine lw_v (.int .u64 (wv1 y)) (dv_load1 (b := b6) (o := 2) agt22 (T rfl rfl) n8.blk rfl) ?_
      refine lw_v (.bool (decide ((wv1 x) ≠ (wv1 y)))) (dv_neq (a := wv1 x) (b := wv1 y) (T rfl rfl) (T rfl rfl)) ?_
      refine lw_nil ?_
      by_cases hb14 : (wv1 x) ≠ (wv1 y)
      · -- FFT
        refine rk_ct (T rfl (congrArg Value.bool (decide_eq_true hb14))) ?_
        refine rk_seq ?_
        refine rk_reg ?_
        refine lw_v (.bool false) (dv_assign C) ?_
        refine lw_nil ?_
        refine rk_ret Try.func49 (v := .bool false) (res1 Try.results49 (rv_tmp rfl rfl)) ⟨_, rfl, ?_⟩
        exact ⟨(vf (by intro he; subst he; exact absurd rfl (by assumption))), E10⟩
      · -- FFF
        refine rk_cf (T rfl (congrArg Value.bool (decide_eq_false hb14))) ?_
        refine rk_skip ?_
        refine rk_seq ?_
        refine rk_seq ?_
        refine rk_reg ?_
        refine lw_v (.pointer (some ⟨b1, 3, none⟩)) (dv_fieldAddr (a := ⟨b1, 0, none⟩) (a' := ⟨b1, 3, none⟩) fo25_3 (T rfl rfl) rfl) ?_
        refine lw_v (.int .u64 (wv0 x)) (dv_load1 (b := b1) (o := 3) agt22 (T rfl rfl) H11 rfl) ?_
        refine lw_v (.pointer (some ⟨b6, 3, none⟩)) (dv_fieldAddr (a := ⟨b6, 0, none⟩) (a' := ⟨b6, 3, none⟩) fo25_3 (T rfl rfl) rfl) ?_
        refine lw_v (.int .u64 (wv0 y)) (dv_load1 (b := b6) (o := 3) agt22 (T rfl rfl) n8.blk rfl) ?_
        refine lw_v (.bool (decide ((wv0 x) ≠ (wv0 y)))) (dv_neq (a := wv0 x) (b := wv0 y) (T rfl rfl) (T rfl rfl)) ?_
        refine lw_nil ?_
        by_cases hb15 : (wv0 x) ≠ (wv0 y)
        · -- FFFT
          refine rk_ct (T rfl (congrArg Value.bool (decide_eq_true hb15))) ?_
          refine rk_seq ?_
          refine rk_reg ?_
          refine lw_v (.bool false) (dv_assign C) ?_
          refine lw_nil ?_
          refine rk_ret Try.func49 (v := .bool false) (res1 Try.results49 (rv_tmp rfl rfl)) ⟨_, rfl, ?_⟩
          exact ⟨(vf (by intro he; subst he; exact absurd rfl (by assumption))), E10⟩
        · -- FFFF
          refine rk_cf (T rfl (congrArg Value.bool (decide_eq_false hb15))) ?_
          refine rk_skip ?_
          refine rk_seq ?_
          refine rk_reg ?_
          refine lw_v (.bool true) (dv_assign C) ?_
          refine lw_nil ?_
          refine rk_ret Try.func49 (v := .bool true) (res1 Try.results49 (rv_tmp rfl rfl)) ⟨_, rfl, ?_⟩
          exact ⟨(vt (wv_inj fx_ fy_ (by omega) (by omega) (by omega) (by omega))), E10⟩

end Go.Proofs.Ytpnjkjahfklfnaa.W
