/- Wk19: walks, written by a program of this session. -/
import Derived.Test.YtcnepihgbnfcpaaWk18
import Derived.Test.YtcnepihgbnfcpaaWk8
set_option linter.unusedVariables false
set_option linter.unusedSimpArgs false
namespace Go.Proofs.Ytcnepihgbnfcpaa.W
open Go Go.RowKit Go.Proofs.Ytcnepihgbnfcpaa.Fw
attribute [local irreducible] RunK LW AW DV OE Ct
theorem co50 : callOk Try.prog 50 = true := by kernel_rfl
theorem co51 : callOk Try.prog 51 = true := by kernel_rfl
theorem co53 : callOk Try.prog 53 = true := by kernel_rfl
theorem co54 : callOk Try.prog 54 = true := by kernel_rfl
theorem co55 : callOk Try.prog 55 = true := by kernel_rfl
theorem co56 : callOk Try.prog 56 = true := by kernel_rfl
theorem co57 : callOk Try.prog 57 = true := by kernel_rfl
theorem co58 : callOk Try.prog 58 = true := by kernel_rfl
theorem eg26 : Try.prog.eqGuardType Try.prog.depth 26 = false := by kernel_rfl
theorem fl26 : flatB Try.prog 26 .u64 4 = true := by kernel_rfl
theorem fo24_0 : fieldOffB Try.prog 24 0 = some 0 := by kernel_rfl
theorem fo24_1 : fieldOffB Try.prog 24 1 = some 1 := by kernel_rfl
theorem fo24_2 : fieldOffB Try.prog 24 2 = some 2 := by kernel_rfl
theorem fo24_3 : fieldOffB Try.prog 24 3 = some 3 := by kernel_rfl
set_option maxHeartbeats 1000000 in
theorem toWide_ok {w : World} {z : Int}   : Ct Try.prog 16 [.agg #[.int .u64 (wv3 z), .int .u64 (wv2 z), .int .u64 (wv1 z), .int .u64 (wv0 z)]] w fun v w1 => v = .agg #[.int .u64 (wv3 z), .int .u64 (wv2 z), .int .u64 (wv1 z), .int .u64 (wv0 z)] ∧ Ext w w1 := by
  refine ct_run (n := 17) Try.func16 rfl Try.ntmps16 rfl ?_
  have E0 : Below w.heap.size w w := Below.refl _ _
  refine rk_seq ?_
  refine rk_reg ?_
  refine lw_e (oe_box (v := .agg #[.int .u64 (wv3 z), .int .u64 (wv2 z), .int .u64 (wv1 z), .int .u64 (wv0 z)]) (cs := #[.int .u64 (wv3 z), .int .u64 (wv2 z), .int .u64 (wv1 z), .int .u64 (wv0 z)]) (T rfl rfl) rfl ?_)
  intro b1 w2 n3
  have N4 : w.heap.size ≤ b1 := n3.eq ▸ E0.size
  have E5 := below_ext E0 E0.size n3.ext
  refine lw_e (oe_alloc ze26 ?_)
  intro b6 w7 n8
  have N9 : w.heap.size ≤ b6 := n8.eq ▸ E5.size
  have : b1 < b6 := n8.eq ▸ lt_of_blk n3.blk
  have E10 := below_ext E5 E5.size n8.ext
  refine lw_nil ?_
  refine rk_seq ?_
  refine rk_reg ?_
  refine lw_e (oe_alloc ze26 ?_)
  intro b11 w12 n13
  have N14 : w.heap.size ≤ b11 := n13.eq ▸ E10.size
  have : b6 < b11 := n13.eq ▸ lt_of_blk n8.blk
  have E15 := below_ext E10 E10.size n13.ext
  refine lw_nil ?_
  refine rk_seq ?_
  refine rk_reg ?_
  refine lw_v (.pointer (some ⟨b1, 0, none⟩)) (dv_fieldAddr (a := ⟨b1, 0, none⟩) (a' := ⟨b1, 0, none⟩) fo24_0 (T rfl rfl) rfl) ?_
  have H16 := (n13.ext.blk (n8.ext.blk n3.blk))
  refine lw_v (.int .u64 (wv3 z)) (dv_load1 (b := b1) (o := 0) agt22 (T rfl rfl) H16 rfl) ?_
  refine lw_v (.pointer (some ⟨b11, 0, none⟩)) (dv_fieldAddr (a := ⟨b11, 0, none⟩) (a' := ⟨b11, 0, none⟩) fo26_0 (T rfl rfl) rfl) ?_
  refine lw_e (oe_store (v := .int .u64 (wv3 z)) (vs := [.int .u64 (wv3 z)]) (l := [.int .u64 (wv3 z), .int .u64 0, .int .u64 0, .int .u64 0]) (T rfl rfl) (T rfl rfl) sz22 rfl rfl rfl n13.blk rfl ?_)
  intro w17 s18 H19
  have E20 := below_st E15 N14 s18
  refine lw_nil ?_
  refine rk_seq ?_
  refine rk_reg ?_
  refine lw_v (.pointer (some ⟨b1, 1, none⟩)) (dv_fieldAddr (a := ⟨b1, 0, none⟩) (a' := ⟨b1, 1, none⟩) fo24_1 (T rfl rfl) rfl) ?_
  have H21 := (s18.blk H16 (by omega))
  refine lw_v (.int .u64 (wv2 z)) (dv_load1 (b := b1) (o := 1) agt22 (T rfl rfl) H21 rfl) ?_
  refine lw_v (.pointer (some ⟨b11, 1, none⟩)) (dv_fieldAddr (a := ⟨b11, 0, none⟩) (a' := ⟨b11, 1, none⟩) fo26_1 (T rfl rfl) rfl) ?_
  refine lw_e (oe_store (v := .int .u64 (wv2 z)) (vs := [.int .u64 (wv2 z)]) (l := [.int .u64 (wv3 z), .int .u64 (wv2 z), .int .u64 0, .int .u64 0]) (T rfl rfl) (T rfl rfl) sz22 rfl rfl rfl H19 rfl ?_)
  intro w22 s23 H24
  have E25 := below_st E20 N14 s23
  refine lw_nil ?_
  refine rk_seq ?_
  refine rk_reg ?_
  refine lw_v (.pointer (some ⟨b1, 2, none⟩)) (dv_fieldAddr (a := ⟨b1, 0, none⟩) (a' := ⟨b1, 2, none⟩) fo24_2 (T rfl rfl) rfl) ?_
  have H26 := (s23.blk H21 (by omega))
  refine lw_v (.int .u64 (wv1 z)) (dv_load1 (b := b1) (o := 2) agt22 (T rfl rfl) H26 rfl) ?_
  refine lw_v (.pointer (some ⟨b11, 2, none⟩)) (dv_fieldAddr (a := ⟨b11, 0, none⟩) (a' := ⟨b11, 2, none⟩) fo26_2 (T rfl rfl) rfl) ?_
  refine lw_e (oe_store (v := .int .u64 (wv1 z)) (vs := [.int .u64 (wv1 z)]) (l := [.int .u64 (wv3 z), .int .u64 (wv2 z), .int .u64 (wv1 z), .int .u64 0]) (T rfl rfl) (T rfl rfl) sz22 rfl rfl rfl H24 rfl ?_)
  intro w27 s28 H29
  have E30 := below_st E25 N14 s28
  refine lw_nil ?_
  refine rk_seq ?_
  refine rk_reg ?_
  refine lw_v (.pointer (some ⟨b1, 3, none⟩)) (dv_fieldAddr (a := ⟨b1, 0, none⟩) (a' := ⟨b1, 3, none⟩) fo24_3 (T rfl rfl) rfl) ?_
  have H31 := (s28.blk H26 (by omega))
  refine lw_v (.int .u64 (wv0 z)) (dv_load1 (b := b1) (o := 3) agt22 (T rfl rfl) H31 rfl) ?_
  refine lw_v (.pointer (some ⟨b11, 3, none⟩)) (dv_fieldAddr (a := ⟨b11, 0, none⟩) (a' := ⟨b11, 3, none⟩) fo26_3 (T rfl rfl) rfl) ?_
  refine lw_e (oe_store (v := .int .u64 (wv0 z)) (vs := [.int .u64 (wv0 z)]) (l := [.int .u64 (wv3 z), .int .u64 (wv2 z), .int .u64 (wv1 z), .int .u64 (wv0 z)]) (T rfl rfl) (T rfl rfl) sz22 rfl rfl rfl H29 rfl ?_)
  intro w32 s33 H34
  have E35 := below_st E30 N14 s33
  refine lw_nil ?_
  refine rk_seq ?_
  refine rk_reg ?_
  refine lw_v (.agg #[.int .u64 (wv3 z), .int .u64 (wv2 z), .int .u64 (wv1 z), .int .u64 (wv0 z)]) (dv_loads (l := [.int .u64 (wv3 z), .int .u64 (wv2 z), .int .u64 (wv1 z), .int .u64 (wv0 z)]) agt26 sz26 (T rfl rfl) H34 rfl) ?_
  have H36 := (s33.blk (s28.blk (s23.blk (s18.blk (n13.ext.blk n8.blk) (by omega)) (by omega)) (by omega)) (by omega))
  refine lw_e (oe_store (v := .agg #[.int .u64 (wv3 z), .int .u64 (wv2 z), .int .u64 (wv1 z), .int .u64 (wv0 z)]) (vs := [.int .u64 (wv3 z), .int .u64 (wv2 z), .int .u64 (wv1 z), .int .u64 (wv0 z)]) (l := [.int .u64 (wv3 z), .int .u64 (wv2 z), .int .u64 (wv1 z), .int .u64 (wv0 z)]) (T rfl rfl) (T rfl rfl) sz26 rfl rfl rfl H36 rfl ?_)
  intro w37 s38 H39
  have E40 := below_st E35 N9 s38
  refine lw_nil ?_
  refine rk_ret Try.func16 (v := .agg #[.int .u64 (wv3 z), .int .u64 (wv2 z), .int .u64 (wv1 z), .int .u64 (wv0 z)]) (res1 Try.results16 (rv_cells (l := [.int .u64 (wv3 z), .int .u64 (wv2 z), .int .u64 (wv1 z), .int .u64 (wv0 z)]) agt26 sz26 rfl rfl H39 rfl)) ⟨_, rfl, ?_⟩
  exact ⟨rfl, E40⟩

set_option maxHeartbeats 1000000 in
theorem eqWide_ok {w : World} {x y : Int} (fx_ : fits x) (fy_ : fits y)  : Ct Try.prog 20 [.agg #[.int .u64 (wv3 x), .int .u64 (wv2 x), .int .u64 (wv1 x), .int .u64 (wv0 x)], .agg #[.int .u64 (wv3 y), .int .u64 (wv2 y), .int .u64 (wv1 y), .int .u64 (wv0 y)]] w fun v w1 => v = .bool (decide (x = y)) ∧ Ext w w1 := by
  refine ct_run (n := 25) Try.func20 rfl Try.ntmps20 rfl ?_
  have E0 : Below w.heap.size w w := Below.refl _ _
  refine rk_seq ?_
  refine rk_reg ?_
  refine lw_e (oe_box (v := .agg #[.int .u64 (wv3 x), .int .u64 (wv2 x), .int .u64 (wv1 x), .int .u64 (wv0 x)]) (cs := #[.int .u64 (wv3 x), .int .u64 (wv2 x), .int .u64 (wv1 x), .int .u64 (wv0 x)]) (T rfl rfl) rfl ?_)
  intro b1 w2 n3
  have N4 : w.heap.size ≤ b1 := n3.eq ▸ E0.size
  have E5 := below_ext E0 E0.size n3.ext
  refine lw_e (oe_box (v := .agg #[.int .u64 (wv3 y), .int .u64 (wv2 y), .int .u64 (wv1 y), .int .u64 (wv0 y)]) (cs := #[.int .u64 (wv3 y), .int .u64 (wv2 y), .int .u64 (wv1 y), .int .u64 (wv0 y)]) (T rfl rfl) rfl ?_)
  intro b6 w7 n8
  have N9 : w.heap.size ≤ b6 := n8.eq ▸ E5.size
  have : b1 < b6 := n8.eq ▸ lt_of_blk n3.blk
  have E10 := below_ext E5 E5.size n8.ext
  refine lw_v (.bool false) (dv_assign C) ?_
  refine lw_nil ?_
  refine rk_seq ?_
  refine rk_seq ?_
  refine rk_reg ?_
  refine lw_v (.pointer (some ⟨b1, 0, none⟩)) (dv_fieldAddr (a := ⟨b1, 0, none⟩) (a' := ⟨b1, 0, none⟩) fo26_0 (T rfl rfl) rfl) ?_
  have H11 := (n8.ext.blk n3.blk)
  refine lw_v (.int .u64 (wv3 x)) (dv_load1 (b := b1) (o := 0) agt22 (T rfl rfl) H11 rfl) ?_
  refine lw_v (.pointer (some ⟨b6, 0, none⟩)) (dv_fieldAddr (a := ⟨b6, 0, none⟩) (a' := ⟨b6, 0, none⟩) fo26_0 (T rfl rfl) rfl) ?_
  refine lw_v (.int .u64 (wv3 y)) (dv_load1 (b := b6) (o := 0) agt22 (T rfl rfl) n8.blk rfl) ?_
  refine lw_v (.bool (decide ((wv3 x) ≠ (wv3 y)))) (dv_neq (a := wv3 x) (b := wv3 y) (T rfl rfl) (T rfl rfl)) ?_
  refine lw_nil ?_
  by_cases hb12 : (wv3 x) ≠ (wv3 y)
  · -- T
    refine rk_ct (T rfl (congrArg Value.bool (decide_eq_true hb12))) ?_
    refine rk_seq ?_
    refine rk_reg ?_
    refine lw_v (.bool false) (dv_assign C) ?_
    refine lw_nil ?_
    refine rk_ret Try.func20 (v := .bool false) (res1 Try.results20 (rv_tmp rfl rfl)) ⟨_, rfl, ?_⟩
    exact ⟨(vf (by intro he; subst he; exact absurd rfl (by assumption))), E10⟩
  · -- F
    refine rk_cf (T rfl (congrArg Value.bool (decide_eq_false hb12))) ?_
    refine rk_skip ?_
    refine rk_seq ?_
    refine rk_seq ?_
    refine rk_reg ?_
    refine lw_v (.pointer (some ⟨b1, 1, none⟩)) (dv_fieldAddr (a := ⟨b1, 0, none⟩) (a' := ⟨b1, 1, none⟩) fo26_1 (T rfl rfl) rfl) ?_
    refine lw_v (.int .u64 (wv2 x)) (dv_load1 (b := b1) (o := 1) agt22 (T rfl rfl) H11 rfl) ?_
    refine lw_v (.pointer (some ⟨b6, 1, none⟩)) (dv_fieldAddr (a := ⟨b6, 0, none⟩) (a' := ⟨b6, 1, none⟩) fo26_1 (T rfl rfl) rfl) ?_
    refine lw_v (.int .u64 (wv2 y)) (dv_load1 (b := b6) (o := 1) agt22 (T rfl rfl) n8.blk rfl) ?_
    refine lw_v (.bool (decide ((wv2 x) ≠ (wv2 y)))) (dv_neq (a := wv2 x) (b := wv2 y) (T rfl rfl) (T rfl rfl)) ?_
    refine lw_nil ?_
    by_cases hb13 : (wv2 x) ≠ (wv2 y)
    · -- FT
      refine rk_ct (T rfl (congrArg Value.bool (decide_eq_true hb13))) ?_
      refine rk_seq ?_
      refine rk_reg ?_
      refine lw_v (.bool false) (dv_assign C) ?_
      refine lw_nil ?_
      refine rk_ret Try.func20 (v := .bool false) (res1 Try.results20 (rv_tmp rfl rfl)) ⟨_, rfl, ?_⟩
      exact ⟨(vf (by intro he; subst he; exact absurd rfl (by assumption))), E10⟩
    · -- FF
      refine rk_cf (T rfl (congrArg Value.bool (decide_eq_false hb13))) ?_
      refine rk_skip ?_
      refine rk_seq ?_
      refine rk_seq ?_
      refine rk_reg ?_
      refine lw_v (.pointer (some ⟨b1, 2, none⟩)) (dv_fieldAddr (a := ⟨b1, 0, none⟩) (a' := ⟨b1, 2, none⟩) fo26_2 (T rfl rfl) rfl) ?_
      refine lw_v (.int .u64 (wv1 x)) (dv_load1 (b := b1) (o := 2) agt22 (T rfl rfl) H11 rfl) ?_
      refine lw_v (.pointer (some ⟨b6, 2, none⟩)) (dv_fieldAddr (a := ⟨b6, 0, none⟩) (a' := ⟨b6, 2, none⟩) fo26_2 (T rfl rfl) rfl) ?_
      refine lw_v (.int .u64 (wv1 y)) (dv_load1 (b := b6) (o := 2) agt22 (T rfl rfl) n8.blk rfl) ?_
      refine lw_v (.bool (decide ((wv1 x) ≠ (wv1 y)))) (dv_neq (a := wv1 x) (b := wv1 y) (T rfl rfl) (T rfl rfl)) ?_
      refine lw_nil ?_
      by_cases hb14 : (wv1 x) ≠ (wv1 y)
      · -- FFT
        refine rk_ct (T rfl (congrArg Value.bool (decide_eq_true hb14))) ?_
        refine rk_seq ?_
        refine rk_reg ?_
        refine lw_v (.bool false) (dv_assign C) ?_
        refine lw_nil ?_
        refine rk_ret Try.func20 (v := .bool false) (res1 Try.results20 (rv_tmp rfl rfl)) ⟨_, rfl, ?_⟩
        exact ⟨(vf (by intro he; subst he; exact absurd rfl (by assumption))), E10⟩
      · -- FFF
        refine rk_cf (T rfl (congrArg Value.bool (decide_eq_false hb14))) ?_
        refine rk_skip ?_
        refine rk_seq ?_
        refine rk_seq ?_
        refine rk_reg ?_
        refine lw_v (.pointer (some ⟨b1, 3, none⟩)) (dv_fieldAddr (a := ⟨b1, 0, none⟩) (a' := ⟨b1, 3, none⟩) fo26_3 (T rfl rfl) rfl) ?_
        refine lw_v (.int .u64 (wv0 x)) (dv_load1 (b := b1) (o := 3) agt22 (T rfl rfl) H11 rfl) ?_
        refine lw_v (.pointer (some ⟨b6, 3, none⟩)) (dv_fieldAddr (a := ⟨b6, 0, none⟩) (a' := ⟨b6, 3, none⟩) fo26_3 (T rfl rfl) rfl) ?_
        refine lw_v (.int .u64 (wv0 y)) (dv_load1 (b := b6) (o := 3) agt22 (T rfl rfl) n8.blk rfl) ?_
        refine lw_v (.bool (decide ((wv0 x) ≠ (wv0 y)))) (dv_neq (a := wv0 x) (b := wv0 y) (T rfl rfl) (T rfl rfl)) ?_
        refine lw_nil ?_
        by_cases hb15 : (wv0 x) ≠ (wv0 y)
        · -- FFFT
          refine rk_ct (T rfl (congrArg Value.bool (decide_eq_true hb15))) ?_
          refine rk_seq ?_
          refine rk_reg ?_
          refine lw_v (.bool false) (dv_assign C) ?_
          refine lw_nil ?_
          refine rk_ret Try.func20 (v := .bool false) (res1 Try.results20 (rv_tmp rfl rfl)) ⟨_, rfl, ?_⟩
          exact ⟨(vf (by intro he; subst he; exact absurd rfl (by assumption))), E10⟩
        · -- FFFF
          refine rk_cf (T rfl (congrArg Value.bool (decide_eq_false hb15))) ?_
          refine rk_skip ?_
          refine rk_seq ?_
          refine rk_reg ?_
          refine lw_v (.bool true) (dv_assign C) ?_
          refine lw_nil ?_
          refine rk_ret Try.func20 (v := .bool true) (res1 Try.results20 (rv_tmp rfl rfl)) ⟨_, rfl, ?_⟩
          exact ⟨(vt (wv_inj fx_ fy_ (by omega) (by omega) (by omega) (by omega))), E10⟩

set_option maxHeartbeats 1000000 in
theorem sWideDiv_ok {w : World} {x y : Int} (fx_ : fits x) (fy_ : fits y)  : Ct Try.prog 18 [.agg #[.int .u64 (wv3 x), .int .u64 (wv2 x), .int .u64 (wv1 x), .int .u64 (wv0 x)], .agg #[.int .u64 (wv3 y), .int .u64 (wv2 y), .int .u64 (wv1 y), .int .u64 (wv0 y)]] w fun v w1 => v = .tuple #[.agg #[.int .u64 (wv3 (pkz (dOk x y) (x / y))), .int .u64 (wv2 (pkz (dOk x y) (x / y))), .int .u64 (wv1 (pkz (dOk x y) (x / y))), .int .u64 (wv0 (pkz (dOk x y) (x / y)))], .agg #[.int .u64 (wv3 (pkz (dOk x y) (x % y))), .int .u64 (wv2 (pkz (dOk x y) (x % y))), .int .u64 (wv1 (pkz (dOk x y) (x % y))), .int .u64 (wv0 (pkz (dOk x y) (x % y)))], .bool (decide (dOk x y))] ∧ Ext w w1 := by
  refine ct_run (n := 46) Try.func18 rfl Try.ntmps18 rfl ?_
  have E0 : Below w.heap.size w w := Below.refl _ _
  refine rk_seq ?_
  refine rk_reg ?_
  refine lw_e (oe_box (v := .agg #[.int .u64 (wv3 x), .int .u64 (wv2 x), .int .u64 (wv1 x), .int .u64 (wv0 x)]) (cs := #[.int .u64 (wv3 x), .int .u64 (wv2 x), .int .u64 (wv1 x), .int .u64 (wv0 x)]) (T rfl rfl) rfl ?_)
  intro b1 w2 n3
  have N4 : w.heap.size ≤ b1 := n3.eq ▸ E0.size
  have E5 := below_ext E0 E0.size n3.ext
  refine lw_e (oe_box (v := .agg #[.int .u64 (wv3 y), .int .u64 (wv2 y), .int .u64 (wv1 y), .int .u64 (wv0 y)]) (cs := #[.int .u64 (wv3 y), .int .u64 (wv2 y), .int .u64 (wv1 y), .int .u64 (wv0 y)]) (T rfl rfl) rfl ?_)
  intro b6 w7 n8
  have N9 : w.heap.size ≤ b6 := n8.eq ▸ E5.size
  have : b1 < b6 := n8.eq ▸ lt_of_blk n3.blk
  have E10 := below_ext E5 E5.size n8.ext
  refine lw_e (oe_alloc ze26 ?_)
  intro b11 w12 n13
  have N14 : w.heap.size ≤ b11 := n13.eq ▸ E10.size
  have : b6 < b11 := n13.eq ▸ lt_of_blk n8.blk
  have E15 := below_ext E10 E10.size n13.ext
  refine lw_e (oe_alloc ze26 ?_)
  intro b16 w17 n18
  have N19 : w.heap.size ≤ b16 := n18.eq ▸ E15.size
  have : b11 < b16 := n18.eq ▸ lt_of_blk n13.blk
  have E20 := below_ext E15 E15.size n18.ext
  refine lw_v (.bool false) (dv_assign C) ?_
  refine lw_nil ?_
  refine rk_seq ?_
  refine rk_seq ?_
  refine rk_reg ?_
  have H21 := (n18.ext.blk (n13.ext.blk n8.blk))
  refine lw_v (.agg #[.int .u64 (wv3 y), .int .u64 (wv2 y), .int .u64 (wv1 y), .int .u64 (wv0 y)]) (dv_loads (l := [.int .u64 (wv3 y), .int .u64 (wv2 y), .int .u64 (wv1 y), .int .u64 (wv0 y)]) agt26 sz26 (T rfl rfl) H21 rfl) ?_
  refine lw_v (.agg #[.int .u64 0, .int .u64 0, .int .u64 0, .int .u64 0]) (dv_build (pv := []) (l := [.int .u64 0, .int .u64 0, .int .u64 0, .int .u64 0]) zc26 pl26 trivial rfl) ?_
  refine lw_v (.bool (decide (([wv3 y, wv2 y, wv1 y, wv0 y] : List Int) = [0, 0, 0, 0]))) (dv_eqls (k := .u64) (la := [wv3 y, wv2 y, wv1 y, wv0 y]) (lb := [0, 0, 0, 0]) fl26 eg26 (T rfl rfl) (T rfl rfl) rfl rfl) ?_
  refine lw_nil ?_
  by_cases hb22 : ([wv3 y, wv2 y, wv1 y, wv0 y] : List Int) = [0, 0, 0, 0]
  · -- T
    have hz23 := (wl_zero fy_).1 hb22
    refine rk_ct (T rfl (congrArg Value.bool (decide_eq_true hb22))) ?_
    refine rk_seq ?_
    refine rk_reg ?_
    refine lw_v (.agg #[.int .u64 0, .int .u64 0, .int .u64 0, .int .u64 0]) (dv_build (pv := []) (l := [.int .u64 0, .int .u64 0, .int .u64 0, .int .u64 0]) zc26 pl26 trivial rfl) ?_
    refine lw_v (.agg #[.int .u64 0, .int .u64 0, .int .u64 0, .int .u64 0]) (dv_build (pv := []) (l := [.int .u64 0, .int .u64 0, .int .u64 0, .int .u64 0]) zc26 pl26 trivial rfl) ?_
    have H24 := (n18.ext.blk n13.blk)
    refine lw_e (oe_store (v := .agg #[.int .u64 0, .int .u64 0, .int .u64 0, .int .u64 0]) (vs := [.int .u64 0, .int .u64 0, .int .u64 0, .int .u64 0]) (l := [.int .u64 0, .int .u64 0, .int .u64 0, .int .u64 0]) (T rfl rfl) (T rfl rfl) sz26 rfl rfl rfl H24 rfl ?_)
    intro w25 s26 H27
    have E28 := below_st E20 N14 s26
    have H29 := (s26.blk n18.blk (by omega))
    refine lw_e (oe_store (v := .agg #[.int .u64 0, .int .u64 0, .int .u64 0, .int .u64 0]) (vs := [.int .u64 0, .int .u64 0, .int .u64 0, .int .u64 0]) (l := [.int .u64 0, .int .u64 0, .int .u64 0, .int .u64 0]) (T rfl rfl) (T rfl rfl) sz26 rfl rfl rfl H29 rfl ?_)
    intro w30 s31 H32
    have E33 := below_st E28 N19 s31
    refine lw_v (.bool false) (dv_assign C) ?_
    refine lw_nil ?_
    have H34 := (s31.blk H27 (by omega))
    refine rk_ret Try.func18 (v := .tuple #[.agg #[.int .u64 0, .int .u64 0, .int .u64 0, .int .u64 0], .agg #[.int .u64 0, .int .u64 0, .int .u64 0, .int .u64 0], .bool false]) (res3 Try.results18 (rv_cells (l := [.int .u64 0, .int .u64 0, .int .u64 0, .int .u64 0]) agt26 sz26 rfl rfl H34 rfl) (rv_cells (l := [.int .u64 0, .int .u64 0, .int .u64 0, .int .u64 0]) agt26 sz26 rfl rfl H32 rfl) (rv_tmp rfl rfl)) ⟨_, rfl, ?_⟩
    have hS : ¬ (dOk x y) := by intro hd; have h1 := hd.1; have h2 := hd.2.1; have h3 := hd.2.2; first | contradiction | simp_all
    exact ⟨(tu3 (ag4 (vi (wf3 hS)) (vi (wf2 hS)) (vi (wf1 hS)) (vi (wf0 hS))) (ag4 (vi (wf3 hS)) (vi (wf2 hS)) (vi (wf1 hS)) (vi (wf0 hS))) (vf hS)), E33⟩
  · -- F
    have hz35 := mt (wl_zero fy_).2 hb22
    refine rk_cf (T rfl (congrArg Value.bool (decide_eq_false hb22))) ?_
    refine rk_skip ?_
    refine rk_seq ?_
    have H36 := (n18.ext.blk (n13.ext.blk (n8.ext.blk n3.blk)))
    have : b1 < w17.heap.size := lt_of_blk H36
    have : b6 < w17.heap.size := lt_of_blk H21
    have H37 := (n18.ext.blk n13.blk)
    have : b11 < w17.heap.size := lt_of_blk H37
    have : b16 < w17.heap.size := lt_of_blk n18.blk
    have : w.heap.size ≤ w17.heap.size := E20.size
    refine rk_par2 [fun vq wq_ => vq = .agg #[.int .u64 (wv3 x), .int .u64 (wv2 x), .int .u64 (wv1 x), .int .u64 (wv0 x)], fun vq wq_ => ∃ (nr52 : Bool) (A53 : Option Addr) (n54 : Nat) (c55 : Nat), vq = .agg #[.bool nr52, .slice A53 n54 c55] ∧ Num 32 102 .u32 wq_ nr52 A53 n54 c55 x 256, fun vq wq_ => vq = .agg #[.int .u64 (wv3 y), .int .u64 (wv2 y), .int .u64 (wv1 y), .int .u64 (wv0 y)], fun vq wq_ => ∃ (nr74 : Bool) (A75 : Option Addr) (n76 : Nat) (c77 : Nat), vq = .agg #[.bool nr74, .slice A75 n76 c77] ∧ Num 32 102 .u32 wq_ nr74 A75 n76 c77 y 256, fun vq wq_ => ∃ (nr100 : Bool) (A101 : Option Addr) (n102 : Nat) (c103 : Nat) (nr104 : Bool) (A105 : Option Addr) (n106 : Nat) (c107 : Nat), vq = .tuple #[.agg #[.bool nr100, .slice A101 n102 c103], .agg #[.bool nr104, .slice A105 n106 c107]] ∧ Num 32 102 .u32 wq_ nr100 A101 n102 c103 (x / y) 256 ∧ Num 32 102 .u32 wq_ nr104 A105 n106 c107 (x % y) 256, fun vq wq_ => ∃ (nr119 : Bool) (A120 : Option Addr) (n121 : Nat) (c122 : Nat) (nr123 : Bool) (A124 : Option Addr) (n125 : Nat) (c126 : Nat), vq = .tuple #[.agg #[.bool nr119, .slice A120 n121 c122], .agg #[.bool nr123, .slice A124 n125 c126]] ∧ Num 32 102 .u32 wq_ nr119 A120 n121 c122 (x / y) 256 ∧ Num 32 102 .u32 wq_ nr123 A124 n125 c126 (x % y) 256, fun vq wq_ => ∃ (nr136 : Bool) (A137 : Option Addr) (n138 : Nat) (c139 : Nat), vq = .agg #[.bool nr136, .slice A137 n138 c139] ∧ Num 32 102 .u32 wq_ nr136 A137 n138 c139 (x / y) 256, fun vq wq_ => ∃ (nr157 : Bool) (A158 : Option Addr) (n159 : Nat) (c160 : Nat), vq = .agg #[.bool nr157, .slice A158 n159 c160] ∧ Num 32 102 .u32 wq_ nr157 A158 n159 c160 (x % y) 256, fun _ _ => True, fun _ _ => True, fun _ _ => True, fun _ _ => True] [⟨8, 10, 6, 61, #[.bool false, .slice none 0 0]⟩, ⟨9, 11, 7, 61, #[.bool false, .slice none 0 0]⟩] [61] mo (by kernel_rfl) (by kernel_rfl) ?_ ?_ ?_ ?_ ?_
    · intro e he e2 he2 h; simp only [List.mem_cons, List.not_mem_nil, or_false] at he he2; rcases he with rfl | rfl <;> rcases he2 with rfl | rfl <;> first | rfl | exact absurd h (by decide)
    · exact ⟨⟨fun v w w2 e h => h, fun v w w2 b cs T fz s hb hT h => h⟩, ⟨fun v w w2 e ⟨nr52, A53, n54, c55, hv, h0_⟩ => ⟨nr52, A53, n54, c55, hv, h0_.ext e⟩, fun v w w2 b cs T fz s hb hT ⟨nr52, A53, n54, c55, hv, h0_⟩ => ⟨nr52, A53, n54, c55, hv, h0_.st s hb (ts_ne hT (by decide))⟩⟩, ⟨fun v w w2 e h => h, fun v w w2 b cs T fz s hb hT h => h⟩, ⟨fun v w w2 e ⟨nr74, A75, n76, c77, hv, h0_⟩ => ⟨nr74, A75, n76, c77, hv, h0_.ext e⟩, fun v w w2 b cs T fz s hb hT ⟨nr74, A75, n76, c77, hv, h0_⟩ => ⟨nr74, A75, n76, c77, hv, h0_.st s hb (ts_ne hT (by decide))⟩⟩, ⟨fun v w w2 e ⟨nr100, A101, n102, c103, nr104, A105, n106, c107, hv, h0_, h1_⟩ => ⟨nr100, A101, n102, c103, nr104, A105, n106, c107, hv, h0_.ext e, h1_.ext e⟩, fun v w w2 b cs T fz s hb hT ⟨nr100, A101, n102, c103, nr104, A105, n106, c107, hv, h0_, h1_⟩ => ⟨nr100, A101, n102, c103, nr104, A105, n106, c107, hv, h0_.st s hb (ts_ne hT (by decide)), h1_.st s hb (ts_ne hT (by decide))⟩⟩, ⟨fun v w w2 e ⟨nr119, A120, n121, c122, nr123, A124, n125, c126, hv, h0_, h1_⟩ => ⟨nr119, A120, n121, c122, nr123, A124, n125, c126, hv, h0_.ext e, h1_.ext e⟩, fun v w w2 b cs T fz s hb hT ⟨nr119, A120, n121, c122, nr123, A124, n125, c126, hv, h0_, h1_⟩ => ⟨nr119, A120, n121, c122, nr123, A124, n125, c126, hv, h0_.st s hb (ts_ne hT (by decide)), h1_.st s hb (ts_ne hT (by decide))⟩⟩, ⟨fun v w w2 e ⟨nr136, A137, n138, c139, hv, h0_⟩ => ⟨nr136, A137, n138, c139, hv, h0_.ext e⟩, fun v w w2 b cs T fz s hb hT ⟨nr136, A137, n138, c139, hv, h0_⟩ => ⟨nr136, A137, n138, c139, hv, h0_.st s hb (ts_ne hT (by decide))⟩⟩, ⟨fun v w w2 e ⟨nr157, A158, n159, c160, hv, h0_⟩ => ⟨nr157, A158, n159, c160, hv, h0_.ext e⟩, fun v w w2 b cs T fz s hb hT ⟨nr157, A158, n159, c160, hv, h0_⟩ => ⟨nr157, A158, n159, c160, hv, h0_.st s hb (ts_ne hT (by decide))⟩⟩, ⟨fun v w w2 e h => h, fun v w w2 b cs T fz s hb hT h => h⟩, ⟨fun v w w2 e h => h, fun v w w2 b cs T fz s hb hT h => h⟩, ⟨fun v w w2 e h => h, fun v w w2 b cs T fz s hb hT h => h⟩, ⟨fun v w w2 e h => h, fun v w w2 b cs T fz s hb hT h => h⟩, trivial⟩
    · refine ⟨?_, ?_, ?_, ?_, ?_, ?_, ?_, ?_, ?_, ?_, ?_, ?_, trivial⟩
      · refine .inr ⟨by kernel_rfl, ?_⟩
        intro fr39 w38 e40 hF41 hD42
        have E43 := below_ext E20 E20.size e40
        have H44 := (e40.blk H36)
        exact DV.oe (dv_loads (l := [.int .u64 (wv3 x), .int .u64 (wv2 x), .int .u64 (wv1 x), .int .u64 (wv0 x)]) agt26 sz26 (T rfl (hF41 2 (by kernel_rfl))) H44 rfl) ⟨Below.refl _ _, rfl⟩
      · refine .inr ⟨by kernel_rfl, ?_⟩
        intro fr46 w45 e47 hF48 hD49
        have E50 := below_ext E20 E20.size e47
        have hv51 : fr46 19 = .agg #[.int .u64 (wv3 x), .int .u64 (wv2 x), .int .u64 (wv1 x), .int .u64 (wv0 x)] := hD49 0 _ (by kernel_rfl) rfl (by kernel_rfl)
        refine id (oe_callf (vs := [.agg #[.int .u64 (wv3 x), .int .u64 (wv2 x), .int .u64 (wv1 x), .int .u64 (wv0 x)]]) co50 (ar1 (T rfl hv51)) (l1Fromz_ok (z := x) fx_) ?_)
        rintro _ w57 ⟨nr52, A53, n54, c55, rfl, e58, h56⟩
        have E59 := below_ext E50 E50.size e58
        have lh56 := Num.len (by decide) h56
        exact ⟨e58, nr52, A53, n54, c55, rfl, h56⟩
      · refine .inr ⟨by kernel_rfl, ?_⟩
        intro fr61 w60 e62 hF63 hD64
        have E65 := below_ext E20 E20.size e62
        have H66 := (e62.blk H21)
        exact DV.oe (dv_loads (l := [.int .u64 (wv3 y), .int .u64 (wv2 y), .int .u64 (wv1 y), .int .u64 (wv0 y)]) agt26 sz26 (T rfl (hF63 3 (by kernel_rfl))) H66 rfl) ⟨Below.refl _ _, rfl⟩
      · refine .inr ⟨by kernel_rfl, ?_⟩
        intro fr68 w67 e69 hF70 hD71
        have E72 := below_ext E20 E20.size e69
        have hv73 : fr68 21 = .agg #[.int .u64 (wv3 y), .int .u64 (wv2 y), .int .u64 (wv1 y), .int .u64 (wv0 y)] := hD71 2 _ (by kernel_rfl) rfl (by kernel_rfl)
        refine id (oe_callf (vs := [.agg #[.int .u64 (wv3 y), .int .u64 (wv2 y), .int .u64 (wv1 y), .int .u64 (wv0 y)]]) co50 (ar1 (T rfl hv73)) (l1Fromz_ok (z := y) fy_) ?_)
        rintro _ w79 ⟨nr74, A75, n76, c77, rfl, e80, h78⟩
        have E81 := below_ext E72 E72.size e80
        have lh78 := Num.len (by decide) h78
        exact ⟨e80, nr74, A75, n76, c77, rfl, h78⟩
      · refine .inr ⟨by kernel_rfl, ?_⟩
        intro fr83 w82 e84 hF85 hD86
        have E87 := below_ext E20 E20.size e84
        obtain ⟨nr88, A89, n90, c91, hv92, hp93⟩ : ∃ (nr52 : Bool) (A53 : Option Addr) (n54 : Nat) (c55 : Nat), fr83 20 = .agg #[.bool nr52, .slice A53 n54 c55] ∧ Num 32 102 .u32 w82 nr52 A53 n54 c55 x 256 := hD86 1 _ (by kernel_rfl) rfl (by kernel_rfl)
        have lhp93 := Num.len (by decide) hp93
        obtain ⟨nr94, A95, n96, c97, hv98, hp99⟩ : ∃ (nr74 : Bool) (A75 : Option Addr) (n76 : Nat) (c77 : Nat), fr83 22 = .agg #[.bool nr74, .slice A75 n76 c77] ∧ Num 32 102 .u32 w82 nr74 A75 n76 c77 y 256 := hD86 3 _ (by kernel_rfl) rfl (by kernel_rfl)
        have lhp99 := Num.len (by decide) hp99
        refine id (oe_callf (vs := [.agg #[.bool nr88, .slice A89 n90 c91], .agg #[.bool nr94, .slice A95 n96 c97]]) co53 (ar2 (T rfl hv92) (T rfl hv98)) (l1Div_ok hp93 hp99 (by omega) (by first | decide | omega) (by first | decide | omega)) ?_)
        rintro _ w110 ⟨nr100, A101, n102, c103, nr104, A105, n106, c107, rfl, e111, h108, h109⟩
        have E112 := below_ext E87 E87.size e111
        have lh108 := Num.len (by decide) h108
        have lh109 := Num.len (by decide) h109
        exact ⟨e111, nr100, A101, n102, c103, nr104, A105, n106, c107, rfl, h108, h109⟩
      · refine .inr ⟨by kernel_rfl, ?_⟩
        intro fr114 w113 e115 hF116 hD117
        have E118 := below_ext E20 E20.size e115
        obtain ⟨nr119, A120, n121, c122, nr123, A124, n125, c126, hv127, hp128, hp129⟩ : ∃ (nr100 : Bool) (A101 : Option Addr) (n102 : Nat) (c103 : Nat) (nr104 : Bool) (A105 : Option Addr) (n106 : Nat) (c107 : Nat), fr114 23 = .tuple #[.agg #[.bool nr100, .slice A101 n102 c103], .agg #[.bool nr104, .slice A105 n106 c107]] ∧ Num 32 102 .u32 w113 nr100 A101 n102 c103 (x / y) 256 ∧ Num 32 102 .u32 w113 nr104 A105 n106 c107 (x % y) 256 := hD117 4 _ (by kernel_rfl) rfl (by kernel_rfl)
        have lhp128 := Num.len (by decide) hp128
        have lhp129 := Num.len (by decide) hp129
        exact DV.oe (dv_move (T rfl hv127)) ⟨Below.refl _ _, nr119, A120, n121, c122, nr123, A124, n125, c126, rfl, hp128, hp129⟩
      · refine .inr ⟨by kernel_rfl, ?_⟩
        intro fr131 w130 e132 hF133 hD134
        have E135 := below_ext E20 E20.size e132
        obtain ⟨nr136, A137, n138, c139, nr140, A141, n142, c143, hv144, hp145, hp146⟩ : ∃ (nr119 : Bool) (A120 : Option Addr) (n121 : Nat) (c122 : Nat) (nr123 : Bool) (A124 : Option Addr) (n125 : Nat) (c126 : Nat), fr131 18 = .tuple #[.agg #[.bool nr119, .slice A120 n121 c122], .agg #[.bool nr123, .slice A124 n125 c126]] ∧ Num 32 102 .u32 w130 nr119 A120 n121 c122 (x / y) 256 ∧ Num 32 102 .u32 w130 nr123 A124 n125 c126 (x % y) 256 := hD134 5 _ (by kernel_rfl) rfl (by kernel_rfl)
        have lhp145 := Num.len (by decide) hp145
        have lhp146 := Num.len (by decide) hp146
        exact DV.oe (dv_extract (vs := #[.agg #[.bool nr136, .slice A137 n138 c139], .agg #[.bool nr140, .slice A141 n142 c143]]) (T rfl hv144) rfl) ⟨Below.refl _ _, nr136, A137, n138, c139, rfl, hp145⟩
      · refine .inr ⟨by kernel_rfl, ?_⟩
        intro fr148 w147 e149 hF150 hD151
        have E152 := below_ext E20 E20.size e149
        obtain ⟨nr153, A154, n155, c156, nr157, A158, n159, c160, hv161, hp162, hp163⟩ : ∃ (nr119 : Bool) (A120 : Option Addr) (n121 : Nat) (c122 : Nat) (nr123 : Bool) (A124 : Option Addr) (n125 : Nat) (c126 : Nat), fr148 18 = .tuple #[.agg #[.bool nr119, .slice A120 n121 c122], .agg #[.bool nr123, .slice A124 n125 c126]] ∧ Num 32 102 .u32 w147 nr119 A120 n121 c122 (x / y) 256 ∧ Num 32 102 .u32 w147 nr123 A124 n125 c126 (x % y) 256 := hD151 5 _ (by kernel_rfl) rfl (by kernel_rfl)
        have lhp162 := Num.len (by decide) hp162
        have lhp163 := Num.len (by decide) hp163
        exact DV.oe (dv_extract (vs := #[.agg #[.bool nr153, .slice A154 n155 c156], .agg #[.bool nr157, .slice A158 n159 c160]]) (T rfl hv161) rfl) ⟨Below.refl _ _, nr157, A158, n159, c160, rfl, hp163⟩
      · exact .inl (.inr ⟨by kernel_rfl, fun _ _ => trivial⟩)
      · exact .inl (.inr ⟨by kernel_rfl, fun _ _ => trivial⟩)
      · exact .inl (.inl (by kernel_rfl))
      · exact .inl (.inl (by kernel_rfl))
    · refine ⟨⟨⟨_, rfl, fun _ _ => oe_alloc ze61 fun b w hn => ⟨b, rfl, hn⟩⟩, ⟨_, rfl, ?_⟩⟩, ⟨⟨_, rfl, fun _ _ => oe_alloc ze61 fun b w hn => ⟨b, rfl, hn⟩⟩, ⟨_, rfl, ?_⟩⟩, trivial⟩
      · intro fr165 w164 b169 e166 hF167 hD168 hA170 hB171
        have E172 := below_ext E20 E20.size e166
        obtain ⟨nr173, A174, n175, c176, hv177, hp178⟩ : ∃ (nr136 : Bool) (A137 : Option Addr) (n138 : Nat) (c139 : Nat), fr165 24 = .agg #[.bool nr136, .slice A137 n138 c139] ∧ Num 32 102 .u32 w164 nr136 A137 n138 c139 (x / y) 256 := hD168 6 _ (by kernel_rfl) rfl (by kernel_rfl)
        have lhp178 := Num.len (by decide) hp178
        refine id (oe_store (v := .agg #[.bool nr173, .slice A174 n175 c176]) (vs := [.bool nr173, .slice A174 n175 c176]) (l := [.bool nr173, .slice A174 n175 c176]) (T rfl hA170) (T rfl hv177) sz61 rfl rfl rfl hB171 rfl ?_)
        intro w179 s180 H181
        exact ⟨s180, H181.trans (congrArg (fun v : Value => some (Obj.cells v.cells 61)) (show fr165 24 = _ from hv177).symm)⟩
      · intro fr184 w183 b188 e185 hF186 hD187 hA189 hB190
        have E191 := below_ext E20 E20.size e185
        obtain ⟨nr192, A193, n194, c195, hv196, hp197⟩ : ∃ (nr157 : Bool) (A158 : Option Addr) (n159 : Nat) (c160 : Nat), fr184 25 = .agg #[.bool nr157, .slice A158 n159 c160] ∧ Num 32 102 .u32 w183 nr157 A158 n159 c160 (x % y) 256 := hD187 7 _ (by kernel_rfl) rfl (by kernel_rfl)
        have lhp197 := Num.len (by decide) hp197
        refine id (oe_store (v := .agg #[.bool nr192, .slice A193 n194 c195]) (vs := [.bool nr192, .slice A193 n194 c195]) (l := [.bool nr192, .slice A193 n194 c195]) (T rfl hA189) (T rfl hv196) sz61 rfl rfl rfl hB190 rfl ?_)
        intro w198 s199 H200
        exact ⟨s199, H200.trans (congrArg (fun v : Value => some (Obj.cells v.cells 61)) (show fr184 25 = _ from hv196).symm)⟩
    intro fr203 w202 e204 hF205 hP206 hM207 hN208
    have E209 := below_ext E20 E20.size e204
    obtain ⟨_, _, _, _, _, _, p210, p211, _, _, _, _, _⟩ := hP206
    obtain ⟨nr212, A213, n214, c215, hv216, hp217⟩ : ∃ (nr136 : Bool) (A137 : Option Addr) (n138 : Nat) (c139 : Nat), fr203 24 = .agg #[.bool nr136, .slice A137 n138 c139] ∧ Num 32 102 .u32 w202 nr136 A137 n138 c139 (x / y) 256 := p210.resolve_left (nst (by kernel_rfl))
    have lhp217 := Num.len (by decide) hp217
    obtain ⟨nr218, A219, n220, c221, hv222, hp223⟩ : ∃ (nr157 : Bool) (A158 : Option Addr) (n159 : Nat) (c160 : Nat), fr203 25 = .agg #[.bool nr157, .slice A158 n159 c160] ∧ Num 32 102 .u32 w202 nr157 A158 n159 c160 (x % y) 256 := p211.resolve_left (nst (by kernel_rfl))
    have lhp223 := Num.len (by decide) hp223
    obtain ⟨⟨b224, hA225, hB226, hC227⟩, ⟨b228, hA229, hB230, hC231⟩, _⟩ := hM207
    have H232 : w202.heap[b224]? = some (.cells #[.bool nr212, .slice A213 n214 c215] 61) := hC227.trans (congrArg (fun v : Value => some (Obj.cells v.cells 61)) hv216)
    have N233 : w.heap.size ≤ b224 := by omega
    have H234 : w202.heap[b228]? = some (.cells #[.bool nr218, .slice A219 n220 c221] 61) := hC231.trans (congrArg (fun v : Value => some (Obj.cells v.cells 61)) hv222)
    have N235 : w.heap.size ≤ b228 := by omega
    have : b228 ≠ b224 := fun hh => hN208 _ (.tail _ (.head _)) _ (.head _) (by decide) (hA229.trans ((congrArg (fun q => Value.pointer (some ⟨q, 0, none⟩)) hh).trans hA225.symm))
    refine rk_seq ?_
    refine rk_reg ?_
    refine lw_v (.agg #[.bool nr212, .slice A213 n214 c215]) (dv_loads (l := [.bool nr212, .slice A213 n214 c215]) agt61 sz61 (T rfl hA225) H232 rfl) ?_
    refine lw_e (oe_callf (vs := [.agg #[.bool nr212, .slice A213 n214 c215]]) co54 (ar1 (T rfl rfl)) (l1Wide_ok hp217 (by first | decide | omega)) ?_)
    rintro _ w237 ⟨rfl, e238⟩
    have E239 := below_ext E209 E209.size e238
    have bw236 := w_rg (x / y)
    refine lw_v (.tuple #[.agg #[.int .u64 (wv3 (x / y)), .int .u64 (wv2 (x / y)), .int .u64 (wv1 (x / y)), .int .u64 (wv0 (x / y))], .bool (decide (fits (x / y)))]) (dv_move (T rfl rfl)) ?_
    refine lw_v (.agg #[.int .u64 (wv3 (x / y)), .int .u64 (wv2 (x / y)), .int .u64 (wv1 (x / y)), .int .u64 (wv0 (x / y))]) (dv_extract (vs := #[.agg #[.int .u64 (wv3 (x / y)), .int .u64 (wv2 (x / y)), .int .u64 (wv1 (x / y)), .int .u64 (wv0 (x / y))], .bool (decide (fits (x / y)))]) (T rfl rfl) rfl) ?_
    refine lw_v (.bool (decide (fits (x / y)))) (dv_extract (vs := #[.agg #[.int .u64 (wv3 (x / y)), .int .u64 (wv2 (x / y)), .int .u64 (wv1 (x / y)), .int .u64 (wv0 (x / y))], .bool (decide (fits (x / y)))]) (T rfl rfl) rfl) ?_
    refine lw_e (oe_alloc ze26 ?_)
    intro b240 w241 n242
    have N243 : w.heap.size ≤ b240 := n242.eq ▸ E239.size
    have H244 := (e238.blk (e204.blk H36))
    have : b1 < b240 := n242.eq ▸ lt_of_blk H244
    have H245 := (e238.blk (e204.blk H21))
    have : b6 < b240 := n242.eq ▸ lt_of_blk H245
    have H246 := (e238.blk (e204.blk H37))
    have : b11 < b240 := n242.eq ▸ lt_of_blk H246
    have H247 := (e238.blk (e204.blk n18.blk))
    have : b16 < b240 := n242.eq ▸ lt_of_blk H247
    have H248 := (e238.blk H232)
    have : b224 < b240 := n242.eq ▸ lt_of_blk H248
    have H249 := (e238.blk H234)
    have : b228 < b240 := n242.eq ▸ lt_of_blk H249
    have E250 := below_ext E239 E239.size n242.ext
    refine lw_e (oe_store (v := .agg #[.int .u64 (wv3 (x / y)), .int .u64 (wv2 (x / y)), .int .u64 (wv1 (x / y)), .int .u64 (wv0 (x / y))]) (vs := [.int .u64 (wv3 (x / y)), .int .u64 (wv2 (x / y)), .int .u64 (wv1 (x / y)), .int .u64 (wv0 (x / y))]) (l := [.int .u64 (wv3 (x / y)), .int .u64 (wv2 (x / y)), .int .u64 (wv1 (x / y)), .int .u64 (wv0 (x / y))]) (T rfl rfl) (T rfl rfl) sz26 rfl rfl rfl n242.blk rfl ?_)
    intro w251 s252 H253
    have E254 := below_st E250 N243 s252
    refine lw_v (.bool (decide (fits (x / y)))) (dv_assign (T rfl rfl)) ?_
    refine lw_nil ?_
    refine rk_seq ?_
    refine rk_reg ?_
    have H255 := (s252.blk (n242.ext.blk H249) (by omega))
    refine lw_v (.agg #[.bool nr218, .slice A219 n220 c221]) (dv_loads (l := [.bool nr218, .slice A219 n220 c221]) agt61 sz61 (T rfl hA229) H255 rfl) ?_
    have h256 := (((hp223.ext e238).ext n242.ext).st s252 n242.blk (by decide))
    refine lw_e (oe_callf (vs := [.agg #[.bool nr218, .slice A219 n220 c221]]) co54 (ar1 (T rfl rfl)) (l1Wide_ok h256 (by first | decide | omega)) ?_)
    rintro _ w258 ⟨rfl, e259⟩
    have E260 := below_ext E254 E254.size e259
    have bw257 := w_rg (x % y)
    refine lw_v (.tuple #[.agg #[.int .u64 (wv3 (x % y)), .int .u64 (wv2 (x % y)), .int .u64 (wv1 (x % y)), .int .u64 (wv0 (x % y))], .bool (decide (fits (x % y)))]) (dv_move (T rfl rfl)) ?_
    refine lw_v (.agg #[.int .u64 (wv3 (x % y)), .int .u64 (wv2 (x % y)), .int .u64 (wv1 (x % y)), .int .u64 (wv0 (x % y))]) (dv_extract (vs := #[.agg #[.int .u64 (wv3 (x % y)), .int .u64 (wv2 (x % y)), .int .u64 (wv1 (x % y)), .int .u64 (wv0 (x % y))], .bool (decide (fits (x % y)))]) (T rfl rfl) rfl) ?_
    refine lw_v (.bool (decide (fits (x % y)))) (dv_extract (vs := #[.agg #[.int .u64 (wv3 (x % y)), .int .u64 (wv2 (x % y)), .int .u64 (wv1 (x % y)), .int .u64 (wv0 (x % y))], .bool (decide (fits (x % y)))]) (T rfl rfl) rfl) ?_
    refine lw_e (oe_alloc ze26 ?_)
    intro b261 w262 n263
    have N264 : w.heap.size ≤ b261 := n263.eq ▸ E260.size
    have H265 := (e259.blk (s252.blk (n242.ext.blk H244) (by omega)))
    have : b1 < b261 := n263.eq ▸ lt_of_blk H265
    have H266 := (e259.blk (s252.blk (n242.ext.blk H245) (by omega)))
    have : b6 < b261 := n263.eq ▸ lt_of_blk H266
    have H267 := (e259.blk (s252.blk (n242.ext.blk H246) (by omega)))
    have : b11 < b261 := n263.eq ▸ lt_of_blk H267
    have H268 := (e259.blk (s252.blk (n242.ext.blk H247) (by omega)))
    have : b16 < b261 := n263.eq ▸ lt_of_blk H268
    have H269 := (e259.blk (s252.blk (n242.ext.blk H248) (by omega)))
    have : b224 < b261 := n263.eq ▸ lt_of_blk H269
    have H270 := (e259.blk H255)
    have : b228 < b261 := n263.eq ▸ lt_of_blk H270
    have H271 := (e259.blk H253)
    have : b240 < b261 := n263.eq ▸ lt_of_blk H271
    have E272 := below_ext E260 E260.size n263.ext
    refine lw_e (oe_store (v := .agg #[.int .u64 (wv3 (x % y)), .int .u64 (wv2 (x % y)), .int .u64 (wv1 (x % y)), .int .u64 (wv0 (x % y))]) (vs := [.int .u64 (wv3 (x % y)), .int .u64 (wv2 (x % y)), .int .u64 (wv1 (x % y)), .int .u64 (wv0 (x % y))]) (l := [.int .u64 (wv3 (x % y)), .int .u64 (wv2 (x % y)), .int .u64 (wv1 (x % y)), .int .u64 (wv0 (x % y))]) (T rfl rfl) (T rfl rfl) sz26 rfl rfl rfl n263.blk rfl ?_)
    intro w273 s274 H275
    have E276 := below_st E272 N264 s274
    refine lw_v (.bool (decide (fits (x % y)))) (dv_assign (T rfl rfl)) ?_
    refine lw_nil ?_
    refine rk_seq ?_
    refine rk_seq ?_
    refine rk_reg ?_
    refine lw_v (.bool (decide (fits (x / y)))) (dv_move (T rfl rfl)) ?_
    refine lw_v (.bool (decide (¬ (fits (x / y))))) (dv_notd (p := fits (x / y)) (T rfl rfl)) ?_
    refine lw_v (.bool (decide (¬ (fits (x / y))))) (dv_move (T rfl rfl)) ?_
    by_cases hb277 : fits (x / y)
    · -- FT
      refine lw_vy (.bool (decide (fits (x % y)))) (d := 38) rfl rfl (congrArg Value.bool (decide_eq_false (not_not_intro hb277))) (dv_move (T rfl rfl)) ?_
      refine lw_vy (.bool (decide (¬ (fits (x % y))))) (d := 38) rfl rfl (congrArg Value.bool (decide_eq_false (not_not_intro hb277))) (dv_notd (p := fits (x % y)) (T rfl rfl)) ?_
      refine lw_v (.bool (decide (¬ (fits (x % y))))) (dv_pick_f (T rfl (congrArg Value.bool (decide_eq_false (not_not_intro hb277)))) (T rfl rfl)) ?_
      refine lw_nil ?_
      by_cases hb278 : fits (x % y)
      · -- FTT
        refine rk_cf (T rfl (congrArg Value.bool (decide_eq_false (not_not_intro hb278)))) ?_
        refine rk_skip ?_
        refine rk_seq ?_
        refine rk_any (fun w => w.heap[b240]? = some (.cells #[.int .u64 (wv3 (x / y)), .int .u64 (wv2 (x / y)), .int .u64 (wv1 (x / y)), .int .u64 (wv0 (x / y))] 26) ∧ w.heap[b261]? = some (.cells #[.int .u64 (wv3 (x % y)), .int .u64 (wv2 (x % y)), .int .u64 (wv1 (x % y)), .int .u64 (wv0 (x % y))] 26)) [4] mo ?_
        intro w279 d280
        have E281 := below_ext E276 E276.size d280.ext
        have H282 := (d280.ext.blk (s274.blk (n263.ext.blk H271) (by omega)))
        have H283 := (d280.ext.blk H275)
        refine aw_load 0 (.agg #[.int .u64 (wv3 (x / y)), .int .u64 (wv2 (x / y)), .int .u64 (wv1 (x / y)), .int .u64 (wv0 (x / y))]) rfl (by kernel_rfl) .none ⟨H282, H283⟩ (fun _ s => dv_loads (l := [.int .u64 (wv3 (x / y)), .int .u64 (wv2 (x / y)), .int .u64 (wv1 (x / y)), .int .u64 (wv0 (x / y))]) agt26 sz26 (T rfl rfl) s.1 rfl) ?_
        refine aw_load 1 (.agg #[.int .u64 (wv3 (x % y)), .int .u64 (wv2 (x % y)), .int .u64 (wv1 (x % y)), .int .u64 (wv0 (x % y))]) rfl (by kernel_rfl) .none ⟨H282, H283⟩ (fun _ s => dv_loads (l := [.int .u64 (wv3 (x % y)), .int .u64 (wv2 (x % y)), .int .u64 (wv1 (x % y)), .int .u64 (wv0 (x % y))]) agt26 sz26 (T rfl rfl) s.2 rfl) ?_
        have H284 := (d280.ext.blk (s274.blk (n263.ext.blk H267) (by omega)))
        refine aw_one 2 rfl (by kernel_rfl) .none (oe_store (v := .agg #[.int .u64 (wv3 (x / y)), .int .u64 (wv2 (x / y)), .int .u64 (wv1 (x / y)), .int .u64 (wv0 (x / y))]) (vs := [.int .u64 (wv3 (x / y)), .int .u64 (wv2 (x / y)), .int .u64 (wv1 (x / y)), .int .u64 (wv0 (x / y))]) (l := [.int .u64 (wv3 (x / y)), .int .u64 (wv2 (x / y)), .int .u64 (wv1 (x / y)), .int .u64 (wv0 (x / y))]) (T rfl (hF205 4 rfl)) (T rfl rfl) sz26 rfl rfl rfl H284 rfl ?_)
        intro w285 s286 H287
        have E288 := below_st E281 N14 s286
        have H289 := (s286.blk H282 (by omega))
        have H290 := (s286.blk H283 (by omega))
        refine ⟨.inr ⟨H289, H290⟩, ?_⟩
        have H291 := (s286.blk (d280.ext.blk (s274.blk (n263.ext.blk H268) (by omega))) (by omega))
        refine aw_one 3 rfl (by kernel_rfl) .none (oe_store (v := .agg #[.int .u64 (wv3 (x % y)), .int .u64 (wv2 (x % y)), .int .u64 (wv1 (x % y)), .int .u64 (wv0 (x % y))]) (vs := [.int .u64 (wv3 (x % y)), .int .u64 (wv2 (x % y)), .int .u64 (wv1 (x % y)), .int .u64 (wv0 (x % y))]) (l := [.int .u64 (wv3 (x % y)), .int .u64 (wv2 (x % y)), .int .u64 (wv1 (x % y)), .int .u64 (wv0 (x % y))]) (T rfl (hF205 5 rfl)) (T rfl rfl) sz26 rfl rfl rfl H291 rfl ?_)
        intro w292 s293 H294
        have E295 := below_st E288 N19 s293
        have H296 := (s293.blk H289 (by omega))
        have H297 := (s293.blk H290 (by omega))
        refine ⟨.inr ⟨H296, H297⟩, ?_⟩
        refine aw_last 4 (.bool true) rfl (by kernel_rfl) .none (fun _ => dv_assign C) ?_
        refine aw_done (by kernel_rfl) ?_
        have H298 := (s293.blk H287 (by omega))
        refine rk_ret Try.func18 (v := .tuple #[.agg #[.int .u64 (wv3 (x / y)), .int .u64 (wv2 (x / y)), .int .u64 (wv1 (x / y)), .int .u64 (wv0 (x / y))], .agg #[.int .u64 (wv3 (x % y)), .int .u64 (wv2 (x % y)), .int .u64 (wv1 (x % y)), .int .u64 (wv0 (x % y))], .bool true]) (res3 Try.results18 (rv_cells (l := [.int .u64 (wv3 (x / y)), .int .u64 (wv2 (x / y)), .int .u64 (wv1 (x / y)), .int .u64 (wv0 (x / y))]) agt26 sz26 rfl (hF205 4 rfl) H298 rfl) (rv_cells (l := [.int .u64 (wv3 (x % y)), .int .u64 (wv2 (x % y)), .int .u64 (wv1 (x % y)), .int .u64 (wv0 (x % y))]) agt26 sz26 rfl (hF205 5 rfl) H294 rfl) (rv_tmp rfl rfl)) ⟨_, rfl, ?_⟩
        have hS : dOk x y := by exact ⟨by assumption, by first | assumption | simpa using ‹_›, by first | assumption | simpa using ‹_›⟩
        exact ⟨(tu3 (ag4 (vi (by rw [pkz_t hS])) (vi (by rw [pkz_t hS])) (vi (by rw [pkz_t hS])) (vi (by rw [pkz_t hS]))) (ag4 (vi (by rw [pkz_t hS])) (vi (by rw [pkz_t hS])) (vi (by rw [pkz_t hS])) (vi (by rw [pkz_t hS]))) (vt hS)), E295⟩
      · -- FTF
        refine rk_ct (T rfl (congrArg Value.bool (decide_eq_true hb278))) ?_
        refine rk_seq ?_
        refine rk_reg ?_
        refine lw_v (.agg #[.int .u64 0, .int .u64 0, .int .u64 0, .int .u64 0]) (dv_build (pv := []) (l := [.int .u64 0, .int .u64 0, .int .u64 0, .int .u64 0]) zc26 pl26 trivial rfl) ?_
        refine lw_v (.agg #[.int .u64 0, .int .u64 0, .int .u64 0, .int .u64 0]) (dv_build (pv := []) (l := [.int .u64 0, .int .u64 0, .int .u64 0, .int .u64 0]) zc26 pl26 trivial rfl) ?_
        have H299 := (s274.blk (n263.ext.blk H267) (by omega))
        refine lw_e (oe_store (v := .agg #[.int .u64 0, .int .u64 0, .int .u64 0, .int .u64 0]) (vs := [.int .u64 0, .int .u64 0, .int .u64 0, .int .u64 0]) (l := [.int .u64 0, .int .u64 0, .int .u64 0, .int .u64 0]) (T rfl (hF205 4 rfl)) (T rfl rfl) sz26 rfl rfl rfl H299 rfl ?_)
        intro w300 s301 H302
        have E303 := below_st E276 N14 s301
        have H304 := (s301.blk (s274.blk (n263.ext.blk H268) (by omega)) (by omega))
        refine lw_e (oe_store (v := .agg #[.int .u64 0, .int .u64 0, .int .u64 0, .int .u64 0]) (vs := [.int .u64 0, .int .u64 0, .int .u64 0, .int .u64 0]) (l := [.int .u64 0, .int .u64 0, .int .u64 0, .int .u64 0]) (T rfl (hF205 5 rfl)) (T rfl rfl) sz26 rfl rfl rfl H304 rfl ?_)
        intro w305 s306 H307
        have E308 := below_st E303 N19 s306
        refine lw_v (.bool false) (dv_assign C) ?_
        refine lw_nil ?_
        have H309 := (s306.blk H302 (by omega))
        refine rk_ret Try.func18 (v := .tuple #[.agg #[.int .u64 0, .int .u64 0, .int .u64 0, .int .u64 0], .agg #[.int .u64 0, .int .u64 0, .int .u64 0, .int .u64 0], .bool false]) (res3 Try.results18 (rv_cells (l := [.int .u64 0, .int .u64 0, .int .u64 0, .int .u64 0]) agt26 sz26 rfl (hF205 4 rfl) H309 rfl) (rv_cells (l := [.int .u64 0, .int .u64 0, .int .u64 0, .int .u64 0]) agt26 sz26 rfl (hF205 5 rfl) H307 rfl) (rv_tmp rfl rfl)) ⟨_, rfl, ?_⟩
        have hS : ¬ (dOk x y) := by intro hd; have h1 := hd.1; have h2 := hd.2.1; have h3 := hd.2.2; first | contradiction | simp_all
        exact ⟨(tu3 (ag4 (vi (wf3 hS)) (vi (wf2 hS)) (vi (wf1 hS)) (vi (wf0 hS))) (ag4 (vi (wf3 hS)) (vi (wf2 hS)) (vi (wf1 hS)) (vi (wf0 hS))) (vf hS)), E308⟩
    · -- FF
      refine lw_no (d := 38) rfl rfl (congrArg Value.bool (decide_eq_true hb277)) ?_
      refine lw_no (d := 38) rfl rfl (congrArg Value.bool (decide_eq_true hb277)) ?_
      refine lw_v (.bool true) (dv_pick_t (T rfl (congrArg Value.bool (decide_eq_true hb277))) C) ?_
      refine lw_nil ?_
      refine rk_ct (T rfl rfl) ?_
      refine rk_seq ?_
      refine rk_reg ?_
      refine lw_v (.agg #[.int .u64 0, .int .u64 0, .int .u64 0, .int .u64 0]) (dv_build (pv := []) (l := [.int .u64 0, .int .u64 0, .int .u64 0, .int .u64 0]) zc26 pl26 trivial rfl) ?_
      refine lw_v (.agg #[.int .u64 0, .int .u64 0, .int .u64 0, .int .u64 0]) (dv_build (pv := []) (l := [.int .u64 0, .int .u64 0, .int .u64 0, .int .u64 0]) zc26 pl26 trivial rfl) ?_
      have H310 := (s274.blk (n263.ext.blk H267) (by omega))
      refine lw_e (oe_store (v := .agg #[.int .u64 0, .int .u64 0, .int .u64 0, .int .u64 0]) (vs := [.int .u64 0, .int .u64 0, .int .u64 0, .int .u64 0]) (l := [.int .u64 0, .int .u64 0, .int .u64 0, .int .u64 0]) (T rfl (hF205 4 rfl)) (T rfl rfl) sz26 rfl rfl rfl H310 rfl ?_)
      intro w311 s312 H313
      have E314 := below_st E276 N14 s312
      have H315 := (s312.blk (s274.blk (n263.ext.blk H268) (by omega)) (by omega))
      refine lw_e (oe_store (v := .agg #[.int .u64 0, .int .u64 0, .int .u64 0, .int .u64 0]) (vs := [.int .u64 0, .int .u64 0, .int .u64 0, .int .u64 0]) (l := [.int .u64 0, .int .u64 0, .int .u64 0, .int .u64 0]) (T rfl (hF205 5 rfl)) (T rfl rfl) sz26 rfl rfl rfl H315 rfl ?_)
      intro w316 s317 H318
      have E319 := below_st E314 N19 s317
      refine lw_v (.bool false) (dv_assign C) ?_
      refine lw_nil ?_
      have H320 := (s317.blk H313 (by omega))
      refine rk_ret Try.func18 (v := .tuple #[.agg #[.int .u64 0, .int .u64 0, .int .u64 0, .int .u64 0], .agg #[.int .u64 0, .int .u64 0, .int .u64 0, .int .u64 0], .bool false]) (res3 Try.results18 (rv_cells (l := [.int .u64 0, .int .u64 0, .int .u64 0, .int .u64 0]) agt26 sz26 rfl (hF205 4 rfl) H320 rfl) (rv_cells (l := [.int .u64 0, .int .u64 0, .int .u64 0, .int .u64 0]) agt26 sz26 rfl (hF205 5 rfl) H318 rfl) (rv_tmp rfl rfl)) ⟨_, rfl, ?_⟩
      have hS : ¬ (dOk x y) := by intro hd; have h1 := hd.1; have h2 := hd.2.1; have h3 := hd.2.2; first | contradiction | simp_all
      exact ⟨(tu3 (ag4 (vi (wf3 hS)) (vi (wf2 hS)) (vi (wf1 hS)) (vi (wf0 hS))) (ag4 (vi (wf3 hS)) (vi (wf2 hS)) (vi (wf1 hS)) (vi (wf0 hS))) (vf hS)), E319⟩

set_option maxHeartbeats 1000000 in
theorem iWideDiv_ok {w : World} {x y : Int} (fx_ : fits x) (fy_ : fits y)  : Ct Try.prog 19 [.agg #[.int .u64 (wv3 x), .int .u64 (wv2 x), .int .u64 (wv1 x), .int .u64 (wv0 x)], .agg #[.int .u64 (wv3 y), .int .u64 (wv2 y), .int .u64 (wv1 y), .int .u64 (wv0 y)]] w fun v w1 => v = .tuple #[.agg #[.int .u64 (wv3 (pkz (dOk x y) (x / y))), .int .u64 (wv2 (pkz (dOk x y) (x / y))), .int .u64 (wv1 (pkz (dOk x y) (x / y))), .int .u64 (wv0 (pkz (dOk x y) (x / y)))], .agg #[.int .u64 (wv3 (pkz (dOk x y) (x % y))), .int .u64 (wv2 (pkz (dOk x y) (x % y))), .int .u64 (wv1 (pkz (dOk x y) (x % y))), .int .u64 (wv0 (pkz (dOk x y) (x % y)))], .bool (decide (dOk x y))] ∧ Ext w w1 := by
  refine ct_run (n := 46) Try.func19 rfl Try.ntmps19 rfl ?_
  have E0 : Below w.heap.size w w := Below.refl _ _
  refine rk_seq ?_
  refine rk_reg ?_
  refine lw_e (oe_box (v := .agg #[.int .u64 (wv3 x), .int .u64 (wv2 x), .int .u64 (wv1 x), .int .u64 (wv0 x)]) (cs := #[.int .u64 (wv3 x), .int .u64 (wv2 x), .int .u64 (wv1 x), .int .u64 (wv0 x)]) (T rfl rfl) rfl ?_)
  intro b1 w2 n3
  have N4 : w.heap.size ≤ b1 := n3.eq ▸ E0.size
  have E5 := below_ext E0 E0.size n3.ext
  refine lw_e (oe_box (v := .agg #[.int .u64 (wv3 y), .int .u64 (wv2 y), .int .u64 (wv1 y), .int .u64 (wv0 y)]) (cs := #[.int .u64 (wv3 y), .int .u64 (wv2 y), .int .u64 (wv1 y), .int .u64 (wv0 y)]) (T rfl rfl) rfl ?_)
  intro b6 w7 n8
  have N9 : w.heap.size ≤ b6 := n8.eq ▸ E5.size
  have : b1 < b6 := n8.eq ▸ lt_of_blk n3.blk
  have E10 := below_ext E5 E5.size n8.ext
  refine lw_e (oe_alloc ze26 ?_)
  intro b11 w12 n13
  have N14 : w.heap.size ≤ b11 := n13.eq ▸ E10.size
  have : b6 < b11 := n13.eq ▸ lt_of_blk n8.blk
  have E15 := below_ext E10 E10.size n13.ext
  refine lw_e (oe_alloc ze26 ?_)
  intro b16 w17 n18
  have N19 : w.heap.size ≤ b16 := n18.eq ▸ E15.size
  have : b11 < b16 := n18.eq ▸ lt_of_blk n13.blk
  have E20 := below_ext E15 E15.size n18.ext
  refine lw_v (.bool false) (dv_assign C) ?_
  refine lw_nil ?_
  refine rk_seq ?_
  refine rk_seq ?_
  refine rk_reg ?_
  have H21 := (n18.ext.blk (n13.ext.blk n8.blk))
  refine lw_v (.agg #[.int .u64 (wv3 y), .int .u64 (wv2 y), .int .u64 (wv1 y), .int .u64 (wv0 y)]) (dv_loads (l := [.int .u64 (wv3 y), .int .u64 (wv2 y), .int .u64 (wv1 y), .int .u64 (wv0 y)]) agt26 sz26 (T rfl rfl) H21 rfl) ?_
  refine lw_v (.agg #[.int .u64 0, .int .u64 0, .int .u64 0, .int .u64 0]) (dv_build (pv := []) (l := [.int .u64 0, .int .u64 0, .int .u64 0, .int .u64 0]) zc26 pl26 trivial rfl) ?_
  refine lw_v (.bool (decide (([wv3 y, wv2 y, wv1 y, wv0 y] : List Int) = [0, 0, 0, 0]))) (dv_eqls (k := .u64) (la := [wv3 y, wv2 y, wv1 y, wv0 y]) (lb := [0, 0, 0, 0]) fl26 eg26 (T rfl rfl) (T rfl rfl) rfl rfl) ?_
  refine lw_nil ?_
  by_cases hb22 : ([wv3 y, wv2 y, wv1 y, wv0 y] : List Int) = [0, 0, 0, 0]
  · -- T
    have hz23 := (wl_zero fy_).1 hb22
    refine rk_ct (T rfl (congrArg Value.bool (decide_eq_true hb22))) ?_
    refine rk_seq ?_
    refine rk_reg ?_
    refine lw_v (.agg #[.int .u64 0, .int .u64 0, .int .u64 0, .int .u64 0]) (dv_build (pv := []) (l := [.int .u64 0, .int .u64 0, .int .u64 0, .int .u64 0]) zc26 pl26 trivial rfl) ?_
    refine lw_v (.agg #[.int .u64 0, .int .u64 0, .int .u64 0, .int .u64 0]) (dv_build (pv := []) (l := [.int .u64 0, .int .u64 0, .int .u64 0, .int .u64 0]) zc26 pl26 trivial rfl) ?_
    have H24 := (n18.ext.blk n13.blk)
    refine lw_e (oe_store (v := .agg #[.int .u64 0, .int .u64 0, .int .u64 0, .int .u64 0]) (vs := [.int .u64 0, .int .u64 0, .int .u64 0, .int .u64 0]) (l := [.int .u64 0, .int .u64 0, .int .u64 0, .int .u64 0]) (T rfl rfl) (T rfl rfl) sz26 rfl rfl rfl H24 rfl ?_)
    intro w25 s26 H27
    have E28 := below_st E20 N14 s26
    have H29 := (s26.blk n18.blk (by omega))
    refine lw_e (oe_store (v := .agg #[.int .u64 0, .int .u64 0, .int .u64 0, .int .u64 0]) (vs := [.int .u64 0, .int .u64 0, .int .u64 0, .int .u64 0]) (l := [.int .u64 0, .int .u64 0, .int .u64 0, .int .u64 0]) (T rfl rfl) (T rfl rfl) sz26 rfl rfl rfl H29 rfl ?_)
    intro w30 s31 H32
    have E33 := below_st E28 N19 s31
    refine lw_v (.bool false) (dv_assign C) ?_
    refine lw_nil ?_
    have H34 := (s31.blk H27 (by omega))
    refine rk_ret Try.func19 (v := .tuple #[.agg #[.int .u64 0, .int .u64 0, .int .u64 0, .int .u64 0], .agg #[.int .u64 0, .int .u64 0, .int .u64 0, .int .u64 0], .bool false]) (res3 Try.results19 (rv_cells (l := [.int .u64 0, .int .u64 0, .int .u64 0, .int .u64 0]) agt26 sz26 rfl rfl H34 rfl) (rv_cells (l := [.int .u64 0, .int .u64 0, .int .u64 0, .int .u64 0]) agt26 sz26 rfl rfl H32 rfl) (rv_tmp rfl rfl)) ⟨_, rfl, ?_⟩
    have hS : ¬ (dOk x y) := by intro hd; have h1 := hd.1; have h2 := hd.2.1; have h3 := hd.2.2; first | contradiction | simp_all
    exact ⟨(tu3 (ag4 (vi (wf3 hS)) (vi (wf2 hS)) (vi (wf1 hS)) (vi (wf0 hS))) (ag4 (vi (wf3 hS)) (vi (wf2 hS)) (vi (wf1 hS)) (vi (wf0 hS))) (vf hS)), E33⟩
  · -- F
    have hz35 := mt (wl_zero fy_).2 hb22
    refine rk_cf (T rfl (congrArg Value.bool (decide_eq_false hb22))) ?_
    refine rk_skip ?_
    refine rk_seq ?_
    have H36 := (n18.ext.blk (n13.ext.blk (n8.ext.blk n3.blk)))
    have : b1 < w17.heap.size := lt_of_blk H36
    have : b6 < w17.heap.size := lt_of_blk H21
    have H37 := (n18.ext.blk n13.blk)
    have : b11 < w17.heap.size := lt_of_blk H37
    have : b16 < w17.heap.size := lt_of_blk n18.blk
    have : w.heap.size ≤ w17.heap.size := E20.size
    refine rk_par2 [fun vq wq_ => vq = .agg #[.int .u64 (wv3 x), .int .u64 (wv2 x), .int .u64 (wv1 x), .int .u64 (wv0 x)], fun vq wq_ => ∃ (nr52 : Bool) (A53 : Option Addr) (n54 : Nat) (c55 : Nat), vq = .agg #[.bool nr52, .slice A53 n54 c55] ∧ Num 64 22 .u64 wq_ nr52 A53 n54 c55 x 256, fun vq wq_ => vq = .agg #[.int .u64 (wv3 y), .int .u64 (wv2 y), .int .u64 (wv1 y), .int .u64 (wv0 y)], fun vq wq_ => ∃ (nr74 : Bool) (A75 : Option Addr) (n76 : Nat) (c77 : Nat), vq = .agg #[.bool nr74, .slice A75 n76 c77] ∧ Num 64 22 .u64 wq_ nr74 A75 n76 c77 y 256, fun vq wq_ => ∃ (nr100 : Bool) (A101 : Option Addr) (n102 : Nat) (c103 : Nat) (nr104 : Bool) (A105 : Option Addr) (n106 : Nat) (c107 : Nat), vq = .tuple #[.agg #[.bool nr100, .slice A101 n102 c103], .agg #[.bool nr104, .slice A105 n106 c107]] ∧ Num 64 22 .u64 wq_ nr100 A101 n102 c103 (x / y) 256 ∧ Num 64 22 .u64 wq_ nr104 A105 n106 c107 (x % y) 256, fun vq wq_ => ∃ (nr119 : Bool) (A120 : Option Addr) (n121 : Nat) (c122 : Nat) (nr123 : Bool) (A124 : Option Addr) (n125 : Nat) (c126 : Nat), vq = .tuple #[.agg #[.bool nr119, .slice A120 n121 c122], .agg #[.bool nr123, .slice A124 n125 c126]] ∧ Num 64 22 .u64 wq_ nr119 A120 n121 c122 (x / y) 256 ∧ Num 64 22 .u64 wq_ nr123 A124 n125 c126 (x % y) 256, fun vq wq_ => ∃ (nr136 : Bool) (A137 : Option Addr) (n138 : Nat) (c139 : Nat), vq = .agg #[.bool nr136, .slice A137 n138 c139] ∧ Num 64 22 .u64 wq_ nr136 A137 n138 c139 (x / y) 256, fun vq wq_ => ∃ (nr157 : Bool) (A158 : Option Addr) (n159 : Nat) (c160 : Nat), vq = .agg #[.bool nr157, .slice A158 n159 c160] ∧ Num 64 22 .u64 wq_ nr157 A158 n159 c160 (x % y) 256, fun _ _ => True, fun _ _ => True, fun _ _ => True, fun _ _ => True] [⟨8, 10, 6, 65, #[.bool false, .slice none 0 0]⟩, ⟨9, 11, 7, 65, #[.bool false, .slice none 0 0]⟩] [65] mo (by kernel_rfl) (by kernel_rfl) ?_ ?_ ?_ ?_ ?_
    · intro e he e2 he2 h; simp only [List.mem_cons, List.not_mem_nil, or_false] at he he2; rcases he with rfl | rfl <;> rcases he2 with rfl | rfl <;> first | rfl | exact absurd h (by decide)
    · exact ⟨⟨fun v w w2 e h => h, fun v w w2 b cs T fz s hb hT h => h⟩, ⟨fun v w w2 e ⟨nr52, A53, n54, c55, hv, h0_⟩ => ⟨nr52, A53, n54, c55, hv, h0_.ext e⟩, fun v w w2 b cs T fz s hb hT ⟨nr52, A53, n54, c55, hv, h0_⟩ => ⟨nr52, A53, n54, c55, hv, h0_.st s hb (ts_ne hT (by decide))⟩⟩, ⟨fun v w w2 e h => h, fun v w w2 b cs T fz s hb hT h => h⟩, ⟨fun v w w2 e ⟨nr74, A75, n76, c77, hv, h0_⟩ => ⟨nr74, A75, n76, c77, hv, h0_.ext e⟩, fun v w w2 b cs T fz s hb hT ⟨nr74, A75, n76, c77, hv, h0_⟩ => ⟨nr74, A75, n76, c77, hv, h0_.st s hb (ts_ne hT (by decide))⟩⟩, ⟨fun v w w2 e ⟨nr100, A101, n102, c103, nr104, A105, n106, c107, hv, h0_, h1_⟩ => ⟨nr100, A101, n102, c103, nr104, A105, n106, c107, hv, h0_.ext e, h1_.ext e⟩, fun v w w2 b cs T fz s hb hT ⟨nr100, A101, n102, c103, nr104, A105, n106, c107, hv, h0_, h1_⟩ => ⟨nr100, A101, n102, c103, nr104, A105, n106, c107, hv, h0_.st s hb (ts_ne hT (by decide)), h1_.st s hb (ts_ne hT (by decide))⟩⟩, ⟨fun v w w2 e ⟨nr119, A120, n121, c122, nr123, A124, n125, c126, hv, h0_, h1_⟩ => ⟨nr119, A120, n121, c122, nr123, A124, n125, c126, hv, h0_.ext e, h1_.ext e⟩, fun v w w2 b cs T fz s hb hT ⟨nr119, A120, n121, c122, nr123, A124, n125, c126, hv, h0_, h1_⟩ => ⟨nr119, A120, n121, c122, nr123, A124, n125, c126, hv, h0_.st s hb (ts_ne hT (by decide)), h1_.st s hb (ts_ne hT (by decide))⟩⟩, ⟨fun v w w2 e ⟨nr136, A137, n138, c139, hv, h0_⟩ => ⟨nr136, A137, n138, c139, hv, h0_.ext e⟩, fun v w w2 b cs T fz s hb hT ⟨nr136, A137, n138, c139, hv, h0_⟩ => ⟨nr136, A137, n138, c139, hv, h0_.st s hb (ts_ne hT (by decide))⟩⟩, ⟨fun v w w2 e ⟨nr157, A158, n159, c160, hv, h0_⟩ => ⟨nr157, A158, n159, c160, hv, h0_.ext e⟩, fun v w w2 b cs T fz s hb hT ⟨nr157, A158, n159, c160, hv, h0_⟩ => ⟨nr157, A158, n159, c160, hv, h0_.st s hb (ts_ne hT (by decide))⟩⟩, ⟨fun v w w2 e h => h, fun v w w2 b cs T fz s hb hT h => h⟩, ⟨fun v w w2 e h => h, fun v w w2 b cs T fz s hb hT h => h⟩, ⟨fun v w w2 e h => h, fun v w w2 b cs T fz s hb hT h => h⟩, ⟨fun v w w2 e h => h, fun v w w2 b cs T fz s hb hT h => h⟩, trivial⟩
    · refine ⟨?_, ?_, ?_, ?_, ?_, ?_, ?_, ?_, ?_, ?_, ?_, ?_, trivial⟩
      · refine .inr ⟨by kernel_rfl, ?_⟩
        intro fr39 w38 e40 hF41 hD42
        have E43 := below_ext E20 E20.size e40
        have H44 := (e40.blk H36)
        exact DV.oe (dv_loads (l := [.int .u64 (wv3 x), .int .u64 (wv2 x), .int .u64 (wv1 x), .int .u64 (wv0 x)]) agt26 sz26 (T rfl (hF41 2 (by kernel_rfl))) H44 rfl) ⟨Below.refl _ _, rfl⟩
      · refine .inr ⟨by kernel_rfl, ?_⟩
        intro fr46 w45 e47 hF48 hD49
        have E50 := below_ext E20 E20.size e47
        have hv51 : fr46 19 = .agg #[.int .u64 (wv3 x), .int .u64 (wv2 x), .int .u64 (wv1 x), .int .u64 (wv0 x)] := hD49 0 _ (by kernel_rfl) rfl (by kernel_rfl)
        refine id (oe_callf (vs := [.agg #[.int .u64 (wv3 x), .int .u64 (wv2 x), .int .u64 (wv1 x), .int .u64 (wv0 x)]]) co51 (ar1 (T rfl hv51)) (wnumz_ok (z := x) fx_) ?_)
        rintro _ w57 ⟨nr52, A53, n54, c55, rfl, e58, h56⟩
        have E59 := below_ext E50 E50.size e58
        have lh56 := Num.len (by decide) h56
        exact ⟨e58, nr52, A53, n54, c55, rfl, h56⟩
      · refine .inr ⟨by kernel_rfl, ?_⟩
        intro fr61 w60 e62 hF63 hD64
        have E65 := below_ext E20 E20.size e62
        have H66 := (e62.blk H21)
        exact DV.oe (dv_loads (l := [.int .u64 (wv3 y), .int .u64 (wv2 y), .int .u64 (wv1 y), .int .u64 (wv0 y)]) agt26 sz26 (T rfl (hF63 3 (by kernel_rfl))) H66 rfl) ⟨Below.refl _ _, rfl⟩
      · refine .inr ⟨by kernel_rfl, ?_⟩
        intro fr68 w67 e69 hF70 hD71
        have E72 := below_ext E20 E20.size e69
        have hv73 : fr68 21 = .agg #[.int .u64 (wv3 y), .int .u64 (wv2 y), .int .u64 (wv1 y), .int .u64 (wv0 y)] := hD71 2 _ (by kernel_rfl) rfl (by kernel_rfl)
        refine id (oe_callf (vs := [.agg #[.int .u64 (wv3 y), .int .u64 (wv2 y), .int .u64 (wv1 y), .int .u64 (wv0 y)]]) co51 (ar1 (T rfl hv73)) (wnumz_ok (z := y) fy_) ?_)
        rintro _ w79 ⟨nr74, A75, n76, c77, rfl, e80, h78⟩
        have E81 := below_ext E72 E72.size e80
        have lh78 := Num.len (by decide) h78
        exact ⟨e80, nr74, A75, n76, c77, rfl, h78⟩
      · refine .inr ⟨by kernel_rfl, ?_⟩
        intro fr83 w82 e84 hF85 hD86
        have E87 := below_ext E20 E20.size e84
        obtain ⟨nr88, A89, n90, c91, hv92, hp93⟩ : ∃ (nr52 : Bool) (A53 : Option Addr) (n54 : Nat) (c55 : Nat), fr83 20 = .agg #[.bool nr52, .slice A53 n54 c55] ∧ Num 64 22 .u64 w82 nr52 A53 n54 c55 x 256 := hD86 1 _ (by kernel_rfl) rfl (by kernel_rfl)
        have lhp93 := Num.len (by decide) hp93
        obtain ⟨nr94, A95, n96, c97, hv98, hp99⟩ : ∃ (nr74 : Bool) (A75 : Option Addr) (n76 : Nat) (c77 : Nat), fr83 22 = .agg #[.bool nr74, .slice A75 n76 c77] ∧ Num 64 22 .u64 w82 nr74 A75 n76 c77 y 256 := hD86 3 _ (by kernel_rfl) rfl (by kernel_rfl)
        have lhp99 := Num.len (by decide) hp99
        refine id (oe_callf (vs := [.agg #[.bool nr88, .slice A89 n90 c91], .agg #[.bool nr94, .slice A95 n96 c97]]) co55 (ar2 (T rfl hv92) (T rfl hv98)) (over_ok hp93 hp99 (by omega) (by first | decide | omega) (by first | decide | omega)) ?_)
        rintro _ w110 ⟨nr100, A101, n102, c103, nr104, A105, n106, c107, rfl, e111, h108, h109⟩
        have E112 := below_ext E87 E87.size e111
        have lh108 := Num.len (by decide) h108
        have lh109 := Num.len (by decide) h109
        exact ⟨e111, nr100, A101, n102, c103, nr104, A105, n106, c107, rfl, h108, h109⟩
      · refine .inr ⟨by kernel_rfl, ?_⟩
        intro fr114 w113 e115 hF116 hD117
        have E118 := below_ext E20 E20.size e115
        obtain ⟨nr119, A120, n121, c122, nr123, A124, n125, c126, hv127, hp128, hp129⟩ : ∃ (nr100 : Bool) (A101 : Option Addr) (n102 : Nat) (c103 : Nat) (nr104 : Bool) (A105 : Option Addr) (n106 : Nat) (c107 : Nat), fr114 23 = .tuple #[.agg #[.bool nr100, .slice A101 n102 c103], .agg #[.bool nr104, .slice A105 n106 c107]] ∧ Num 64 22 .u64 w113 nr100 A101 n102 c103 (x / y) 256 ∧ Num 64 22 .u64 w113 nr104 A105 n106 c107 (x % y) 256 := hD117 4 _ (by kernel_rfl) rfl (by kernel_rfl)
        have lhp128 := Num.len (by decide) hp128
        have lhp129 := Num.len (by decide) hp129
        exact DV.oe (dv_move (T rfl hv127)) ⟨Below.refl _ _, nr119, A120, n121, c122, nr123, A124, n125, c126, rfl, hp128, hp129⟩
      · refine .inr ⟨by kernel_rfl, ?_⟩
        intro fr131 w130 e132 hF133 hD134
        have E135 := below_ext E20 E20.size e132
        obtain ⟨nr136, A137, n138, c139, nr140, A141, n142, c143, hv144, hp145, hp146⟩ : ∃ (nr119 : Bool) (A120 : Option Addr) (n121 : Nat) (c122 : Nat) (nr123 : Bool) (A124 : Option Addr) (n125 : Nat) (c126 : Nat), fr131 18 = .tuple #[.agg #[.bool nr119, .slice A120 n121 c122], .agg #[.bool nr123, .slice A124 n125 c126]] ∧ Num 64 22 .u64 w130 nr119 A120 n121 c122 (x / y) 256 ∧ Num 64 22 .u64 w130 nr123 A124 n125 c126 (x % y) 256 := hD134 5 _ (by kernel_rfl) rfl (by kernel_rfl)
        have lhp145 := Num.len (by decide) hp145
        have lhp146 := Num.len (by decide) hp146
        exact DV.oe (dv_extract (vs := #[.agg #[.bool nr136, .slice A137 n138 c139], .agg #[.bool nr140, .slice A141 n142 c143]]) (T rfl hv144) rfl) ⟨Below.refl _ _, nr136, A137, n138, c139, rfl, hp145⟩
      · refine .inr ⟨by kernel_rfl, ?_⟩
        intro fr148 w147 e149 hF150 hD151
        have E152 := below_ext E20 E20.size e149
        obtain ⟨nr153, A154, n155, c156, nr157, A158, n159, c160, hv161, hp162, hp163⟩ : ∃ (nr119 : Bool) (A120 : Option Addr) (n121 : Nat) (c122 : Nat) (nr123 : Bool) (A124 : Option Addr) (n125 : Nat) (c126 : Nat), fr148 18 = .tuple #[.agg #[.bool nr119, .slice A120 n121 c122], .agg #[.bool nr123, .slice A124 n125 c126]] ∧ Num 64 22 .u64 w147 nr119 A120 n121 c122 (x / y) 256 ∧ Num 64 22 .u64 w147 nr123 A124 n125 c126 (x % y) 256 := hD151 5 _ (by kernel_rfl) rfl (by kernel_rfl)
        have lhp162 := Num.len (by decide) hp162
        have lhp163 := Num.len (by decide) hp163
        exact DV.oe (dv_extract (vs := #[.agg #[.bool nr153, .slice A154 n155 c156], .agg #[.bool nr157, .slice A158 n159 c160]]) (T rfl hv161) rfl) ⟨Below.refl _ _, nr157, A158, n159, c160, rfl, hp163⟩
      · exact .inl (.inr ⟨by kernel_rfl, fun _ _ => trivial⟩)
      · exact .inl (.inr ⟨by kernel_rfl, fun _ _ => trivial⟩)
      · exact .inl (.inl (by kernel_rfl))
      · exact .inl (.inl (by kernel_rfl))
    · refine ⟨⟨⟨_, rfl, fun _ _ => oe_alloc ze65 fun b w hn => ⟨b, rfl, hn⟩⟩, ⟨_, rfl, ?_⟩⟩, ⟨⟨_, rfl, fun _ _ => oe_alloc ze65 fun b w hn => ⟨b, rfl, hn⟩⟩, ⟨_, rfl, ?_⟩⟩, trivial⟩
      · intro fr165 w164 b169 e166 hF167 hD168 hA170 hB171
        have E172 := below_ext E20 E20.size e166
        obtain ⟨nr173, A174, n175, c176, hv177, hp178⟩ : ∃ (nr136 : Bool) (A137 : Option Addr) (n138 : Nat) (c139 : Nat), fr165 24 = .agg #[.bool nr136, .slice A137 n138 c139] ∧ Num 64 22 .u64 w164 nr136 A137 n138 c139 (x / y) 256 := hD168 6 _ (by kernel_rfl) rfl (by kernel_rfl)
        have lhp178 := Num.len (by decide) hp178
        refine id (oe_store (v := .agg #[.bool nr173, .slice A174 n175 c176]) (vs := [.bool nr173, .slice A174 n175 c176]) (l := [.bool nr173, .slice A174 n175 c176]) (T rfl hA170) (T rfl hv177) sz65 rfl rfl rfl hB171 rfl ?_)
        intro w179 s180 H181
        exact ⟨s180, H181.trans (congrArg (fun v : Value => some (Obj.cells v.cells 65)) (show fr165 24 = _ from hv177).symm)⟩
      · intro fr184 w183 b188 e185 hF186 hD187 hA189 hB190
        have E191 := below_ext E20 E20.size e185
        obtain ⟨nr192, A193, n194, c195, hv196, hp197⟩ : ∃ (nr157 : Bool) (A158 : Option Addr) (n159 : Nat) (c160 : Nat), fr184 25 = .agg #[.bool nr157, .slice A158 n159 c160] ∧ Num 64 22 .u64 w183 nr157 A158 n159 c160 (x % y) 256 := hD187 7 _ (by kernel_rfl) rfl (by kernel_rfl)
        have lhp197 := Num.len (by decide) hp197
        refine id (oe_store (v := .agg #[.bool nr192, .slice A193 n194 c195]) (vs := [.bool nr192, .slice A193 n194 c195]) (l := [.bool nr192, .slice A193 n194 c195]) (T rfl hA189) (T rfl hv196) sz65 rfl rfl rfl hB190 rfl ?_)
        intro w198 s199 H200
        exact ⟨s199, H200.trans (congrArg (fun v : Value => some (Obj.cells v.cells 65)) (show fr184 25 = _ from hv196).symm)⟩
    intro fr203 w202 e204 hF205 hP206 hM207 hN208
    have E209 := below_ext E20 E20.size e204
    obtain ⟨_, _, _, _, _, _, p210, p211, _, _, _, _, _⟩ := hP206
    obtain ⟨nr212, A213, n214, c215, hv216, hp217⟩ : ∃ (nr136 : Bool) (A137 : Option Addr) (n138 : Nat) (c139 : Nat), fr203 24 = .agg #[.bool nr136, .slice A137 n138 c139] ∧ Num 64 22 .u64 w202 nr136 A137 n138 c139 (x / y) 256 := p210.resolve_left (nst (by kernel_rfl))
    have lhp217 := Num.len (by decide) hp217
    obtain ⟨nr218, A219, n220, c221, hv222, hp223⟩ : ∃ (nr157 : Bool) (A158 : Option Addr) (n159 : Nat) (c160 : Nat), fr203 25 = .agg #[.bool nr157, .slice A158 n159 c160] ∧ Num 64 22 .u64 w202 nr157 A158 n159 c160 (x % y) 256 := p211.resolve_left (nst (by kernel_rfl))
    have lhp223 := Num.len (by decide) hp223
    obtain ⟨⟨b224, hA225, hB226, hC227⟩, ⟨b228, hA229, hB230, hC231⟩, _⟩ := hM207
    have H232 : w202.heap[b224]? = some (.cells #[.bool nr212, .slice A213 n214 c215] 65) := hC227.trans (congrArg (fun v : Value => some (Obj.cells v.cells 65)) hv216)
    have N233 : w.heap.size ≤ b224 := by omega
    have H234 : w202.heap[b228]? = some (.cells #[.bool nr218, .slice A219 n220 c221] 65) := hC231.trans (congrArg (fun v : Value => some (Obj.cells v.cells 65)) hv222)
    have N235 : w.heap.size ≤ b228 := by omega
    have : b228 ≠ b224 := fun hh => hN208 _ (.tail _ (.head _)) _ (.head _) (by decide) (hA229.trans ((congrArg (fun q => Value.pointer (some ⟨q, 0, none⟩)) hh).trans hA225.symm))
    refine rk_seq ?_
    refine rk_reg ?_
    refine lw_v (.agg #[.bool nr212, .slice A213 n214 c215]) (dv_loads (l := [.bool nr212, .slice A213 n214 c215]) agt65 sz65 (T rfl hA225) H232 rfl) ?_
    refine lw_e (oe_callf (vs := [.agg #[.bool nr212, .slice A213 n214 c215]]) co56 (ar1 (T rfl rfl)) (nwide_ok hp217 (by first | decide | omega)) ?_)
    rintro _ w237 ⟨rfl, e238⟩
    have E239 := below_ext E209 E209.size e238
    have bw236 := w_rg (x / y)
    refine lw_v (.tuple #[.agg #[.int .u64 (wv3 (x / y)), .int .u64 (wv2 (x / y)), .int .u64 (wv1 (x / y)), .int .u64 (wv0 (x / y))], .bool (decide (fits (x / y)))]) (dv_move (T rfl rfl)) ?_
    refine lw_v (.agg #[.int .u64 (wv3 (x / y)), .int .u64 (wv2 (x / y)), .int .u64 (wv1 (x / y)), .int .u64 (wv0 (x / y))]) (dv_extract (vs := #[.agg #[.int .u64 (wv3 (x / y)), .int .u64 (wv2 (x / y)), .int .u64 (wv1 (x / y)), .int .u64 (wv0 (x / y))], .bool (decide (fits (x / y)))]) (T rfl rfl) rfl) ?_
    refine lw_v (.bool (decide (fits (x / y)))) (dv_extract (vs := #[.agg #[.int .u64 (wv3 (x / y)), .int .u64 (wv2 (x / y)), .int .u64 (wv1 (x / y)), .int .u64 (wv0 (x / y))], .bool (decide (fits (x / y)))]) (T rfl rfl) rfl) ?_
    refine lw_e (oe_alloc ze26 ?_)
    intro b240 w241 n242
    have N243 : w.heap.size ≤ b240 := n242.eq ▸ E239.size
    have H244 := (e238.blk (e204.blk H36))
    have : b1 < b240 := n242.eq ▸ lt_of_blk H244
    have H245 := (e238.blk (e204.blk H21))
    have : b6 < b240 := n242.eq ▸ lt_of_blk H245
    have H246 := (e238.blk (e204.blk H37))
    have : b11 < b240 := n242.eq ▸ lt_of_blk H246
    have H247 := (e238.blk (e204.blk n18.blk))
    have : b16 < b240 := n242.eq ▸ lt_of_blk H247
    have H248 := (e238.blk H232)
    have : b224 < b240 := n242.eq ▸ lt_of_blk H248
    have H249 := (e238.blk H234)
    have : b228 < b240 := n242.eq ▸ lt_of_blk H249
    have E250 := below_ext E239 E239.size n242.ext
    refine lw_e (oe_store (v := .agg #[.int .u64 (wv3 (x / y)), .int .u64 (wv2 (x / y)), .int .u64 (wv1 (x / y)), .int .u64 (wv0 (x / y))]) (vs := [.int .u64 (wv3 (x / y)), .int .u64 (wv2 (x / y)), .int .u64 (wv1 (x / y)), .int .u64 (wv0 (x / y))]) (l := [.int .u64 (wv3 (x / y)), .int .u64 (wv2 (x / y)), .int .u64 (wv1 (x / y)), .int .u64 (wv0 (x / y))]) (T rfl rfl) (T rfl rfl) sz26 rfl rfl rfl n242.blk rfl ?_)
    intro w251 s252 H253
    have E254 := below_st E250 N243 s252
    refine lw_v (.bool (decide (fits (x / y)))) (dv_assign (T rfl rfl)) ?_
    refine lw_nil ?_
    refine rk_seq ?_
    refine rk_reg ?_
    have H255 := (s252.blk (n242.ext.blk H249) (by omega))
    refine lw_v (.agg #[.bool nr218, .slice A219 n220 c221]) (dv_loads (l := [.bool nr218, .slice A219 n220 c221]) agt65 sz65 (T rfl hA229) H255 rfl) ?_
    have h256 := (((hp223.ext e238).ext n242.ext).st s252 n242.blk (by decide))
    refine lw_e (oe_callf (vs := [.agg #[.bool nr218, .slice A219 n220 c221]]) co56 (ar1 (T rfl rfl)) (nwide_ok h256 (by first | decide | omega)) ?_)
    rintro _ w258 ⟨rfl, e259⟩
    have E260 := below_ext E254 E254.size e259
    have bw257 := w_rg (x % y)
    refine lw_v (.tuple #[.agg #[.int .u64 (wv3 (x % y)), .int .u64 (wv2 (x % y)), .int .u64 (wv1 (x % y)), .int .u64 (wv0 (x % y))], .bool (decide (fits (x % y)))]) (dv_move (T rfl rfl)) ?_
    refine lw_v (.agg #[.int .u64 (wv3 (x % y)), .int .u64 (wv2 (x % y)), .int .u64 (wv1 (x % y)), .int .u64 (wv0 (x % y))]) (dv_extract (vs := #[.agg #[.int .u64 (wv3 (x % y)), .int .u64 (wv2 (x % y)), .int .u64 (wv1 (x % y)), .int .u64 (wv0 (x % y))], .bool (decide (fits (x % y)))]) (T rfl rfl) rfl) ?_
    refine lw_v (.bool (decide (fits (x % y)))) (dv_extract (vs := #[.agg #[.int .u64 (wv3 (x % y)), .int .u64 (wv2 (x % y)), .int .u64 (wv1 (x % y)), .int .u64 (wv0 (x % y))], .bool (decide (fits (x % y)))]) (T rfl rfl) rfl) ?_
    refine lw_e (oe_alloc ze26 ?_)
    intro b261 w262 n263
    have N264 : w.heap.size ≤ b261 := n263.eq ▸ E260.size
    have H265 := (e259.blk (s252.blk (n242.ext.blk H244) (by omega)))
    have : b1 < b261 := n263.eq ▸ lt_of_blk H265
    have H266 := (e259.blk (s252.blk (n242.ext.blk H245) (by omega)))
    have : b6 < b261 := n263.eq ▸ lt_of_blk H266
    have H267 := (e259.blk (s252.blk (n242.ext.blk H246) (by omega)))
    have : b11 < b261 := n263.eq ▸ lt_of_blk H267
    have H268 := (e259.blk (s252.blk (n242.ext.blk H247) (by omega)))
    have : b16 < b261 := n263.eq ▸ lt_of_blk H268
    have H269 := (e259.blk (s252.blk (n242.ext.blk H248) (by omega)))
    have : b224 < b261 := n263.eq ▸ lt_of_blk H269
    have H270 := (e259.blk H255)
    have : b228 < b261 := n263.eq ▸ lt_of_blk H270
    have H271 := (e259.blk H253)
    have : b240 < b261 := n263.eq ▸ lt_of_blk H271
    have E272 := below_ext E260 E260.size n263.ext
    refine lw_e (oe_store (v := .agg #[.int .u64 (wv3 (x % y)), .int .u64 (wv2 (x % y)), .int .u64 (wv1 (x % y)), .int .u64 (wv0 (x % y))]) (vs := [.int .u64 (wv3 (x % y)), .int .u64 (wv2 (x % y)), .int .u64 (wv1 (x % y)), .int .u64 (wv0 (x % y))]) (l := [.int .u64 (wv3 (x % y)), .int .u64 (wv2 (x % y)), .int .u64 (wv1 (x % y)), .int .u64 (wv0 (x % y))]) (T rfl rfl) (T rfl rfl) sz26 rfl rfl rfl n263.blk rfl ?_)
    intro w273 s274 H275
    have E276 := below_st E272 N264 s274
    refine lw_v (.bool (decide (fits (x % y)))) (dv_assign (T rfl rfl)) ?_
    refine lw_nil ?_
    refine rk_seq ?_
    refine rk_seq ?_
    refine rk_reg ?_
    refine lw_v (.bool (decide (fits (x / y)))) (dv_move (T rfl rfl)) ?_
    refine lw_v (.bool (decide (¬ (fits (x / y))))) (dv_notd (p := fits (x / y)) (T rfl rfl)) ?_
    refine lw_v (.bool (decide (¬ (fits (x / y))))) (dv_move (T rfl rfl)) ?_
    by_cases hb277 : fits (x / y)
    · -- FT
      refine lw_vy (.bool (decide (fits (x % y)))) (d := 38) rfl rfl (congrArg Value.bool (decide_eq_false (not_not_intro hb277))) (dv_move (T rfl rfl)) ?_
      refine lw_vy (.bool (decide (¬ (fits (x % y))))) (d := 38) rfl rfl (congrArg Value.bool (decide_eq_false (not_not_intro hb277))) (dv_notd (p := fits (x % y)) (T rfl rfl)) ?_
      refine lw_v (.bool (decide (¬ (fits (x % y))))) (dv_pick_f (T rfl (congrArg Value.bool (decide_eq_false (not_not_intro hb277)))) (T rfl rfl)) ?_
      refine lw_nil ?_
      by_cases hb278 : fits (x % y)
      · -- FTT
        refine rk_cf (T rfl (congrArg Value.bool (decide_eq_false (not_not_intro hb278)))) ?_
        refine rk_skip ?_
        refine rk_seq ?_
        refine rk_any (fun w => w.heap[b240]? = some (.cells #[.int .u64 (wv3 (x / y)), .int .u64 (wv2 (x / y)), .int .u64 (wv1 (x / y)), .int .u64 (wv0 (x / y))] 26) ∧ w.heap[b261]? = some (.cells #[.int .u64 (wv3 (x % y)), .int .u64 (wv2 (x % y)), .int .u64 (wv1 (x % y)), .int .u64 (wv0 (x % y))] 26)) [4] mo ?_
        intro w279 d280
        have E281 := below_ext E276 E276.size d280.ext
        have H282 := (d280.ext.blk (s274.blk (n263.ext.blk H271) (by omega)))
        have H283 := (d280.ext.blk H275)
        refine aw_load 0 (.agg #[.int .u64 (wv3 (x / y)), .int .u64 (wv2 (x / y)), .int .u64 (wv1 (x / y)), .int .u64 (wv0 (x / y))]) rfl (by kernel_rfl) .none ⟨H282, H283⟩ (fun _ s => dv_loads (l := [.int .u64 (wv3 (x / y)), .int .u64 (wv2 (x / y)), .int .u64 (wv1 (x / y)), .int .u64 (wv0 (x / y))]) agt26 sz26 (T rfl rfl) s.1 rfl) ?_
        refine aw_load 1 (.agg #[.int .u64 (wv3 (x % y)), .int .u64 (wv2 (x % y)), .int .u64 (wv1 (x % y)), .int .u64 (wv0 (x % y))]) rfl (by kernel_rfl) .none ⟨H282, H283⟩ (fun _ s => dv_loads (l := [.int .u64 (wv3 (x % y)), .int .u64 (wv2 (x % y)), .int .u64 (wv1 (x % y)), .int .u64 (wv0 (x % y))]) agt26 sz26 (T rfl rfl) s.2 rfl) ?_
        have H284 := (d280.ext.blk (s274.blk (n263.ext.blk H267) (by omega)))
        refine aw_one 2 rfl (by kernel_rfl) .none (oe_store (v := .agg #[.int .u64 (wv3 (x / y)), .int .u64 (wv2 (x / y)), .int .u64 (wv1 (x / y)), .int .u64 (wv0 (x / y))]) (vs := [.int .u64 (wv3 (x / y)), .int .u64 (wv2 (x / y)), .int .u64 (wv1 (x / y)), .int .u64 (wv0 (x / y))]) (l := [.int .u64 (wv3 (x / y)), .int .u64 (wv2 (x / y)), .int .u64 (wv1 (x / y)), .int .u64 (wv0 (x / y))]) (T rfl (hF205 4 rfl)) (T rfl rfl) sz26 rfl rfl rfl H284 rfl ?_)
        intro w285 s286 H287
        have E288 := below_st E281 N14 s286
        have H289 := (s286.blk H282 (by omega))
        have H290 := (s286.blk H283 (by omega))
        refine ⟨.inr ⟨H289, H290⟩, ?_⟩
        have H291 := (s286.blk (d280.ext.blk (s274.blk (n263.ext.blk H268) (by omega))) (by omega))
        refine aw_one 3 rfl (by kernel_rfl) .none (oe_store (v := .agg #[.int .u64 (wv3 (x % y)), .int .u64 (wv2 (x % y)), .int .u64 (wv1 (x % y)), .int .u64 (wv0 (x % y))]) (vs := [.int .u64 (wv3 (x % y)), .int .u64 (wv2 (x % y)), .int .u64 (wv1 (x % y)), .int .u64 (wv0 (x % y))]) (l := [.int .u64 (wv3 (x % y)), .int .u64 (wv2 (x % y)), .int .u64 (wv1 (x % y)), .int .u64 (wv0 (x % y))]) (T rfl (hF205 5 rfl)) (T rfl rfl) sz26 rfl rfl rfl H291 rfl ?_)
        intro w292 s293 H294
        have E295 := below_st E288 N19 s293
        have H296 := (s293.blk H289 (by omega))
        have H297 := (s293.blk H290 (by omega))
        refine ⟨.inr ⟨H296, H297⟩, ?_⟩
        refine aw_last 4 (.bool true) rfl (by kernel_rfl) .none (fun _ => dv_assign C) ?_
        refine aw_done (by kernel_rfl) ?_
        have H298 := (s293.blk H287 (by omega))
        refine rk_ret Try.func19 (v := .tuple #[.agg #[.int .u64 (wv3 (x / y)), .int .u64 (wv2 (x / y)), .int .u64 (wv1 (x / y)), .int .u64 (wv0 (x / y))], .agg #[.int .u64 (wv3 (x % y)), .int .u64 (wv2 (x % y)), .int .u64 (wv1 (x % y)), .int .u64 (wv0 (x % y))], .bool true]) (res3 Try.results19 (rv_cells (l := [.int .u64 (wv3 (x / y)), .int .u64 (wv2 (x / y)), .int .u64 (wv1 (x / y)), .int .u64 (wv0 (x / y))]) agt26 sz26 rfl (hF205 4 rfl) H298 rfl) (rv_cells (l := [.int .u64 (wv3 (x % y)), .int .u64 (wv2 (x % y)), .int .u64 (wv1 (x % y)), .int .u64 (wv0 (x % y))]) agt26 sz26 rfl (hF205 5 rfl) H294 rfl) (rv_tmp rfl rfl)) ⟨_, rfl, ?_⟩
        have hS : dOk x y := by exact ⟨by assumption, by first | assumption | simpa using ‹_›, by first | assumption | simpa using ‹_›⟩
        exact ⟨(tu3 (ag4 (vi (by rw [pkz_t hS])) (vi (by rw [pkz_t hS])) (vi (by rw [pkz_t hS])) (vi (by rw [pkz_t hS]))) (ag4 (vi (by rw [pkz_t hS])) (vi (by rw [pkz_t hS])) (vi (by rw [pkz_t hS])) (vi (by rw [pkz_t hS]))) (vt hS)), E295⟩
      · -- FTF
        refine rk_ct (T rfl (congrArg Value.bool (decide_eq_true hb278))) ?_
        refine rk_seq ?_
        refine rk_reg ?_
        refine lw_v (.agg #[.int .u64 0, .int .u64 0, .int .u64 0, .int .u64 0]) (dv_build (pv := []) (l := [.int .u64 0, .int .u64 0, .int .u64 0, .int .u64 0]) zc26 pl26 trivial rfl) ?_
        refine lw_v (.agg #[.int .u64 0, .int .u64 0, .int .u64 0, .int .u64 0]) (dv_build (pv := []) (l := [.int .u64 0, .int .u64 0, .int .u64 0, .int .u64 0]) zc26 pl26 trivial rfl) ?_
        have H299 := (s274.blk (n263.ext.blk H267) (by omega))
        refine lw_e (oe_store (v := .agg #[.int .u64 0, .int .u64 0, .int .u64 0, .int .u64 0]) (vs := [.int .u64 0, .int .u64 0, .int .u64 0, .int .u64 0]) (l := [.int .u64 0, .int .u64 0, .int .u64 0, .int .u64 0]) (T rfl (hF205 4 rfl)) (T rfl rfl) sz26 rfl rfl rfl H299 rfl ?_)
        intro w300 s301 H302
        have E303 := below_st E276 N14 s301
        have H304 := (s301.blk (s274.blk (n263.ext.blk H268) (by omega)) (by omega))
        refine lw_e (oe_store (v := .agg #[.int .u64 0, .int .u64 0, .int .u64 0, .int .u64 0]) (vs := [.int .u64 0, .int .u64 0, .int .u64 0, .int .u64 0]) (l := [.int .u64 0, .int .u64 0, .int .u64 0, .int .u64 0]) (T rfl (hF205 5 rfl)) (T rfl rfl) sz26 rfl rfl rfl H304 rfl ?_)
        intro w305 s306 H307
        have E308 := below_st E303 N19 s306
        refine lw_v (.bool false) (dv_assign C) ?_
        refine lw_nil ?_
        have H309 := (s306.blk H302 (by omega))
        refine rk_ret Try.func19 (v := .tuple #[.agg #[.int .u64 0, .int .u64 0, .int .u64 0, .int .u64 0], .agg #[.int .u64 0, .int .u64 0, .int .u64 0, .int .u64 0], .bool false]) (res3 Try.results19 (rv_cells (l := [.int .u64 0, .int .u64 0, .int .u64 0, .int .u64 0]) agt26 sz26 rfl (hF205 4 rfl) H309 rfl) (rv_cells (l := [.int .u64 0, .int .u64 0, .int .u64 0, .int .u64 0]) agt26 sz26 rfl (hF205 5 rfl) H307 rfl) (rv_tmp rfl rfl)) ⟨_, rfl, ?_⟩
        have hS : ¬ (dOk x y) := by intro hd; have h1 := hd.1; have h2 := hd.2.1; have h3 := hd.2.2; first | contradiction | simp_all
        exact ⟨(tu3 (ag4 (vi (wf3 hS)) (vi (wf2 hS)) (vi (wf1 hS)) (vi (wf0 hS))) (ag4 (vi (wf3 hS)) (vi (wf2 hS)) (vi (wf1 hS)) (vi (wf0 hS))) (vf hS)), E308⟩
    · -- FF
      refine lw_no (d := 38) rfl rfl (congrArg Value.bool (decide_eq_true hb277)) ?_
      refine lw_no (d := 38) rfl rfl (congrArg Value.bool (decide_eq_true hb277)) ?_
      refine lw_v (.bool true) (dv_pick_t (T rfl (congrArg Value.bool (decide_eq_true hb277))) C) ?_
      refine lw_nil ?_
      refine rk_ct (T rfl rfl) ?_
      refine rk_seq ?_
      refine rk_reg ?_
      refine lw_v (.agg #[.int .u64 0, .int .u64 0, .int .u64 0, .int .u64 0]) (dv_build (pv := []) (l := [.int .u64 0, .int .u64 0, .int .u64 0, .int .u64 0]) zc26 pl26 trivial rfl) ?_
      refine lw_v (.agg #[.int .u64 0, .int .u64 0, .int .u64 0, .int .u64 0]) (dv_build (pv := []) (l := [.int .u64 0, .int .u64 0, .int .u64 0, .int .u64 0]) zc26 pl26 trivial rfl) ?_
      have H310 := (s274.blk (n263.ext.blk H267) (by omega))
      refine lw_e (oe_store (v := .agg #[.int .u64 0, .int .u64 0, .int .u64 0, .int .u64 0]) (vs := [.int .u64 0, .int .u64 0, .int .u64 0, .int .u64 0]) (l := [.int .u64 0, .int .u64 0, .int .u64 0, .int .u64 0]) (T rfl (hF205 4 rfl)) (T rfl rfl) sz26 rfl rfl rfl H310 rfl ?_)
      intro w311 s312 H313
      have E314 := below_st E276 N14 s312
      have H315 := (s312.blk (s274.blk (n263.ext.blk H268) (by omega)) (by omega))
      refine lw_e (oe_store (v := .agg #[.int .u64 0, .int .u64 0, .int .u64 0, .int .u64 0]) (vs := [.int .u64 0, .int .u64 0, .int .u64 0, .int .u64 0]) (l := [.int .u64 0, .int .u64 0, .int .u64 0, .int .u64 0]) (T rfl (hF205 5 rfl)) (T rfl rfl) sz26 rfl rfl rfl H315 rfl ?_)
      intro w316 s317 H318
      have E319 := below_st E314 N19 s317
      refine lw_v (.bool false) (dv_assign C) ?_
      refine lw_nil ?_
      have H320 := (s317.blk H313 (by omega))
      refine rk_ret Try.func19 (v := .tuple #[.agg #[.int .u64 0, .int .u64 0, .int .u64 0, .int .u64 0], .agg #[.int .u64 0, .int .u64 0, .int .u64 0, .int .u64 0], .bool false]) (res3 Try.results19 (rv_cells (l := [.int .u64 0, .int .u64 0, .int .u64 0, .int .u64 0]) agt26 sz26 rfl (hF205 4 rfl) H320 rfl) (rv_cells (l := [.int .u64 0, .int .u64 0, .int .u64 0, .int .u64 0]) agt26 sz26 rfl (hF205 5 rfl) H318 rfl) (rv_tmp rfl rfl)) ⟨_, rfl, ?_⟩
      have hS : ¬ (dOk x y) := by intro hd; have h1 := hd.1; have h2 := hd.2.1; have h3 := hd.2.2; first | contradiction | simp_all
      exact ⟨(tu3 (ag4 (vi (wf3 hS)) (vi (wf2 hS)) (vi (wf1 hS)) (vi (wf0 hS))) (ag4 (vi (wf3 hS)) (vi (wf2 hS)) (vi (wf1 hS)) (vi (wf0 hS))) (vf hS)), E319⟩

set_option maxHeartbeats 1000000 in
theorem sWideGcd_ok {w : World} {x y : Int} (fx_ : fits x) (fy_ : fits y)  : Ct Try.prog 21 [.agg #[.int .u64 (wv3 x), .int .u64 (wv2 x), .int .u64 (wv1 x), .int .u64 (wv0 x)], .agg #[.int .u64 (wv3 y), .int .u64 (wv2 y), .int .u64 (wv1 y), .int .u64 (wv0 y)]] w fun v w1 => v = .tuple #[.agg #[.int .u64 (wv3 (pkz (fits (gI x y)) (gI x y))), .int .u64 (wv2 (pkz (fits (gI x y)) (gI x y))), .int .u64 (wv1 (pkz (fits (gI x y)) (gI x y))), .int .u64 (wv0 (pkz (fits (gI x y)) (gI x y)))], .bool (decide (fits (gI x y)))] ∧ Ext w w1 := by
  refine ct_run (n := 14) Try.func21 rfl Try.ntmps21 rfl ?_
  have E0 : Below w.heap.size w w := Below.refl _ _
  refine rk_seq ?_
  refine rk_reg ?_
  refine lw_e (oe_box (v := .agg #[.int .u64 (wv3 x), .int .u64 (wv2 x), .int .u64 (wv1 x), .int .u64 (wv0 x)]) (cs := #[.int .u64 (wv3 x), .int .u64 (wv2 x), .int .u64 (wv1 x), .int .u64 (wv0 x)]) (T rfl rfl) rfl ?_)
  intro b1 w2 n3
  have N4 : w.heap.size ≤ b1 := n3.eq ▸ E0.size
  have E5 := below_ext E0 E0.size n3.ext
  refine lw_e (oe_box (v := .agg #[.int .u64 (wv3 y), .int .u64 (wv2 y), .int .u64 (wv1 y), .int .u64 (wv0 y)]) (cs := #[.int .u64 (wv3 y), .int .u64 (wv2 y), .int .u64 (wv1 y), .int .u64 (wv0 y)]) (T rfl rfl) rfl ?_)
  intro b6 w7 n8
  have N9 : w.heap.size ≤ b6 := n8.eq ▸ E5.size
  have : b1 < b6 := n8.eq ▸ lt_of_blk n3.blk
  have E10 := below_ext E5 E5.size n8.ext
  refine lw_e (oe_alloc ze26 ?_)
  intro b11 w12 n13
  have N14 : w.heap.size ≤ b11 := n13.eq ▸ E10.size
  have : b6 < b11 := n13.eq ▸ lt_of_blk n8.blk
  have E15 := below_ext E10 E10.size n13.ext
  refine lw_v (.bool false) (dv_assign C) ?_
  refine lw_nil ?_
  refine rk_seq ?_
  refine rk_any (fun w => w.heap[b1]? = some (.cells #[.int .u64 (wv3 x), .int .u64 (wv2 x), .int .u64 (wv1 x), .int .u64 (wv0 x)] 26) ∧ w.heap[b6]? = some (.cells #[.int .u64 (wv3 y), .int .u64 (wv2 y), .int .u64 (wv1 y), .int .u64 (wv0 y)] 26)) [9] mo ?_
  intro w16 d17
  have E18 := below_ext E15 E15.size d17.ext
  have H19 := (d17.ext.blk (n13.ext.blk (n8.ext.blk n3.blk)))
  have H20 := (d17.ext.blk (n13.ext.blk n8.blk))
  refine aw_load 0 (.agg #[.int .u64 (wv3 x), .int .u64 (wv2 x), .int .u64 (wv1 x), .int .u64 (wv0 x)]) rfl (by kernel_rfl) .none ⟨H19, H20⟩ (fun _ s => dv_loads (l := [.int .u64 (wv3 x), .int .u64 (wv2 x), .int .u64 (wv1 x), .int .u64 (wv0 x)]) agt26 sz26 (T rfl rfl) s.1 rfl) ?_
  refine aw_load 2 (.agg #[.int .u64 (wv3 y), .int .u64 (wv2 y), .int .u64 (wv1 y), .int .u64 (wv0 y)]) rfl (by kernel_rfl) .none ⟨H19, H20⟩ (fun _ s => dv_loads (l := [.int .u64 (wv3 y), .int .u64 (wv2 y), .int .u64 (wv1 y), .int .u64 (wv0 y)]) agt26 sz26 (T rfl rfl) s.2 rfl) ?_
  refine aw_one 1 rfl (by kernel_rfl) .none (oe_callf (vs := [.agg #[.int .u64 (wv3 x), .int .u64 (wv2 x), .int .u64 (wv1 x), .int .u64 (wv0 x)]]) co50 (ar1 (T rfl rfl)) (l1Fromz_ok (z := x) fx_) ?_)
  rintro _ w26 ⟨nr21, A22, n23, c24, rfl, e27, h25⟩
  have E28 := below_ext E18 E18.size e27
  have lh25 := Num.len (by decide) h25
  have H29 := (e27.blk H19)
  have H30 := (e27.blk H20)
  refine ⟨.inr ⟨H29, H30⟩, ?_⟩
  refine aw_one 3 rfl (by kernel_rfl) .none (oe_callf (vs := [.agg #[.int .u64 (wv3 y), .int .u64 (wv2 y), .int .u64 (wv1 y), .int .u64 (wv0 y)]]) co50 (ar1 (T rfl rfl)) (l1Fromz_ok (z := y) fy_) ?_)
  rintro _ w36 ⟨nr31, A32, n33, c34, rfl, e37, h35⟩
  have E38 := below_ext E28 E28.size e37
  have lh35 := Num.len (by decide) h35
  have H39 := (e37.blk H29)
  have H40 := (e37.blk H30)
  refine ⟨.inr ⟨H39, H40⟩, ?_⟩
  have h41 := (h25.ext e37)
  refine aw_one 4 rfl (by kernel_rfl) .none (oe_callf (vs := [.agg #[.bool nr21, .slice A22 n23 c24], .agg #[.bool nr31, .slice A32 n33 c34]]) co57 (ar2 (T rfl rfl) (T rfl rfl)) (l1Gcd_ok h41 h35 (by first | decide | omega) (by first | decide | omega)) ?_)
  rintro _ w47 ⟨nr42, A43, n44, c45, rfl, e48, h46⟩
  have E49 := below_ext E38 E38.size e48
  have lh46 := Num.len (by decide) h46
  have H50 := (e48.blk H39)
  have H51 := (e48.blk H40)
  refine ⟨.inr ⟨H50, H51⟩, ?_⟩
  refine aw_one 5 rfl (by kernel_rfl) .none (oe_callf (vs := [.agg #[.bool nr42, .slice A43 n44 c45]]) co54 (ar1 (T rfl rfl)) (l1Wide_ok h46 (by first | decide | omega)) ?_)
  rintro _ w53 ⟨rfl, e54⟩
  have E55 := below_ext E49 E49.size e54
  have bw52 := w_rg (gI x y)
  have H56 := (e54.blk H50)
  have H57 := (e54.blk H51)
  refine ⟨.inr ⟨H56, H57⟩, ?_⟩
  refine aw_pure 6 (.agg #[.int .u64 (wv3 (gI x y)), .int .u64 (wv2 (gI x y)), .int .u64 (wv1 (gI x y)), .int .u64 (wv0 (gI x y))]) rfl (by kernel_rfl) .none ⟨H56, H57⟩ (fun _ => dv_extract (vs := #[.agg #[.int .u64 (wv3 (gI x y)), .int .u64 (wv2 (gI x y)), .int .u64 (wv1 (gI x y)), .int .u64 (wv0 (gI x y))], .bool (decide (fits (gI x y)))]) (T rfl rfl) rfl) ?_
  refine aw_pure 7 (.bool (decide (fits (gI x y)))) rfl (by kernel_rfl) .none ⟨H56, H57⟩ (fun _ => dv_extract (vs := #[.agg #[.int .u64 (wv3 (gI x y)), .int .u64 (wv2 (gI x y)), .int .u64 (wv1 (gI x y)), .int .u64 (wv0 (gI x y))], .bool (decide (fits (gI x y)))]) (T rfl rfl) rfl) ?_
  have H58 := (e54.blk (e48.blk (e37.blk (e27.blk (d17.ext.blk n13.blk)))))
  refine aw_one 8 rfl (by kernel_rfl) .none (oe_store (v := .agg #[.int .u64 (wv3 (gI x y)), .int .u64 (wv2 (gI x y)), .int .u64 (wv1 (gI x y)), .int .u64 (wv0 (gI x y))]) (vs := [.int .u64 (wv3 (gI x y)), .int .u64 (wv2 (gI x y)), .int .u64 (wv1 (gI x y)), .int .u64 (wv0 (gI x y))]) (l := [.int .u64 (wv3 (gI x y)), .int .u64 (wv2 (gI x y)), .int .u64 (wv1 (gI x y)), .int .u64 (wv0 (gI x y))]) (T rfl rfl) (T rfl rfl) sz26 rfl rfl rfl H58 rfl ?_)
  intro w59 s60 H61
  have E62 := below_st E55 N14 s60
  have H63 := (s60.blk H56 (by omega))
  have H64 := (s60.blk H57 (by omega))
  refine ⟨.inr ⟨H63, H64⟩, ?_⟩
  refine aw_last 9 (.bool (decide (fits (gI x y)))) rfl (by kernel_rfl) .none (fun _ => dv_assign (T rfl rfl)) ?_
  refine aw_done (by kernel_rfl) ?_
  refine rk_ret Try.func21 (v := .tuple #[.agg #[.int .u64 (wv3 (gI x y)), .int .u64 (wv2 (gI x y)), .int .u64 (wv1 (gI x y)), .int .u64 (wv0 (gI x y))], .bool (decide (fits (gI x y)))]) (res2 Try.results21 (rv_cells (l := [.int .u64 (wv3 (gI x y)), .int .u64 (wv2 (gI x y)), .int .u64 (wv1 (gI x y)), .int .u64 (wv0 (gI x y))]) agt26 sz26 rfl rfl H61 rfl) (rv_tmp rfl rfl)) ⟨_, rfl, ?_⟩
  exact ⟨(tu2 (ag4 (vi wp3) (vi wp2) (vi wp1) (vi wp0)) rfl), E62⟩

set_option maxHeartbeats 1000000 in
theorem iWideGcd_ok {w : World} {x y : Int} (fx_ : fits x) (fy_ : fits y)  : Ct Try.prog 22 [.agg #[.int .u64 (wv3 x), .int .u64 (wv2 x), .int .u64 (wv1 x), .int .u64 (wv0 x)], .agg #[.int .u64 (wv3 y), .int .u64 (wv2 y), .int .u64 (wv1 y), .int .u64 (wv0 y)]] w fun v w1 => v = .tuple #[.agg #[.int .u64 (wv3 (pkz (fits (gI x y)) (gI x y))), .int .u64 (wv2 (pkz (fits (gI x y)) (gI x y))), .int .u64 (wv1 (pkz (fits (gI x y)) (gI x y))), .int .u64 (wv0 (pkz (fits (gI x y)) (gI x y)))], .bool (decide (fits (gI x y)))] ∧ Ext w w1 := by
  refine ct_run (n := 15) Try.func22 rfl Try.ntmps22 rfl ?_
  have E0 : Below w.heap.size w w := Below.refl _ _
  refine rk_seq ?_
  refine rk_reg ?_
  refine lw_e (oe_box (v := .agg #[.int .u64 (wv3 x), .int .u64 (wv2 x), .int .u64 (wv1 x), .int .u64 (wv0 x)]) (cs := #[.int .u64 (wv3 x), .int .u64 (wv2 x), .int .u64 (wv1 x), .int .u64 (wv0 x)]) (T rfl rfl) rfl ?_)
  intro b1 w2 n3
  have N4 : w.heap.size ≤ b1 := n3.eq ▸ E0.size
  have E5 := below_ext E0 E0.size n3.ext
  refine lw_e (oe_box (v := .agg #[.int .u64 (wv3 y), .int .u64 (wv2 y), .int .u64 (wv1 y), .int .u64 (wv0 y)]) (cs := #[.int .u64 (wv3 y), .int .u64 (wv2 y), .int .u64 (wv1 y), .int .u64 (wv0 y)]) (T rfl rfl) rfl ?_)
  intro b6 w7 n8
  have N9 : w.heap.size ≤ b6 := n8.eq ▸ E5.size
  have : b1 < b6 := n8.eq ▸ lt_of_blk n3.blk
  have E10 := below_ext E5 E5.size n8.ext
  refine lw_e (oe_alloc ze26 ?_)
  intro b11 w12 n13
  have N14 : w.heap.size ≤ b11 := n13.eq ▸ E10.size
  have : b6 < b11 := n13.eq ▸ lt_of_blk n8.blk
  have E15 := below_ext E10 E10.size n13.ext
  refine lw_v (.bool false) (dv_assign C) ?_
  refine lw_nil ?_
  refine rk_seq ?_
  refine rk_any (fun w => w.heap[b1]? = some (.cells #[.int .u64 (wv3 x), .int .u64 (wv2 x), .int .u64 (wv1 x), .int .u64 (wv0 x)] 26) ∧ w.heap[b6]? = some (.cells #[.int .u64 (wv3 y), .int .u64 (wv2 y), .int .u64 (wv1 y), .int .u64 (wv0 y)] 26)) [10] mo ?_
  intro w16 d17
  have E18 := below_ext E15 E15.size d17.ext
  have H19 := (d17.ext.blk (n13.ext.blk (n8.ext.blk n3.blk)))
  have H20 := (d17.ext.blk (n13.ext.blk n8.blk))
  refine aw_load 0 (.agg #[.int .u64 (wv3 x), .int .u64 (wv2 x), .int .u64 (wv1 x), .int .u64 (wv0 x)]) rfl (by kernel_rfl) .none ⟨H19, H20⟩ (fun _ s => dv_loads (l := [.int .u64 (wv3 x), .int .u64 (wv2 x), .int .u64 (wv1 x), .int .u64 (wv0 x)]) agt26 sz26 (T rfl rfl) s.1 rfl) ?_
  refine aw_load 2 (.agg #[.int .u64 (wv3 y), .int .u64 (wv2 y), .int .u64 (wv1 y), .int .u64 (wv0 y)]) rfl (by kernel_rfl) .none ⟨H19, H20⟩ (fun _ s => dv_loads (l := [.int .u64 (wv3 y), .int .u64 (wv2 y), .int .u64 (wv1 y), .int .u64 (wv0 y)]) agt26 sz26 (T rfl rfl) s.2 rfl) ?_
  refine aw_one 1 rfl (by kernel_rfl) .none (oe_callf (vs := [.agg #[.int .u64 (wv3 x), .int .u64 (wv2 x), .int .u64 (wv1 x), .int .u64 (wv0 x)]]) co51 (ar1 (T rfl rfl)) (wnumz_ok (z := x) fx_) ?_)
  rintro _ w26 ⟨nr21, A22, n23, c24, rfl, e27, h25⟩
  have E28 := below_ext E18 E18.size e27
  have lh25 := Num.len (by decide) h25
  have H29 := (e27.blk H19)
  have H30 := (e27.blk H20)
  refine ⟨.inr ⟨H29, H30⟩, ?_⟩
  refine aw_one 3 rfl (by kernel_rfl) .none (oe_callf (vs := [.agg #[.int .u64 (wv3 y), .int .u64 (wv2 y), .int .u64 (wv1 y), .int .u64 (wv0 y)]]) co51 (ar1 (T rfl rfl)) (wnumz_ok (z := y) fy_) ?_)
  rintro _ w36 ⟨nr31, A32, n33, c34, rfl, e37, h35⟩
  have E38 := below_ext E28 E28.size e37
  have lh35 := Num.len (by decide) h35
  have H39 := (e37.blk H29)
  have H40 := (e37.blk H30)
  refine ⟨.inr ⟨H39, H40⟩, ?_⟩
  refine aw_one 4 rfl (by kernel_rfl) .none (oe_buildSlice (pv := [(0, .agg #[.bool nr21, .slice A22 n23 c24]), (1, .agg #[.bool nr31, .slice A32 n33 c34])]) (init := [.bool false, .slice none 0 0, .bool false, .slice none 0 0]) (l := [.bool nr21, .slice A22 n23 c24, .bool nr31, .slice A32 n33 c34]) us116 sz65 rfl rfl zc65 (by kernel_rfl) ⟨rfl, (T rfl rfl), ⟨rfl, (T rfl rfl), trivial⟩⟩ rfl ?_)
  intro b41 w42 n43
  have N44 : w.heap.size ≤ b41 := n43.eq ▸ E38.size
  have H45 := (e37.blk (e27.blk (d17.ext.blk n13.blk)))
  have : b11 < b41 := n43.eq ▸ lt_of_blk H45
  have E46 := below_ext E38 E38.size n43.ext
  have H47 := (n43.ext.blk H39)
  have H48 := (n43.ext.blk H40)
  refine ⟨.inr ⟨H47, H48⟩, ?_⟩
  have h49 := ((h25.ext e37).ext n43.ext)
  have h50 := (h35.ext n43.ext)
  refine aw_one 5 rfl (by kernel_rfl) .none (oe_callf (vs := [.slice (some ⟨b41, 0, none⟩) 2 2]) co58 (ar1 (T rfl rfl)) (gcd2_ok h49 h50 (by first | decide | omega) (by first | decide | omega) n43.blk) ?_)
  rintro _ w56 ⟨nr51, A52, n53, c54, rfl, e57, h55⟩
  have E58 := below_ext E46 E46.size e57
  have lh55 := Num.len (by decide) h55
  have H59 := (e57.blk H47)
  have H60 := (e57.blk H48)
  refine ⟨.inr ⟨H59, H60⟩, ?_⟩
  refine aw_one 6 rfl (by kernel_rfl) .none (oe_callf (vs := [.agg #[.bool nr51, .slice A52 n53 c54]]) co56 (ar1 (T rfl rfl)) (nwide_ok h55 (by first | decide | omega)) ?_)
  rintro _ w62 ⟨rfl, e63⟩
  have E64 := below_ext E58 E58.size e63
  have bw61 := w_rg (gI x y)
  have H65 := (e63.blk H59)
  have H66 := (e63.blk H60)
  refine ⟨.inr ⟨H65, H66⟩, ?_⟩
  refine aw_pure 7 (.agg #[.int .u64 (wv3 (gI x y)), .int .u64 (wv2 (gI x y)), .int .u64 (wv1 (gI x y)), .int .u64 (wv0 (gI x y))]) rfl (by kernel_rfl) .none ⟨H65, H66⟩ (fun _ => dv_extract (vs := #[.agg #[.int .u64 (wv3 (gI x y)), .int .u64 (wv2 (gI x y)), .int .u64 (wv1 (gI x y)), .int .u64 (wv0 (gI x y))], .bool (decide (fits (gI x y)))]) (T rfl rfl) rfl) ?_
  refine aw_pure 8 (.bool (decide (fits (gI x y)))) rfl (by kernel_rfl) .none ⟨H65, H66⟩ (fun _ => dv_extract (vs := #[.agg #[.int .u64 (wv3 (gI x y)), .int .u64 (wv2 (gI x y)), .int .u64 (wv1 (gI x y)), .int .u64 (wv0 (gI x y))], .bool (decide (fits (gI x y)))]) (T rfl rfl) rfl) ?_
  have H67 := (e63.blk (e57.blk (n43.ext.blk H45)))
  refine aw_one 9 rfl (by kernel_rfl) .none (oe_store (v := .agg #[.int .u64 (wv3 (gI x y)), .int .u64 (wv2 (gI x y)), .int .u64 (wv1 (gI x y)), .int .u64 (wv0 (gI x y))]) (vs := [.int .u64 (wv3 (gI x y)), .int .u64 (wv2 (gI x y)), .int .u64 (wv1 (gI x y)), .int .u64 (wv0 (gI x y))]) (l := [.int .u64 (wv3 (gI x y)), .int .u64 (wv2 (gI x y)), .int .u64 (wv1 (gI x y)), .int .u64 (wv0 (gI x y))]) (T rfl rfl) (T rfl rfl) sz26 rfl rfl rfl H67 rfl ?_)
  intro w68 s69 H70
  have E71 := below_st E64 N14 s69
  have H72 := (s69.blk H65 (by omega))
  have H73 := (s69.blk H66 (by omega))
  refine ⟨.inr ⟨H72, H73⟩, ?_⟩
  refine aw_last 10 (.bool (decide (fits (gI x y)))) rfl (by kernel_rfl) .none (fun _ => dv_assign (T rfl rfl)) ?_
  refine aw_done (by kernel_rfl) ?_
  refine rk_ret Try.func22 (v := .tuple #[.agg #[.int .u64 (wv3 (gI x y)), .int .u64 (wv2 (gI x y)), .int .u64 (wv1 (gI x y)), .int .u64 (wv0 (gI x y))], .bool (decide (fits (gI x y)))]) (res2 Try.results22 (rv_cells (l := [.int .u64 (wv3 (gI x y)), .int .u64 (wv2 (gI x y)), .int .u64 (wv1 (gI x y)), .int .u64 (wv0 (gI x y))]) agt26 sz26 rfl rfl H70 rfl) (rv_tmp rfl rfl)) ⟨_, rfl, ?_⟩
  exact ⟨(tu2 (ag4 (vi wp3) (vi wp2) (vi wp1) (vi wp0)) rfl), E71⟩

end Go.Proofs.Ytcnepihgbnfcpaa.W
