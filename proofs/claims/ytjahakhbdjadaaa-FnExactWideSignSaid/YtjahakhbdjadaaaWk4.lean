/- Wk4: walks, written by a program of this session. -/
import Derived.Test.YtjahakhbdjadaaaWk2
import Derived.Test.YtjahakhbdjadaaaWk3
import Derived.Test.YtjahakhbdjadaaaFw5
set_option linter.unusedVariables false
set_option linter.unusedSimpArgs false
namespace Go.Proofs.Ytjahakhbdjadaaa.W
open Go Go.RowKit Go.Proofs.Ytjahakhbdjadaaa.Fw
attribute [local irreducible] RunK LW AW DV OE Ct
theorem ag24 : aggB Try.prog 24 = some true := by kernel_rfl
theorem ag26 : aggB Try.prog 26 = some true := by kernel_rfl
theorem co15 : callOk Try.prog 15 = true := by kernel_rfl
theorem co16 : callOk Try.prog 16 = true := by kernel_rfl
theorem co17 : callOk Try.prog 17 = true := by kernel_rfl
theorem co43 : callOk Try.prog 43 = true := by kernel_rfl
theorem co44 : callOk Try.prog 44 = true := by kernel_rfl
theorem co45 : callOk Try.prog 45 = true := by kernel_rfl
theorem fo24_0 : fieldOffB Try.prog 24 0 = some 0 := by kernel_rfl
theorem fo24_1 : fieldOffB Try.prog 24 1 = some 1 := by kernel_rfl
theorem fo24_2 : fieldOffB Try.prog 24 2 = some 2 := by kernel_rfl
theorem fo24_3 : fieldOffB Try.prog 24 3 = some 3 := by kernel_rfl
theorem sz24 : sizeB Try.prog 24 = some 4 := by kernel_rfl
theorem sz26 : sizeB Try.prog 26 = some 4 := by kernel_rfl
theorem ze26 : zeroB Try.prog 26 = some #[.int .u64 0, .int .u64 0, .int .u64 0, .int .u64 0] := by kernel_rfl
set_option maxHeartbeats 1000000 in
theorem toWide_ok {w : World} {a3 a2 a1 a0 : Int}  : Ct Try.prog 16 [.agg #[.int .u64 a3, .int .u64 a2, .int .u64 a1, .int .u64 a0]] w fun v w1 => v = .agg #[.int .u64 a3, .int .u64 a2, .int .u64 a1, .int .u64 a0] ∧ Ext w w1 := by
  refine ct_run (n := 17) Try.func16 rfl Try.ntmps16 rfl ?_
  have E0 : Below w.heap.size w w := Below.refl _ _
  refine rk_seq ?_
  refine rk_reg ?_
  refine lw_e (oe_box (v := .agg #[.int .u64 a3, .int .u64 a2, .int .u64 a1, .int .u64 a0]) (cs := #[.int .u64 a3, .int .u64 a2, .int .u64 a1, .int .u64 a0]) (T rfl rfl) rfl ?_)
  intro b1 w2 n3
  have N4 : w.heap.size ≤ b1 := n3.eq ▸ E0.size
  have E5 := below_ext E0 E0.size n3.ext
  refine lw_e (oe_alloc ze26 ?_)
  intro b6 w7 n8
  have N9 : w.heap.size ≤ b6 := n8.eq ▸ E5.size
  have : b1 < b6 := n8.eq ▸ lt_of_blk n3.blk
  have E10 := below_ext E5 E5.size n8.ext
  refine lw_nil ?_
  refine rk_seq ?_
  refine rk_reg ?_
  refine lw_e (oe_alloc ze26 ?_)
  intro b11 w12 n13
  have N14 : w.heap.size ≤ b11 := n13.eq ▸ E10.size
  have : b6 < b11 := n13.eq ▸ lt_of_blk n8.blk
  have E15 := below_ext E10 E10.size n13.ext
  refine lw_nil ?_
  refine rk_seq ?_
  refine rk_reg ?_
  refine lw_v (.pointer (some ⟨b1, 0, none⟩)) (dv_fieldAddr (a := ⟨b1, 0, none⟩) (a' := ⟨b1, 0, none⟩) fo24_0 (T rfl rfl) rfl) ?_
  have H16 := (n13.ext.blk (n8.ext.blk n3.blk))
  refine lw_v (.int .u64 a3) (dv_load1 (b := b1) (o := 0) ag22 (T rfl rfl) H16 rfl) ?_
  refine lw_v (.pointer (some ⟨b11, 0, none⟩)) (dv_fieldAddr (a := ⟨b11, 0, none⟩) (a' := ⟨b11, 0, none⟩) fo26_0 (T rfl rfl) rfl) ?_
  refine lw_e (oe_store (v := .int .u64 a3) (vs := [.int .u64 a3]) (l := [.int .u64 a3, .int .u64 0, .int .u64 0, .int .u64 0]) (T rfl rfl) (T rfl rfl) sz22 rfl rfl rfl n13.blk rfl ?_)
  intro w17 s18 H19
  have E20 := below_st E15 N14 s18
  refine lw_nil ?_
  refine rk_seq ?_
  refine rk_reg ?_
  refine lw_v (.pointer (some ⟨b1, 1, none⟩)) (dv_fieldAddr (a := ⟨b1, 0, none⟩) (a' := ⟨b1, 1, none⟩) fo24_1 (T rfl rfl) rfl) ?_
  have H21 := (s18.blk H16 (by omega))
  refine lw_v (.int .u64 a2) (dv_load1 (b := b1) (o := 1) ag22 (T rfl rfl) H21 rfl) ?_
  refine lw_v (.pointer (some ⟨b11, 1, none⟩)) (dv_fieldAddr (a := ⟨b11, 0, none⟩) (a' := ⟨b11, 1, none⟩) fo26_1 (T rfl rfl) rfl) ?_
  refine lw_e (oe_store (v := .int .u64 a2) (vs := [.int .u64 a2]) (l := [.int .u64 a3, .int .u64 a2, .int .u64 0, .int .u64 0]) (T rfl rfl) (T rfl rfl) sz22 rfl rfl rfl H19 rfl ?_)
  intro w22 s23 H24
  have E25 := below_st E20 N14 s23
  refine lw_nil ?_
  refine rk_seq ?_
  refine rk_reg ?_
  refine lw_v (.pointer (some ⟨b1, 2, none⟩)) (dv_fieldAddr (a := ⟨b1, 0, none⟩) (a' := ⟨b1, 2, none⟩) fo24_2 (T rfl rfl) rfl) ?_
  have H26 := (s23.blk H21 (by omega))
  refine lw_v (.int .u64 a1) (dv_load1 (b := b1) (o := 2) ag22 (T rfl rfl) H26 rfl) ?_
  refine lw_v (.pointer (some ⟨b11, 2, none⟩)) (dv_fieldAddr (a := ⟨b11, 0, none⟩) (a' := ⟨b11, 2, none⟩) fo26_2 (T rfl rfl) rfl) ?_
  refine lw_e (oe_store (v := .int .u64 a1) (vs := [.int .u64 a1]) (l := [.int .u64 a3, .int .u64 a2, .int .u64 a1, .int .u64 0]) (T rfl rfl) (T rfl rfl) sz22 rfl rfl rfl H24 rfl ?_)
  intro w27 s28 H29
  have E30 := below_st E25 N14 s28
  refine lw_nil ?_
  refine rk_seq ?_
  refine rk_reg ?_
  refine lw_v (.pointer (some ⟨b1, 3, none⟩)) (dv_fieldAddr (a := ⟨b1, 0, none⟩) (a' := ⟨b1, 3, none⟩) fo24_3 (T rfl rfl) rfl) ?_
  have H31 := (s28.blk H26 (by omega))
  refine lw_v (.int .u64 a0) (dv_load1 (b := b1) (o := 3) ag22 (T rfl rfl) H31 rfl) ?_
  refine lw_v (.pointer (some ⟨b11, 3, none⟩)) (dv_fieldAddr (a := ⟨b11, 0, none⟩) (a' := ⟨b11, 3, none⟩) fo26_3 (T rfl rfl) rfl) ?_
  refine lw_e (oe_store (v := .int .u64 a0) (vs := [.int .u64 a0]) (l := [.int .u64 a3, .int .u64 a2, .int .u64 a1, .int .u64 a0]) (T rfl rfl) (T rfl rfl) sz22 rfl rfl rfl H29 rfl ?_)
  intro w32 s33 H34
  have E35 := below_st E30 N14 s33
  refine lw_nil ?_
  refine rk_seq ?_
  refine rk_reg ?_
  refine lw_v (.agg #[.int .u64 a3, .int .u64 a2, .int .u64 a1, .int .u64 a0]) (dv_loads (l := [.int .u64 a3, .int .u64 a2, .int .u64 a1, .int .u64 a0]) ag26 sz26 (T rfl rfl) H34 rfl) ?_
  have H36 := (s33.blk (s28.blk (s23.blk (s18.blk (n13.ext.blk n8.blk) (by omega)) (by omega)) (by omega)) (by omega))
  refine lw_e (oe_store (v := .agg #[.int .u64 a3, .int .u64 a2, .int .u64 a1, .int .u64 a0]) (vs := [.int .u64 a3, .int .u64 a2, .int .u64 a1, .int .u64 a0]) (l := [.int .u64 a3, .int .u64 a2, .int .u64 a1, .int .u64 a0]) (T rfl rfl) (T rfl rfl) sz26 rfl rfl rfl H36 rfl ?_)
  intro w37 s38 H39
  have E40 := below_st E35 N9 s38
  refine lw_nil ?_
  refine rk_ret Try.func16 (v := .agg #[.int .u64 a3, .int .u64 a2, .int .u64 a1, .int .u64 a0]) (res1 Try.results16 (rv_cells (l := [.int .u64 a3, .int .u64 a2, .int .u64 a1, .int .u64 a0]) ag26 sz26 rfl rfl H39 rfl)) ⟨_, rfl, ?_⟩
  exact ⟨rfl, E40⟩

set_option maxHeartbeats 1000000 in
theorem sWideSign_ok {w : World} {a3 a2 a1 a0 : Int} (h3 : 0 ≤ a3 ∧ a3 < 18446744073709551616) (h2 : 0 ≤ a2 ∧ a2 < 18446744073709551616) (h1 : 0 ≤ a1 ∧ a1 < 18446744073709551616) (h0 : 0 ≤ a0 ∧ a0 < 18446744073709551616) : Ct Try.prog 15 [.agg #[.int .u64 a3, .int .u64 a2, .int .u64 a1, .int .u64 a0]] w fun v w1 => v = .int .i64 (sgnI (wz a3 a2 a1 a0)) ∧ Ext w w1 := by
  refine ct_run (n := 6) Try.func15 rfl Try.ntmps15 rfl ?_
  have E0 : Below w.heap.size w w := Below.refl _ _
  refine rk_seq ?_
  refine rk_reg ?_
  refine lw_e (oe_box (v := .agg #[.int .u64 a3, .int .u64 a2, .int .u64 a1, .int .u64 a0]) (cs := #[.int .u64 a3, .int .u64 a2, .int .u64 a1, .int .u64 a0]) (T rfl rfl) rfl ?_)
  intro b1 w2 n3
  have N4 : w.heap.size ≤ b1 := n3.eq ▸ E0.size
  have E5 := below_ext E0 E0.size n3.ext
  refine lw_v (.int .i64 0) (dv_assign C) ?_
  refine lw_nil ?_
  refine rk_seq ?_
  refine rk_reg ?_
  refine lw_v (.agg #[.int .u64 a3, .int .u64 a2, .int .u64 a1, .int .u64 a0]) (dv_loads (l := [.int .u64 a3, .int .u64 a2, .int .u64 a1, .int .u64 a0]) ag26 sz26 (T rfl rfl) n3.blk rfl) ?_
  refine lw_e (oe_callf (vs := [.agg #[.int .u64 a3, .int .u64 a2, .int .u64 a1, .int .u64 a0]]) co44 (ar1 (T rfl rfl)) (l1From_ok (by omega) (by omega) (by omega) (by omega)) ?_)
  rintro _ w11 ⟨nr6, A7, n8, c9, rfl, e12, h10⟩
  have E13 := below_ext E5 E5.size e12
  refine lw_e (oe_callf (vs := [.agg #[.bool nr6, .slice A7 n8 c9]]) co43 (ar1 (T rfl rfl)) (l1Sign_ok h10 ) ?_)
  rintro _ w14 ⟨rfl, e15⟩
  have E16 := below_ext E13 E13.size e15
  refine lw_v (.int .i64 (sgnI (wz a3 a2 a1 a0))) (dv_assign (T rfl rfl)) ?_
  refine lw_nil ?_
  refine rk_ret Try.func15 (v := .int .i64 (sgnI (wz a3 a2 a1 a0))) (res1 Try.results15 (rv_tmp rfl rfl)) ⟨_, rfl, ?_⟩
  exact ⟨rfl, E16⟩

set_option maxHeartbeats 1000000 in
theorem iWideSign_ok {w : World} {a3 a2 a1 a0 : Int} (h3 : 0 ≤ a3 ∧ a3 < 18446744073709551616) (h2 : 0 ≤ a2 ∧ a2 < 18446744073709551616) (h1 : 0 ≤ a1 ∧ a1 < 18446744073709551616) (h0 : 0 ≤ a0 ∧ a0 < 18446744073709551616) : Ct Try.prog 17 [.agg #[.int .u64 a3, .int .u64 a2, .int .u64 a1, .int .u64 a0]] w fun v w1 => v = .int .i64 (sgnI (wz a3 a2 a1 a0)) ∧ Ext w w1 := by
  refine ct_run (n := 6) Try.func17 rfl Try.ntmps17 rfl ?_
  have E0 : Below w.heap.size w w := Below.refl _ _
  refine rk_seq ?_
  refine rk_reg ?_
  refine lw_e (oe_box (v := .agg #[.int .u64 a3, .int .u64 a2, .int .u64 a1, .int .u64 a0]) (cs := #[.int .u64 a3, .int .u64 a2, .int .u64 a1, .int .u64 a0]) (T rfl rfl) rfl ?_)
  intro b1 w2 n3
  have N4 : w.heap.size ≤ b1 := n3.eq ▸ E0.size
  have E5 := below_ext E0 E0.size n3.ext
  refine lw_v (.int .i64 0) (dv_assign C) ?_
  refine lw_nil ?_
  refine rk_seq ?_
  refine rk_reg ?_
  refine lw_v (.agg #[.int .u64 a3, .int .u64 a2, .int .u64 a1, .int .u64 a0]) (dv_loads (l := [.int .u64 a3, .int .u64 a2, .int .u64 a1, .int .u64 a0]) ag26 sz26 (T rfl rfl) n3.blk rfl) ?_
  refine lw_e (oe_callf (vs := [.agg #[.int .u64 a3, .int .u64 a2, .int .u64 a1, .int .u64 a0]]) co45 (ar1 (T rfl rfl)) (wnum_ok (by omega) (by omega) (by omega) (by omega)) ?_)
  rintro _ w11 ⟨nr6, A7, n8, c9, rfl, e12, h10⟩
  have E13 := below_ext E5 E5.size e12
  refine lw_e (oe_callf (vs := [.agg #[.bool nr6, .slice A7 n8 c9]]) co46 (ar1 (T rfl rfl)) (nsign_ok h10 ) ?_)
  rintro _ w14 ⟨rfl, e15⟩
  have E16 := below_ext E13 E13.size e15
  refine lw_v (.int .i64 (sgnI (wz a3 a2 a1 a0))) (dv_assign (T rfl rfl)) ?_
  refine lw_nil ?_
  refine rk_ret Try.func17 (v := .int .i64 (sgnI (wz a3 a2 a1 a0))) (res1 Try.results17 (rv_tmp rfl rfl)) ⟨_, rfl, ?_⟩
  exact ⟨rfl, E16⟩

set_option maxHeartbeats 1000000 in
theorem lawWideSign_ok {w : World} {a3 a2 a1 a0 : Int} (h3 : 0 ≤ a3 ∧ a3 < 18446744073709551616) (h2 : 0 ≤ a2 ∧ a2 < 18446744073709551616) (h1 : 0 ≤ a1 ∧ a1 < 18446744073709551616) (h0 : 0 ≤ a0 ∧ a0 < 18446744073709551616) : Ct Try.prog 3 [.agg #[.int .u64 a3, .int .u64 a2, .int .u64 a1, .int .u64 a0]] w fun v w1 => v = .bool true ∧ Ext w w1 := by
  refine ct_run (n := 14) Try.func3 rfl Try.ntmps3 rfl ?_
  have E0 : Below w.heap.size w w := Below.refl _ _
  refine rk_seq ?_
  refine rk_reg ?_
  refine lw_e (oe_box (v := .agg #[.int .u64 a3, .int .u64 a2, .int .u64 a1, .int .u64 a0]) (cs := #[.int .u64 a3, .int .u64 a2, .int .u64 a1, .int .u64 a0]) (T rfl rfl) rfl ?_)
  intro b1 w2 n3
  have N4 : w.heap.size ≤ b1 := n3.eq ▸ E0.size
  have E5 := below_ext E0 E0.size n3.ext
  refine lw_v (.bool false) (dv_assign C) ?_
  refine lw_nil ?_
  refine rk_seq ?_
  refine rk_reg ?_
  refine lw_v (.agg #[.int .u64 a3, .int .u64 a2, .int .u64 a1, .int .u64 a0]) (dv_loads (l := [.int .u64 a3, .int .u64 a2, .int .u64 a1, .int .u64 a0]) ag24 sz24 (T rfl rfl) n3.blk rfl) ?_
  refine lw_e (oe_callf (vs := [.agg #[.int .u64 a3, .int .u64 a2, .int .u64 a1, .int .u64 a0]]) co16 (ar1 (T rfl rfl)) (toWide_ok ) ?_)
  rintro _ w6 ⟨rfl, e7⟩
  have E8 := below_ext E5 E5.size e7
  refine lw_e (oe_callf (vs := [.agg #[.int .u64 a3, .int .u64 a2, .int .u64 a1, .int .u64 a0]]) co15 (ar1 (T rfl rfl)) (sWideSign_ok (by omega) (by omega) (by omega) (by omega)) ?_)
  rintro _ w9 ⟨rfl, e10⟩
  have E11 := below_ext E8 E8.size e10
  refine lw_v (.int .i64 (sgnI (wz a3 a2 a1 a0))) (dv_assign (T rfl rfl)) ?_
  refine lw_nil ?_
  refine rk_seq ?_
  refine rk_reg ?_
  have H12 := (e10.blk (e7.blk n3.blk))
  refine lw_v (.agg #[.int .u64 a3, .int .u64 a2, .int .u64 a1, .int .u64 a0]) (dv_loads (l := [.int .u64 a3, .int .u64 a2, .int .u64 a1, .int .u64 a0]) ag24 sz24 (T rfl rfl) H12 rfl) ?_
  refine lw_e (oe_callf (vs := [.agg #[.int .u64 a3, .int .u64 a2, .int .u64 a1, .int .u64 a0]]) co16 (ar1 (T rfl rfl)) (toWide_ok ) ?_)
  rintro _ w13 ⟨rfl, e14⟩
  have E15 := below_ext E11 E11.size e14
  refine lw_e (oe_callf (vs := [.agg #[.int .u64 a3, .int .u64 a2, .int .u64 a1, .int .u64 a0]]) co17 (ar1 (T rfl rfl)) (iWideSign_ok (by omega) (by omega) (by omega) (by omega)) ?_)
  rintro _ w16 ⟨rfl, e17⟩
  have E18 := below_ext E15 E15.size e17
  refine lw_v (.int .i64 (sgnI (wz a3 a2 a1 a0))) (dv_assign (T rfl rfl)) ?_
  refine lw_nil ?_
  refine rk_seq ?_
  refine rk_seq ?_
  refine rk_reg ?_
  refine lw_v (.int .i64 (sgnI (wz a3 a2 a1 a0))) (dv_move (T rfl rfl)) ?_
  refine lw_v (.int .i64 (sgnI (wz a3 a2 a1 a0))) (dv_move (T rfl rfl)) ?_
  refine lw_v (.bool (decide ((sgnI (wz a3 a2 a1 a0)) ≠ (sgnI (wz a3 a2 a1 a0))))) (dv_neq (a := sgnI (wz a3 a2 a1 a0)) (b := sgnI (wz a3 a2 a1 a0)) (T rfl rfl) (T rfl rfl)) ?_
  refine lw_nil ?_
  by_cases hb19 : (sgnI (wz a3 a2 a1 a0)) ≠ (sgnI (wz a3 a2 a1 a0))
  · -- T
    refine rk_ct (T rfl (congrArg Value.bool (decide_eq_true hb19))) ?_
    refine rk_seq ?_
    refine rk_reg ?_
    refine lw_v (.bool false) (dv_assign C) ?_
    refine lw_nil ?_
    refine rk_ret Try.func3 (v := .bool false) (res1 Try.results3 (rv_tmp rfl rfl)) ⟨_, rfl, ?_⟩
    exact ⟨(congrArg Value.bool (by grind)), E18⟩
  · -- F
    refine rk_cf (T rfl (congrArg Value.bool (decide_eq_false hb19))) ?_
    refine rk_skip ?_
    refine rk_seq ?_
    refine rk_reg ?_
    refine lw_v (.bool true) (dv_assign C) ?_
    refine lw_nil ?_
    refine rk_ret Try.func3 (v := .bool true) (res1 Try.results3 (rv_tmp rfl rfl)) ⟨_, rfl, ?_⟩
    exact ⟨rfl, E18⟩

end Go.Proofs.Ytjahakhbdjadaaa.W
