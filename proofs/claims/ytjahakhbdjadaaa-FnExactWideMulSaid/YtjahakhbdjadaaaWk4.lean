/- Wk4: walks, written by a program of this session. -/
import Derived.Test.YtjahakhbdjadaaaWk8
import Derived.Test.YtjahakhbdjadaaaFw5
set_option linter.unusedVariables false
set_option linter.unusedSimpArgs false
namespace Go.Proofs.Ytjahakhbdjadaaa.W
open Go Go.RowKit Go.Proofs.Ytjahakhbdjadaaa.Fw
attribute [local irreducible] RunK LW AW DV OE Ct
theorem agt24 : aggB Try.prog 24 = some true := by kernel_rfl
theorem co15 : callOk Try.prog 15 = true := by kernel_rfl
theorem co16 : callOk Try.prog 16 = true := by kernel_rfl
theorem co17 : callOk Try.prog 17 = true := by kernel_rfl
theorem co18 : callOk Try.prog 18 = true := by kernel_rfl
theorem co19 : callOk Try.prog 19 = true := by kernel_rfl
theorem co20 : callOk Try.prog 20 = true := by kernel_rfl
theorem co21 : callOk Try.prog 21 = true := by kernel_rfl
theorem co44 : callOk Try.prog 44 = true := by kernel_rfl
theorem co45 : callOk Try.prog 45 = true := by kernel_rfl
theorem co49 : callOk Try.prog 49 = true := by kernel_rfl
theorem co50 : callOk Try.prog 50 = true := by kernel_rfl
theorem fo24_0 : fieldOffB Try.prog 24 0 = some 0 := by kernel_rfl
theorem fo24_1 : fieldOffB Try.prog 24 1 = some 1 := by kernel_rfl
theorem fo24_2 : fieldOffB Try.prog 24 2 = some 2 := by kernel_rfl
theorem fo24_3 : fieldOffB Try.prog 24 3 = some 3 := by kernel_rfl
theorem sz24 : sizeB Try.prog 24 = some 4 := by kernel_rfl
set_option maxHeartbeats 1000000 in
theorem toWide_ok {w : World} {a3 a2 a1 a0 : Int}  : Ct Try.prog 16 [.agg #[.int .u64 a3, .int .u64 a2, .int .u64 a1, .int .u64 a0]] w fun v w1 => v = .agg #[.int .u64 a3, .int .u64 a2, .int .u64 a1, .int .u64 a0] ∧ Ext w w1 := by
  refine ct_run (n := 17) Try.func16 rfl Try.ntmps16 rfl ?_
  have E0 : Below w.heap.size w w := Below.refl _ _
  refine rk_seq ?_
  refine rk_reg ?_
  refine lw_e (oe_box (v := .agg #[.int .u64 a3, .int .u64 a2, .int .u64 a1, .int .u64 a0]) (cs := #[.int .u64 a3, .int .u64 a2, .int .u64 a1, .int .u64 a0]) (T rfl rfl) rfl ?_)
  intro b1 w2 n3
  have N4 : w.heap.size ≤ b1 := n3.eq ▸ E0.size
  have E5 := below_ext E0 E0.size n3.ext
  refine lw_e (oe_alloc ze26 ?_)
  intro b6 w7 n8
  have N9 : w.heap.size ≤ b6 := n8.eq ▸ E5.size
  have : b1 < b6 := n8.eq ▸ lt_of_blk n3.blk
  have E10 := below_ext E5 E5.size n8.ext
  refine lw_nil ?_
  refine rk_seq ?_
  refine rk_reg ?_
  refine lw_e (oe_alloc ze26 ?_)
  intro b11 w12 n13
  have N14 : w.heap.size ≤ b11 := n13.eq ▸ E10.size
  have : b6 < b11 := n13.eq ▸ lt_of_blk n8.blk
  have E15 := below_ext E10 E10.size n13.ext
  refine lw_nil ?_
  refine rk_seq ?_
  refine rk_reg ?_
  refine lw_v (.pointer (some ⟨b1, 0, none⟩)) (dv_fieldAddr (a := ⟨b1, 0, none⟩) (a' := ⟨b1, 0, none⟩) fo24_0 (T rfl rfl) rfl) ?_
  have H16 := (n13.ext.blk (n8.ext.blk n3.blk))
  refine lw_v (.int .u64 a3) (dv_load1 (b := b1) (o := 0) agt22 (T rfl rfl) H16 rfl) ?_
  refine lw_v (.pointer (some ⟨b11, 0, none⟩)) (dv_fieldAddr (a := ⟨b11, 0, none⟩) (a' := ⟨b11, 0, none⟩) fo26_0 (T rfl rfl) rfl) ?_
  refine lw_e (oe_store (v := .int .u64 a3) (vs := [.int .u64 a3]) (l := [.int .u64 a3, .int .u64 0, .int .u64 0, .int .u64 0]) (T rfl rfl) (T rfl rfl) sz22 rfl rfl rfl n13.blk rfl ?_)
  intro w17 s18 H19
  have E20 := below_st E15 N14 s18
  refine lw_nil ?_
  refine rk_seq ?_
  refine rk_reg ?_
  refine lw_v (.pointer (some ⟨b1, 1, none⟩)) (dv_fieldAddr (a := ⟨b1, 0, none⟩) (a' := ⟨b1, 1, none⟩) fo24_1 (T rfl rfl) rfl) ?_
  have H21 := (s18.blk H16 (by omega))
  refine lw_v (.int .u64 a2) (dv_load1 (b := b1) (o := 1) agt22 (T rfl rfl) H21 rfl) ?_
  refine lw_v (.pointer (some ⟨b11, 1, none⟩)) (dv_fieldAddr (a := ⟨b11, 0, none⟩) (a' := ⟨b11, 1, none⟩) fo26_1 (T rfl rfl) rfl) ?_
  refine lw_e (oe_store (v := .int .u64 a2) (vs := [.int .u64 a2]) (l := [.int .u64 a3, .int .u64 a2, .int .u64 0, .int .u64 0]) (T rfl rfl) (T rfl rfl) sz22 rfl rfl rfl H19 rfl ?_)
  intro w22 s23 H24
  have E25 := below_st E20 N14 s23
  refine lw_nil ?_
  refine rk_seq ?_
  refine rk_reg ?_
  refine lw_v (.pointer (some ⟨b1, 2, none⟩)) (dv_fieldAddr (a := ⟨b1, 0, none⟩) (a' := ⟨b1, 2, none⟩) fo24_2 (T rfl rfl) rfl) ?_
  have H26 := (s23.blk H21 (by omega))
  refine lw_v (.int .u64 a1) (dv_load1 (b := b1) (o := 2) agt22 (T rfl rfl) H26 rfl) ?_
  refine lw_v (.pointer (some ⟨b11, 2, none⟩)) (dv_fieldAddr (a := ⟨b11, 0, none⟩) (a' := ⟨b11, 2, none⟩) fo26_2 (T rfl rfl) rfl) ?_
  refine lw_e (oe_store (v := .int .u64 a1) (vs := [.int .u64 a1]) (l := [.int .u64 a3, .int .u64 a2, .int .u64 a1, .int .u64 0]) (T rfl rfl) (T rfl rfl) sz22 rfl rfl rfl H24 rfl ?_)
  intro w27 s28 H29
  have E30 := below_st E25 N14 s28
  refine lw_nil ?_
  refine rk_seq ?_
  refine rk_reg ?_
  refine lw_v (.pointer (some ⟨b1, 3, none⟩)) (dv_fieldAddr (a := ⟨b1, 0, none⟩) (a' := ⟨b1, 3, none⟩) fo24_3 (T rfl rfl) rfl) ?_
  have H31 := (s28.blk H26 (by omega))
  refine lw_v (.int .u64 a0) (dv_load1 (b := b1) (o := 3) agt22 (T rfl rfl) H31 rfl) ?_
  refine lw_v (.pointer (some ⟨b11, 3, none⟩)) (dv_fieldAddr (a := ⟨b11, 0, none⟩) (a' := ⟨b11, 3, none⟩) fo26_3 (T rfl rfl) rfl) ?_
  refine lw_e (oe_store (v := .int .u64 a0) (vs := [.int .u64 a0]) (l := [.int .u64 a3, .int .u64 a2, .int .u64 a1, .int .u64 a0]) (T rfl rfl) (T rfl rfl) sz22 rfl rfl rfl H29 rfl ?_)
  intro w32 s33 H34
  have E35 := below_st E30 N14 s33
  refine lw_nil ?_
  refine rk_seq ?_
  refine rk_reg ?_
  refine lw_v (.agg #[.int .u64 a3, .int .u64 a2, .int .u64 a1, .int .u64 a0]) (dv_loads (l := [.int .u64 a3, .int .u64 a2, .int .u64 a1, .int .u64 a0]) agt26 sz26 (T rfl rfl) H34 rfl) ?_
  have H36 := (s33.blk (s28.blk (s23.blk (s18.blk (n13.ext.blk n8.blk) (by omega)) (by omega)) (by omega)) (by omega))
  refine lw_e (oe_store (v := .agg #[.int .u64 a3, .int .u64 a2, .int .u64 a1, .int .u64 a0]) (vs := [.int .u64 a3, .int .u64 a2, .int .u64 a1, .int .u64 a0]) (l := [.int .u64 a3, .int .u64 a2, .int .u64 a1, .int .u64 a0]) (T rfl rfl) (T rfl rfl) sz26 rfl rfl rfl H36 rfl ?_)
  intro w37 s38 H39
  have E40 := below_st E35 N9 s38
  refine lw_nil ?_
  refine rk_ret Try.func16 (v := .agg #[.int .u64 a3, .int .u64 a2, .int .u64 a1, .int .u64 a0]) (res1 Try.results16 (rv_cells (l := [.int .u64 a3, .int .u64 a2, .int .u64 a1, .int .u64 a0]) agt26 sz26 rfl rfl H39 rfl)) ⟨_, rfl, ?_⟩
  exact ⟨rfl, E40⟩

set_option maxHeartbeats 1000000 in
theorem sWideSign_ok {w : World} {a3 a2 a1 a0 : Int} (h3 : 0 ≤ a3 ∧ a3 < 18446744073709551616) (h2 : 0 ≤ a2 ∧ a2 < 18446744073709551616) (h1 : 0 ≤ a1 ∧ a1 < 18446744073709551616) (h0 : 0 ≤ a0 ∧ a0 < 18446744073709551616) : Ct Try.prog 15 [.agg #[.int .u64 a3, .int .u64 a2, .int .u64 a1, .int .u64 a0]] w fun v w1 => v = .int .i64 (sgnI (wz a3 a2 a1 a0)) ∧ Ext w w1 := by
  refine ct_run (n := 6) Try.func15 rfl Try.ntmps15 rfl ?_
  have E0 : Below w.heap.size w w := Below.refl _ _
  refine rk_seq ?_
  refine rk_reg ?_
  refine lw_e (oe_box (v := .agg #[.int .u64 a3, .int .u64 a2, .int .u64 a1, .int .u64 a0]) (cs := #[.int .u64 a3, .int .u64 a2, .int .u64 a1, .int .u64 a0]) (T rfl rfl) rfl ?_)
  intro b1 w2 n3
  have N4 : w.heap.size ≤ b1 := n3.eq ▸ E0.size
  have E5 := below_ext E0 E0.size n3.ext
  refine lw_v (.int .i64 0) (dv_assign C) ?_
  refine lw_nil ?_
  refine rk_seq ?_
  refine rk_reg ?_
  refine lw_v (.agg #[.int .u64 a3, .int .u64 a2, .int .u64 a1, .int .u64 a0]) (dv_loads (l := [.int .u64 a3, .int .u64 a2, .int .u64 a1, .int .u64 a0]) agt26 sz26 (T rfl rfl) n3.blk rfl) ?_
  refine lw_e (oe_callf (vs := [.agg #[.int .u64 a3, .int .u64 a2, .int .u64 a1, .int .u64 a0]]) co44 (ar1 (T rfl rfl)) (l1From_ok (by omega) (by omega) (by omega) (by omega)) ?_)
  rintro _ w11 ⟨nr6, A7, n8, c9, rfl, e12, h10⟩
  have E13 := below_ext E5 E5.size e12
  have lh10 := Num.len (by decide) h10
  refine lw_e (oe_callf (vs := [.agg #[.bool nr6, .slice A7 n8 c9]]) co43 (ar1 (T rfl rfl)) (l1Sign_ok h10 ) ?_)
  rintro _ w14 ⟨rfl, e15⟩
  have E16 := below_ext E13 E13.size e15
  refine lw_v (.int .i64 (sgnI (wz a3 a2 a1 a0))) (dv_assign (T rfl rfl)) ?_
  refine lw_nil ?_
  refine rk_ret Try.func15 (v := .int .i64 (sgnI (wz a3 a2 a1 a0))) (res1 Try.results15 (rv_tmp rfl rfl)) ⟨_, rfl, ?_⟩
  exact ⟨rfl, E16⟩

set_option maxHeartbeats 1000000 in
theorem iWideSign_ok {w : World} {a3 a2 a1 a0 : Int} (h3 : 0 ≤ a3 ∧ a3 < 18446744073709551616) (h2 : 0 ≤ a2 ∧ a2 < 18446744073709551616) (h1 : 0 ≤ a1 ∧ a1 < 18446744073709551616) (h0 : 0 ≤ a0 ∧ a0 < 18446744073709551616) : Ct Try.prog 17 [.agg #[.int .u64 a3, .int .u64 a2, .int .u64 a1, .int .u64 a0]] w fun v w1 => v = .int .i64 (sgnI (wz a3 a2 a1 a0)) ∧ Ext w w1 := by
  refine ct_run (n := 6) Try.func17 rfl Try.ntmps17 rfl ?_
  have E0 : Below w.heap.size w w := Below.refl _ _
  refine rk_seq ?_
  refine rk_reg ?_
  refine lw_e (oe_box (v := .agg #[.int .u64 a3, .int .u64 a2, .int .u64 a1, .int .u64 a0]) (cs := #[.int .u64 a3, .int .u64 a2, .int .u64 a1, .int .u64 a0]) (T rfl rfl) rfl ?_)
  intro b1 w2 n3
  have N4 : w.heap.size ≤ b1 := n3.eq ▸ E0.size
  have E5 := below_ext E0 E0.size n3.ext
  refine lw_v (.int .i64 0) (dv_assign C) ?_
  refine lw_nil ?_
  refine rk_seq ?_
  refine rk_reg ?_
  refine lw_v (.agg #[.int .u64 a3, .int .u64 a2, .int .u64 a1, .int .u64 a0]) (dv_loads (l := [.int .u64 a3, .int .u64 a2, .int .u64 a1, .int .u64 a0]) agt26 sz26 (T rfl rfl) n3.blk rfl) ?_
  refine lw_e (oe_callf (vs := [.agg #[.int .u64 a3, .int .u64 a2, .int .u64 a1, .int .u64 a0]]) co45 (ar1 (T rfl rfl)) (wnum_ok (by omega) (by omega) (by omega) (by omega)) ?_)
  rintro _ w11 ⟨nr6, A7, n8, c9, rfl, e12, h10⟩
  have E13 := below_ext E5 E5.size e12
  have lh10 := Num.len (by decide) h10
  refine lw_e (oe_callf (vs := [.agg #[.bool nr6, .slice A7 n8 c9]]) co46 (ar1 (T rfl rfl)) (nsign_ok h10 ) ?_)
  rintro _ w14 ⟨rfl, e15⟩
  have E16 := below_ext E13 E13.size e15
  refine lw_v (.int .i64 (sgnI (wz a3 a2 a1 a0))) (dv_assign (T rfl rfl)) ?_
  refine lw_nil ?_
  refine rk_ret Try.func17 (v := .int .i64 (sgnI (wz a3 a2 a1 a0))) (res1 Try.results17 (rv_tmp rfl rfl)) ⟨_, rfl, ?_⟩
  exact ⟨rfl, E16⟩

set_option maxHeartbeats 1000000 in
theorem sWideBits_ok {w : World} {a3 a2 a1 a0 : Int} (h3 : 0 ≤ a3 ∧ a3 < 18446744073709551616) (h2 : 0 ≤ a2 ∧ a2 < 18446744073709551616) (h1 : 0 ≤ a1 ∧ a1 < 18446744073709551616) (h0 : 0 ≤ a0 ∧ a0 < 18446744073709551616) : Ct Try.prog 18 [.agg #[.int .u64 a3, .int .u64 a2, .int .u64 a1, .int .u64 a0]] w fun v w1 => v = .int .i64 ((nbits (wz a3 a2 a1 a0).natAbs : Int)) ∧ Ext w w1 := by
  refine ct_run (n := 7) Try.func18 rfl Try.ntmps18 rfl ?_
  have E0 : Below w.heap.size w w := Below.refl _ _
  have bq := nbits_le_iff.2 (wz_lt h3 h2 h1 h0)
  refine rk_seq ?_
  refine rk_reg ?_
  refine lw_e (oe_box (v := .agg #[.int .u64 a3, .int .u64 a2, .int .u64 a1, .int .u64 a0]) (cs := #[.int .u64 a3, .int .u64 a2, .int .u64 a1, .int .u64 a0]) (T rfl rfl) rfl ?_)
  intro b1 w2 n3
  have N4 : w.heap.size ≤ b1 := n3.eq ▸ E0.size
  have E5 := below_ext E0 E0.size n3.ext
  refine lw_v (.int .i64 0) (dv_assign C) ?_
  refine lw_nil ?_
  refine rk_seq ?_
  refine rk_reg ?_
  refine lw_v (.agg #[.int .u64 a3, .int .u64 a2, .int .u64 a1, .int .u64 a0]) (dv_loads (l := [.int .u64 a3, .int .u64 a2, .int .u64 a1, .int .u64 a0]) agt26 sz26 (T rfl rfl) n3.blk rfl) ?_
  refine lw_e (oe_callf (vs := [.agg #[.int .u64 a3, .int .u64 a2, .int .u64 a1, .int .u64 a0]]) co44 (ar1 (T rfl rfl)) (l1From_ok (by omega) (by omega) (by omega) (by omega)) ?_)
  rintro _ w11 ⟨nr6, A7, n8, c9, rfl, e12, h10⟩
  have E13 := below_ext E5 E5.size e12
  have lh10 := Num.len (by decide) h10
  refine lw_v (.slice A7 n8 c9) (dv_field (v := .slice A7 n8 c9) fb55_1 agt53 (T rfl rfl) rfl) ?_
  refine lw_e (oe_callf (vs := [.slice A7 n8 c9]) co47 (ar1 (T rfl rfl)) (l1Bits_wc h10.wc (by omega)) ?_)
  rintro _ w14 ⟨rfl, e15⟩
  have E16 := below_ext E13 E13.size e15
  refine lw_v (.int .i64 ((nbits (((wz a3 a2 a1 a0).natAbs : Int)).toNat : Int))) (dv_assign (T rfl rfl)) ?_
  refine lw_nil ?_
  refine rk_ret Try.func18 (v := .int .i64 ((nbits (((wz a3 a2 a1 a0).natAbs : Int)).toNat : Int))) (res1 Try.results18 (rv_tmp rfl rfl)) ⟨_, rfl, ?_⟩
  exact ⟨(vi (by first | rfl | exact congrArg _ (congrArg nbits (by simp)))), E16⟩

set_option maxHeartbeats 1000000 in
theorem iWideBits_ok {w : World} {a3 a2 a1 a0 : Int} (h3 : 0 ≤ a3 ∧ a3 < 18446744073709551616) (h2 : 0 ≤ a2 ∧ a2 < 18446744073709551616) (h1 : 0 ≤ a1 ∧ a1 < 18446744073709551616) (h0 : 0 ≤ a0 ∧ a0 < 18446744073709551616) : Ct Try.prog 19 [.agg #[.int .u64 a3, .int .u64 a2, .int .u64 a1, .int .u64 a0]] w fun v w1 => v = .int .i64 ((nbits (wz a3 a2 a1 a0).natAbs : Int)) ∧ Ext w w1 := by
  refine ct_run (n := 6) Try.func19 rfl Try.ntmps19 rfl ?_
  have E0 : Below w.heap.size w w := Below.refl _ _
  have bq := nbits_le_iff.2 (wz_lt h3 h2 h1 h0)
  refine rk_seq ?_
  refine rk_reg ?_
  refine lw_e (oe_box (v := .agg #[.int .u64 a3, .int .u64 a2, .int .u64 a1, .int .u64 a0]) (cs := #[.int .u64 a3, .int .u64 a2, .int .u64 a1, .int .u64 a0]) (T rfl rfl) rfl ?_)
  intro b1 w2 n3
  have N4 : w.heap.size ≤ b1 := n3.eq ▸ E0.size
  have E5 := below_ext E0 E0.size n3.ext
  refine lw_v (.int .i64 0) (dv_assign C) ?_
  refine lw_nil ?_
  refine rk_seq ?_
  refine rk_reg ?_
  refine lw_v (.agg #[.int .u64 a3, .int .u64 a2, .int .u64 a1, .int .u64 a0]) (dv_loads (l := [.int .u64 a3, .int .u64 a2, .int .u64 a1, .int .u64 a0]) agt26 sz26 (T rfl rfl) n3.blk rfl) ?_
  refine lw_e (oe_callf (vs := [.agg #[.int .u64 a3, .int .u64 a2, .int .u64 a1, .int .u64 a0]]) co45 (ar1 (T rfl rfl)) (wnum_ok (by omega) (by omega) (by omega) (by omega)) ?_)
  rintro _ w11 ⟨nr6, A7, n8, c9, rfl, e12, h10⟩
  have E13 := below_ext E5 E5.size e12
  have lh10 := Num.len (by decide) h10
  refine lw_e (oe_callf (vs := [.agg #[.bool nr6, .slice A7 n8 c9]]) co48 (ar1 (T rfl rfl)) (nsize_num h10 (by omega)) ?_)
  rintro _ w14 ⟨rfl, e15⟩
  have E16 := below_ext E13 E13.size e15
  refine lw_v (.int .i64 ((nbits (wz a3 a2 a1 a0).natAbs : Int))) (dv_assign (T rfl rfl)) ?_
  refine lw_nil ?_
  refine rk_ret Try.func19 (v := .int .i64 ((nbits (wz a3 a2 a1 a0).natAbs : Int))) (res1 Try.results19 (rv_tmp rfl rfl)) ⟨_, rfl, ?_⟩
  exact ⟨rfl, E16⟩

set_option maxHeartbeats 1000000 in
theorem sWideCmp_ok {w : World} {a3 a2 a1 a0 y3 y2 y1 y0 : Int} (h3 : 0 ≤ a3 ∧ a3 < 18446744073709551616) (h2 : 0 ≤ a2 ∧ a2 < 18446744073709551616) (h1 : 0 ≤ a1 ∧ a1 < 18446744073709551616) (h0 : 0 ≤ a0 ∧ a0 < 18446744073709551616) (k3 : 0 ≤ y3 ∧ y3 < 18446744073709551616) (k2 : 0 ≤ y2 ∧ y2 < 18446744073709551616) (k1 : 0 ≤ y1 ∧ y1 < 18446744073709551616) (k0 : 0 ≤ y0 ∧ y0 < 18446744073709551616) : Ct Try.prog 20 [.agg #[.int .u64 a3, .int .u64 a2, .int .u64 a1, .int .u64 a0], .agg #[.int .u64 y3, .int .u64 y2, .int .u64 y1, .int .u64 y0]] w fun v w1 => v = .int .i64 (sgnI (wz a3 a2 a1 a0 - wz y3 y2 y1 y0)) ∧ Ext w w1 := by
  refine ct_run (n := 10) Try.func20 rfl Try.ntmps20 rfl ?_
  have E0 : Below w.heap.size w w := Below.refl _ _
  refine rk_seq ?_
  refine rk_reg ?_
  refine lw_e (oe_box (v := .agg #[.int .u64 a3, .int .u64 a2, .int .u64 a1, .int .u64 a0]) (cs := #[.int .u64 a3, .int .u64 a2, .int .u64 a1, .int .u64 a0]) (T rfl rfl) rfl ?_)
  intro b1 w2 n3
  have N4 : w.heap.size ≤ b1 := n3.eq ▸ E0.size
  have E5 := below_ext E0 E0.size n3.ext
  refine lw_e (oe_box (v := .agg #[.int .u64 y3, .int .u64 y2, .int .u64 y1, .int .u64 y0]) (cs := #[.int .u64 y3, .int .u64 y2, .int .u64 y1, .int .u64 y0]) (T rfl rfl) rfl ?_)
  intro b6 w7 n8
  have N9 : w.heap.size ≤ b6 := n8.eq ▸ E5.size
  have : b1 < b6 := n8.eq ▸ lt_of_blk n3.blk
  have E10 := below_ext E5 E5.size n8.ext
  refine lw_v (.int .i64 0) (dv_assign C) ?_
  refine lw_nil ?_
  refine rk_seq ?_
  refine rk_any (fun w => w.heap[b1]? = some (.cells #[.int .u64 a3, .int .u64 a2, .int .u64 a1, .int .u64 a0] 26) ∧ w.heap[b6]? = some (.cells #[.int .u64 y3, .int .u64 y2, .int .u64 y1, .int .u64 y0] 26)) [5] mo ?_
  intro w11 d12
  have E13 := below_ext E10 E10.size d12.ext
  have H14 := (d12.ext.blk (n8.ext.blk n3.blk))
  have H15 := (d12.ext.blk n8.blk)
  refine aw_load 0 (.agg #[.int .u64 a3, .int .u64 a2, .int .u64 a1, .int .u64 a0]) rfl (by kernel_rfl) .none ⟨H14, H15⟩ (fun _ s => dv_loads (l := [.int .u64 a3, .int .u64 a2, .int .u64 a1, .int .u64 a0]) agt26 sz26 (T rfl rfl) s.1 rfl) ?_
  refine aw_load 2 (.agg #[.int .u64 y3, .int .u64 y2, .int .u64 y1, .int .u64 y0]) rfl (by kernel_rfl) .none ⟨H14, H15⟩ (fun _ s => dv_loads (l := [.int .u64 y3, .int .u64 y2, .int .u64 y1, .int .u64 y0]) agt26 sz26 (T rfl rfl) s.2 rfl) ?_
  refine aw_one 1 rfl (by kernel_rfl) .none (oe_callf (vs := [.agg #[.int .u64 a3, .int .u64 a2, .int .u64 a1, .int .u64 a0]]) co44 (ar1 (T rfl rfl)) (l1From_ok (by omega) (by omega) (by omega) (by omega)) ?_)
  rintro _ w21 ⟨nr16, A17, n18, c19, rfl, e22, h20⟩
  have E23 := below_ext E13 E13.size e22
  have lh20 := Num.len (by decide) h20
  have H24 := (e22.blk H14)
  have H25 := (e22.blk H15)
  refine ⟨.inr ⟨H24, H25⟩, ?_⟩
  refine aw_one 3 rfl (by kernel_rfl) .none (oe_callf (vs := [.agg #[.int .u64 y3, .int .u64 y2, .int .u64 y1, .int .u64 y0]]) co44 (ar1 (T rfl rfl)) (l1From_ok (by omega) (by omega) (by omega) (by omega)) ?_)
  rintro _ w31 ⟨nr26, A27, n28, c29, rfl, e32, h30⟩
  have E33 := below_ext E23 E23.size e32
  have lh30 := Num.len (by decide) h30
  have H34 := (e32.blk H24)
  have H35 := (e32.blk H25)
  refine ⟨.inr ⟨H34, H35⟩, ?_⟩
  have h36 := (h20.ext e32)
  refine aw_one 4 rfl (by kernel_rfl) .none (oe_callf (vs := [.agg #[.bool nr16, .slice A17 n18 c19], .agg #[.bool nr26, .slice A27 n28 c29]]) co49 (ar2 (T rfl rfl) (T rfl rfl)) (l1Cmp_ok h36 h30 (by first | decide | omega) (by first | decide | omega)) ?_)
  rintro _ w37 ⟨rfl, e38⟩
  have E39 := below_ext E33 E33.size e38
  have H40 := (e38.blk H34)
  have H41 := (e38.blk H35)
  refine ⟨.inr ⟨H40, H41⟩, ?_⟩
  refine aw_last 5 (.int .i64 (sgnI ((wz a3 a2 a1 a0) - (wz y3 y2 y1 y0)))) rfl (by kernel_rfl) .none (fun _ => dv_assign (T rfl rfl)) ?_
  refine aw_done (by kernel_rfl) ?_
  refine rk_ret Try.func20 (v := .int .i64 (sgnI ((wz a3 a2 a1 a0) - (wz y3 y2 y1 y0)))) (res1 Try.results20 (rv_tmp rfl rfl)) ⟨_, rfl, ?_⟩
  exact ⟨(vi (by rfl)), E39⟩

set_option maxHeartbeats 1000000 in
theorem iWideCmp_ok {w : World} {a3 a2 a1 a0 y3 y2 y1 y0 : Int} (h3 : 0 ≤ a3 ∧ a3 < 18446744073709551616) (h2 : 0 ≤ a2 ∧ a2 < 18446744073709551616) (h1 : 0 ≤ a1 ∧ a1 < 18446744073709551616) (h0 : 0 ≤ a0 ∧ a0 < 18446744073709551616) (k3 : 0 ≤ y3 ∧ y3 < 18446744073709551616) (k2 : 0 ≤ y2 ∧ y2 < 18446744073709551616) (k1 : 0 ≤ y1 ∧ y1 < 18446744073709551616) (k0 : 0 ≤ y0 ∧ y0 < 18446744073709551616) : Ct Try.prog 21 [.agg #[.int .u64 a3, .int .u64 a2, .int .u64 a1, .int .u64 a0], .agg #[.int .u64 y3, .int .u64 y2, .int .u64 y1, .int .u64 y0]] w fun v w1 => v = .int .i64 (sgnI (wz a3 a2 a1 a0 - wz y3 y2 y1 y0)) ∧ Ext w w1 := by
  refine ct_run (n := 10) Try.func21 rfl Try.ntmps21 rfl ?_
  have E0 : Below w.heap.size w w := Below.refl _ _
  refine rk_seq ?_
  refine rk_reg ?_
  refine lw_e (oe_box (v := .agg #[.int .u64 a3, .int .u64 a2, .int .u64 a1, .int .u64 a0]) (cs := #[.int .u64 a3, .int .u64 a2, .int .u64 a1, .int .u64 a0]) (T rfl rfl) rfl ?_)
  intro b1 w2 n3
  have N4 : w.heap.size ≤ b1 := n3.eq ▸ E0.size
  have E5 := below_ext E0 E0.size n3.ext
  refine lw_e (oe_box (v := .agg #[.int .u64 y3, .int .u64 y2, .int .u64 y1, .int .u64 y0]) (cs := #[.int .u64 y3, .int .u64 y2, .int .u64 y1, .int .u64 y0]) (T rfl rfl) rfl ?_)
  intro b6 w7 n8
  have N9 : w.heap.size ≤ b6 := n8.eq ▸ E5.size
  have : b1 < b6 := n8.eq ▸ lt_of_blk n3.blk
  have E10 := below_ext E5 E5.size n8.ext
  refine lw_v (.int .i64 0) (dv_assign C) ?_
  refine lw_nil ?_
  refine rk_seq ?_
  refine rk_any (fun w => w.heap[b1]? = some (.cells #[.int .u64 a3, .int .u64 a2, .int .u64 a1, .int .u64 a0] 26) ∧ w.heap[b6]? = some (.cells #[.int .u64 y3, .int .u64 y2, .int .u64 y1, .int .u64 y0] 26)) [5] mo ?_
  intro w11 d12
  have E13 := below_ext E10 E10.size d12.ext
  have H14 := (d12.ext.blk (n8.ext.blk n3.blk))
  have H15 := (d12.ext.blk n8.blk)
  refine aw_load 0 (.agg #[.int .u64 a3, .int .u64 a2, .int .u64 a1, .int .u64 a0]) rfl (by kernel_rfl) .none ⟨H14, H15⟩ (fun _ s => dv_loads (l := [.int .u64 a3, .int .u64 a2, .int .u64 a1, .int .u64 a0]) agt26 sz26 (T rfl rfl) s.1 rfl) ?_
  refine aw_load 2 (.agg #[.int .u64 y3, .int .u64 y2, .int .u64 y1, .int .u64 y0]) rfl (by kernel_rfl) .none ⟨H14, H15⟩ (fun _ s => dv_loads (l := [.int .u64 y3, .int .u64 y2, .int .u64 y1, .int .u64 y0]) agt26 sz26 (T rfl rfl) s.2 rfl) ?_
  refine aw_one 1 rfl (by kernel_rfl) .none (oe_callf (vs := [.agg #[.int .u64 a3, .int .u64 a2, .int .u64 a1, .int .u64 a0]]) co45 (ar1 (T rfl rfl)) (wnum_ok (by omega) (by omega) (by omega) (by omega)) ?_)
  rintro _ w21 ⟨nr16, A17, n18, c19, rfl, e22, h20⟩
  have E23 := below_ext E13 E13.size e22
  have lh20 := Num.len (by decide) h20
  have H24 := (e22.blk H14)
  have H25 := (e22.blk H15)
  refine ⟨.inr ⟨H24, H25⟩, ?_⟩
  refine aw_one 3 rfl (by kernel_rfl) .none (oe_callf (vs := [.agg #[.int .u64 y3, .int .u64 y2, .int .u64 y1, .int .u64 y0]]) co45 (ar1 (T rfl rfl)) (wnum_ok (by omega) (by omega) (by omega) (by omega)) ?_)
  rintro _ w31 ⟨nr26, A27, n28, c29, rfl, e32, h30⟩
  have E33 := below_ext E23 E23.size e32
  have lh30 := Num.len (by decide) h30
  have H34 := (e32.blk H24)
  have H35 := (e32.blk H25)
  refine ⟨.inr ⟨H34, H35⟩, ?_⟩
  have h36 := (h20.ext e32)
  refine aw_one 4 rfl (by kernel_rfl) .none (oe_callf (vs := [.agg #[.bool nr16, .slice A17 n18 c19], .agg #[.bool nr26, .slice A27 n28 c29]]) co50 (ar2 (T rfl rfl) (T rfl rfl)) (ncmp_ok h36 h30 (by first | decide | omega) (by first | decide | omega)) ?_)
  rintro _ w37 ⟨rfl, e38⟩
  have E39 := below_ext E33 E33.size e38
  have H40 := (e38.blk H34)
  have H41 := (e38.blk H35)
  refine ⟨.inr ⟨H40, H41⟩, ?_⟩
  refine aw_last 5 (.int .i64 (sgnI ((wz a3 a2 a1 a0) - (wz y3 y2 y1 y0)))) rfl (by kernel_rfl) .none (fun _ => dv_assign (T rfl rfl)) ?_
  refine aw_done (by kernel_rfl) ?_
  refine rk_ret Try.func21 (v := .int .i64 (sgnI ((wz a3 a2 a1 a0) - (wz y3 y2 y1 y0)))) (res1 Try.results21 (rv_tmp rfl rfl)) ⟨_, rfl, ?_⟩
  exact ⟨(vi (by rfl)), E39⟩

set_option maxHeartbeats 1000000 in
theorem lawWideBits_ok {w : World} {a3 a2 a1 a0 : Int} (h3 : 0 ≤ a3 ∧ a3 < 18446744073709551616) (h2 : 0 ≤ a2 ∧ a2 < 18446744073709551616) (h1 : 0 ≤ a1 ∧ a1 < 18446744073709551616) (h0 : 0 ≤ a0 ∧ a0 < 18446744073709551616) : Ct Try.prog 4 [.agg #[.int .u64 a3, .int .u64 a2, .int .u64 a1, .int .u64 a0]] w fun v w1 => v = .bool true ∧ Ext w w1 := by
  refine ct_run (n := 14) Try.func4 rfl Try.ntmps4 rfl ?_
  have E0 : Below w.heap.size w w := Below.refl _ _
  refine rk_seq ?_
  refine rk_reg ?_
  refine lw_e (oe_box (v := .agg #[.int .u64 a3, .int .u64 a2, .int .u64 a1, .int .u64 a0]) (cs := #[.int .u64 a3, .int .u64 a2, .int .u64 a1, .int .u64 a0]) (T rfl rfl) rfl ?_)
  intro b1 w2 n3
  have N4 : w.heap.size ≤ b1 := n3.eq ▸ E0.size
  have E5 := below_ext E0 E0.size n3.ext
  refine lw_v (.bool false) (dv_assign C) ?_
  refine lw_nil ?_
  refine rk_seq ?_
  refine rk_reg ?_
  refine lw_v (.agg #[.int .u64 a3, .int .u64 a2, .int .u64 a1, .int .u64 a0]) (dv_loads (l := [.int .u64 a3, .int .u64 a2, .int .u64 a1, .int .u64 a0]) agt24 sz24 (T rfl rfl) n3.blk rfl) ?_
  refine lw_e (oe_callf (vs := [.agg #[.int .u64 a3, .int .u64 a2, .int .u64 a1, .int .u64 a0]]) co16 (ar1 (T rfl rfl)) (toWide_ok ) ?_)
  rintro _ w6 ⟨rfl, e7⟩
  have E8 := below_ext E5 E5.size e7
  refine lw_e (oe_callf (vs := [.agg #[.int .u64 a3, .int .u64 a2, .int .u64 a1, .int .u64 a0]]) co18 (ar1 (T rfl rfl)) (sWideBits_ok (by omega) (by omega) (by omega) (by omega)) ?_)
  rintro _ w9 ⟨rfl, e10⟩
  have E11 := below_ext E8 E8.size e10
  refine lw_v (.int .i64 ((nbits (wz a3 a2 a1 a0).natAbs : Int))) (dv_assign (T rfl rfl)) ?_
  refine lw_nil ?_
  refine rk_seq ?_
  refine rk_reg ?_
  have H12 := (e10.blk (e7.blk n3.blk))
  refine lw_v (.agg #[.int .u64 a3, .int .u64 a2, .int .u64 a1, .int .u64 a0]) (dv_loads (l := [.int .u64 a3, .int .u64 a2, .int .u64 a1, .int .u64 a0]) agt24 sz24 (T rfl rfl) H12 rfl) ?_
  refine lw_e (oe_callf (vs := [.agg #[.int .u64 a3, .int .u64 a2, .int .u64 a1, .int .u64 a0]]) co16 (ar1 (T rfl rfl)) (toWide_ok ) ?_)
  rintro _ w13 ⟨rfl, e14⟩
  have E15 := below_ext E11 E11.size e14
  refine lw_e (oe_callf (vs := [.agg #[.int .u64 a3, .int .u64 a2, .int .u64 a1, .int .u64 a0]]) co19 (ar1 (T rfl rfl)) (iWideBits_ok (by omega) (by omega) (by omega) (by omega)) ?_)
  rintro _ w16 ⟨rfl, e17⟩
  have E18 := below_ext E15 E15.size e17
  refine lw_v (.int .i64 ((nbits (wz a3 a2 a1 a0).natAbs : Int))) (dv_assign (T rfl rfl)) ?_
  refine lw_nil ?_
  refine rk_seq ?_
  refine rk_seq ?_
  refine rk_reg ?_
  refine lw_v (.int .i64 ((nbits (wz a3 a2 a1 a0).natAbs : Int))) (dv_move (T rfl rfl)) ?_
  refine lw_v (.int .i64 ((nbits (wz a3 a2 a1 a0).natAbs : Int))) (dv_move (T rfl rfl)) ?_
  refine lw_v (.bool (decide (((nbits (wz a3 a2 a1 a0).natAbs : Int)) ≠ ((nbits (wz a3 a2 a1 a0).natAbs : Int))))) (dv_neq (a := (nbits (wz a3 a2 a1 a0).natAbs : Int)) (b := (nbits (wz a3 a2 a1 a0).natAbs : Int)) (T rfl rfl) (T rfl rfl)) ?_
  refine lw_nil ?_
  by_cases hb19 : ((nbits (wz a3 a2 a1 a0).natAbs : Int)) ≠ ((nbits (wz a3 a2 a1 a0).natAbs : Int))
  · -- T
    refine rk_ct (T rfl (congrArg Value.bool (decide_eq_true hb19))) ?_
    refine rk_seq ?_
    refine rk_reg ?_
    refine lw_v (.bool false) (dv_assign C) ?_
    refine lw_nil ?_
    refine rk_ret Try.func4 (v := .bool false) (res1 Try.results4 (rv_tmp rfl rfl)) ⟨_, rfl, ?_⟩
    exact ⟨(congrArg Value.bool (by grind)), E18⟩
  · -- F
    refine rk_cf (T rfl (congrArg Value.bool (decide_eq_false hb19))) ?_
    refine rk_skip ?_
    refine rk_seq ?_
    refine rk_reg ?_
    refine lw_v (.bool true) (dv_assign C) ?_
    refine lw_nil ?_
    refine rk_ret Try.func4 (v := .bool true) (res1 Try.results4 (rv_tmp rfl rfl)) ⟨_, rfl, ?_⟩
    exact ⟨rfl, E18⟩

set_option maxHeartbeats 1000000 in
theorem lawWideCmp_ok {w : World} {a3 a2 a1 a0 y3 y2 y1 y0 : Int} (h3 : 0 ≤ a3 ∧ a3 < 18446744073709551616) (h2 : 0 ≤ a2 ∧ a2 < 18446744073709551616) (h1 : 0 ≤ a1 ∧ a1 < 18446744073709551616) (h0 : 0 ≤ a0 ∧ a0 < 18446744073709551616) (k3 : 0 ≤ y3 ∧ y3 < 18446744073709551616) (k2 : 0 ≤ y2 ∧ y2 < 18446744073709551616) (k1 : 0 ≤ y1 ∧ y1 < 18446744073709551616) (k0 : 0 ≤ y0 ∧ y0 < 18446744073709551616) : Ct Try.prog 5 [.agg #[.int .u64 a3, .int .u64 a2, .int .u64 a1, .int .u64 a0], .agg #[.int .u64 y3, .int .u64 y2, .int .u64 y1, .int .u64 y0]] w fun v w1 => v = .bool true ∧ Ext w w1 := by
  refine ct_run (n := 20) Try.func5 rfl Try.ntmps5 rfl ?_
  have E0 : Below w.heap.size w w := Below.refl _ _
  refine rk_seq ?_
  refine rk_reg ?_
  refine lw_e (oe_box (v := .agg #[.int .u64 a3, .int .u64 a2, .int .u64 a1, .int .u64 a0]) (cs := #[.int .u64 a3, .int .u64 a2, .int .u64 a1, .int .u64 a0]) (T rfl rfl) rfl ?_)
  intro b1 w2 n3
  have N4 : w.heap.size ≤ b1 := n3.eq ▸ E0.size
  have E5 := below_ext E0 E0.size n3.ext
  refine lw_e (oe_box (v := .agg #[.int .u64 y3, .int .u64 y2, .int .u64 y1, .int .u64 y0]) (cs := #[.int .u64 y3, .int .u64 y2, .int .u64 y1, .int .u64 y0]) (T rfl rfl) rfl ?_)
  intro b6 w7 n8
  have N9 : w.heap.size ≤ b6 := n8.eq ▸ E5.size
  have : b1 < b6 := n8.eq ▸ lt_of_blk n3.blk
  have E10 := below_ext E5 E5.size n8.ext
  refine lw_v (.bool false) (dv_assign C) ?_
  refine lw_nil ?_
  refine rk_seq ?_
  refine rk_any (fun w => w.heap[b1]? = some (.cells #[.int .u64 a3, .int .u64 a2, .int .u64 a1, .int .u64 a0] 24) ∧ w.heap[b6]? = some (.cells #[.int .u64 y3, .int .u64 y2, .int .u64 y1, .int .u64 y0] 24)) [5] mo ?_
  intro w11 d12
  have E13 := below_ext E10 E10.size d12.ext
  have H14 := (d12.ext.blk (n8.ext.blk n3.blk))
  have H15 := (d12.ext.blk n8.blk)
  refine aw_load 0 (.agg #[.int .u64 a3, .int .u64 a2, .int .u64 a1, .int .u64 a0]) rfl (by kernel_rfl) .none ⟨H14, H15⟩ (fun _ s => dv_loads (l := [.int .u64 a3, .int .u64 a2, .int .u64 a1, .int .u64 a0]) agt24 sz24 (T rfl rfl) s.1 rfl) ?_
  refine aw_load 2 (.agg #[.int .u64 y3, .int .u64 y2, .int .u64 y1, .int .u64 y0]) rfl (by kernel_rfl) .none ⟨H14, H15⟩ (fun _ s => dv_loads (l := [.int .u64 y3, .int .u64 y2, .int .u64 y1, .int .u64 y0]) agt24 sz24 (T rfl rfl) s.2 rfl) ?_
  refine aw_one 1 rfl (by kernel_rfl) .none (oe_callf (vs := [.agg #[.int .u64 a3, .int .u64 a2, .int .u64 a1, .int .u64 a0]]) co16 (ar1 (T rfl rfl)) (toWide_ok ) ?_)
  rintro _ w16 ⟨rfl, e17⟩
  have E18 := below_ext E13 E13.size e17
  have H19 := (e17.blk H14)
  have H20 := (e17.blk H15)
  refine ⟨.inr ⟨H19, H20⟩, ?_⟩
  refine aw_one 3 rfl (by kernel_rfl) .none (oe_callf (vs := [.agg #[.int .u64 y3, .int .u64 y2, .int .u64 y1, .int .u64 y0]]) co16 (ar1 (T rfl rfl)) (toWide_ok ) ?_)
  rintro _ w21 ⟨rfl, e22⟩
  have E23 := below_ext E18 E18.size e22
  have H24 := (e22.blk H19)
  have H25 := (e22.blk H20)
  refine ⟨.inr ⟨H24, H25⟩, ?_⟩
  refine aw_one 4 rfl (by kernel_rfl) .none (oe_callf (vs := [.agg #[.int .u64 a3, .int .u64 a2, .int .u64 a1, .int .u64 a0], .agg #[.int .u64 y3, .int .u64 y2, .int .u64 y1, .int .u64 y0]]) co20 (ar2 (T rfl rfl) (T rfl rfl)) (sWideCmp_ok (by omega) (by omega) (by omega) (by omega) (by omega) (by omega) (by omega) (by omega)) ?_)
  rintro _ w26 ⟨rfl, e27⟩
  have E28 := below_ext E23 E23.size e27
  have H29 := (e27.blk H24)
  have H30 := (e27.blk H25)
  refine ⟨.inr ⟨H29, H30⟩, ?_⟩
  refine aw_last 5 (.int .i64 (sgnI (wz a3 a2 a1 a0 - wz y3 y2 y1 y0))) rfl (by kernel_rfl) .none (fun _ => dv_assign (T rfl rfl)) ?_
  refine aw_done (by kernel_rfl) ?_
  refine rk_seq ?_
  refine rk_any (fun w => w.heap[b1]? = some (.cells #[.int .u64 a3, .int .u64 a2, .int .u64 a1, .int .u64 a0] 24) ∧ w.heap[b6]? = some (.cells #[.int .u64 y3, .int .u64 y2, .int .u64 y1, .int .u64 y0] 24)) [5] mo ?_
  intro w31 d32
  have E33 := below_ext E28 E28.size d32.ext
  have H34 := (d32.ext.blk H29)
  have H35 := (d32.ext.blk H30)
  refine aw_load 0 (.agg #[.int .u64 a3, .int .u64 a2, .int .u64 a1, .int .u64 a0]) rfl (by kernel_rfl) .none ⟨H34, H35⟩ (fun _ s => dv_loads (l := [.int .u64 a3, .int .u64 a2, .int .u64 a1, .int .u64 a0]) agt24 sz24 (T rfl rfl) s.1 rfl) ?_
  refine aw_load 2 (.agg #[.int .u64 y3, .int .u64 y2, .int .u64 y1, .int .u64 y0]) rfl (by kernel_rfl) .none ⟨H34, H35⟩ (fun _ s => dv_loads (l := [.int .u64 y3, .int .u64 y2, .int .u64 y1, .int .u64 y0]) agt24 sz24 (T rfl rfl) s.2 rfl) ?_
  refine aw_one 1 rfl (by kernel_rfl) .none (oe_callf (vs := [.agg #[.int .u64 a3, .int .u64 a2, .int .u64 a1, .int .u64 a0]]) co16 (ar1 (T rfl rfl)) (toWide_ok ) ?_)
  rintro _ w36 ⟨rfl, e37⟩
  have E38 := below_ext E33 E33.size e37
  have H39 := (e37.blk H34)
  have H40 := (e37.blk H35)
  refine ⟨.inr ⟨H39, H40⟩, ?_⟩
  refine aw_one 3 rfl (by kernel_rfl) .none (oe_callf (vs := [.agg #[.int .u64 y3, .int .u64 y2, .int .u64 y1, .int .u64 y0]]) co16 (ar1 (T rfl rfl)) (toWide_ok ) ?_)
  rintro _ w41 ⟨rfl, e42⟩
  have E43 := below_ext E38 E38.size e42
  have H44 := (e42.blk H39)
  have H45 := (e42.blk H40)
  refine ⟨.inr ⟨H44, H45⟩, ?_⟩
  refine aw_one 4 rfl (by kernel_rfl) .none (oe_callf (vs := [.agg #[.int .u64 a3, .int .u64 a2, .int .u64 a1, .int .u64 a0], .agg #[.int .u64 y3, .int .u64 y2, .int .u64 y1, .int .u64 y0]]) co21 (ar2 (T rfl rfl) (T rfl rfl)) (iWideCmp_ok (by omega) (by omega) (by omega) (by omega) (by omega) (by omega) (by omega) (by omega)) ?_)
  rintro _ w46 ⟨rfl, e47⟩
  have E48 := below_ext E43 E43.size e47
  have H49 := (e47.blk H44)
  have H50 := (e47.blk H45)
  refine ⟨.inr ⟨H49, H50⟩, ?_⟩
  refine aw_last 5 (.int .i64 (sgnI (wz a3 a2 a1 a0 - wz y3 y2 y1 y0))) rfl (by kernel_rfl) .none (fun _ => dv_assign (T rfl rfl)) ?_
  refine aw_done (by kernel_rfl) ?_
  refine rk_seq ?_
  refine rk_seq ?_
  refine rk_reg ?_
  refine lw_v (.int .i64 (sgnI (wz a3 a2 a1 a0 - wz y3 y2 y1 y0))) (dv_move (T rfl rfl)) ?_
  refine lw_v (.int .i64 (sgnI (wz a3 a2 a1 a0 - wz y3 y2 y1 y0))) (dv_move (T rfl rfl)) ?_
  refine lw_v (.bool (decide ((sgnI (wz a3 a2 a1 a0 - wz y3 y2 y1 y0)) ≠ (sgnI (wz a3 a2 a1 a0 - wz y3 y2 y1 y0))))) (dv_neq (a := sgnI (wz a3 a2 a1 a0 - wz y3 y2 y1 y0)) (b := sgnI (wz a3 a2 a1 a0 - wz y3 y2 y1 y0)) (T rfl rfl) (T rfl rfl)) ?_
  refine lw_nil ?_
  by_cases hb51 : (sgnI (wz a3 a2 a1 a0 - wz y3 y2 y1 y0)) ≠ (sgnI (wz a3 a2 a1 a0 - wz y3 y2 y1 y0))
  · -- T
    refine rk_ct (T rfl (congrArg Value.bool (decide_eq_true hb51))) ?_
    refine rk_seq ?_
    refine rk_reg ?_
    refine lw_v (.bool false) (dv_assign C) ?_
    refine lw_nil ?_
    refine rk_ret Try.func5 (v := .bool false) (res1 Try.results5 (rv_tmp rfl rfl)) ⟨_, rfl, ?_⟩
    exact ⟨(congrArg Value.bool (by grind)), E48⟩
  · -- F
    refine rk_cf (T rfl (congrArg Value.bool (decide_eq_false hb51))) ?_
    refine rk_skip ?_
    refine rk_seq ?_
    refine rk_reg ?_
    refine lw_v (.bool true) (dv_assign C) ?_
    refine lw_nil ?_
    refine rk_ret Try.func5 (v := .bool true) (res1 Try.results5 (rv_tmp rfl rfl)) ⟨_, rfl, ?_⟩
    exact ⟨rfl, E48⟩

set_option maxHeartbeats 1000000 in
theorem lawWideSign_ok {w : World} {a3 a2 a1 a0 : Int} (h3 : 0 ≤ a3 ∧ a3 < 18446744073709551616) (h2 : 0 ≤ a2 ∧ a2 < 18446744073709551616) (h1 : 0 ≤ a1 ∧ a1 < 18446744073709551616) (h0 : 0 ≤ a0 ∧ a0 < 18446744073709551616) : Ct Try.prog 3 [.agg #[.int .u64 a3, .int .u64 a2, .int .u64 a1, .int .u64 a0]] w fun v w1 => v = .bool true ∧ Ext w w1 := by
  refine ct_run (n := 14) Try.func3 rfl Try.ntmps3 rfl ?_
  have E0 : Below w.heap.size w w := Below.refl _ _
  refine rk_seq ?_
  refine rk_reg ?_
  refine lw_e (oe_box (v := .agg #[.int .u64 a3, .int .u64 a2, .int .u64 a1, .int .u64 a0]) (cs := #[.int .u64 a3, .int .u64 a2, .int .u64 a1, .int .u64 a0]) (T rfl rfl) rfl ?_)
  intro b1 w2 n3
  have N4 : w.heap.size ≤ b1 := n3.eq ▸ E0.size
  have E5 := below_ext E0 E0.size n3.ext
  refine lw_v (.bool false) (dv_assign C) ?_
  refine lw_nil ?_
  refine rk_seq ?_
  refine rk_reg ?_
  refine lw_v (.agg #[.int .u64 a3, .int .u64 a2, .int .u64 a1, .int .u64 a0]) (dv_loads (l := [.int .u64 a3, .int .u64 a2, .int .u64 a1, .int .u64 a0]) agt24 sz24 (T rfl rfl) n3.blk rfl) ?_
  refine lw_e (oe_callf (vs := [.agg #[.int .u64 a3, .int .u64 a2, .int .u64 a1, .int .u64 a0]]) co16 (ar1 (T rfl rfl)) (toWide_ok ) ?_)
  rintro _ w6 ⟨rfl, e7⟩
  have E8 := below_ext E5 E5.size e7
  refine lw_e (oe_callf (vs := [.agg #[.int .u64 a3, .int .u64 a2, .int .u64 a1, .int .u64 a0]]) co15 (ar1 (T rfl rfl)) (sWideSign_ok (by omega) (by omega) (by omega) (by omega)) ?_)
  rintro _ w9 ⟨rfl, e10⟩
  have E11 := below_ext E8 E8.size e10
  refine lw_v (.int .i64 (sgnI (wz a3 a2 a1 a0))) (dv_assign (T rfl rfl)) ?_
  refine lw_nil ?_
  refine rk_seq ?_
  refine rk_reg ?_
  have H12 := (e10.blk (e7.blk n3.blk))
  refine lw_v (.agg #[.int .u64 a3, .int .u64 a2, .int .u64 a1, .int .u64 a0]) (dv_loads (l := [.int .u64 a3, .int .u64 a2, .int .u64 a1, .int .u64 a0]) agt24 sz24 (T rfl rfl) H12 rfl) ?_
  refine lw_e (oe_callf (vs := [.agg #[.int .u64 a3, .int .u64 a2, .int .u64 a1, .int .u64 a0]]) co16 (ar1 (T rfl rfl)) (toWide_ok ) ?_)
  rintro _ w13 ⟨rfl, e14⟩
  have E15 := below_ext E11 E11.size e14
  refine lw_e (oe_callf (vs := [.agg #[.int .u64 a3, .int .u64 a2, .int .u64 a1, .int .u64 a0]]) co17 (ar1 (T rfl rfl)) (iWideSign_ok (by omega) (by omega) (by omega) (by omega)) ?_)
  rintro _ w16 ⟨rfl, e17⟩
  have E18 := below_ext E15 E15.size e17
  refine lw_v (.int .i64 (sgnI (wz a3 a2 a1 a0))) (dv_assign (T rfl rfl)) ?_
  refine lw_nil ?_
  refine rk_seq ?_
  refine rk_seq ?_
  refine rk_reg ?_
  refine lw_v (.int .i64 (sgnI (wz a3 a2 a1 a0))) (dv_move (T rfl rfl)) ?_
  refine lw_v (.int .i64 (sgnI (wz a3 a2 a1 a0))) (dv_move (T rfl rfl)) ?_
  refine lw_v (.bool (decide ((sgnI (wz a3 a2 a1 a0)) ≠ (sgnI (wz a3 a2 a1 a0))))) (dv_neq (a := sgnI (wz a3 a2 a1 a0)) (b := sgnI (wz a3 a2 a1 a0)) (T rfl rfl) (T rfl rfl)) ?_
  refine lw_nil ?_
  by_cases hb19 : (sgnI (wz a3 a2 a1 a0)) ≠ (sgnI (wz a3 a2 a1 a0))
  · -- T
    refine rk_ct (T rfl (congrArg Value.bool (decide_eq_true hb19))) ?_
    refine rk_seq ?_
    refine rk_reg ?_
    refine lw_v (.bool false) (dv_assign C) ?_
    refine lw_nil ?_
    refine rk_ret Try.func3 (v := .bool false) (res1 Try.results3 (rv_tmp rfl rfl)) ⟨_, rfl, ?_⟩
    exact ⟨(congrArg Value.bool (by grind)), E18⟩
  · -- F
    refine rk_cf (T rfl (congrArg Value.bool (decide_eq_false hb19))) ?_
    refine rk_skip ?_
    refine rk_seq ?_
    refine rk_reg ?_
    refine lw_v (.bool true) (dv_assign C) ?_
    refine lw_nil ?_
    refine rk_ret Try.func3 (v := .bool true) (res1 Try.results3 (rv_tmp rfl rfl)) ⟨_, rfl, ?_⟩
    exact ⟨rfl, E18⟩

end Go.Proofs.Ytjahakhbdjadaaa.W
