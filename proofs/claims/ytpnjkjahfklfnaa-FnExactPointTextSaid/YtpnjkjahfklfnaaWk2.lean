/- Wk2: walks, written by a program of this session. -/
import Derived.Test.YtpnjkjahfklfnaaWk1
import Derived.Test.YtpnjkjahfklfnaaFw10
import Derived.Test.YtpnjkjahfklfnaaMa9
import Derived.Test.YtpnjkjahfklfnaaFw15
set_option linter.unusedVariables false
set_option linter.unusedSimpArgs false
namespace Go.Proofs.Ytpnjkjahfklfnaa.W
open Go Go.RowKit Go.Proofs.Ytpnjkjahfklfnaa.Fw
attribute [local irreducible] RunK LW AW DV OE Ct
theorem fo25_0 : fieldOffB Try.prog 25 0 = some 0 := by kernel_rfl
theorem fo25_1 : fieldOffB Try.prog 25 1 = some 1 := by kernel_rfl
theorem fo25_2 : fieldOffB Try.prog 25 2 = some 2 := by kernel_rfl
theorem fo25_3 : fieldOffB Try.prog 25 3 = some 3 := by kernel_rfl
set_option maxHeartbeats 1000000 in
theorem wnum_ok {w : World} {a3 a2 a1 a0 : Int} (h3 : 0 ≤ a3 ∧ a3 < 18446744073709551616) (h2 : 0 ≤ a2 ∧ a2 < 18446744073709551616) (h1 : 0 ≤ a1 ∧ a1 < 18446744073709551616) (h0 : 0 ≤ a0 ∧ a0 < 18446744073709551616) : Ct Try.prog 47 [.agg #[.int .u64 a3, .int .u64 a2, .int .u64 a1, .int .u64 a0]] w fun v w1 => ∃ nr A' n c', v = .agg #[.bool nr, .slice A' n c'] ∧ Ext w w1 ∧ Num 64 22 .u64 w1 nr A' n c' (wz a3 a2 a1 a0) (256) := by
  refine ct_run (n := 39) Try.func47 rfl Try.ntmps47 rfl ?_
  have E0 : Below w.heap.size w w := Below.refl _ _
  refine rk_seq ?_
  refine rk_reg ?_
  refine lw_e (oe_box (v := .agg #[.int .u64 a3, .int .u64 a2, .int .u64 a1, .int .u64 a0]) (cs := #[.int .u64 a3, .int .u64 a2, .int .u64 a1, .int .u64 a0]) (T rfl rfl) rfl ?_)
  intro b1 w2 n3
  have N4 : w.heap.size ≤ b1 := n3.eq ▸ E0.size
  have E5 := below_ext E0 E0.size n3.ext
  refine lw_e (oe_alloc ze69 ?_)
  intro b6 w7 n8
  have N9 : w.heap.size ≤ b6 := n8.eq ▸ E5.size
  have : b1 < b6 := n8.eq ▸ lt_of_blk n3.blk
  have E10 := below_ext E5 E5.size n8.ext
  refine lw_nil ?_
  refine rk_seq ?_
  refine rk_reg ?_
  refine lw_v (.pointer (some ⟨b1, 3, none⟩)) (dv_fieldAddr (a := ⟨b1, 0, none⟩) (a' := ⟨b1, 3, none⟩) fo25_3 (T rfl rfl) rfl) ?_
  have H11 := (n8.ext.blk n3.blk)
  refine lw_v (.int .u64 a0) (dv_load1 (b := b1) (o := 3) agt22 (T rfl rfl) H11 rfl) ?_
  refine lw_v (.pointer (some ⟨b1, 2, none⟩)) (dv_fieldAddr (a := ⟨b1, 0, none⟩) (a' := ⟨b1, 2, none⟩) fo25_2 (T rfl rfl) rfl) ?_
  refine lw_v (.int .u64 a1) (dv_load1 (b := b1) (o := 2) agt22 (T rfl rfl) H11 rfl) ?_
  refine lw_v (.pointer (some ⟨b1, 1, none⟩)) (dv_fieldAddr (a := ⟨b1, 0, none⟩) (a' := ⟨b1, 1, none⟩) fo25_1 (T rfl rfl) rfl) ?_
  refine lw_v (.int .u64 a2) (dv_load1 (b := b1) (o := 1) agt22 (T rfl rfl) H11 rfl) ?_
  refine lw_v (.pointer (some ⟨b1, 0, none⟩)) (dv_fieldAddr (a := ⟨b1, 0, none⟩) (a' := ⟨b1, 0, none⟩) fo25_0 (T rfl rfl) rfl) ?_
  refine lw_v (.int .u64 a3) (dv_load1 (b := b1) (o := 0) agt22 (T rfl rfl) H11 rfl) ?_
  refine lw_e (oe_buildSlice (pv := [(0, .int .u64 a0), (1, .int .u64 a1), (2, .int .u64 a2), (3, .int .u64 a3)]) (init := [.int .u64 0, .int .u64 0, .int .u64 0, .int .u64 0]) (l := [.int .u64 a0, .int .u64 a1, .int .u64 a2, .int .u64 a3]) us67 sz22 rfl rfl zc22 (by kernel_rfl) ⟨rfl, (T rfl rfl), ⟨rfl, (T rfl rfl), ⟨rfl, (T rfl rfl), ⟨rfl, (T rfl rfl), trivial⟩⟩⟩⟩ rfl ?_)
  intro b12 w13 n14
  have N15 : w.heap.size ≤ b12 := n14.eq ▸ E10.size
  have : b6 < b12 := n14.eq ▸ lt_of_blk n8.blk
  have E16 := below_ext E10 E10.size n14.ext
  refine lw_v (.slice (some ⟨b12, 0, none⟩) 4 4) (dv_assign (T rfl rfl)) ?_
  refine lw_nil ?_
  refine rk_seq ?_
  refine rk_seq ?_
  refine rk_reg ?_
  refine lw_v (.pointer (some ⟨b1, 0, none⟩)) (dv_fieldAddr (a := ⟨b1, 0, none⟩) (a' := ⟨b1, 0, none⟩) fo25_0 (T rfl rfl) rfl) ?_
  have H17 := (n14.ext.blk H11)
  refine lw_v (.int .u64 a3) (dv_load1 (b := b1) (o := 0) agt22 (T rfl rfl) H17 rfl) ?_
  refine lw_v (.int .u64 (a3 / 9223372036854775808)) (dv_shr (a := a3) (b := 63) (z := a3 / 9223372036854775808) (T rfl rfl) C (by decide) (shr_c (n := 63) (by omega) (by decide))) ?_
  refine lw_v (.bool (decide ((a3 / 9223372036854775808) = 0))) (dv_eql (a := a3 / 9223372036854775808) (b := 0) (T rfl rfl) C) ?_
  refine lw_nil ?_
  by_cases hb18 : (a3 / 9223372036854775808) = 0
  · -- T
    refine rk_ct (T rfl (congrArg Value.bool (decide_eq_true hb18))) ?_
    refine rk_seq ?_
    refine rk_reg ?_
    refine lw_v (.slice (some ⟨b12, 0, none⟩) 4 4) (dv_move (T rfl rfl)) ?_
    refine lw_e (oe_callf (vs := [.bool false, .slice (some ⟨b12, 0, none⟩) 4 4]) co92 (ar2 C (T rfl rfl)) (made_num (s := 256) (neg := false) (⟨[a0, a1, a2, a3], rfl, Nat.le_refl _, Wd.ownW n14.blk, (okW_lit (by simp <;> omega)), rfl⟩ : Ws _ _ _ _ _ _ _ _) (by omega) (valB_sz (m := 64) (xs := [a0, a1, a2, a3]) (n := 4) (okW_lit (by simp <;> omega)) rfl)) ?_)
    rintro _ w22 ⟨nb19, n20, rfl, e23, hn21⟩
    have E24 := below_ext E16 E16.size e23
    have lhn21 := Num.len (by decide) hn21
    have H25 := (e23.blk (n14.ext.blk n8.blk))
    refine lw_e (oe_store (v := .agg #[.bool nb19, .slice (some ⟨b12, 0, none⟩) n20 4]) (vs := [.bool nb19, .slice (some ⟨b12, 0, none⟩) n20 4]) (l := [.bool nb19, .slice (some ⟨b12, 0, none⟩) n20 4]) (T rfl rfl) (T rfl rfl) sz69 rfl rfl rfl H25 rfl ?_)
    intro w26 s27 H28
    have E29 := below_st E24 N9 s27
    refine lw_nil ?_
    refine rk_ret Try.func47 (v := .agg #[.bool nb19, .slice (some ⟨b12, 0, none⟩) n20 4]) (res1 Try.results47 (rv_cells (l := [.bool nb19, .slice (some ⟨b12, 0, none⟩) n20 4]) agt69 sz69 rfl rfl H28 rfl)) ⟨_, rfl, ?_⟩
    have h30 := (hn21.st s27 H25 (by decide))
    exact ⟨_, _, _, _, rfl, E29, h30.tight (wz_lo (by assumption)) (wz_lt h3 h2 h1 h0)⟩
  · -- F
    refine rk_cf (T rfl (congrArg Value.bool (decide_eq_false hb18))) ?_
    refine rk_skip ?_
    refine rk_seq ?_
    refine rk_seq ?_
    refine rk_reg ?_
    refine lw_v (.slice (some ⟨b12, 0, none⟩) 4 4) (dv_move (T rfl rfl)) ?_
    refine lw_v (.int .i64 4) (dv_len (ad := some ⟨b12, 0, none⟩) (l := 4) (c := 4) us67 (T rfl rfl)) ?_
    refine lw_v (.int .i64 0) (dv_move C) ?_
    refine lw_nil ?_
    refine rk_block ?_
    refine rk_unroll ?_
    refine rk_seq ?_
    refine rk_reg ?_
    refine lw_v (.bool (decide (((0 : Int) < 4 : Prop)))) (dv_lss (a := 0) (b := 4) (T rfl rfl) (T rfl rfl)) ?_
    refine lw_nil ?_
    refine rk_seq ?_
    refine rk_ct (T rfl (rfl)) ?_
    refine rk_skip ?_
    refine rk_seq ?_
    refine rk_block ?_
    refine rk_seq ?_
    refine rk_reg ?_
    refine lw_v (.int .i64 0) (dv_move (T rfl rfl)) ?_
    refine lw_v (.int .i64 0) (dv_assign (T rfl rfl)) ?_
    refine lw_nil ?_
    refine rk_reg ?_
    refine lw_v (.slice (some ⟨b12, 0, none⟩) 4 4) (dv_move (T rfl rfl)) ?_
    refine lw_v (.int .i64 0) (dv_move (T rfl rfl)) ?_
    refine lw_v (.slice (some ⟨b12, 0, none⟩) 4 4) (dv_move (T rfl rfl)) ?_
    refine lw_v (.int .i64 0) (dv_move (T rfl rfl)) ?_
    refine lw_v (.pointer (some ⟨b12, 0, none⟩)) (dv_indexAddr (a := ⟨b12, 0, none⟩) (a' := ⟨b12, 0, none⟩) (l := 4) (c := 4) (j := 0) us67 sz22 (T rfl rfl) (T rfl rfl) (by decide) (by decide) rfl) ?_
    refine lw_v (.int .u64 a0) (dv_load1 (b := b12) (o := 0) agt22 (T rfl rfl) n14.blk rfl) ?_
    refine lw_v (.int .u64 (18446744073709551615 - a0)) (dv_xor (a := a0) (z := 18446744073709551615 - a0) (T rfl rfl) (xor_u64 (by omega) (by omega))) ?_
    refine lw_v (.pointer (some ⟨b12, 0, none⟩)) (dv_indexAddr (a := ⟨b12, 0, none⟩) (a' := ⟨b12, 0, none⟩) (l := 4) (c := 4) (j := 0) us67 sz22 (T rfl rfl) (T rfl rfl) (by decide) (by decide) rfl) ?_
    refine lw_e (oe_store (v := .int .u64 (18446744073709551615 - a0)) (vs := [.int .u64 (18446744073709551615 - a0)]) (l := [.int .u64 (18446744073709551615 - a0), .int .u64 a1, .int .u64 a2, .int .u64 a3]) (T rfl rfl) (T rfl rfl) sz22 rfl rfl rfl n14.blk rfl ?_)
    intro w31 s32 H33
    have E34 := below_st E16 N15 s32
    refine lw_nil ?_
    refine rk_inBlock ?_
    refine rk_reg ?_
    refine lw_v (.int .i64 1) (dv_add (a := 0) (b := 1) (z := 1) (T rfl rfl) C (by decide)) ?_
    refine lw_v (.int .i64 1) (dv_move (T rfl rfl)) ?_
    refine lw_nil ?_
    refine rk_inLoop ?_
    refine rk_seq ?_
    refine rk_reg ?_
    refine lw_v (.bool (decide (((1 : Int) < 4 : Prop)))) (dv_lss (a := 1) (b := 4) (T rfl rfl) (T rfl rfl)) ?_
    refine lw_nil ?_
    refine rk_seq ?_
    refine rk_ct (T rfl (rfl)) ?_
    refine rk_skip ?_
    refine rk_seq ?_
    refine rk_block ?_
    refine rk_seq ?_
    refine rk_reg ?_
    refine lw_v (.int .i64 1) (dv_move (T rfl rfl)) ?_
    refine lw_v (.int .i64 1) (dv_assign (T rfl rfl)) ?_
    refine lw_nil ?_
    refine rk_reg ?_
    refine lw_v (.slice (some ⟨b12, 0, none⟩) 4 4) (dv_move (T rfl rfl)) ?_
    refine lw_v (.int .i64 1) (dv_move (T rfl rfl)) ?_
    refine lw_v (.slice (some ⟨b12, 0, none⟩) 4 4) (dv_move (T rfl rfl)) ?_
    refine lw_v (.int .i64 1) (dv_move (T rfl rfl)) ?_
    refine lw_v (.pointer (some ⟨b12, 1, none⟩)) (dv_indexAddr (a := ⟨b12, 0, none⟩) (a' := ⟨b12, 1, none⟩) (l := 4) (c := 4) (j := 1) us67 sz22 (T rfl rfl) (T rfl rfl) (by decide) (by decide) rfl) ?_
    refine lw_v (.int .u64 a1) (dv_load1 (b := b12) (o := 1) agt22 (T rfl rfl) H33 rfl) ?_
    refine lw_v (.int .u64 (18446744073709551615 - a1)) (dv_xor (a := a1) (z := 18446744073709551615 - a1) (T rfl rfl) (xor_u64 (by omega) (by omega))) ?_
    refine lw_v (.pointer (some ⟨b12, 1, none⟩)) (dv_indexAddr (a := ⟨b12, 0, none⟩) (a' := ⟨b12, 1, none⟩) (l := 4) (c := 4) (j := 1) us67 sz22 (T rfl rfl) (T rfl rfl) (by decide) (by decide) rfl) ?_
    refine lw_e (oe_store (v := .int .u64 (18446744073709551615 - a1)) (vs := [.int .u64 (18446744073709551615 - a1)]) (l := [.int .u64 (18446744073709551615 - a0), .int .u64 (18446744073709551615 - a1), .int .u64 a2, .int .u64 a3]) (T rfl rfl) (T rfl rfl) sz22 rfl rfl rfl H33 rfl ?_)
    intro w35 s36 H37
    have E38 := below_st E34 N15 s36
    refine lw_nil ?_
    refine rk_inBlock ?_
    refine rk_reg ?_
    refine lw_v (.int .i64 2) (dv_add (a := 1) (b := 1) (z := 2) (T rfl rfl) C (by decide)) ?_
    refine lw_v (.int .i64 2) (dv_move (T rfl rfl)) ?_
    refine lw_nil ?_
    refine rk_inLoop ?_
    refine rk_seq ?_
    refine rk_reg ?_
    refine lw_v (.bool (decide (((2 : Int) < 4 : Prop)))) (dv_lss (a := 2) (b := 4) (T rfl rfl) (T rfl rfl)) ?_
    refine lw_nil ?_
    refine rk_seq ?_
    refine rk_ct (T rfl (rfl)) ?_
    refine rk_skip ?_
    refine rk_seq ?_
    refine rk_block ?_
    refine rk_seq ?_
    refine rk_reg ?_
    refine lw_v (.int .i64 2) (dv_move (T rfl rfl)) ?_
    refine lw_v (.int .i64 2) (dv_assign (T rfl rfl)) ?_
    refine lw_nil ?_
    refine rk_reg ?_
    refine lw_v (.slice (some ⟨b12, 0, none⟩) 4 4) (dv_move (T rfl rfl)) ?_
    refine lw_v (.int .i64 2) (dv_move (T rfl rfl)) ?_
    refine lw_v (.slice (some ⟨b12, 0, none⟩) 4 4) (dv_move (T rfl rfl)) ?_
    refine lw_v (.int .i64 2) (dv_move (T rfl rfl)) ?_
    refine lw_v (.pointer (some ⟨b12, 2, none⟩)) (dv_indexAddr (a := ⟨b12, 0, none⟩) (a' := ⟨b12, 2, none⟩) (l := 4) (c := 4) (j := 2) us67 sz22 (T rfl rfl) (T rfl rfl) (by decide) (by decide) rfl) ?_
    refine lw_v (.int .u64 a2) (dv_load1 (b := b12) (o := 2) agt22 (T rfl rfl) H37 rfl) ?_
    refine lw_v (.int .u64 (18446744073709551615 - a2)) (dv_xor (a := a2) (z := 18446744073709551615 - a2) (T rfl rfl) (xor_u64 (by omega) (by omega))) ?_
    refine lw_v (.pointer (some ⟨b12, 2, none⟩)) (dv_indexAddr (a := ⟨b12, 0, none⟩) (a' := ⟨b12, 2, none⟩) (l := 4) (c := 4) (j := 2) us67 sz22 (T rfl rfl) (T rfl rfl) (by decide) (by decide) rfl) ?_
    refine lw_e (oe_store (v := .int .u64 (18446744073709551615 - a2)) (vs := [.int .u64 (18446744073709551615 - a2)]) (l := [.int .u64 (18446744073709551615 - a0), .int .u64 (18446744073709551615 - a1), .int .u64 (18446744073709551615 - a2), .int .u64 a3]) (T rfl rfl) (T rfl rfl) sz22 rfl rfl rfl H37 rfl ?_)
    intro w39 s40 H41
    have E42 := below_st E38 N15 s40
    refine lw_nil ?_
    refine rk_inBlock ?_
    refine rk_reg ?_
    refine lw_v (.int .i64 3) (dv_add (a := 2) (b := 1) (z := 3) (T rfl rfl) C (by decide)) ?_
    refine lw_v (.int .i64 3) (dv_move (T rfl rfl)) ?_
    refine lw_nil ?_
    refine rk_inLoop ?_
    refine rk_seq ?_
    refine rk_reg ?_
    refine lw_v (.bool (decide (((3 : Int) < 4 : Prop)))) (dv_lss (a := 3) (b := 4) (T rfl rfl) (T rfl rfl)) ?_
    refine lw_nil ?_
    refine rk_seq ?_
    refine rk_ct (T rfl (rfl)) ?_
    refine rk_skip ?_
    refine rk_seq ?_
    refine rk_block ?_
    refine rk_seq ?_
    refine rk_reg ?_
    refine lw_v (.int .i64 3) (dv_move (T rfl rfl)) ?_
    refine lw_v (.int .i64 3) (dv_assign (T rfl rfl)) ?_
    refine lw_nil ?_
    refine rk_reg ?_
    refine lw_v (.slice (some ⟨b12, 0, none⟩) 4 4) (dv_move (T rfl rfl)) ?_
    refine lw_v (.int .i64 3) (dv_move (T rfl rfl)) ?_
    refine lw_v (.slice (some ⟨b12, 0, none⟩) 4 4) (dv_move (T rfl rfl)) ?_
    refine lw_v (.int .i64 3) (dv_move (T rfl rfl)) ?_
    refine lw_v (.pointer (some ⟨b12, 3, none⟩)) (dv_indexAddr (a := ⟨b12, 0, none⟩) (a' := ⟨b12, 3, none⟩) (l := 4) (c := 4) (j := 3) us67 sz22 (T rfl rfl) (T rfl rfl) (by decide) (by decide) rfl) ?_
    refine lw_v (.int .u64 a3) (dv_load1 (b := b12) (o := 3) agt22 (T rfl rfl) H41 rfl) ?_
    refine lw_v (.int .u64 (18446744073709551615 - a3)) (dv_xor (a := a3) (z := 18446744073709551615 - a3) (T rfl rfl) (xor_u64 (by omega) (by omega))) ?_
    refine lw_v (.pointer (some ⟨b12, 3, none⟩)) (dv_indexAddr (a := ⟨b12, 0, none⟩) (a' := ⟨b12, 3, none⟩) (l := 4) (c := 4) (j := 3) us67 sz22 (T rfl rfl) (T rfl rfl) (by decide) (by decide) rfl) ?_
    refine lw_e (oe_store (v := .int .u64 (18446744073709551615 - a3)) (vs := [.int .u64 (18446744073709551615 - a3)]) (l := [.int .u64 (18446744073709551615 - a0), .int .u64 (18446744073709551615 - a1), .int .u64 (18446744073709551615 - a2), .int .u64 (18446744073709551615 - a3)]) (T rfl rfl) (T rfl rfl) sz22 rfl rfl rfl H41 rfl ?_)
    intro w43 s44 H45
    have E46 := below_st E42 N15 s44
    refine lw_nil ?_
    refine rk_inBlock ?_
    refine rk_reg ?_
    refine lw_v (.int .i64 4) (dv_add (a := 3) (b := 1) (z := 4) (T rfl rfl) C (by decide)) ?_
    refine lw_v (.int .i64 4) (dv_move (T rfl rfl)) ?_
    refine lw_nil ?_
    refine rk_inLoop ?_
    refine rk_seq ?_
    refine rk_reg ?_
    refine lw_v (.bool (decide (((4 : Int) < 4 : Prop)))) (dv_lss (a := 4) (b := 4) (T rfl rfl) (T rfl rfl)) ?_
    refine lw_nil ?_
    refine rk_seq ?_
    refine rk_cf (T rfl (rfl)) ?_
    refine rk_exit rfl ?_
    refine rk_seq ?_
    refine rk_reg ?_
    refine lw_v (.slice (some ⟨b12, 0, none⟩) 4 4) (dv_move (T rfl rfl)) ?_
    refine lw_e (oe_callf (vs := [.slice (some ⟨b12, 0, none⟩) 4 4]) co94 (ar1 (T rfl rfl)) (trim_okl (Wd.ownW (xs := [18446744073709551615 - a0, 18446744073709551615 - a1, 18446744073709551615 - a2, 18446744073709551615 - a3]) H45) (by omega) (by omega) (by first | rfl | first | (simp; done) | (simp; omega) | omega)) ?_)
    rintro _ w47 ⟨rfl, e48⟩
    have E49 := below_ext E46 E46.size e48
    have := trimL_len ([18446744073709551615 - a0, 18446744073709551615 - a1, 18446744073709551615 - a2, 18446744073709551615 - a3])
    simp only [List.length_cons, List.length_nil] at this
    refine lw_e (oe_buildSlice (pv := [(0, .int .u64 1)]) (init := [.int .u64 0]) (l := [.int .u64 1]) us67 sz22 rfl rfl zc22 (by kernel_rfl) ⟨rfl, C, trivial⟩ rfl ?_)
    intro b50 w51 n52
    have N53 : w.heap.size ≤ b50 := n52.eq ▸ E49.size
    have H54 := (e48.blk H45)
    have : b12 < b50 := n52.eq ▸ lt_of_blk H54
    have E55 := below_ext E49 E49.size n52.ext
    have h56 := ((Wd.trim ((Wd.ownW (xs := [18446744073709551615 - a0, 18446744073709551615 - a1, 18446744073709551615 - a2, 18446744073709551615 - a3]) H45).ext e48)).ext n52.ext)
    refine lw_e (oe_callf (vs := [.slice (some ⟨b12, 0, none⟩) ((trimL ([18446744073709551615 - a0, 18446744073709551615 - a1, 18446744073709551615 - a2, 18446744073709551615 - a3])).length) 4, .slice (some ⟨b50, 0, none⟩) 1 1]) co93 (ar2 (T rfl rfl) (T rfl rfl)) (addWords_ws (⟨(trimL ([18446744073709551615 - a0, 18446744073709551615 - a1, 18446744073709551615 - a2, 18446744073709551615 - a3])), rfl, (Nat.le_trans (trimL_len _) (by simp)), h56, (trimL_ok (okW_lit (by simp <;> omega))), rfl⟩ : Ws _ _ _ _ _ _ _ _) (⟨[1], rfl, Nat.le_refl _, Wd.ownW n52.blk, (okW_lit (by simp <;> omega)), rfl⟩ : Ws _ _ _ _ _ _ _ _) (by omega) (by omega)) ?_)
    rintro _ w61 ⟨A57, n58, c59, rfl, e62, h60⟩
    have E63 := below_ext E55 E55.size e62
    have lh60 := Wc.len (by decide) h60 (sz_add (trimL_sz (m := 64) (s := 256) (okW_lit (by simp <;> omega)) (by simp)) (valB_sz (m := 64) (xs := [1]) (n := 1) (okW_lit (by simp <;> omega)) rfl))
    refine lw_e (oe_callf (vs := [.bool true, .slice A57 n58 c59]) co92 (ar2 C (T rfl rfl)) (made_num (s := (max 256 64 + 1)) (neg := true) h60.ws (by omega) (sz_add (trimL_sz (m := 64) (s := 256) (okW_lit (by simp <;> omega)) (by simp)) (valB_sz (m := 64) (xs := [1]) (n := 1) (okW_lit (by simp <;> omega)) rfl))) ?_)
    rintro _ w67 ⟨nb64, n65, rfl, e68, hn66⟩
    have E69 := below_ext E63 E63.size e68
    have lhn66 := Num.len (by decide) hn66
    have H70 := (e68.blk (e62.blk (n52.ext.blk (e48.blk (s44.blk (s40.blk (s36.blk (s32.blk (n14.ext.blk n8.blk) (by omega)) (by omega)) (by omega)) (by omega))))))
    refine lw_e (oe_store (v := .agg #[.bool nb64, .slice A57 n65 c59]) (vs := [.bool nb64, .slice A57 n65 c59]) (l := [.bool nb64, .slice A57 n65 c59]) (T rfl rfl) (T rfl rfl) sz69 rfl rfl rfl H70 rfl ?_)
    intro w71 s72 H73
    have E74 := below_st E69 N9 s72
    refine lw_nil ?_
    refine rk_ret Try.func47 (v := .agg #[.bool nb64, .slice A57 n65 c59]) (res1 Try.results47 (rv_cells (l := [.bool nb64, .slice A57 n65 c59]) agt69 sz69 rfl rfl H73 rfl)) ⟨_, rfl, ?_⟩
    have h75 := (hn66.st s72 H70 (by decide))
    exact ⟨_, _, _, _, rfl, E74, h75.tight (wz_hi (by assumption)) (wz_lt h3 h2 h1 h0)⟩

theorem wnumz_ok {w : World} {z : Int} (hz : fits z) : Ct Try.prog 47 [.agg #[.int .u64 (wv3 z), .int .u64 (wv2 z), .int .u64 (wv1 z), .int .u64 (wv0 z)]] w fun v w1 => ∃ nr A' n c', v = .agg #[.bool nr, .slice A' n c'] ∧ Ext w w1 ∧ Num 64 22 .u64 w1 nr A' n c' z 256 := by
  have h := wnum_ok (w := w) (w_rg z).1 (w_rg z).2.1 (w_rg z).2.2.1 (w_rg z).2.2.2
  rw [wz_w hz] at h
  exact h

end Go.Proofs.Ytpnjkjahfklfnaa.W
