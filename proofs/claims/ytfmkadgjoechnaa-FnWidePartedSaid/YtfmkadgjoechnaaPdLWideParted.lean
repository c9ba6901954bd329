/- Walks of one law, packed by a program of this session. -/
import Derived.Test.YtfmkadgjoechnaaPdf
set_option linter.unusedVariables false
set_option linter.unusedSimpArgs false
namespace Go.Proofs.Ytfmkadgjoechnaa.W
open Go Go.RowKit Go.Proofs.Ytfmkadgjoechnaa.Fw
attribute [local irreducible] RunK LW AW DV OE Ct
theorem co11 : callOk Try.prog 11 = true := by kernel_rfl
theorem co12 : callOk Try.prog 12 = true := by kernel_rfl
theorem co13 : callOk Try.prog 13 = true := by kernel_rfl
theorem co14 : callOk Try.prog 14 = true := by kernel_rfl
theorem co15 : callOk Try.prog 15 = true := by kernel_rfl
theorem co16 : callOk Try.prog 16 = true := by kernel_rfl
theorem co17 : callOk Try.prog 17 = true := by kernel_rfl
theorem co18 : callOk Try.prog 18 = true := by kernel_rfl
theorem co19 : callOk Try.prog 19 = true := by kernel_rfl
theorem co20 : callOk Try.prog 20 = true := by kernel_rfl
theorem co21 : callOk Try.prog 21 = true := by kernel_rfl
theorem co26 : callOk Try.prog 26 = true := by kernel_rfl
theorem co27 : callOk Try.prog 27 = true := by kernel_rfl
theorem co28 : callOk Try.prog 28 = true := by kernel_rfl
theorem co29 : callOk Try.prog 29 = true := by kernel_rfl
theorem co34 : callOk Try.prog 34 = true := by kernel_rfl
theorem co35 : callOk Try.prog 35 = true := by kernel_rfl
theorem co36 : callOk Try.prog 36 = true := by kernel_rfl
set_option maxRecDepth 100000 in
set_option maxHeartbeats 1000000 in
theorem lawWideParted_ok {w : World} {A : Option Addr} {l c : Nat} {xs : List Int} (hx : RdI w .u8 A xs) (hxl : xs.length = l) (hlc : l ≤ c) (hcm : c ≤ 9223372036854775807) (ok : okW 256 xs) : Ct Try.prog 8 [.slice A l c] w fun v w1 => v = .bool true ∧ Ext w w1 := by
 refine ct_run (n := 120) Try.func8 rfl Try.ntmps8 rfl ?_
 have E0 : Below w.heap.size w w := Below.refl _ _
 refine rk_seq ?_
 refine rk_reg ?_
 refine lw_v (.bool false) (dv_assign C) ?_
 refine lw_nil ?_
 refine rk_seq ?_
 refine rk_seq ?_
 refine rk_reg ?_
 refine lw_v (.slice A l c) (dv_move (T rfl rfl)) ?_
 refine lw_e (oe_callf (vs := [.slice A l c]) co11 (ar1 (T rfl rfl)) (lbig_ok ) ?_)
 rintro _ w1 ⟨rfl, e2⟩
 have E3 := below_ext E0 E0.size e2
 refine lw_nil ?_
 by_cases hb4 : 1048576 < (l : Int)
 · refine rk_ct (T rfl (congrArg Value.bool (decide_eq_true hb4))) ?_
   refine rk_seq ?_
   refine rk_reg ?_
   refine lw_v (.bool true) (dv_assign C) ?_
   refine lw_nil ?_
   refine rk_ret Try.func8 (v := .bool true) (res1 Try.results8 (rv_tmp rfl rfl)) ⟨_, rfl, ?_⟩
   exact ⟨rfl, E3⟩
 · refine rk_cf (T rfl (congrArg Value.bool (decide_eq_false hb4))) ?_
   refine rk_skip ?_
   refine rk_seq ?_
   refine rk_reg ?_
   refine lw_v (.slice A l c) (dv_move (T rfl rfl)) ?_
   have h5 := (hx.ext e2)
   refine lw_e (oe_callf (vs := [.slice A l c]) co35 (ar1 (T rfl rfl)) (drawWideDiv_ok (l := l) (c := c) (xs := xs) h5 (by first | omega | (simp; done) | (simp; omega)) (by first | omega | (simp; done) | (simp; omega)) ok) ?_)
   rintro _ w10 ⟨zd6, zd7, rfl, e11, hz8, hz9⟩
   have E12 := below_ext E3 E3.size e11
   refine lw_v (.tuple #[.agg #[.int .u64 (wv3 zd6), .int .u64 (wv2 zd6), .int .u64 (wv1 zd6), .int .u64 (wv0 zd6)], .agg #[.int .u64 (wv3 zd7), .int .u64 (wv2 zd7), .int .u64 (wv1 zd7), .int .u64 (wv0 zd7)]]) (dv_move (T rfl rfl)) ?_
   refine lw_v (.agg #[.int .u64 (wv3 zd6), .int .u64 (wv2 zd6), .int .u64 (wv1 zd6), .int .u64 (wv0 zd6)]) (dv_extract (vs := #[.agg #[.int .u64 (wv3 zd6), .int .u64 (wv2 zd6), .int .u64 (wv1 zd6), .int .u64 (wv0 zd6)], .agg #[.int .u64 (wv3 zd7), .int .u64 (wv2 zd7), .int .u64 (wv1 zd7), .int .u64 (wv0 zd7)]]) (T rfl rfl) rfl) ?_
   refine lw_v (.agg #[.int .u64 (wv3 zd7), .int .u64 (wv2 zd7), .int .u64 (wv1 zd7), .int .u64 (wv0 zd7)]) (dv_extract (vs := #[.agg #[.int .u64 (wv3 zd6), .int .u64 (wv2 zd6), .int .u64 (wv1 zd6), .int .u64 (wv0 zd6)], .agg #[.int .u64 (wv3 zd7), .int .u64 (wv2 zd7), .int .u64 (wv1 zd7), .int .u64 (wv0 zd7)]]) (T rfl rfl) rfl) ?_
   refine lw_e (oe_alloc ze26 ?_)
   intro b13 w14 n15
   have N16 : w.heap.size ≤ b13 := n15.eq ▸ E12.size
   have E17 := below_ext E12 E12.size n15.ext
   refine lw_e (oe_alloc ze26 ?_)
   intro b18 w19 n20
   have N21 : w.heap.size ≤ b18 := n20.eq ▸ E17.size
   have : b13 < b18 := n20.eq ▸ lt_of_blk n15.blk
   have E22 := below_ext E17 E17.size n20.ext
   have H23 := (n20.ext.blk n15.blk)
   refine lw_e (oe_store (v := .agg #[.int .u64 (wv3 zd6), .int .u64 (wv2 zd6), .int .u64 (wv1 zd6), .int .u64 (wv0 zd6)]) (vs := [.int .u64 (wv3 zd6), .int .u64 (wv2 zd6), .int .u64 (wv1 zd6), .int .u64 (wv0 zd6)]) (l := [.int .u64 (wv3 zd6), .int .u64 (wv2 zd6), .int .u64 (wv1 zd6), .int .u64 (wv0 zd6)]) (T rfl rfl) (T rfl rfl) sz26 rfl rfl rfl H23 rfl ?_)
   intro w24 s25 H26
   have E27 := below_st E22 N16 s25
   have H28 := (s25.blk n20.blk (by omega))
   refine lw_e (oe_store (v := .agg #[.int .u64 (wv3 zd7), .int .u64 (wv2 zd7), .int .u64 (wv1 zd7), .int .u64 (wv0 zd7)]) (vs := [.int .u64 (wv3 zd7), .int .u64 (wv2 zd7), .int .u64 (wv1 zd7), .int .u64 (wv0 zd7)]) (l := [.int .u64 (wv3 zd7), .int .u64 (wv2 zd7), .int .u64 (wv1 zd7), .int .u64 (wv0 zd7)]) (T rfl rfl) (T rfl rfl) sz26 rfl rfl rfl H28 rfl ?_)
   intro w29 s30 H31
   have E32 := below_st E27 N21 s30
   refine lw_nil ?_
   refine rk_seq ?_
   refine rk_reg ?_
   have H33 := (s30.blk H26 (by omega))
   refine lw_v (.agg #[.int .u64 (wv3 zd6), .int .u64 (wv2 zd6), .int .u64 (wv1 zd6), .int .u64 (wv0 zd6)]) (dv_loads (l := [.int .u64 (wv3 zd6), .int .u64 (wv2 zd6), .int .u64 (wv1 zd6), .int .u64 (wv0 zd6)]) agt26 sz26 (T rfl rfl) H33 rfl) ?_
   refine lw_v (.agg #[.int .u64 (wv3 zd7), .int .u64 (wv2 zd7), .int .u64 (wv1 zd7), .int .u64 (wv0 zd7)]) (dv_loads (l := [.int .u64 (wv3 zd7), .int .u64 (wv2 zd7), .int .u64 (wv1 zd7), .int .u64 (wv0 zd7)]) agt26 sz26 (T rfl rfl) H31 rfl) ?_
   refine lw_e (oe_callf (vs := [.agg #[.int .u64 (wv3 zd6), .int .u64 (wv2 zd6), .int .u64 (wv1 zd6), .int .u64 (wv0 zd6)], .agg #[.int .u64 (wv3 zd7), .int .u64 (wv2 zd7), .int .u64 (wv1 zd7), .int .u64 (wv0 zd7)]]) co29 (ar2 (T rfl rfl) (T rfl rfl)) (iWideDiv_ok (x := zd6) (y := zd7) hz8 hz9 ) ?_)
   rintro _ w34 ⟨rfl, e35⟩
   have E36 := below_ext E32 E32.size e35
   refine lw_v (.tuple #[.agg #[.int .u64 (wv3 (pkz (dOk zd6 zd7) (zd6 / zd7))), .int .u64 (wv2 (pkz (dOk zd6 zd7) (zd6 / zd7))), .int .u64 (wv1 (pkz (dOk zd6 zd7) (zd6 / zd7))), .int .u64 (wv0 (pkz (dOk zd6 zd7) (zd6 / zd7)))], .agg #[.int .u64 (wv3 (pkz (dOk zd6 zd7) (zd6 % zd7))), .int .u64 (wv2 (pkz (dOk zd6 zd7) (zd6 % zd7))), .int .u64 (wv1 (pkz (dOk zd6 zd7) (zd6 % zd7))), .int .u64 (wv0 (pkz (dOk zd6 zd7) (zd6 % zd7)))], .bool (decide (dOk zd6 zd7))]) (dv_move (T rfl rfl)) ?_
   refine lw_v (.agg #[.int .u64 (wv3 (pkz (dOk zd6 zd7) (zd6 / zd7))), .int .u64 (wv2 (pkz (dOk zd6 zd7) (zd6 / zd7))), .int .u64 (wv1 (pkz (dOk zd6 zd7) (zd6 / zd7))), .int .u64 (wv0 (pkz (dOk zd6 zd7) (zd6 / zd7)))]) (dv_extract (vs := #[.agg #[.int .u64 (wv3 (pkz (dOk zd6 zd7) (zd6 / zd7))), .int .u64 (wv2 (pkz (dOk zd6 zd7) (zd6 / zd7))), .int .u64 (wv1 (pkz (dOk zd6 zd7) (zd6 / zd7))), .int .u64 (wv0 (pkz (dOk zd6 zd7) (zd6 / zd7)))], .agg #[.int .u64 (wv3 (pkz (dOk zd6 zd7) (zd6 % zd7))), .int .u64 (wv2 (pkz (dOk zd6 zd7) (zd6 % zd7))), .int .u64 (wv1 (pkz (dOk zd6 zd7) (zd6 % zd7))), .int .u64 (wv0 (pkz (dOk zd6 zd7) (zd6 % zd7)))], .bool (decide (dOk zd6 zd7))]) (T rfl rfl) rfl) ?_
   refine lw_v (.agg #[.int .u64 (wv3 (pkz (dOk zd6 zd7) (zd6 % zd7))), .int .u64 (wv2 (pkz (dOk zd6 zd7) (zd6 % zd7))), .int .u64 (wv1 (pkz (dOk zd6 zd7) (zd6 % zd7))), .int .u64 (wv0 (pkz (dOk zd6 zd7) (zd6 % zd7)))]) (dv_extract (vs := #[.agg #[.int .u64 (wv3 (pkz (dOk zd6 zd7) (zd6 / zd7))), .int .u64 (wv2 (pkz (dOk zd6 zd7) (zd6 / zd7))), .int .u64 (wv1 (pkz (dOk zd6 zd7) (zd6 / zd7))), .int .u64 (wv0 (pkz (dOk zd6 zd7) (zd6 / zd7)))], .agg #[.int .u64 (wv3 (pkz (dOk zd6 zd7) (zd6 % zd7))), .int .u64 (wv2 (pkz (dOk zd6 zd7) (zd6 % zd7))), .int .u64 (wv1 (pkz (dOk zd6 zd7) (zd6 % zd7))), .int .u64 (wv0 (pkz (dOk zd6 zd7) (zd6 % zd7)))], .bool (decide (dOk zd6 zd7))]) (T rfl rfl) rfl) ?_
   refine lw_v (.bool (decide (dOk zd6 zd7))) (dv_extract (vs := #[.agg #[.int .u64 (wv3 (pkz (dOk zd6 zd7) (zd6 / zd7))), .int .u64 (wv2 (pkz (dOk zd6 zd7) (zd6 / zd7))), .int .u64 (wv1 (pkz (dOk zd6 zd7) (zd6 / zd7))), .int .u64 (wv0 (pkz (dOk zd6 zd7) (zd6 / zd7)))], .agg #[.int .u64 (wv3 (pkz (dOk zd6 zd7) (zd6 % zd7))), .int .u64 (wv2 (pkz (dOk zd6 zd7) (zd6 % zd7))), .int .u64 (wv1 (pkz (dOk zd6 zd7) (zd6 % zd7))), .int .u64 (wv0 (pkz (dOk zd6 zd7) (zd6 % zd7)))], .bool (decide (dOk zd6 zd7))]) (T rfl rfl) rfl) ?_
   refine lw_e (oe_alloc ze26 ?_)
   intro b37 w38 n39
   have N40 : w.heap.size ≤ b37 := n39.eq ▸ E36.size
   have H41 := (e35.blk H31)
   have : b18 < b37 := n39.eq ▸ lt_of_blk H41
   have E42 := below_ext E36 E36.size n39.ext
   refine lw_e (oe_alloc ze26 ?_)
   intro b43 w44 n45
   have N46 : w.heap.size ≤ b43 := n45.eq ▸ E42.size
   have : b37 < b43 := n45.eq ▸ lt_of_blk n39.blk
   have E47 := below_ext E42 E42.size n45.ext
   have H48 := (n45.ext.blk n39.blk)
   refine lw_e (oe_store (v := .agg #[.int .u64 (wv3 (pkz (dOk zd6 zd7) (zd6 / zd7))), .int .u64 (wv2 (pkz (dOk zd6 zd7) (zd6 / zd7))), .int .u64 (wv1 (pkz (dOk zd6 zd7) (zd6 / zd7))), .int .u64 (wv0 (pkz (dOk zd6 zd7) (zd6 / zd7)))]) (vs := [.int .u64 (wv3 (pkz (dOk zd6 zd7) (zd6 / zd7))), .int .u64 (wv2 (pkz (dOk zd6 zd7) (zd6 / zd7))), .int .u64 (wv1 (pkz (dOk zd6 zd7) (zd6 / zd7))), .int .u64 (wv0 (pkz (dOk zd6 zd7) (zd6 / zd7)))]) (l := [.int .u64 (wv3 (pkz (dOk zd6 zd7) (zd6 / zd7))), .int .u64 (wv2 (pkz (dOk zd6 zd7) (zd6 / zd7))), .int .u64 (wv1 (pkz (dOk zd6 zd7) (zd6 / zd7))), .int .u64 (wv0 (pkz (dOk zd6 zd7) (zd6 / zd7)))]) (T rfl rfl) (T rfl rfl) sz26 rfl rfl rfl H48 rfl ?_)
   intro w49 s50 H51
   have E52 := below_st E47 N40 s50
   have H53 := (s50.blk n45.blk (by omega))
   refine lw_e (oe_store (v := .agg #[.int .u64 (wv3 (pkz (dOk zd6 zd7) (zd6 % zd7))), .int .u64 (wv2 (pkz (dOk zd6 zd7) (zd6 % zd7))), .int .u64 (wv1 (pkz (dOk zd6 zd7) (zd6 % zd7))), .int .u64 (wv0 (pkz (dOk zd6 zd7) (zd6 % zd7)))]) (vs := [.int .u64 (wv3 (pkz (dOk zd6 zd7) (zd6 % zd7))), .int .u64 (wv2 (pkz (dOk zd6 zd7) (zd6 % zd7))), .int .u64 (wv1 (pkz (dOk zd6 zd7) (zd6 % zd7))), .int .u64 (wv0 (pkz (dOk zd6 zd7) (zd6 % zd7)))]) (l := [.int .u64 (wv3 (pkz (dOk zd6 zd7) (zd6 % zd7))), .int .u64 (wv2 (pkz (dOk zd6 zd7) (zd6 % zd7))), .int .u64 (wv1 (pkz (dOk zd6 zd7) (zd6 % zd7))), .int .u64 (wv0 (pkz (dOk zd6 zd7) (zd6 % zd7)))]) (T rfl rfl) (T rfl rfl) sz26 rfl rfl rfl H53 rfl ?_)
   intro w54 s55 H56
   have E57 := below_st E52 N46 s55
   refine lw_v (.bool (decide (dOk zd6 zd7))) (dv_assign (T rfl rfl)) ?_
   refine lw_nil ?_
   refine rk_seq ?_
   refine rk_reg ?_
   have H58 := (s55.blk (s50.blk (n45.ext.blk (n39.ext.blk (e35.blk H33))) (by omega)) (by omega))
   refine lw_v (.agg #[.int .u64 (wv3 zd6), .int .u64 (wv2 zd6), .int .u64 (wv1 zd6), .int .u64 (wv0 zd6)]) (dv_loads (l := [.int .u64 (wv3 zd6), .int .u64 (wv2 zd6), .int .u64 (wv1 zd6), .int .u64 (wv0 zd6)]) agt26 sz26 (T rfl rfl) H58 rfl) ?_
   have H59 := (s55.blk (s50.blk (n45.ext.blk (n39.ext.blk H41)) (by omega)) (by omega))
   refine lw_v (.agg #[.int .u64 (wv3 zd7), .int .u64 (wv2 zd7), .int .u64 (wv1 zd7), .int .u64 (wv0 zd7)]) (dv_loads (l := [.int .u64 (wv3 zd7), .int .u64 (wv2 zd7), .int .u64 (wv1 zd7), .int .u64 (wv0 zd7)]) agt26 sz26 (T rfl rfl) H59 rfl) ?_
   refine lw_e (oe_callf (vs := [.agg #[.int .u64 (wv3 zd6), .int .u64 (wv2 zd6), .int .u64 (wv1 zd6), .int .u64 (wv0 zd6)], .agg #[.int .u64 (wv3 zd7), .int .u64 (wv2 zd7), .int .u64 (wv1 zd7), .int .u64 (wv0 zd7)]]) co36 (ar2 (T rfl rfl) (T rfl rfl)) (sWideDiv_ok (x := zd6) (y := zd7) hz8 hz9 ) ?_)
   rintro _ w60 ⟨rfl, e61⟩
   have E62 := below_ext E57 E57.size e61
   refine lw_v (.tuple #[.agg #[.int .u64 (wv3 (pkz (dOk zd6 zd7) (zd6 / zd7))), .int .u64 (wv2 (pkz (dOk zd6 zd7) (zd6 / zd7))), .int .u64 (wv1 (pkz (dOk zd6 zd7) (zd6 / zd7))), .int .u64 (wv0 (pkz (dOk zd6 zd7) (zd6 / zd7)))], .agg #[.int .u64 (wv3 (pkz (dOk zd6 zd7) (zd6 % zd7))), .int .u64 (wv2 (pkz (dOk zd6 zd7) (zd6 % zd7))), .int .u64 (wv1 (pkz (dOk zd6 zd7) (zd6 % zd7))), .int .u64 (wv0 (pkz (dOk zd6 zd7) (zd6 % zd7)))], .bool (decide (dOk zd6 zd7))]) (dv_move (T rfl rfl)) ?_
   refine lw_v (.agg #[.int .u64 (wv3 (pkz (dOk zd6 zd7) (zd6 / zd7))), .int .u64 (wv2 (pkz (dOk zd6 zd7) (zd6 / zd7))), .int .u64 (wv1 (pkz (dOk zd6 zd7) (zd6 / zd7))), .int .u64 (wv0 (pkz (dOk zd6 zd7) (zd6 / zd7)))]) (dv_extract (vs := #[.agg #[.int .u64 (wv3 (pkz (dOk zd6 zd7) (zd6 / zd7))), .int .u64 (wv2 (pkz (dOk zd6 zd7) (zd6 / zd7))), .int .u64 (wv1 (pkz (dOk zd6 zd7) (zd6 / zd7))), .int .u64 (wv0 (pkz (dOk zd6 zd7) (zd6 / zd7)))], .agg #[.int .u64 (wv3 (pkz (dOk zd6 zd7) (zd6 % zd7))), .int .u64 (wv2 (pkz (dOk zd6 zd7) (zd6 % zd7))), .int .u64 (wv1 (pkz (dOk zd6 zd7) (zd6 % zd7))), .int .u64 (wv0 (pkz (dOk zd6 zd7) (zd6 % zd7)))], .bool (decide (dOk zd6 zd7))]) (T rfl rfl) rfl) ?_
   refine lw_v (.agg #[.int .u64 (wv3 (pkz (dOk zd6 zd7) (zd6 % zd7))), .int .u64 (wv2 (pkz (dOk zd6 zd7) (zd6 % zd7))), .int .u64 (wv1 (pkz (dOk zd6 zd7) (zd6 % zd7))), .int .u64 (wv0 (pkz (dOk zd6 zd7) (zd6 % zd7)))]) (dv_extract (vs := #[.agg #[.int .u64 (wv3 (pkz (dOk zd6 zd7) (zd6 / zd7))), .int .u64 (wv2 (pkz (dOk zd6 zd7) (zd6 / zd7))), .int .u64 (wv1 (pkz (dOk zd6 zd7) (zd6 / zd7))), .int .u64 (wv0 (pkz (dOk zd6 zd7) (zd6 / zd7)))], .agg #[.int .u64 (wv3 (pkz (dOk zd6 zd7) (zd6 % zd7))), .int .u64 (wv2 (pkz (dOk zd6 zd7) (zd6 % zd7))), .int .u64 (wv1 (pkz (dOk zd6 zd7) (zd6 % zd7))), .int .u64 (wv0 (pkz (dOk zd6 zd7) (zd6 % zd7)))], .bool (decide (dOk zd6 zd7))]) (T rfl rfl) rfl) ?_
   refine lw_v (.bool (decide (dOk zd6 zd7))) (dv_extract (vs := #[.agg #[.int .u64 (wv3 (pkz (dOk zd6 zd7) (zd6 / zd7))), .int .u64 (wv2 (pkz (dOk zd6 zd7) (zd6 / zd7))), .int .u64 (wv1 (pkz (dOk zd6 zd7) (zd6 / zd7))), .int .u64 (wv0 (pkz (dOk zd6 zd7) (zd6 / zd7)))], .agg #[.int .u64 (wv3 (pkz (dOk zd6 zd7) (zd6 % zd7))), .int .u64 (wv2 (pkz (dOk zd6 zd7) (zd6 % zd7))), .int .u64 (wv1 (pkz (dOk zd6 zd7) (zd6 % zd7))), .int .u64 (wv0 (pkz (dOk zd6 zd7) (zd6 % zd7)))], .bool (decide (dOk zd6 zd7))]) (T rfl rfl) rfl) ?_
   refine lw_e (oe_alloc ze26 ?_)
   intro b63 w64 n65
   have N66 : w.heap.size ≤ b63 := n65.eq ▸ E62.size
   have H67 := (e61.blk H56)
   have : b43 < b63 := n65.eq ▸ lt_of_blk H67
   have E68 := below_ext E62 E62.size n65.ext
   refine lw_e (oe_alloc ze26 ?_)
   intro b69 w70 n71
   have N72 : w.heap.size ≤ b69 := n71.eq ▸ E68.size
   have : b63 < b69 := n71.eq ▸ lt_of_blk n65.blk
   have E73 := below_ext E68 E68.size n71.ext
   have H74 := (n71.ext.blk n65.blk)
   refine lw_e (oe_store (v := .agg #[.int .u64 (wv3 (pkz (dOk zd6 zd7) (zd6 / zd7))), .int .u64 (wv2 (pkz (dOk zd6 zd7) (zd6 / zd7))), .int .u64 (wv1 (pkz (dOk zd6 zd7) (zd6 / zd7))), .int .u64 (wv0 (pkz (dOk zd6 zd7) (zd6 / zd7)))]) (vs := [.int .u64 (wv3 (pkz (dOk zd6 zd7) (zd6 / zd7))), .int .u64 (wv2 (pkz (dOk zd6 zd7) (zd6 / zd7))), .int .u64 (wv1 (pkz (dOk zd6 zd7) (zd6 / zd7))), .int .u64 (wv0 (pkz (dOk zd6 zd7) (zd6 / zd7)))]) (l := [.int .u64 (wv3 (pkz (dOk zd6 zd7) (zd6 / zd7))), .int .u64 (wv2 (pkz (dOk zd6 zd7) (zd6 / zd7))), .int .u64 (wv1 (pkz (dOk zd6 zd7) (zd6 / zd7))), .int .u64 (wv0 (pkz (dOk zd6 zd7) (zd6 / zd7)))]) (T rfl rfl) (T rfl rfl) sz26 rfl rfl rfl H74 rfl ?_)
   intro w75 s76 H77
   have E78 := below_st E73 N66 s76
   have H79 := (s76.blk n71.blk (by omega))
   refine lw_e (oe_store (v := .agg #[.int .u64 (wv3 (pkz (dOk zd6 zd7) (zd6 % zd7))), .int .u64 (wv2 (pkz (dOk zd6 zd7) (zd6 % zd7))), .int .u64 (wv1 (pkz (dOk zd6 zd7) (zd6 % zd7))), .int .u64 (wv0 (pkz (dOk zd6 zd7) (zd6 % zd7)))]) (vs := [.int .u64 (wv3 (pkz (dOk zd6 zd7) (zd6 % zd7))), .int .u64 (wv2 (pkz (dOk zd6 zd7) (zd6 % zd7))), .int .u64 (wv1 (pkz (dOk zd6 zd7) (zd6 % zd7))), .int .u64 (wv0 (pkz (dOk zd6 zd7) (zd6 % zd7)))]) (l := [.int .u64 (wv3 (pkz (dOk zd6 zd7) (zd6 % zd7))), .int .u64 (wv2 (pkz (dOk zd6 zd7) (zd6 % zd7))), .int .u64 (wv1 (pkz (dOk zd6 zd7) (zd6 % zd7))), .int .u64 (wv0 (pkz (dOk zd6 zd7) (zd6 % zd7)))]) (T rfl rfl) (T rfl rfl) sz26 rfl rfl rfl H79 rfl ?_)
   intro w80 s81 H82
   have E83 := below_st E78 N72 s81
   refine lw_v (.bool (decide (dOk zd6 zd7))) (dv_assign (T rfl rfl)) ?_
   refine lw_nil ?_
   refine rk_seq ?_
   refine rk_seq ?_
   refine rk_reg ?_
   have H84 := (s81.blk (s76.blk (n71.ext.blk (n65.ext.blk (e61.blk (s55.blk H51 (by omega))))) (by omega)) (by omega))
   refine lw_v (.agg #[.int .u64 (wv3 (pkz (dOk zd6 zd7) (zd6 / zd7))), .int .u64 (wv2 (pkz (dOk zd6 zd7) (zd6 / zd7))), .int .u64 (wv1 (pkz (dOk zd6 zd7) (zd6 / zd7))), .int .u64 (wv0 (pkz (dOk zd6 zd7) (zd6 / zd7)))]) (dv_loads (l := [.int .u64 (wv3 (pkz (dOk zd6 zd7) (zd6 / zd7))), .int .u64 (wv2 (pkz (dOk zd6 zd7) (zd6 / zd7))), .int .u64 (wv1 (pkz (dOk zd6 zd7) (zd6 / zd7))), .int .u64 (wv0 (pkz (dOk zd6 zd7) (zd6 / zd7)))]) agt26 sz26 (T rfl rfl) H84 rfl) ?_
   have H85 := (s81.blk H77 (by omega))
   refine lw_v (.agg #[.int .u64 (wv3 (pkz (dOk zd6 zd7) (zd6 / zd7))), .int .u64 (wv2 (pkz (dOk zd6 zd7) (zd6 / zd7))), .int .u64 (wv1 (pkz (dOk zd6 zd7) (zd6 / zd7))), .int .u64 (wv0 (pkz (dOk zd6 zd7) (zd6 / zd7)))]) (dv_loads (l := [.int .u64 (wv3 (pkz (dOk zd6 zd7) (zd6 / zd7))), .int .u64 (wv2 (pkz (dOk zd6 zd7) (zd6 / zd7))), .int .u64 (wv1 (pkz (dOk zd6 zd7) (zd6 / zd7))), .int .u64 (wv0 (pkz (dOk zd6 zd7) (zd6 / zd7)))]) agt26 sz26 (T rfl rfl) H85 rfl) ?_
   refine lw_v (.bool (decide (([wv3 (pkz (dOk zd6 zd7) (zd6 / zd7)), wv2 (pkz (dOk zd6 zd7) (zd6 / zd7)), wv1 (pkz (dOk zd6 zd7) (zd6 / zd7)), wv0 (pkz (dOk zd6 zd7) (zd6 / zd7))] : List Int) ≠ [wv3 (pkz (dOk zd6 zd7) (zd6 / zd7)), wv2 (pkz (dOk zd6 zd7) (zd6 / zd7)), wv1 (pkz (dOk zd6 zd7) (zd6 / zd7)), wv0 (pkz (dOk zd6 zd7) (zd6 / zd7))]))) (dv_neqs (k := .u64) (la := [wv3 (pkz (dOk zd6 zd7) (zd6 / zd7)), wv2 (pkz (dOk zd6 zd7) (zd6 / zd7)), wv1 (pkz (dOk zd6 zd7) (zd6 / zd7)), wv0 (pkz (dOk zd6 zd7) (zd6 / zd7))]) (lb := [wv3 (pkz (dOk zd6 zd7) (zd6 / zd7)), wv2 (pkz (dOk zd6 zd7) (zd6 / zd7)), wv1 (pkz (dOk zd6 zd7) (zd6 / zd7)), wv0 (pkz (dOk zd6 zd7) (zd6 / zd7))]) fl26 eg26 (T rfl rfl) (T rfl rfl) rfl rfl) ?_
   refine lw_v (.bool (decide (([wv3 (pkz (dOk zd6 zd7) (zd6 / zd7)), wv2 (pkz (dOk zd6 zd7) (zd6 / zd7)), wv1 (pkz (dOk zd6 zd7) (zd6 / zd7)), wv0 (pkz (dOk zd6 zd7) (zd6 / zd7))] : List Int) ≠ [wv3 (pkz (dOk zd6 zd7) (zd6 / zd7)), wv2 (pkz (dOk zd6 zd7) (zd6 / zd7)), wv1 (pkz (dOk zd6 zd7) (zd6 / zd7)), wv0 (pkz (dOk zd6 zd7) (zd6 / zd7))]))) (dv_move (T rfl rfl)) ?_
   by_cases hb86 : ([wv3 (pkz (dOk zd6 zd7) (zd6 / zd7)), wv2 (pkz (dOk zd6 zd7) (zd6 / zd7)), wv1 (pkz (dOk zd6 zd7) (zd6 / zd7)), wv0 (pkz (dOk zd6 zd7) (zd6 / zd7))] : List Int) ≠ [wv3 (pkz (dOk zd6 zd7) (zd6 / zd7)), wv2 (pkz (dOk zd6 zd7) (zd6 / zd7)), wv1 (pkz (dOk zd6 zd7) (zd6 / zd7)), wv0 (pkz (dOk zd6 zd7) (zd6 / zd7))]
   · have hz87 := fun hh => hb86 ((wl_eq (fits_pkz fun h => h.2.1) (fits_pkz fun h => h.2.1)).2 hh)
     refine lw_no (d := 42) rfl rfl (congrArg Value.bool (decide_eq_true hb86)) ?_
     refine lw_no (d := 42) rfl rfl (congrArg Value.bool (decide_eq_true hb86)) ?_
     refine lw_no (d := 42) rfl rfl (congrArg Value.bool (decide_eq_true hb86)) ?_
     refine lw_v (.bool true) (dv_pick_t (T rfl (congrArg Value.bool (decide_eq_true hb86))) C) ?_
     refine lw_v (.bool true) (dv_move (T rfl rfl)) ?_
     refine lw_no (d := 47) rfl rfl (rfl) ?_
     refine lw_no (d := 47) rfl rfl (rfl) ?_
     refine lw_no (d := 47) rfl rfl (rfl) ?_
     refine lw_v (.bool true) (dv_pick_t (T rfl rfl) C) ?_
     refine lw_nil ?_
     refine rk_ct (T rfl rfl) ?_
     refine rk_seq ?_
     refine rk_reg ?_
     refine lw_v (.bool false) (dv_assign C) ?_
     refine lw_nil ?_
     refine rk_ret Try.func8 (v := .bool false) (res1 Try.results8 (rv_tmp rfl rfl)) ⟨_, rfl, ?_⟩
     skip
     exact ⟨(by exfalso; first | (exact cB (by assumption)) | (exact absurd rfl (by assumption)) | omega), E83⟩
   · have hz88 := (wl_eq (fits_pkz fun h => h.2.1) (fits_pkz fun h => h.2.1)).1 (Decidable.not_not.1 hb86)
     have H89 := (s81.blk (s76.blk (n71.ext.blk (n65.ext.blk H67)) (by omega)) (by omega))
     refine lw_vy (.agg #[.int .u64 (wv3 (pkz (dOk zd6 zd7) (zd6 % zd7))), .int .u64 (wv2 (pkz (dOk zd6 zd7) (zd6 % zd7))), .int .u64 (wv1 (pkz (dOk zd6 zd7) (zd6 % zd7))), .int .u64 (wv0 (pkz (dOk zd6 zd7) (zd6 % zd7)))]) (d := 42) rfl rfl (congrArg Value.bool (decide_eq_false hb86)) (dv_loads (l := [.int .u64 (wv3 (pkz (dOk zd6 zd7) (zd6 % zd7))), .int .u64 (wv2 (pkz (dOk zd6 zd7) (zd6 % zd7))), .int .u64 (wv1 (pkz (dOk zd6 zd7) (zd6 % zd7))), .int .u64 (wv0 (pkz (dOk zd6 zd7) (zd6 % zd7)))]) agt26 sz26 (T rfl rfl) H89 rfl) ?_
     refine lw_vy (.agg #[.int .u64 (wv3 (pkz (dOk zd6 zd7) (zd6 % zd7))), .int .u64 (wv2 (pkz (dOk zd6 zd7) (zd6 % zd7))), .int .u64 (wv1 (pkz (dOk zd6 zd7) (zd6 % zd7))), .int .u64 (wv0 (pkz (dOk zd6 zd7) (zd6 % zd7)))]) (d := 42) rfl rfl (congrArg Value.bool (decide_eq_false hb86)) (dv_loads (l := [.int .u64 (wv3 (pkz (dOk zd6 zd7) (zd6 % zd7))), .int .u64 (wv2 (pkz (dOk zd6 zd7) (zd6 % zd7))), .int .u64 (wv1 (pkz (dOk zd6 zd7) (zd6 % zd7))), .int .u64 (wv0 (pkz (dOk zd6 zd7) (zd6 % zd7)))]) agt26 sz26 (T rfl rfl) H82 rfl) ?_
     refine lw_vy (.bool (decide (([wv3 (pkz (dOk zd6 zd7) (zd6 % zd7)), wv2 (pkz (dOk zd6 zd7) (zd6 % zd7)), wv1 (pkz (dOk zd6 zd7) (zd6 % zd7)), wv0 (pkz (dOk zd6 zd7) (zd6 % zd7))] : List Int) ≠ [wv3 (pkz (dOk zd6 zd7) (zd6 % zd7)), wv2 (pkz (dOk zd6 zd7) (zd6 % zd7)), wv1 (pkz (dOk zd6 zd7) (zd6 % zd7)), wv0 (pkz (dOk zd6 zd7) (zd6 % zd7))]))) (d := 42) rfl rfl (congrArg Value.bool (decide_eq_false hb86)) (dv_neqs (k := .u64) (la := [wv3 (pkz (dOk zd6 zd7) (zd6 % zd7)), wv2 (pkz (dOk zd6 zd7) (zd6 % zd7)), wv1 (pkz (dOk zd6 zd7) (zd6 % zd7)), wv0 (pkz (dOk zd6 zd7) (zd6 % zd7))]) (lb := [wv3 (pkz (dOk zd6 zd7) (zd6 % zd7)), wv2 (pkz (dOk zd6 zd7) (zd6 % zd7)), wv1 (pkz (dOk zd6 zd7) (zd6 % zd7)), wv0 (pkz (dOk zd6 zd7) (zd6 % zd7))]) fl26 eg26 (T rfl rfl) (T rfl rfl) rfl rfl) ?_
     refine lw_v (.bool (decide (([wv3 (pkz (dOk zd6 zd7) (zd6 % zd7)), wv2 (pkz (dOk zd6 zd7) (zd6 % zd7)), wv1 (pkz (dOk zd6 zd7) (zd6 % zd7)), wv0 (pkz (dOk zd6 zd7) (zd6 % zd7))] : List Int) ≠ [wv3 (pkz (dOk zd6 zd7) (zd6 % zd7)), wv2 (pkz (dOk zd6 zd7) (zd6 % zd7)), wv1 (pkz (dOk zd6 zd7) (zd6 % zd7)), wv0 (pkz (dOk zd6 zd7) (zd6 % zd7))]))) (dv_pick_f (T rfl (congrArg Value.bool (decide_eq_false hb86))) (T rfl rfl)) ?_
     refine lw_v (.bool (decide (([wv3 (pkz (dOk zd6 zd7) (zd6 % zd7)), wv2 (pkz (dOk zd6 zd7) (zd6 % zd7)), wv1 (pkz (dOk zd6 zd7) (zd6 % zd7)), wv0 (pkz (dOk zd6 zd7) (zd6 % zd7))] : List Int) ≠ [wv3 (pkz (dOk zd6 zd7) (zd6 % zd7)), wv2 (pkz (dOk zd6 zd7) (zd6 % zd7)), wv1 (pkz (dOk zd6 zd7) (zd6 % zd7)), wv0 (pkz (dOk zd6 zd7) (zd6 % zd7))]))) (dv_move (T rfl rfl)) ?_
     by_cases hb90 : ([wv3 (pkz (dOk zd6 zd7) (zd6 % zd7)), wv2 (pkz (dOk zd6 zd7) (zd6 % zd7)), wv1 (pkz (dOk zd6 zd7) (zd6 % zd7)), wv0 (pkz (dOk zd6 zd7) (zd6 % zd7))] : List Int) ≠ [wv3 (pkz (dOk zd6 zd7) (zd6 % zd7)), wv2 (pkz (dOk zd6 zd7) (zd6 % zd7)), wv1 (pkz (dOk zd6 zd7) (zd6 % zd7)), wv0 (pkz (dOk zd6 zd7) (zd6 % zd7))]
     · have hz91 := fun hh => hb90 ((wl_eq (fits_pkz fun h => h.2.2) (fits_pkz fun h => h.2.2)).2 hh)
       refine lw_no (d := 47) rfl rfl (congrArg Value.bool (decide_eq_true hb90)) ?_
       refine lw_no (d := 47) rfl rfl (congrArg Value.bool (decide_eq_true hb90)) ?_
       refine lw_no (d := 47) rfl rfl (congrArg Value.bool (decide_eq_true hb90)) ?_
       refine lw_v (.bool true) (dv_pick_t (T rfl (congrArg Value.bool (decide_eq_true hb90))) C) ?_
       refine lw_nil ?_
       refine rk_ct (T rfl rfl) ?_
       refine rk_seq ?_
       refine rk_reg ?_
       refine lw_v (.bool false) (dv_assign C) ?_
       refine lw_nil ?_
       refine rk_ret Try.func8 (v := .bool false) (res1 Try.results8 (rv_tmp rfl rfl)) ⟨_, rfl, ?_⟩
       skip
       exact ⟨(by exfalso; first | (exact cB (by assumption)) | (exact absurd rfl (by assumption)) | omega), E83⟩
     · have hz92 := (wl_eq (fits_pkz fun h => h.2.2) (fits_pkz fun h => h.2.2)).1 (Decidable.not_not.1 hb90)
       refine lw_vy (.bool (decide (dOk zd6 zd7))) (d := 47) rfl rfl (congrArg Value.bool (decide_eq_false hb90)) (dv_move (T rfl rfl)) ?_
       refine lw_vy (.bool (decide (dOk zd6 zd7))) (d := 47) rfl rfl (congrArg Value.bool (decide_eq_false hb90)) (dv_move (T rfl rfl)) ?_
       refine lw_vy (.bool ((decide (dOk zd6 zd7)) != (decide (dOk zd6 zd7)))) (d := 47) rfl rfl (congrArg Value.bool (decide_eq_false hb90)) (dv_neqb (a := decide (dOk zd6 zd7)) (b := decide (dOk zd6 zd7)) ub4 (T rfl rfl) (T rfl rfl)) ?_
       refine lw_v (.bool ((decide (dOk zd6 zd7)) != (decide (dOk zd6 zd7)))) (dv_pick_f (T rfl (congrArg Value.bool (decide_eq_false hb90))) (T rfl rfl)) ?_
       refine lw_nil ?_
       rcases Bool.eq_false_or_eq_true ((decide (dOk zd6 zd7)) != (decide (dOk zd6 zd7))) with hb93 | hb93
       · refine rk_ct (T rfl (congrArg Value.bool hb93)) ?_
         refine rk_seq ?_
         refine rk_reg ?_
         refine lw_v (.bool false) (dv_assign C) ?_
         refine lw_nil ?_
         refine rk_ret Try.func8 (v := .bool false) (res1 Try.results8 (rv_tmp rfl rfl)) ⟨_, rfl, ?_⟩
         skip
         exact ⟨(by exfalso; first | (exact cB (by assumption)) | (exact absurd rfl (by assumption)) | omega), E83⟩
       · refine rk_cf (T rfl (congrArg Value.bool hb93)) ?_
         refine rk_skip ?_
         refine rk_seq ?_
         refine rk_seq ?_
         refine rk_reg ?_
         refine lw_v (.bool (decide (dOk zd6 zd7))) (dv_move (T rfl rfl)) ?_
         refine lw_v (.bool (decide (¬ (dOk zd6 zd7)))) (dv_notd (p := dOk zd6 zd7) (T rfl rfl)) ?_
         refine lw_nil ?_
         by_cases hb94 : dOk zd6 zd7
         · refine rk_cf (T rfl (congrArg Value.bool (decide_eq_false (not_not_intro hb94)))) ?_
           refine rk_skip ?_
           refine rk_seq ?_
           refine rk_reg ?_
           refine lw_v (.agg #[.int .u64 (wv3 (pkz (dOk zd6 zd7) (zd6 % zd7))), .int .u64 (wv2 (pkz (dOk zd6 zd7) (zd6 % zd7))), .int .u64 (wv1 (pkz (dOk zd6 zd7) (zd6 % zd7))), .int .u64 (wv0 (pkz (dOk zd6 zd7) (zd6 % zd7)))]) (dv_loads (l := [.int .u64 (wv3 (pkz (dOk zd6 zd7) (zd6 % zd7))), .int .u64 (wv2 (pkz (dOk zd6 zd7) (zd6 % zd7))), .int .u64 (wv1 (pkz (dOk zd6 zd7) (zd6 % zd7))), .int .u64 (wv0 (pkz (dOk zd6 zd7) (zd6 % zd7)))]) agt26 sz26 (T rfl rfl) H89 rfl) ?_
           have H95 := (s81.blk (s76.blk (n71.ext.blk (n65.ext.blk (e61.blk H59))) (by omega)) (by omega))
           refine lw_v (.agg #[.int .u64 (wv3 zd7), .int .u64 (wv2 zd7), .int .u64 (wv1 zd7), .int .u64 (wv0 zd7)]) (dv_loads (l := [.int .u64 (wv3 zd7), .int .u64 (wv2 zd7), .int .u64 (wv1 zd7), .int .u64 (wv0 zd7)]) agt26 sz26 (T rfl rfl) H95 rfl) ?_
           refine lw_e (oe_callf (vs := [.agg #[.int .u64 (wv3 (pkz (dOk zd6 zd7) (zd6 % zd7))), .int .u64 (wv2 (pkz (dOk zd6 zd7) (zd6 % zd7))), .int .u64 (wv1 (pkz (dOk zd6 zd7) (zd6 % zd7))), .int .u64 (wv0 (pkz (dOk zd6 zd7) (zd6 % zd7)))], .agg #[.int .u64 (wv3 zd7), .int .u64 (wv2 zd7), .int .u64 (wv1 zd7), .int .u64 (wv0 zd7)]]) co14 (ar2 (T rfl rfl) (T rfl rfl)) (iWideCmp_ok (x := pkz (dOk zd6 zd7) (zd6 % zd7)) (y := zd7) (fits_pkz fun h => h.2.2) hz9 ) ?_)
           rintro _ w96 ⟨rfl, e97⟩
           have E98 := below_ext E83 E83.size e97
           have := sgnI_rg ((pkz (dOk zd6 zd7) (zd6 % zd7)) - zd7)
           refine lw_v (.bool (decide ((sgnI ((pkz (dOk zd6 zd7) (zd6 % zd7)) - zd7)) < 0))) (dv_lss (a := sgnI ((pkz (dOk zd6 zd7) (zd6 % zd7)) - zd7)) (b := 0) (T rfl rfl) C) ?_
           refine lw_v (.bool (decide ((sgnI ((pkz (dOk zd6 zd7) (zd6 % zd7)) - zd7)) < 0))) (dv_assign (T rfl rfl)) ?_
           refine lw_nil ?_
           refine rk_seq ?_
           refine rk_seq ?_
           refine rk_reg ?_
           have H99 := (e97.blk H95)
           refine lw_v (.agg #[.int .u64 (wv3 zd7), .int .u64 (wv2 zd7), .int .u64 (wv1 zd7), .int .u64 (wv0 zd7)]) (dv_loads (l := [.int .u64 (wv3 zd7), .int .u64 (wv2 zd7), .int .u64 (wv1 zd7), .int .u64 (wv0 zd7)]) agt26 sz26 (T rfl rfl) H99 rfl) ?_
           refine lw_e (oe_callf (vs := [.agg #[.int .u64 (wv3 zd7), .int .u64 (wv2 zd7), .int .u64 (wv1 zd7), .int .u64 (wv0 zd7)]]) co17 (ar1 (T rfl rfl)) (iWideSign_ok (x := zd7) hz9 ) ?_)
           rintro _ w100 ⟨rfl, e101⟩
           have E102 := below_ext E98 E98.size e101
           have := sgnI_rg zd7
           refine lw_v (.bool (decide ((sgnI zd7) < 0))) (dv_lss (a := sgnI zd7) (b := 0) (T rfl rfl) C) ?_
           refine lw_nil ?_
           by_cases hb103 : (sgnI zd7) < 0
           · refine rk_ct (T rfl (congrArg Value.bool (decide_eq_true hb103))) ?_
             refine rk_seq ?_
             refine rk_reg ?_
             have H104 := (e101.blk (e97.blk H89))
             refine lw_v (.agg #[.int .u64 (wv3 (pkz (dOk zd6 zd7) (zd6 % zd7))), .int .u64 (wv2 (pkz (dOk zd6 zd7) (zd6 % zd7))), .int .u64 (wv1 (pkz (dOk zd6 zd7) (zd6 % zd7))), .int .u64 (wv0 (pkz (dOk zd6 zd7) (zd6 % zd7)))]) (dv_loads (l := [.int .u64 (wv3 (pkz (dOk zd6 zd7) (zd6 % zd7))), .int .u64 (wv2 (pkz (dOk zd6 zd7) (zd6 % zd7))), .int .u64 (wv1 (pkz (dOk zd6 zd7) (zd6 % zd7))), .int .u64 (wv0 (pkz (dOk zd6 zd7) (zd6 % zd7)))]) agt26 sz26 (T rfl rfl) H104 rfl) ?_
             have H105 := (e101.blk H99)
             refine lw_v (.agg #[.int .u64 (wv3 zd7), .int .u64 (wv2 zd7), .int .u64 (wv1 zd7), .int .u64 (wv0 zd7)]) (dv_loads (l := [.int .u64 (wv3 zd7), .int .u64 (wv2 zd7), .int .u64 (wv1 zd7), .int .u64 (wv0 zd7)]) agt26 sz26 (T rfl rfl) H105 rfl) ?_
             refine lw_e (oe_callf (vs := [.agg #[.int .u64 (wv3 (pkz (dOk zd6 zd7) (zd6 % zd7))), .int .u64 (wv2 (pkz (dOk zd6 zd7) (zd6 % zd7))), .int .u64 (wv1 (pkz (dOk zd6 zd7) (zd6 % zd7))), .int .u64 (wv0 (pkz (dOk zd6 zd7) (zd6 % zd7)))], .agg #[.int .u64 (wv3 zd7), .int .u64 (wv2 zd7), .int .u64 (wv1 zd7), .int .u64 (wv0 zd7)]]) co19 (ar2 (T rfl rfl) (T rfl rfl)) (iWideAdd_ok (x := pkz (dOk zd6 zd7) (zd6 % zd7)) (y := zd7) (fits_pkz fun h => h.2.2) hz9 ) ?_)
             rintro _ w106 ⟨rfl, e107⟩
             have E108 := below_ext E102 E102.size e107
             refine lw_v (.tuple #[.agg #[.int .u64 (wv3 (fz ((pkz (dOk zd6 zd7) (zd6 % zd7)) + zd7))), .int .u64 (wv2 (fz ((pkz (dOk zd6 zd7) (zd6 % zd7)) + zd7))), .int .u64 (wv1 (fz ((pkz (dOk zd6 zd7) (zd6 % zd7)) + zd7))), .int .u64 (wv0 (fz ((pkz (dOk zd6 zd7) (zd6 % zd7)) + zd7)))], .bool (decide (fits ((pkz (dOk zd6 zd7) (zd6 % zd7)) + zd7)))]) (dv_move (T rfl rfl)) ?_
             refine lw_v (.agg #[.int .u64 (wv3 (fz ((pkz (dOk zd6 zd7) (zd6 % zd7)) + zd7))), .int .u64 (wv2 (fz ((pkz (dOk zd6 zd7) (zd6 % zd7)) + zd7))), .int .u64 (wv1 (fz ((pkz (dOk zd6 zd7) (zd6 % zd7)) + zd7))), .int .u64 (wv0 (fz ((pkz (dOk zd6 zd7) (zd6 % zd7)) + zd7)))]) (dv_extract (vs := #[.agg #[.int .u64 (wv3 (fz ((pkz (dOk zd6 zd7) (zd6 % zd7)) + zd7))), .int .u64 (wv2 (fz ((pkz (dOk zd6 zd7) (zd6 % zd7)) + zd7))), .int .u64 (wv1 (fz ((pkz (dOk zd6 zd7) (zd6 % zd7)) + zd7))), .int .u64 (wv0 (fz ((pkz (dOk zd6 zd7) (zd6 % zd7)) + zd7)))], .bool (decide (fits ((pkz (dOk zd6 zd7) (zd6 % zd7)) + zd7)))]) (T rfl rfl) rfl) ?_
             refine lw_v (.bool (decide (fits ((pkz (dOk zd6 zd7) (zd6 % zd7)) + zd7)))) (dv_extract (vs := #[.agg #[.int .u64 (wv3 (fz ((pkz (dOk zd6 zd7) (zd6 % zd7)) + zd7))), .int .u64 (wv2 (fz ((pkz (dOk zd6 zd7) (zd6 % zd7)) + zd7))), .int .u64 (wv1 (fz ((pkz (dOk zd6 zd7) (zd6 % zd7)) + zd7))), .int .u64 (wv0 (fz ((pkz (dOk zd6 zd7) (zd6 % zd7)) + zd7)))], .bool (decide (fits ((pkz (dOk zd6 zd7) (zd6 % zd7)) + zd7)))]) (T rfl rfl) rfl) ?_
             refine lw_e (oe_alloc ze26 ?_)
             intro b109 w110 n111
             have N112 : w.heap.size ≤ b109 := n111.eq ▸ E108.size
             have H113 := (e107.blk (e101.blk (e97.blk H82)))
             have : b69 < b109 := n111.eq ▸ lt_of_blk H113
             have E114 := below_ext E108 E108.size n111.ext
             refine lw_e (oe_store (v := .agg #[.int .u64 (wv3 (fz ((pkz (dOk zd6 zd7) (zd6 % zd7)) + zd7))), .int .u64 (wv2 (fz ((pkz (dOk zd6 zd7) (zd6 % zd7)) + zd7))), .int .u64 (wv1 (fz ((pkz (dOk zd6 zd7) (zd6 % zd7)) + zd7))), .int .u64 (wv0 (fz ((pkz (dOk zd6 zd7) (zd6 % zd7)) + zd7)))]) (vs := [.int .u64 (wv3 (fz ((pkz (dOk zd6 zd7) (zd6 % zd7)) + zd7))), .int .u64 (wv2 (fz ((pkz (dOk zd6 zd7) (zd6 % zd7)) + zd7))), .int .u64 (wv1 (fz ((pkz (dOk zd6 zd7) (zd6 % zd7)) + zd7))), .int .u64 (wv0 (fz ((pkz (dOk zd6 zd7) (zd6 % zd7)) + zd7)))]) (l := [.int .u64 (wv3 (fz ((pkz (dOk zd6 zd7) (zd6 % zd7)) + zd7))), .int .u64 (wv2 (fz ((pkz (dOk zd6 zd7) (zd6 % zd7)) + zd7))), .int .u64 (wv1 (fz ((pkz (dOk zd6 zd7) (zd6 % zd7)) + zd7))), .int .u64 (wv0 (fz ((pkz (dOk zd6 zd7) (zd6 % zd7)) + zd7)))]) (T rfl rfl) (T rfl rfl) sz26 rfl rfl rfl n111.blk rfl ?_)
             intro w115 s116 H117
             have E118 := below_st E114 N112 s116
             refine lw_v (.bool (decide (fits ((pkz (dOk zd6 zd7) (zd6 % zd7)) + zd7)))) (dv_assign (T rfl rfl)) ?_
             refine lw_nil ?_
             refine rk_reg ?_
             refine lw_v (.bool (decide (fits ((pkz (dOk zd6 zd7) (zd6 % zd7)) + zd7)))) (dv_move (T rfl rfl)) ?_
             refine lw_v (.bool (decide (fits ((pkz (dOk zd6 zd7) (zd6 % zd7)) + zd7)))) (dv_move (T rfl rfl)) ?_
             by_cases hb119 : fits ((pkz (dOk zd6 zd7) (zd6 % zd7)) + zd7)
             · refine lw_vy (.agg #[.int .u64 (wv3 (fz ((pkz (dOk zd6 zd7) (zd6 % zd7)) + zd7))), .int .u64 (wv2 (fz ((pkz (dOk zd6 zd7) (zd6 % zd7)) + zd7))), .int .u64 (wv1 (fz ((pkz (dOk zd6 zd7) (zd6 % zd7)) + zd7))), .int .u64 (wv0 (fz ((pkz (dOk zd6 zd7) (zd6 % zd7)) + zd7)))]) (d := 76) rfl rfl (congrArg Value.bool (decide_eq_true hb119)) (dv_loads (l := [.int .u64 (wv3 (fz ((pkz (dOk zd6 zd7) (zd6 % zd7)) + zd7))), .int .u64 (wv2 (fz ((pkz (dOk zd6 zd7) (zd6 % zd7)) + zd7))), .int .u64 (wv1 (fz ((pkz (dOk zd6 zd7) (zd6 % zd7)) + zd7))), .int .u64 (wv0 (fz ((pkz (dOk zd6 zd7) (zd6 % zd7)) + zd7)))]) agt26 sz26 (T rfl rfl) H117 rfl) ?_
               refine lw_ey (d := 76) rfl rfl (congrArg Value.bool (decide_eq_true hb119)) (oe_callf (vs := [.agg #[.int .u64 (wv3 (fz ((pkz (dOk zd6 zd7) (zd6 % zd7)) + zd7))), .int .u64 (wv2 (fz ((pkz (dOk zd6 zd7) (zd6 % zd7)) + zd7))), .int .u64 (wv1 (fz ((pkz (dOk zd6 zd7) (zd6 % zd7)) + zd7))), .int .u64 (wv0 (fz ((pkz (dOk zd6 zd7) (zd6 % zd7)) + zd7)))]]) co17 (ar1 (T rfl rfl)) (iWideSign_ok (x := fz ((pkz (dOk zd6 zd7) (zd6 % zd7)) + zd7)) (fz_f _) ) ?_)
               rintro _ w120 ⟨rfl, e121⟩
               have E122 := below_ext E118 E118.size e121
               have := sgnI_rg (fz ((pkz (dOk zd6 zd7) (zd6 % zd7)) + zd7))
               refine lw_vy (.bool (decide ((sgnI (fz ((pkz (dOk zd6 zd7) (zd6 % zd7)) + zd7))) < 0))) (d := 76) rfl rfl (congrArg Value.bool (decide_eq_true hb119)) (dv_lss (a := sgnI (fz ((pkz (dOk zd6 zd7) (zd6 % zd7)) + zd7))) (b := 0) (T rfl rfl) C) ?_
               refine lw_v (.bool (decide ((sgnI (fz ((pkz (dOk zd6 zd7) (zd6 % zd7)) + zd7))) < 0))) (dv_pick_t (T rfl (congrArg Value.bool (decide_eq_true hb119))) (T rfl rfl)) ?_
               refine lw_v (.bool (decide ((sgnI (fz ((pkz (dOk zd6 zd7) (zd6 % zd7)) + zd7))) < 0))) (dv_assign (T rfl rfl)) ?_
               refine lw_nil ?_
               refine rk_seq ?_
               refine rk_reg ?_
               have H123 := (e121.blk (s116.blk (n111.ext.blk (e107.blk (e101.blk (e97.blk H84)))) (by omega)))
               refine lw_v (.agg #[.int .u64 (wv3 (pkz (dOk zd6 zd7) (zd6 / zd7))), .int .u64 (wv2 (pkz (dOk zd6 zd7) (zd6 / zd7))), .int .u64 (wv1 (pkz (dOk zd6 zd7) (zd6 / zd7))), .int .u64 (wv0 (pkz (dOk zd6 zd7) (zd6 / zd7)))]) (dv_loads (l := [.int .u64 (wv3 (pkz (dOk zd6 zd7) (zd6 / zd7))), .int .u64 (wv2 (pkz (dOk zd6 zd7) (zd6 / zd7))), .int .u64 (wv1 (pkz (dOk zd6 zd7) (zd6 / zd7))), .int .u64 (wv0 (pkz (dOk zd6 zd7) (zd6 / zd7)))]) agt26 sz26 (T rfl rfl) H123 rfl) ?_
               have H124 := (e121.blk (s116.blk (n111.ext.blk (e107.blk H105)) (by omega)))
               refine lw_v (.agg #[.int .u64 (wv3 zd7), .int .u64 (wv2 zd7), .int .u64 (wv1 zd7), .int .u64 (wv0 zd7)]) (dv_loads (l := [.int .u64 (wv3 zd7), .int .u64 (wv2 zd7), .int .u64 (wv1 zd7), .int .u64 (wv0 zd7)]) agt26 sz26 (T rfl rfl) H124 rfl) ?_
               refine lw_e (oe_callf (vs := [.agg #[.int .u64 (wv3 (pkz (dOk zd6 zd7) (zd6 / zd7))), .int .u64 (wv2 (pkz (dOk zd6 zd7) (zd6 / zd7))), .int .u64 (wv1 (pkz (dOk zd6 zd7) (zd6 / zd7))), .int .u64 (wv0 (pkz (dOk zd6 zd7) (zd6 / zd7)))], .agg #[.int .u64 (wv3 zd7), .int .u64 (wv2 zd7), .int .u64 (wv1 zd7), .int .u64 (wv0 zd7)]]) co21 (ar2 (T rfl rfl) (T rfl rfl)) (iWideMul_ok (x := pkz (dOk zd6 zd7) (zd6 / zd7)) (y := zd7) (fits_pkz fun h => h.2.1) hz9 ) ?_)
               rintro _ w125 ⟨rfl, e126⟩
               have E127 := below_ext E122 E122.size e126
               refine lw_v (.tuple #[.agg #[.int .u64 (wv3 (fz ((pkz (dOk zd6 zd7) (zd6 / zd7)) * zd7))), .int .u64 (wv2 (fz ((pkz (dOk zd6 zd7) (zd6 / zd7)) * zd7))), .int .u64 (wv1 (fz ((pkz (dOk zd6 zd7) (zd6 / zd7)) * zd7))), .int .u64 (wv0 (fz ((pkz (dOk zd6 zd7) (zd6 / zd7)) * zd7)))], .bool (decide (fits ((pkz (dOk zd6 zd7) (zd6 / zd7)) * zd7)))]) (dv_move (T rfl rfl)) ?_
               refine lw_v (.agg #[.int .u64 (wv3 (fz ((pkz (dOk zd6 zd7) (zd6 / zd7)) * zd7))), .int .u64 (wv2 (fz ((pkz (dOk zd6 zd7) (zd6 / zd7)) * zd7))), .int .u64 (wv1 (fz ((pkz (dOk zd6 zd7) (zd6 / zd7)) * zd7))), .int .u64 (wv0 (fz ((pkz (dOk zd6 zd7) (zd6 / zd7)) * zd7)))]) (dv_extract (vs := #[.agg #[.int .u64 (wv3 (fz ((pkz (dOk zd6 zd7) (zd6 / zd7)) * zd7))), .int .u64 (wv2 (fz ((pkz (dOk zd6 zd7) (zd6 / zd7)) * zd7))), .int .u64 (wv1 (fz ((pkz (dOk zd6 zd7) (zd6 / zd7)) * zd7))), .int .u64 (wv0 (fz ((pkz (dOk zd6 zd7) (zd6 / zd7)) * zd7)))], .bool (decide (fits ((pkz (dOk zd6 zd7) (zd6 / zd7)) * zd7)))]) (T rfl rfl) rfl) ?_
               refine lw_v (.bool (decide (fits ((pkz (dOk zd6 zd7) (zd6 / zd7)) * zd7)))) (dv_extract (vs := #[.agg #[.int .u64 (wv3 (fz ((pkz (dOk zd6 zd7) (zd6 / zd7)) * zd7))), .int .u64 (wv2 (fz ((pkz (dOk zd6 zd7) (zd6 / zd7)) * zd7))), .int .u64 (wv1 (fz ((pkz (dOk zd6 zd7) (zd6 / zd7)) * zd7))), .int .u64 (wv0 (fz ((pkz (dOk zd6 zd7) (zd6 / zd7)) * zd7)))], .bool (decide (fits ((pkz (dOk zd6 zd7) (zd6 / zd7)) * zd7)))]) (T rfl rfl) rfl) ?_
               refine lw_e (oe_alloc ze26 ?_)
               intro b128 w129 n130
               have N131 : w.heap.size ≤ b128 := n130.eq ▸ E127.size
               have H132 := (e126.blk (e121.blk H117))
               have : b109 < b128 := n130.eq ▸ lt_of_blk H132
               have E133 := below_ext E127 E127.size n130.ext
               refine lw_e (oe_store (v := .agg #[.int .u64 (wv3 (fz ((pkz (dOk zd6 zd7) (zd6 / zd7)) * zd7))), .int .u64 (wv2 (fz ((pkz (dOk zd6 zd7) (zd6 / zd7)) * zd7))), .int .u64 (wv1 (fz ((pkz (dOk zd6 zd7) (zd6 / zd7)) * zd7))), .int .u64 (wv0 (fz ((pkz (dOk zd6 zd7) (zd6 / zd7)) * zd7)))]) (vs := [.int .u64 (wv3 (fz ((pkz (dOk zd6 zd7) (zd6 / zd7)) * zd7))), .int .u64 (wv2 (fz ((pkz (dOk zd6 zd7) (zd6 / zd7)) * zd7))), .int .u64 (wv1 (fz ((pkz (dOk zd6 zd7) (zd6 / zd7)) * zd7))), .int .u64 (wv0 (fz ((pkz (dOk zd6 zd7) (zd6 / zd7)) * zd7)))]) (l := [.int .u64 (wv3 (fz ((pkz (dOk zd6 zd7) (zd6 / zd7)) * zd7))), .int .u64 (wv2 (fz ((pkz (dOk zd6 zd7) (zd6 / zd7)) * zd7))), .int .u64 (wv1 (fz ((pkz (dOk zd6 zd7) (zd6 / zd7)) * zd7))), .int .u64 (wv0 (fz ((pkz (dOk zd6 zd7) (zd6 / zd7)) * zd7)))]) (T rfl rfl) (T rfl rfl) sz26 rfl rfl rfl n130.blk rfl ?_)
               intro w134 s135 H136
               have E137 := below_st E133 N131 s135
               refine lw_v (.bool (decide (fits ((pkz (dOk zd6 zd7) (zd6 / zd7)) * zd7)))) (dv_assign (T rfl rfl)) ?_
               refine lw_nil ?_
               refine rk_seq ?_
               refine rk_seq ?_
               refine rk_reg ?_
               refine lw_v (.bool (decide (fits ((pkz (dOk zd6 zd7) (zd6 / zd7)) * zd7)))) (dv_move (T rfl rfl)) ?_
               refine lw_v (.bool (decide (¬ (fits ((pkz (dOk zd6 zd7) (zd6 / zd7)) * zd7))))) (dv_notd (p := fits ((pkz (dOk zd6 zd7) (zd6 / zd7)) * zd7)) (T rfl rfl)) ?_
               refine lw_v (.bool (decide (¬ (fits ((pkz (dOk zd6 zd7) (zd6 / zd7)) * zd7))))) (dv_move (T rfl rfl)) ?_
               by_cases hb138 : fits ((pkz (dOk zd6 zd7) (zd6 / zd7)) * zd7)
               · have H139 := (s135.blk (n130.ext.blk (e126.blk (e121.blk (s116.blk (n111.ext.blk (e107.blk H104)) (by omega))))) (by omega))
                 refine lw_vy (.agg #[.int .u64 (wv3 (pkz (dOk zd6 zd7) (zd6 % zd7))), .int .u64 (wv2 (pkz (dOk zd6 zd7) (zd6 % zd7))), .int .u64 (wv1 (pkz (dOk zd6 zd7) (zd6 % zd7))), .int .u64 (wv0 (pkz (dOk zd6 zd7) (zd6 % zd7)))]) (d := 89) rfl rfl (congrArg Value.bool (decide_eq_false (not_not_intro hb138))) (dv_loads (l := [.int .u64 (wv3 (pkz (dOk zd6 zd7) (zd6 % zd7))), .int .u64 (wv2 (pkz (dOk zd6 zd7) (zd6 % zd7))), .int .u64 (wv1 (pkz (dOk zd6 zd7) (zd6 % zd7))), .int .u64 (wv0 (pkz (dOk zd6 zd7) (zd6 % zd7)))]) agt26 sz26 (T rfl rfl) H139 rfl) ?_
                 refine lw_ey (d := 89) rfl rfl (congrArg Value.bool (decide_eq_false (not_not_intro hb138))) (oe_callf (vs := [.agg #[.int .u64 (wv3 (pkz (dOk zd6 zd7) (zd6 % zd7))), .int .u64 (wv2 (pkz (dOk zd6 zd7) (zd6 % zd7))), .int .u64 (wv1 (pkz (dOk zd6 zd7) (zd6 % zd7))), .int .u64 (wv0 (pkz (dOk zd6 zd7) (zd6 % zd7)))]]) co17 (ar1 (T rfl rfl)) (iWideSign_ok (x := pkz (dOk zd6 zd7) (zd6 % zd7)) (fits_pkz fun h => h.2.2) ) ?_)
                 rintro _ w140 ⟨rfl, e141⟩
                 have E142 := below_ext E137 E137.size e141
                 have := sgnI_rg (pkz (dOk zd6 zd7) (zd6 % zd7))
                 refine lw_vy (.bool (decide ((sgnI (pkz (dOk zd6 zd7) (zd6 % zd7))) < 0))) (d := 89) rfl rfl (congrArg Value.bool (decide_eq_false (not_not_intro hb138))) (dv_lss (a := sgnI (pkz (dOk zd6 zd7) (zd6 % zd7))) (b := 0) (T rfl rfl) C) ?_
                 refine lw_v (.bool (decide ((sgnI (pkz (dOk zd6 zd7) (zd6 % zd7))) < 0))) (dv_pick_f (T rfl (congrArg Value.bool (decide_eq_false (not_not_intro hb138)))) (T rfl rfl)) ?_
                 refine lw_v (.bool (decide ((sgnI (pkz (dOk zd6 zd7) (zd6 % zd7))) < 0))) (dv_move (T rfl rfl)) ?_
                 by_cases hb143 : (sgnI (pkz (dOk zd6 zd7) (zd6 % zd7))) < 0
                 · refine lw_no (d := 94) rfl rfl (congrArg Value.bool (decide_eq_true hb143)) ?_
                   refine lw_no (d := 94) rfl rfl (congrArg Value.bool (decide_eq_true hb143)) ?_
                   refine lw_v (.bool true) (dv_pick_t (T rfl (congrArg Value.bool (decide_eq_true hb143))) C) ?_
                   refine lw_nil ?_
                   refine rk_ct (T rfl rfl) ?_
                   refine rk_seq ?_
                   refine rk_reg ?_
                   refine lw_v (.bool (decide (fits ((pkz (dOk zd6 zd7) (zd6 / zd7)) * zd7)))) (dv_move (T rfl rfl)) ?_
                   refine lw_v (.bool (decide (¬ (fits ((pkz (dOk zd6 zd7) (zd6 / zd7)) * zd7))))) (dv_notd (p := fits ((pkz (dOk zd6 zd7) (zd6 / zd7)) * zd7)) (T rfl rfl)) ?_
                   refine lw_v (.bool (decide (¬ (fits ((pkz (dOk zd6 zd7) (zd6 / zd7)) * zd7))))) (dv_move (T rfl rfl)) ?_
                   refine lw_no (d := 100) rfl rfl (congrArg Value.bool (decide_eq_false (not_not_intro hb138))) ?_
                   refine lw_no (d := 100) rfl rfl (congrArg Value.bool (decide_eq_false (not_not_intro hb138))) ?_
                   refine lw_no (d := 100) rfl rfl (congrArg Value.bool (decide_eq_false (not_not_intro hb138))) ?_
                   refine lw_v (.bool false) (dv_pick_f (T rfl (congrArg Value.bool (decide_eq_false (not_not_intro hb138)))) C) ?_
                   refine lw_v (.bool false) (dv_move (T rfl rfl)) ?_
                   refine lw_no (d := 105) rfl rfl (rfl) ?_
                   refine lw_v (.bool false) (dv_pick_f (T rfl rfl) C) ?_
                   refine lw_v (.bool false) (dv_assign (T rfl rfl)) ?_
                   refine lw_nil ?_
                   refine rk_ret Try.func8 (v := .bool false) (res1 Try.results8 (rv_tmp rfl rfl)) ⟨_, rfl, ?_⟩
                   have p1 := cPa hz9 hb94
                   have p2 := fun hn => cPb hb94 hn
                   have p3 := fun hn => cPc hz9 hb94 hn
                   have p4 := fun hn => cPd hz8 hb94 hn
                   skip
                   exact ⟨(by exfalso; first | (exact cB (by assumption)) | (exact absurd rfl (by assumption)) | (exact absurd (p3 (by assumption)).1 (by assumption)) | (exact absurd (p3 (by assumption)).2 (by assumption)) | (exact absurd (p2 (by assumption)) (by assumption)) | (exact absurd (p4 (by assumption)).1 (by assumption)) | omega), E142⟩
                 · refine lw_vy (.bool (decide ((sgnI (fz ((pkz (dOk zd6 zd7) (zd6 % zd7)) + zd7))) < 0))) (d := 94) rfl rfl (congrArg Value.bool (decide_eq_false hb143)) (dv_move (T rfl rfl)) ?_
                   refine lw_vy (.bool (decide (¬ ((sgnI (fz ((pkz (dOk zd6 zd7) (zd6 % zd7)) + zd7))) < 0)))) (d := 94) rfl rfl (congrArg Value.bool (decide_eq_false hb143)) (dv_notd (p := (sgnI (fz ((pkz (dOk zd6 zd7) (zd6 % zd7)) + zd7))) < 0) (T rfl rfl)) ?_
                   refine lw_v (.bool (decide (¬ ((sgnI (fz ((pkz (dOk zd6 zd7) (zd6 % zd7)) + zd7))) < 0)))) (dv_pick_f (T rfl (congrArg Value.bool (decide_eq_false hb143))) (T rfl rfl)) ?_
                   refine lw_nil ?_
                   by_cases hb144 : (sgnI (fz ((pkz (dOk zd6 zd7) (zd6 % zd7)) + zd7))) < 0
                   · refine rk_cf (T rfl (congrArg Value.bool (decide_eq_false (not_not_intro hb144)))) ?_
                     refine rk_skip ?_
                     refine rk_seq ?_
                     refine rk_reg ?_
                     have H145 := (e141.blk H136)
                     refine lw_v (.agg #[.int .u64 (wv3 (fz ((pkz (dOk zd6 zd7) (zd6 / zd7)) * zd7))), .int .u64 (wv2 (fz ((pkz (dOk zd6 zd7) (zd6 / zd7)) * zd7))), .int .u64 (wv1 (fz ((pkz (dOk zd6 zd7) (zd6 / zd7)) * zd7))), .int .u64 (wv0 (fz ((pkz (dOk zd6 zd7) (zd6 / zd7)) * zd7)))]) (dv_loads (l := [.int .u64 (wv3 (fz ((pkz (dOk zd6 zd7) (zd6 / zd7)) * zd7))), .int .u64 (wv2 (fz ((pkz (dOk zd6 zd7) (zd6 / zd7)) * zd7))), .int .u64 (wv1 (fz ((pkz (dOk zd6 zd7) (zd6 / zd7)) * zd7))), .int .u64 (wv0 (fz ((pkz (dOk zd6 zd7) (zd6 / zd7)) * zd7)))]) agt26 sz26 (T rfl rfl) H145 rfl) ?_
                     have H146 := (e141.blk H139)
                     refine lw_v (.agg #[.int .u64 (wv3 (pkz (dOk zd6 zd7) (zd6 % zd7))), .int .u64 (wv2 (pkz (dOk zd6 zd7) (zd6 % zd7))), .int .u64 (wv1 (pkz (dOk zd6 zd7) (zd6 % zd7))), .int .u64 (wv0 (pkz (dOk zd6 zd7) (zd6 % zd7)))]) (dv_loads (l := [.int .u64 (wv3 (pkz (dOk zd6 zd7) (zd6 % zd7))), .int .u64 (wv2 (pkz (dOk zd6 zd7) (zd6 % zd7))), .int .u64 (wv1 (pkz (dOk zd6 zd7) (zd6 % zd7))), .int .u64 (wv0 (pkz (dOk zd6 zd7) (zd6 % zd7)))]) agt26 sz26 (T rfl rfl) H146 rfl) ?_
                     refine lw_e (oe_callf (vs := [.agg #[.int .u64 (wv3 (fz ((pkz (dOk zd6 zd7) (zd6 / zd7)) * zd7))), .int .u64 (wv2 (fz ((pkz (dOk zd6 zd7) (zd6 / zd7)) * zd7))), .int .u64 (wv1 (fz ((pkz (dOk zd6 zd7) (zd6 / zd7)) * zd7))), .int .u64 (wv0 (fz ((pkz (dOk zd6 zd7) (zd6 / zd7)) * zd7)))], .agg #[.int .u64 (wv3 (pkz (dOk zd6 zd7) (zd6 % zd7))), .int .u64 (wv2 (pkz (dOk zd6 zd7) (zd6 % zd7))), .int .u64 (wv1 (pkz (dOk zd6 zd7) (zd6 % zd7))), .int .u64 (wv0 (pkz (dOk zd6 zd7) (zd6 % zd7)))]]) co19 (ar2 (T rfl rfl) (T rfl rfl)) (iWideAdd_ok (x := fz ((pkz (dOk zd6 zd7) (zd6 / zd7)) * zd7)) (y := pkz (dOk zd6 zd7) (zd6 % zd7)) (fz_f _) (fits_pkz fun h => h.2.2) ) ?_)
                     rintro _ w147 ⟨rfl, e148⟩
                     have E149 := below_ext E142 E142.size e148
                     refine lw_v (.tuple #[.agg #[.int .u64 (wv3 (fz ((fz ((pkz (dOk zd6 zd7) (zd6 / zd7)) * zd7)) + (pkz (dOk zd6 zd7) (zd6 % zd7))))), .int .u64 (wv2 (fz ((fz ((pkz (dOk zd6 zd7) (zd6 / zd7)) * zd7)) + (pkz (dOk zd6 zd7) (zd6 % zd7))))), .int .u64 (wv1 (fz ((fz ((pkz (dOk zd6 zd7) (zd6 / zd7)) * zd7)) + (pkz (dOk zd6 zd7) (zd6 % zd7))))), .int .u64 (wv0 (fz ((fz ((pkz (dOk zd6 zd7) (zd6 / zd7)) * zd7)) + (pkz (dOk zd6 zd7) (zd6 % zd7)))))], .bool (decide (fits ((fz ((pkz (dOk zd6 zd7) (zd6 / zd7)) * zd7)) + (pkz (dOk zd6 zd7) (zd6 % zd7)))))]) (dv_move (T rfl rfl)) ?_
                     refine lw_v (.agg #[.int .u64 (wv3 (fz ((fz ((pkz (dOk zd6 zd7) (zd6 / zd7)) * zd7)) + (pkz (dOk zd6 zd7) (zd6 % zd7))))), .int .u64 (wv2 (fz ((fz ((pkz (dOk zd6 zd7) (zd6 / zd7)) * zd7)) + (pkz (dOk zd6 zd7) (zd6 % zd7))))), .int .u64 (wv1 (fz ((fz ((pkz (dOk zd6 zd7) (zd6 / zd7)) * zd7)) + (pkz (dOk zd6 zd7) (zd6 % zd7))))), .int .u64 (wv0 (fz ((fz ((pkz (dOk zd6 zd7) (zd6 / zd7)) * zd7)) + (pkz (dOk zd6 zd7) (zd6 % zd7)))))]) (dv_extract (vs := #[.agg #[.int .u64 (wv3 (fz ((fz ((pkz (dOk zd6 zd7) (zd6 / zd7)) * zd7)) + (pkz (dOk zd6 zd7) (zd6 % zd7))))), .int .u64 (wv2 (fz ((fz ((pkz (dOk zd6 zd7) (zd6 / zd7)) * zd7)) + (pkz (dOk zd6 zd7) (zd6 % zd7))))), .int .u64 (wv1 (fz ((fz ((pkz (dOk zd6 zd7) (zd6 / zd7)) * zd7)) + (pkz (dOk zd6 zd7) (zd6 % zd7))))), .int .u64 (wv0 (fz ((fz ((pkz (dOk zd6 zd7) (zd6 / zd7)) * zd7)) + (pkz (dOk zd6 zd7) (zd6 % zd7)))))], .bool (decide (fits ((fz ((pkz (dOk zd6 zd7) (zd6 / zd7)) * zd7)) + (pkz (dOk zd6 zd7) (zd6 % zd7)))))]) (T rfl rfl) rfl) ?_
                     refine lw_v (.bool (decide (fits ((fz ((pkz (dOk zd6 zd7) (zd6 / zd7)) * zd7)) + (pkz (dOk zd6 zd7) (zd6 % zd7)))))) (dv_extract (vs := #[.agg #[.int .u64 (wv3 (fz ((fz ((pkz (dOk zd6 zd7) (zd6 / zd7)) * zd7)) + (pkz (dOk zd6 zd7) (zd6 % zd7))))), .int .u64 (wv2 (fz ((fz ((pkz (dOk zd6 zd7) (zd6 / zd7)) * zd7)) + (pkz (dOk zd6 zd7) (zd6 % zd7))))), .int .u64 (wv1 (fz ((fz ((pkz (dOk zd6 zd7) (zd6 / zd7)) * zd7)) + (pkz (dOk zd6 zd7) (zd6 % zd7))))), .int .u64 (wv0 (fz ((fz ((pkz (dOk zd6 zd7) (zd6 / zd7)) * zd7)) + (pkz (dOk zd6 zd7) (zd6 % zd7)))))], .bool (decide (fits ((fz ((pkz (dOk zd6 zd7) (zd6 / zd7)) * zd7)) + (pkz (dOk zd6 zd7) (zd6 % zd7)))))]) (T rfl rfl) rfl) ?_
                     refine lw_e (oe_alloc ze26 ?_)
                     intro b150 w151 n152
                     have N153 : w.heap.size ≤ b150 := n152.eq ▸ E149.size
                     have H154 := (e148.blk H145)
                     have : b128 < b150 := n152.eq ▸ lt_of_blk H154
                     have E155 := below_ext E149 E149.size n152.ext
                     refine lw_e (oe_store (v := .agg #[.int .u64 (wv3 (fz ((fz ((pkz (dOk zd6 zd7) (zd6 / zd7)) * zd7)) + (pkz (dOk zd6 zd7) (zd6 % zd7))))), .int .u64 (wv2 (fz ((fz ((pkz (dOk zd6 zd7) (zd6 / zd7)) * zd7)) + (pkz (dOk zd6 zd7) (zd6 % zd7))))), .int .u64 (wv1 (fz ((fz ((pkz (dOk zd6 zd7) (zd6 / zd7)) * zd7)) + (pkz (dOk zd6 zd7) (zd6 % zd7))))), .int .u64 (wv0 (fz ((fz ((pkz (dOk zd6 zd7) (zd6 / zd7)) * zd7)) + (pkz (dOk zd6 zd7) (zd6 % zd7)))))]) (vs := [.int .u64 (wv3 (fz ((fz ((pkz (dOk zd6 zd7) (zd6 / zd7)) * zd7)) + (pkz (dOk zd6 zd7) (zd6 % zd7))))), .int .u64 (wv2 (fz ((fz ((pkz (dOk zd6 zd7) (zd6 / zd7)) * zd7)) + (pkz (dOk zd6 zd7) (zd6 % zd7))))), .int .u64 (wv1 (fz ((fz ((pkz (dOk zd6 zd7) (zd6 / zd7)) * zd7)) + (pkz (dOk zd6 zd7) (zd6 % zd7))))), .int .u64 (wv0 (fz ((fz ((pkz (dOk zd6 zd7) (zd6 / zd7)) * zd7)) + (pkz (dOk zd6 zd7) (zd6 % zd7)))))]) (l := [.int .u64 (wv3 (fz ((fz ((pkz (dOk zd6 zd7) (zd6 / zd7)) * zd7)) + (pkz (dOk zd6 zd7) (zd6 % zd7))))), .int .u64 (wv2 (fz ((fz ((pkz (dOk zd6 zd7) (zd6 / zd7)) * zd7)) + (pkz (dOk zd6 zd7) (zd6 % zd7))))), .int .u64 (wv1 (fz ((fz ((pkz (dOk zd6 zd7) (zd6 / zd7)) * zd7)) + (pkz (dOk zd6 zd7) (zd6 % zd7))))), .int .u64 (wv0 (fz ((fz ((pkz (dOk zd6 zd7) (zd6 / zd7)) * zd7)) + (pkz (dOk zd6 zd7) (zd6 % zd7)))))]) (T rfl rfl) (T rfl rfl) sz26 rfl rfl rfl n152.blk rfl ?_)
                     intro w156 s157 H158
                     have E159 := below_st E155 N153 s157
                     refine lw_v (.bool (decide (fits ((fz ((pkz (dOk zd6 zd7) (zd6 / zd7)) * zd7)) + (pkz (dOk zd6 zd7) (zd6 % zd7)))))) (dv_assign (T rfl rfl)) ?_
                     refine lw_nil ?_
                     refine rk_seq ?_
                     refine rk_reg ?_
                     refine lw_v (.bool (decide (fits ((fz ((pkz (dOk zd6 zd7) (zd6 / zd7)) * zd7)) + (pkz (dOk zd6 zd7) (zd6 % zd7)))))) (dv_move (T rfl rfl)) ?_
                     refine lw_v (.bool (decide (fits ((fz ((pkz (dOk zd6 zd7) (zd6 / zd7)) * zd7)) + (pkz (dOk zd6 zd7) (zd6 % zd7)))))) (dv_move (T rfl rfl)) ?_
                     by_cases hb160 : fits ((fz ((pkz (dOk zd6 zd7) (zd6 / zd7)) * zd7)) + (pkz (dOk zd6 zd7) (zd6 % zd7)))
                     · refine lw_vy (.agg #[.int .u64 (wv3 (fz ((fz ((pkz (dOk zd6 zd7) (zd6 / zd7)) * zd7)) + (pkz (dOk zd6 zd7) (zd6 % zd7))))), .int .u64 (wv2 (fz ((fz ((pkz (dOk zd6 zd7) (zd6 / zd7)) * zd7)) + (pkz (dOk zd6 zd7) (zd6 % zd7))))), .int .u64 (wv1 (fz ((fz ((pkz (dOk zd6 zd7) (zd6 / zd7)) * zd7)) + (pkz (dOk zd6 zd7) (zd6 % zd7))))), .int .u64 (wv0 (fz ((fz ((pkz (dOk zd6 zd7) (zd6 / zd7)) * zd7)) + (pkz (dOk zd6 zd7) (zd6 % zd7)))))]) (d := 115) rfl rfl (congrArg Value.bool (decide_eq_true hb160)) (dv_loads (l := [.int .u64 (wv3 (fz ((fz ((pkz (dOk zd6 zd7) (zd6 / zd7)) * zd7)) + (pkz (dOk zd6 zd7) (zd6 % zd7))))), .int .u64 (wv2 (fz ((fz ((pkz (dOk zd6 zd7) (zd6 / zd7)) * zd7)) + (pkz (dOk zd6 zd7) (zd6 % zd7))))), .int .u64 (wv1 (fz ((fz ((pkz (dOk zd6 zd7) (zd6 / zd7)) * zd7)) + (pkz (dOk zd6 zd7) (zd6 % zd7))))), .int .u64 (wv0 (fz ((fz ((pkz (dOk zd6 zd7) (zd6 / zd7)) * zd7)) + (pkz (dOk zd6 zd7) (zd6 % zd7)))))]) agt26 sz26 (T rfl rfl) H158 rfl) ?_
                       have H161 := (s157.blk (n152.ext.blk (e148.blk (e141.blk (s135.blk (n130.ext.blk (e126.blk (e121.blk (s116.blk (n111.ext.blk (e107.blk (e101.blk (e97.blk (s81.blk (s76.blk (n71.ext.blk (n65.ext.blk (e61.blk H58))) (by omega)) (by omega)))))) (by omega))))) (by omega))))) (by omega))
                       refine lw_vy (.agg #[.int .u64 (wv3 zd6), .int .u64 (wv2 zd6), .int .u64 (wv1 zd6), .int .u64 (wv0 zd6)]) (d := 115) rfl rfl (congrArg Value.bool (decide_eq_true hb160)) (dv_loads (l := [.int .u64 (wv3 zd6), .int .u64 (wv2 zd6), .int .u64 (wv1 zd6), .int .u64 (wv0 zd6)]) agt26 sz26 (T rfl rfl) H161 rfl) ?_
                       refine lw_vy (.bool (decide (([wv3 (fz ((fz ((pkz (dOk zd6 zd7) (zd6 / zd7)) * zd7)) + (pkz (dOk zd6 zd7) (zd6 % zd7)))), wv2 (fz ((fz ((pkz (dOk zd6 zd7) (zd6 / zd7)) * zd7)) + (pkz (dOk zd6 zd7) (zd6 % zd7)))), wv1 (fz ((fz ((pkz (dOk zd6 zd7) (zd6 / zd7)) * zd7)) + (pkz (dOk zd6 zd7) (zd6 % zd7)))), wv0 (fz ((fz ((pkz (dOk zd6 zd7) (zd6 / zd7)) * zd7)) + (pkz (dOk zd6 zd7) (zd6 % zd7))))] : List Int) = [wv3 zd6, wv2 zd6, wv1 zd6, wv0 zd6]))) (d := 115) rfl rfl (congrArg Value.bool (decide_eq_true hb160)) (dv_eqls (k := .u64) (la := [wv3 (fz ((fz ((pkz (dOk zd6 zd7) (zd6 / zd7)) * zd7)) + (pkz (dOk zd6 zd7) (zd6 % zd7)))), wv2 (fz ((fz ((pkz (dOk zd6 zd7) (zd6 / zd7)) * zd7)) + (pkz (dOk zd6 zd7) (zd6 % zd7)))), wv1 (fz ((fz ((pkz (dOk zd6 zd7) (zd6 / zd7)) * zd7)) + (pkz (dOk zd6 zd7) (zd6 % zd7)))), wv0 (fz ((fz ((pkz (dOk zd6 zd7) (zd6 / zd7)) * zd7)) + (pkz (dOk zd6 zd7) (zd6 % zd7))))]) (lb := [wv3 zd6, wv2 zd6, wv1 zd6, wv0 zd6]) fl26 eg26 (T rfl rfl) (T rfl rfl) rfl rfl) ?_
                       refine lw_v (.bool (decide (([wv3 (fz ((fz ((pkz (dOk zd6 zd7) (zd6 / zd7)) * zd7)) + (pkz (dOk zd6 zd7) (zd6 % zd7)))), wv2 (fz ((fz ((pkz (dOk zd6 zd7) (zd6 / zd7)) * zd7)) + (pkz (dOk zd6 zd7) (zd6 % zd7)))), wv1 (fz ((fz ((pkz (dOk zd6 zd7) (zd6 / zd7)) * zd7)) + (pkz (dOk zd6 zd7) (zd6 % zd7)))), wv0 (fz ((fz ((pkz (dOk zd6 zd7) (zd6 / zd7)) * zd7)) + (pkz (dOk zd6 zd7) (zd6 % zd7))))] : List Int) = [wv3 zd6, wv2 zd6, wv1 zd6, wv0 zd6]))) (dv_pick_t (T rfl (congrArg Value.bool (decide_eq_true hb160))) (T rfl rfl)) ?_
                       refine lw_v (.bool (decide (([wv3 (fz ((fz ((pkz (dOk zd6 zd7) (zd6 / zd7)) * zd7)) + (pkz (dOk zd6 zd7) (zd6 % zd7)))), wv2 (fz ((fz ((pkz (dOk zd6 zd7) (zd6 / zd7)) * zd7)) + (pkz (dOk zd6 zd7) (zd6 % zd7)))), wv1 (fz ((fz ((pkz (dOk zd6 zd7) (zd6 / zd7)) * zd7)) + (pkz (dOk zd6 zd7) (zd6 % zd7)))), wv0 (fz ((fz ((pkz (dOk zd6 zd7) (zd6 / zd7)) * zd7)) + (pkz (dOk zd6 zd7) (zd6 % zd7))))] : List Int) = [wv3 zd6, wv2 zd6, wv1 zd6, wv0 zd6]))) (dv_assign (T rfl rfl)) ?_
                       refine lw_nil ?_
                       refine rk_ret Try.func8 (v := .bool (decide (([wv3 (fz ((fz ((pkz (dOk zd6 zd7) (zd6 / zd7)) * zd7)) + (pkz (dOk zd6 zd7) (zd6 % zd7)))), wv2 (fz ((fz ((pkz (dOk zd6 zd7) (zd6 / zd7)) * zd7)) + (pkz (dOk zd6 zd7) (zd6 % zd7)))), wv1 (fz ((fz ((pkz (dOk zd6 zd7) (zd6 / zd7)) * zd7)) + (pkz (dOk zd6 zd7) (zd6 % zd7)))), wv0 (fz ((fz ((pkz (dOk zd6 zd7) (zd6 / zd7)) * zd7)) + (pkz (dOk zd6 zd7) (zd6 % zd7))))] : List Int) = [wv3 zd6, wv2 zd6, wv1 zd6, wv0 zd6]))) (res1 Try.results8 (rv_tmp rfl rfl)) ⟨_, rfl, ?_⟩
                       have p1 := cPa hz9 hb94
                       have p2 := fun hn => cPb hb94 hn
                       have p3 := fun hn => cPc hz9 hb94 hn
                       have p4 := fun hn => cPd hz8 hb94 hn
                       skip
                       exact ⟨(vbt (by first | assumption | omega | (exact p2 (by assumption)) | (exact (p3 (by assumption)).2) | (exact (p3 (by assumption)).1) | exact (wl_eq (fz_f _) hz8).2 (p4 (by assumption)).2)), E159⟩
                     · refine lw_no (d := 115) rfl rfl (congrArg Value.bool (decide_eq_false hb160)) ?_
                       refine lw_no (d := 115) rfl rfl (congrArg Value.bool (decide_eq_false hb160)) ?_
                       refine lw_no (d := 115) rfl rfl (congrArg Value.bool (decide_eq_false hb160)) ?_
                       refine lw_v (.bool false) (dv_pick_f (T rfl (congrArg Value.bool (decide_eq_false hb160))) C) ?_
                       refine lw_v (.bool false) (dv_assign (T rfl rfl)) ?_
                       refine lw_nil ?_
                       refine rk_ret Try.func8 (v := .bool false) (res1 Try.results8 (rv_tmp rfl rfl)) ⟨_, rfl, ?_⟩
                       have p1 := cPa hz9 hb94
                       have p2 := fun hn => cPb hb94 hn
                       have p3 := fun hn => cPc hz9 hb94 hn
                       have p4 := fun hn => cPd hz8 hb94 hn
                       skip
                       exact ⟨(by exfalso; first | (exact cB (by assumption)) | (exact absurd rfl (by assumption)) | (exact absurd (p3 (by assumption)).1 (by assumption)) | (exact absurd (p3 (by assumption)).2 (by assumption)) | (exact absurd (p2 (by assumption)) (by assumption)) | (exact absurd (p4 (by assumption)).1 (by assumption)) | omega), E159⟩
                   · refine rk_ct (T rfl (congrArg Value.bool (decide_eq_true hb144))) ?_
                     refine rk_seq ?_
                     refine rk_reg ?_
                     refine lw_v (.bool (decide (fits ((pkz (dOk zd6 zd7) (zd6 / zd7)) * zd7)))) (dv_move (T rfl rfl)) ?_
                     refine lw_v (.bool (decide (¬ (fits ((pkz (dOk zd6 zd7) (zd6 / zd7)) * zd7))))) (dv_notd (p := fits ((pkz (dOk zd6 zd7) (zd6 / zd7)) * zd7)) (T rfl rfl)) ?_
                     refine lw_v (.bool (decide (¬ (fits ((pkz (dOk zd6 zd7) (zd6 / zd7)) * zd7))))) (dv_move (T rfl rfl)) ?_
                     refine lw_no (d := 100) rfl rfl (congrArg Value.bool (decide_eq_false (not_not_intro hb138))) ?_
                     refine lw_no (d := 100) rfl rfl (congrArg Value.bool (decide_eq_false (not_not_intro hb138))) ?_
                     refine lw_no (d := 100) rfl rfl (congrArg Value.bool (decide_eq_false (not_not_intro hb138))) ?_
                     refine lw_v (.bool false) (dv_pick_f (T rfl (congrArg Value.bool (decide_eq_false (not_not_intro hb138)))) C) ?_
                     refine lw_v (.bool false) (dv_move (T rfl rfl)) ?_
                     refine lw_no (d := 105) rfl rfl (rfl) ?_
                     refine lw_v (.bool false) (dv_pick_f (T rfl rfl) C) ?_
                     refine lw_v (.bool false) (dv_assign (T rfl rfl)) ?_
                     refine lw_nil ?_
                     refine rk_ret Try.func8 (v := .bool false) (res1 Try.results8 (rv_tmp rfl rfl)) ⟨_, rfl, ?_⟩
                     have p1 := cPa hz9 hb94
                     have p2 := fun hn => cPb hb94 hn
                     have p3 := fun hn => cPc hz9 hb94 hn
                     have p4 := fun hn => cPd hz8 hb94 hn
                     skip
                     exact ⟨(by exfalso; first | (exact cB (by assumption)) | (exact absurd rfl (by assumption)) | (exact absurd (p3 (by assumption)).1 (by assumption)) | (exact absurd (p3 (by assumption)).2 (by assumption)) | (exact absurd (p2 (by assumption)) (by assumption)) | (exact absurd (p4 (by assumption)).1 (by assumption)) | omega), E142⟩
               · refine lw_no (d := 89) rfl rfl (congrArg Value.bool (decide_eq_true hb138)) ?_
                 refine lw_no (d := 89) rfl rfl (congrArg Value.bool (decide_eq_true hb138)) ?_
                 refine lw_no (d := 89) rfl rfl (congrArg Value.bool (decide_eq_true hb138)) ?_
                 refine lw_v (.bool true) (dv_pick_t (T rfl (congrArg Value.bool (decide_eq_true hb138))) C) ?_
                 refine lw_v (.bool true) (dv_move (T rfl rfl)) ?_
                 refine lw_no (d := 94) rfl rfl (rfl) ?_
                 refine lw_no (d := 94) rfl rfl (rfl) ?_
                 refine lw_v (.bool true) (dv_pick_t (T rfl rfl) C) ?_
                 refine lw_nil ?_
                 refine rk_ct (T rfl rfl) ?_
                 refine rk_seq ?_
                 refine rk_reg ?_
                 refine lw_v (.bool (decide (fits ((pkz (dOk zd6 zd7) (zd6 / zd7)) * zd7)))) (dv_move (T rfl rfl)) ?_
                 refine lw_v (.bool (decide (¬ (fits ((pkz (dOk zd6 zd7) (zd6 / zd7)) * zd7))))) (dv_notd (p := fits ((pkz (dOk zd6 zd7) (zd6 / zd7)) * zd7)) (T rfl rfl)) ?_
                 refine lw_v (.bool (decide (¬ (fits ((pkz (dOk zd6 zd7) (zd6 / zd7)) * zd7))))) (dv_move (T rfl rfl)) ?_
                 have H162 := (s135.blk (n130.ext.blk (e126.blk (e121.blk (s116.blk (n111.ext.blk (e107.blk H104)) (by omega))))) (by omega))
                 refine lw_vy (.agg #[.int .u64 (wv3 (pkz (dOk zd6 zd7) (zd6 % zd7))), .int .u64 (wv2 (pkz (dOk zd6 zd7) (zd6 % zd7))), .int .u64 (wv1 (pkz (dOk zd6 zd7) (zd6 % zd7))), .int .u64 (wv0 (pkz (dOk zd6 zd7) (zd6 % zd7)))]) (d := 100) rfl rfl (congrArg Value.bool (decide_eq_true hb138)) (dv_loads (l := [.int .u64 (wv3 (pkz (dOk zd6 zd7) (zd6 % zd7))), .int .u64 (wv2 (pkz (dOk zd6 zd7) (zd6 % zd7))), .int .u64 (wv1 (pkz (dOk zd6 zd7) (zd6 % zd7))), .int .u64 (wv0 (pkz (dOk zd6 zd7) (zd6 % zd7)))]) agt26 sz26 (T rfl rfl) H162 rfl) ?_
                 refine lw_ey (d := 100) rfl rfl (congrArg Value.bool (decide_eq_true hb138)) (oe_callf (vs := [.agg #[.int .u64 (wv3 (pkz (dOk zd6 zd7) (zd6 % zd7))), .int .u64 (wv2 (pkz (dOk zd6 zd7) (zd6 % zd7))), .int .u64 (wv1 (pkz (dOk zd6 zd7) (zd6 % zd7))), .int .u64 (wv0 (pkz (dOk zd6 zd7) (zd6 % zd7)))]]) co17 (ar1 (T rfl rfl)) (iWideSign_ok (x := pkz (dOk zd6 zd7) (zd6 % zd7)) (fits_pkz fun h => h.2.2) ) ?_)
                 rintro _ w163 ⟨rfl, e164⟩
                 have E165 := below_ext E137 E137.size e164
                 have := sgnI_rg (pkz (dOk zd6 zd7) (zd6 % zd7))
                 refine lw_vy (.bool (decide (0 ≤ (sgnI (pkz (dOk zd6 zd7) (zd6 % zd7)))))) (d := 100) rfl rfl (congrArg Value.bool (decide_eq_true hb138)) (dv_geq (a := sgnI (pkz (dOk zd6 zd7) (zd6 % zd7))) (b := 0) (T rfl rfl) C) ?_
                 refine lw_v (.bool (decide (0 ≤ (sgnI (pkz (dOk zd6 zd7) (zd6 % zd7)))))) (dv_pick_t (T rfl (congrArg Value.bool (decide_eq_true hb138))) (T rfl rfl)) ?_
                 refine lw_v (.bool (decide (0 ≤ (sgnI (pkz (dOk zd6 zd7) (zd6 % zd7)))))) (dv_move (T rfl rfl)) ?_
                 by_cases hb166 : 0 ≤ (sgnI (pkz (dOk zd6 zd7) (zd6 % zd7)))
                 · refine lw_vy (.bool (decide ((sgnI (fz ((pkz (dOk zd6 zd7) (zd6 % zd7)) + zd7))) < 0))) (d := 105) rfl rfl (congrArg Value.bool (decide_eq_true hb166)) (dv_move (T rfl rfl)) ?_
                   refine lw_v (.bool (decide ((sgnI (fz ((pkz (dOk zd6 zd7) (zd6 % zd7)) + zd7))) < 0))) (dv_pick_t (T rfl (congrArg Value.bool (decide_eq_true hb166))) (T rfl rfl)) ?_
                   refine lw_v (.bool (decide ((sgnI (fz ((pkz (dOk zd6 zd7) (zd6 % zd7)) + zd7))) < 0))) (dv_assign (T rfl rfl)) ?_
                   refine lw_nil ?_
                   refine rk_ret Try.func8 (v := .bool (decide ((sgnI (fz ((pkz (dOk zd6 zd7) (zd6 % zd7)) + zd7))) < 0))) (res1 Try.results8 (rv_tmp rfl rfl)) ⟨_, rfl, ?_⟩
                   have p1 := cPa hz9 hb94
                   have p2 := fun hn => cPb hb94 hn
                   have p3 := fun hn => cPc hz9 hb94 hn
                   have p4 := fun hn => cPd hz8 hb94 hn
                   skip
                   exact ⟨(vbt (by first | assumption | omega | (exact p2 (by assumption)) | (exact (p3 (by assumption)).2) | (exact (p3 (by assumption)).1) | exact (wl_eq (fz_f _) hz8).2 (p4 (by assumption)).2)), E165⟩
                 · refine lw_no (d := 105) rfl rfl (congrArg Value.bool (decide_eq_false hb166)) ?_
                   refine lw_v (.bool false) (dv_pick_f (T rfl (congrArg Value.bool (decide_eq_false hb166))) C) ?_
                   refine lw_v (.bool false) (dv_assign (T rfl rfl)) ?_
                   refine lw_nil ?_
                   refine rk_ret Try.func8 (v := .bool false) (res1 Try.results8 (rv_tmp rfl rfl)) ⟨_, rfl, ?_⟩
                   have p1 := cPa hz9 hb94
                   have p2 := fun hn => cPb hb94 hn
                   have p3 := fun hn => cPc hz9 hb94 hn
                   have p4 := fun hn => cPd hz8 hb94 hn
                   skip
                   exact ⟨(by exfalso; first | (exact cB (by assumption)) | (exact absurd rfl (by assumption)) | (exact absurd (p3 (by assumption)).1 (by assumption)) | (exact absurd (p3 (by assumption)).2 (by assumption)) | (exact absurd (p2 (by assumption)) (by assumption)) | (exact absurd (p4 (by assumption)).1 (by assumption)) | omega), E165⟩
             · refine lw_no (d := 76) rfl rfl (congrArg Value.bool (decide_eq_false hb119)) ?_
               refine lw_no (d := 76) rfl rfl (congrArg Value.bool (decide_eq_false hb119)) ?_
               refine lw_no (d := 76) rfl rfl (congrArg Value.bool (decide_eq_false hb119)) ?_
               refine lw_v (.bool false) (dv_pick_f (T rfl (congrArg Value.bool (decide_eq_false hb119))) C) ?_
               refine lw_v (.bool false) (dv_assign (T rfl rfl)) ?_
               refine lw_nil ?_
               refine rk_seq ?_
               refine rk_reg ?_
               have H167 := (s116.blk (n111.ext.blk (e107.blk (e101.blk (e97.blk H84)))) (by omega))
               refine lw_v (.agg #[.int .u64 (wv3 (pkz (dOk zd6 zd7) (zd6 / zd7))), .int .u64 (wv2 (pkz (dOk zd6 zd7) (zd6 / zd7))), .int .u64 (wv1 (pkz (dOk zd6 zd7) (zd6 / zd7))), .int .u64 (wv0 (pkz (dOk zd6 zd7) (zd6 / zd7)))]) (dv_loads (l := [.int .u64 (wv3 (pkz (dOk zd6 zd7) (zd6 / zd7))), .int .u64 (wv2 (pkz (dOk zd6 zd7) (zd6 / zd7))), .int .u64 (wv1 (pkz (dOk zd6 zd7) (zd6 / zd7))), .int .u64 (wv0 (pkz (dOk zd6 zd7) (zd6 / zd7)))]) agt26 sz26 (T rfl rfl) H167 rfl) ?_
               have H168 := (s116.blk (n111.ext.blk (e107.blk H105)) (by omega))
               refine lw_v (.agg #[.int .u64 (wv3 zd7), .int .u64 (wv2 zd7), .int .u64 (wv1 zd7), .int .u64 (wv0 zd7)]) (dv_loads (l := [.int .u64 (wv3 zd7), .int .u64 (wv2 zd7), .int .u64 (wv1 zd7), .int .u64 (wv0 zd7)]) agt26 sz26 (T rfl rfl) H168 rfl) ?_
               refine lw_e (oe_callf (vs := [.agg #[.int .u64 (wv3 (pkz (dOk zd6 zd7) (zd6 / zd7))), .int .u64 (wv2 (pkz (dOk zd6 zd7) (zd6 / zd7))), .int .u64 (wv1 (pkz (dOk zd6 zd7) (zd6 / zd7))), .int .u64 (wv0 (pkz (dOk zd6 zd7) (zd6 / zd7)))], .agg #[.int .u64 (wv3 zd7), .int .u64 (wv2 zd7), .int .u64 (wv1 zd7), .int .u64 (wv0 zd7)]]) co21 (ar2 (T rfl rfl) (T rfl rfl)) (iWideMul_ok (x := pkz (dOk zd6 zd7) (zd6 / zd7)) (y := zd7) (fits_pkz fun h => h.2.1) hz9 ) ?_)
               rintro _ w169 ⟨rfl, e170⟩
               have E171 := below_ext E118 E118.size e170
               refine lw_v (.tuple #[.agg #[.int .u64 (wv3 (fz ((pkz (dOk zd6 zd7) (zd6 / zd7)) * zd7))), .int .u64 (wv2 (fz ((pkz (dOk zd6 zd7) (zd6 / zd7)) * zd7))), .int .u64 (wv1 (fz ((pkz (dOk zd6 zd7) (zd6 / zd7)) * zd7))), .int .u64 (wv0 (fz ((pkz (dOk zd6 zd7) (zd6 / zd7)) * zd7)))], .bool (decide (fits ((pkz (dOk zd6 zd7) (zd6 / zd7)) * zd7)))]) (dv_move (T rfl rfl)) ?_
               refine lw_v (.agg #[.int .u64 (wv3 (fz ((pkz (dOk zd6 zd7) (zd6 / zd7)) * zd7))), .int .u64 (wv2 (fz ((pkz (dOk zd6 zd7) (zd6 / zd7)) * zd7))), .int .u64 (wv1 (fz ((pkz (dOk zd6 zd7) (zd6 / zd7)) * zd7))), .int .u64 (wv0 (fz ((pkz (dOk zd6 zd7) (zd6 / zd7)) * zd7)))]) (dv_extract (vs := #[.agg #[.int .u64 (wv3 (fz ((pkz (dOk zd6 zd7) (zd6 / zd7)) * zd7))), .int .u64 (wv2 (fz ((pkz (dOk zd6 zd7) (zd6 / zd7)) * zd7))), .int .u64 (wv1 (fz ((pkz (dOk zd6 zd7) (zd6 / zd7)) * zd7))), .int .u64 (wv0 (fz ((pkz (dOk zd6 zd7) (zd6 / zd7)) * zd7)))], .bool (decide (fits ((pkz (dOk zd6 zd7) (zd6 / zd7)) * zd7)))]) (T rfl rfl) rfl) ?_
               refine lw_v (.bool (decide (fits ((pkz (dOk zd6 zd7) (zd6 / zd7)) * zd7)))) (dv_extract (vs := #[.agg #[.int .u64 (wv3 (fz ((pkz (dOk zd6 zd7) (zd6 / zd7)) * zd7))), .int .u64 (wv2 (fz ((pkz (dOk zd6 zd7) (zd6 / zd7)) * zd7))), .int .u64 (wv1 (fz ((pkz (dOk zd6 zd7) (zd6 / zd7)) * zd7))), .int .u64 (wv0 (fz ((pkz (dOk zd6 zd7) (zd6 / zd7)) * zd7)))], .bool (decide (fits ((pkz (dOk zd6 zd7) (zd6 / zd7)) * zd7)))]) (T rfl rfl) rfl) ?_
               refine lw_e (oe_alloc ze26 ?_)
               intro b172 w173 n174
               have N175 : w.heap.size ≤ b172 := n174.eq ▸ E171.size
               have H176 := (e170.blk H117)
               have : b109 < b172 := n174.eq ▸ lt_of_blk H176
               have E177 := below_ext E171 E171.size n174.ext
               refine lw_e (oe_store (v := .agg #[.int .u64 (wv3 (fz ((pkz (dOk zd6 zd7) (zd6 / zd7)) * zd7))), .int .u64 (wv2 (fz ((pkz (dOk zd6 zd7) (zd6 / zd7)) * zd7))), .int .u64 (wv1 (fz ((pkz (dOk zd6 zd7) (zd6 / zd7)) * zd7))), .int .u64 (wv0 (fz ((pkz (dOk zd6 zd7) (zd6 / zd7)) * zd7)))]) (vs := [.int .u64 (wv3 (fz ((pkz (dOk zd6 zd7) (zd6 / zd7)) * zd7))), .int .u64 (wv2 (fz ((pkz (dOk zd6 zd7) (zd6 / zd7)) * zd7))), .int .u64 (wv1 (fz ((pkz (dOk zd6 zd7) (zd6 / zd7)) * zd7))), .int .u64 (wv0 (fz ((pkz (dOk zd6 zd7) (zd6 / zd7)) * zd7)))]) (l := [.int .u64 (wv3 (fz ((pkz (dOk zd6 zd7) (zd6 / zd7)) * zd7))), .int .u64 (wv2 (fz ((pkz (dOk zd6 zd7) (zd6 / zd7)) * zd7))), .int .u64 (wv1 (fz ((pkz (dOk zd6 zd7) (zd6 / zd7)) * zd7))), .int .u64 (wv0 (fz ((pkz (dOk zd6 zd7) (zd6 / zd7)) * zd7)))]) (T rfl rfl) (T rfl rfl) sz26 rfl rfl rfl n174.blk rfl ?_)
               intro w178 s179 H180
               have E181 := below_st E177 N175 s179
               refine lw_v (.bool (decide (fits ((pkz (dOk zd6 zd7) (zd6 / zd7)) * zd7)))) (dv_assign (T rfl rfl)) ?_
               refine lw_nil ?_
               refine rk_seq ?_
               refine rk_seq ?_
               refine rk_reg ?_
               refine lw_v (.bool (decide (fits ((pkz (dOk zd6 zd7) (zd6 / zd7)) * zd7)))) (dv_move (T rfl rfl)) ?_
               refine lw_v (.bool (decide (¬ (fits ((pkz (dOk zd6 zd7) (zd6 / zd7)) * zd7))))) (dv_notd (p := fits ((pkz (dOk zd6 zd7) (zd6 / zd7)) * zd7)) (T rfl rfl)) ?_
               refine lw_v (.bool (decide (¬ (fits ((pkz (dOk zd6 zd7) (zd6 / zd7)) * zd7))))) (dv_move (T rfl rfl)) ?_
               by_cases hb182 : fits ((pkz (dOk zd6 zd7) (zd6 / zd7)) * zd7)
               · have H183 := (s179.blk (n174.ext.blk (e170.blk (s116.blk (n111.ext.blk (e107.blk H104)) (by omega)))) (by omega))
                 refine lw_vy (.agg #[.int .u64 (wv3 (pkz (dOk zd6 zd7) (zd6 % zd7))), .int .u64 (wv2 (pkz (dOk zd6 zd7) (zd6 % zd7))), .int .u64 (wv1 (pkz (dOk zd6 zd7) (zd6 % zd7))), .int .u64 (wv0 (pkz (dOk zd6 zd7) (zd6 % zd7)))]) (d := 89) rfl rfl (congrArg Value.bool (decide_eq_false (not_not_intro hb182))) (dv_loads (l := [.int .u64 (wv3 (pkz (dOk zd6 zd7) (zd6 % zd7))), .int .u64 (wv2 (pkz (dOk zd6 zd7) (zd6 % zd7))), .int .u64 (wv1 (pkz (dOk zd6 zd7) (zd6 % zd7))), .int .u64 (wv0 (pkz (dOk zd6 zd7) (zd6 % zd7)))]) agt26 sz26 (T rfl rfl) H183 rfl) ?_
                 refine lw_ey (d := 89) rfl rfl (congrArg Value.bool (decide_eq_false (not_not_intro hb182))) (oe_callf (vs := [.agg #[.int .u64 (wv3 (pkz (dOk zd6 zd7) (zd6 % zd7))), .int .u64 (wv2 (pkz (dOk zd6 zd7) (zd6 % zd7))), .int .u64 (wv1 (pkz (dOk zd6 zd7) (zd6 % zd7))), .int .u64 (wv0 (pkz (dOk zd6 zd7) (zd6 % zd7)))]]) co17 (ar1 (T rfl rfl)) (iWideSign_ok (x := pkz (dOk zd6 zd7) (zd6 % zd7)) (fits_pkz fun h => h.2.2) ) ?_)
                 rintro _ w184 ⟨rfl, e185⟩
                 have E186 := below_ext E181 E181.size e185
                 have := sgnI_rg (pkz (dOk zd6 zd7) (zd6 % zd7))
                 refine lw_vy (.bool (decide ((sgnI (pkz (dOk zd6 zd7) (zd6 % zd7))) < 0))) (d := 89) rfl rfl (congrArg Value.bool (decide_eq_false (not_not_intro hb182))) (dv_lss (a := sgnI (pkz (dOk zd6 zd7) (zd6 % zd7))) (b := 0) (T rfl rfl) C) ?_
                 refine lw_v (.bool (decide ((sgnI (pkz (dOk zd6 zd7) (zd6 % zd7))) < 0))) (dv_pick_f (T rfl (congrArg Value.bool (decide_eq_false (not_not_intro hb182)))) (T rfl rfl)) ?_
                 refine lw_v (.bool (decide ((sgnI (pkz (dOk zd6 zd7) (zd6 % zd7))) < 0))) (dv_move (T rfl rfl)) ?_
                 by_cases hb187 : (sgnI (pkz (dOk zd6 zd7) (zd6 % zd7))) < 0
                 · refine lw_no (d := 94) rfl rfl (congrArg Value.bool (decide_eq_true hb187)) ?_
                   refine lw_no (d := 94) rfl rfl (congrArg Value.bool (decide_eq_true hb187)) ?_
                   refine lw_v (.bool true) (dv_pick_t (T rfl (congrArg Value.bool (decide_eq_true hb187))) C) ?_
                   refine lw_nil ?_
                   refine rk_ct (T rfl rfl) ?_
                   refine rk_seq ?_
                   refine rk_reg ?_
                   refine lw_v (.bool (decide (fits ((pkz (dOk zd6 zd7) (zd6 / zd7)) * zd7)))) (dv_move (T rfl rfl)) ?_
                   refine lw_v (.bool (decide (¬ (fits ((pkz (dOk zd6 zd7) (zd6 / zd7)) * zd7))))) (dv_notd (p := fits ((pkz (dOk zd6 zd7) (zd6 / zd7)) * zd7)) (T rfl rfl)) ?_
                   refine lw_v (.bool (decide (¬ (fits ((pkz (dOk zd6 zd7) (zd6 / zd7)) * zd7))))) (dv_move (T rfl rfl)) ?_
                   refine lw_no (d := 100) rfl rfl (congrArg Value.bool (decide_eq_false (not_not_intro hb182))) ?_
                   refine lw_no (d := 100) rfl rfl (congrArg Value.bool (decide_eq_false (not_not_intro hb182))) ?_
                   refine lw_no (d := 100) rfl rfl (congrArg Value.bool (decide_eq_false (not_not_intro hb182))) ?_
                   refine lw_v (.bool false) (dv_pick_f (T rfl (congrArg Value.bool (decide_eq_false (not_not_intro hb182)))) C) ?_
                   refine lw_v (.bool false) (dv_move (T rfl rfl)) ?_
                   refine lw_no (d := 105) rfl rfl (rfl) ?_
                   refine lw_v (.bool false) (dv_pick_f (T rfl rfl) C) ?_
                   refine lw_v (.bool false) (dv_assign (T rfl rfl)) ?_
                   refine lw_nil ?_
                   refine rk_ret Try.func8 (v := .bool false) (res1 Try.results8 (rv_tmp rfl rfl)) ⟨_, rfl, ?_⟩
                   have p1 := cPa hz9 hb94
                   have p2 := fun hn => cPb hb94 hn
                   have p3 := fun hn => cPc hz9 hb94 hn
                   have p4 := fun hn => cPd hz8 hb94 hn
                   skip
                   exact ⟨(by exfalso; first | (exact cB (by assumption)) | (exact absurd rfl (by assumption)) | (exact absurd (p3 (by assumption)).1 (by assumption)) | (exact absurd (p3 (by assumption)).2 (by assumption)) | (exact absurd (p2 (by assumption)) (by assumption)) | (exact absurd (p4 (by assumption)).1 (by assumption)) | omega), E186⟩
                 · refine lw_vy (.bool false) (d := 94) rfl rfl (congrArg Value.bool (decide_eq_false hb187)) (dv_move (T rfl rfl)) ?_
                   refine lw_vy (.bool true) (d := 94) rfl rfl (congrArg Value.bool (decide_eq_false hb187)) (dv_not (b := false) (T rfl rfl)) ?_
                   refine lw_v (.bool true) (dv_pick_f (T rfl (congrArg Value.bool (decide_eq_false hb187))) (T rfl rfl)) ?_
                   refine lw_nil ?_
                   refine rk_ct (T rfl rfl) ?_
                   refine rk_seq ?_
                   refine rk_reg ?_
                   refine lw_v (.bool (decide (fits ((pkz (dOk zd6 zd7) (zd6 / zd7)) * zd7)))) (dv_move (T rfl rfl)) ?_
                   refine lw_v (.bool (decide (¬ (fits ((pkz (dOk zd6 zd7) (zd6 / zd7)) * zd7))))) (dv_notd (p := fits ((pkz (dOk zd6 zd7) (zd6 / zd7)) * zd7)) (T rfl rfl)) ?_
                   refine lw_v (.bool (decide (¬ (fits ((pkz (dOk zd6 zd7) (zd6 / zd7)) * zd7))))) (dv_move (T rfl rfl)) ?_
                   refine lw_no (d := 100) rfl rfl (congrArg Value.bool (decide_eq_false (not_not_intro hb182))) ?_
                   refine lw_no (d := 100) rfl rfl (congrArg Value.bool (decide_eq_false (not_not_intro hb182))) ?_
                   refine lw_no (d := 100) rfl rfl (congrArg Value.bool (decide_eq_false (not_not_intro hb182))) ?_
                   refine lw_v (.bool false) (dv_pick_f (T rfl (congrArg Value.bool (decide_eq_false (not_not_intro hb182)))) C) ?_
                   refine lw_v (.bool false) (dv_move (T rfl rfl)) ?_
                   refine lw_no (d := 105) rfl rfl (rfl) ?_
                   refine lw_v (.bool false) (dv_pick_f (T rfl rfl) C) ?_
                   refine lw_v (.bool false) (dv_assign (T rfl rfl)) ?_
                   refine lw_nil ?_
                   refine rk_ret Try.func8 (v := .bool false) (res1 Try.results8 (rv_tmp rfl rfl)) ⟨_, rfl, ?_⟩
                   have p1 := cPa hz9 hb94
                   have p2 := fun hn => cPb hb94 hn
                   have p3 := fun hn => cPc hz9 hb94 hn
                   have p4 := fun hn => cPd hz8 hb94 hn
                   skip
                   exact ⟨(by exfalso; first | (exact cB (by assumption)) | (exact absurd rfl (by assumption)) | (exact absurd (p3 (by assumption)).1 (by assumption)) | (exact absurd (p3 (by assumption)).2 (by assumption)) | (exact absurd (p2 (by assumption)) (by assumption)) | (exact absurd (p4 (by assumption)).1 (by assumption)) | omega), E186⟩
               · refine lw_no (d := 89) rfl rfl (congrArg Value.bool (decide_eq_true hb182)) ?_
                 refine lw_no (d := 89) rfl rfl (congrArg Value.bool (decide_eq_true hb182)) ?_
                 refine lw_no (d := 89) rfl rfl (congrArg Value.bool (decide_eq_true hb182)) ?_
                 refine lw_v (.bool true) (dv_pick_t (T rfl (congrArg Value.bool (decide_eq_true hb182))) C) ?_
                 refine lw_v (.bool true) (dv_move (T rfl rfl)) ?_
                 refine lw_no (d := 94) rfl rfl (rfl) ?_
                 refine lw_no (d := 94) rfl rfl (rfl) ?_
                 refine lw_v (.bool true) (dv_pick_t (T rfl rfl) C) ?_
                 refine lw_nil ?_
                 refine rk_ct (T rfl rfl) ?_
                 refine rk_seq ?_
                 refine rk_reg ?_
                 refine lw_v (.bool (decide (fits ((pkz (dOk zd6 zd7) (zd6 / zd7)) * zd7)))) (dv_move (T rfl rfl)) ?_
                 refine lw_v (.bool (decide (¬ (fits ((pkz (dOk zd6 zd7) (zd6 / zd7)) * zd7))))) (dv_notd (p := fits ((pkz (dOk zd6 zd7) (zd6 / zd7)) * zd7)) (T rfl rfl)) ?_
                 refine lw_v (.bool (decide (¬ (fits ((pkz (dOk zd6 zd7) (zd6 / zd7)) * zd7))))) (dv_move (T rfl rfl)) ?_
                 have H188 := (s179.blk (n174.ext.blk (e170.blk (s116.blk (n111.ext.blk (e107.blk H104)) (by omega)))) (by omega))
                 refine lw_vy (.agg #[.int .u64 (wv3 (pkz (dOk zd6 zd7) (zd6 % zd7))), .int .u64 (wv2 (pkz (dOk zd6 zd7) (zd6 % zd7))), .int .u64 (wv1 (pkz (dOk zd6 zd7) (zd6 % zd7))), .int .u64 (wv0 (pkz (dOk zd6 zd7) (zd6 % zd7)))]) (d := 100) rfl rfl (congrArg Value.bool (decide_eq_true hb182)) (dv_loads (l := [.int .u64 (wv3 (pkz (dOk zd6 zd7) (zd6 % zd7))), .int .u64 (wv2 (pkz (dOk zd6 zd7) (zd6 % zd7))), .int .u64 (wv1 (pkz (dOk zd6 zd7) (zd6 % zd7))), .int .u64 (wv0 (pkz (dOk zd6 zd7) (zd6 % zd7)))]) agt26 sz26 (T rfl rfl) H188 rfl) ?_
                 refine lw_ey (d := 100) rfl rfl (congrArg Value.bool (decide_eq_true hb182)) (oe_callf (vs := [.agg #[.int .u64 (wv3 (pkz (dOk zd6 zd7) (zd6 % zd7))), .int .u64 (wv2 (pkz (dOk zd6 zd7) (zd6 % zd7))), .int .u64 (wv1 (pkz (dOk zd6 zd7) (zd6 % zd7))), .int .u64 (wv0 (pkz (dOk zd6 zd7) (zd6 % zd7)))]]) co17 (ar1 (T rfl rfl)) (iWideSign_ok (x := pkz (dOk zd6 zd7) (zd6 % zd7)) (fits_pkz fun h => h.2.2) ) ?_)
                 rintro _ w189 ⟨rfl, e190⟩
                 have E191 := below_ext E181 E181.size e190
                 have := sgnI_rg (pkz (dOk zd6 zd7) (zd6 % zd7))
                 refine lw_vy (.bool (decide (0 ≤ (sgnI (pkz (dOk zd6 zd7) (zd6 % zd7)))))) (d := 100) rfl rfl (congrArg Value.bool (decide_eq_true hb182)) (dv_geq (a := sgnI (pkz (dOk zd6 zd7) (zd6 % zd7))) (b := 0) (T rfl rfl) C) ?_
                 refine lw_v (.bool (decide (0 ≤ (sgnI (pkz (dOk zd6 zd7) (zd6 % zd7)))))) (dv_pick_t (T rfl (congrArg Value.bool (decide_eq_true hb182))) (T rfl rfl)) ?_
                 refine lw_v (.bool (decide (0 ≤ (sgnI (pkz (dOk zd6 zd7) (zd6 % zd7)))))) (dv_move (T rfl rfl)) ?_
                 by_cases hb192 : 0 ≤ (sgnI (pkz (dOk zd6 zd7) (zd6 % zd7)))
                 · refine lw_vy (.bool false) (d := 105) rfl rfl (congrArg Value.bool (decide_eq_true hb192)) (dv_move (T rfl rfl)) ?_
                   refine lw_v (.bool false) (dv_pick_t (T rfl (congrArg Value.bool (decide_eq_true hb192))) (T rfl rfl)) ?_
                   refine lw_v (.bool false) (dv_assign (T rfl rfl)) ?_
                   refine lw_nil ?_
                   refine rk_ret Try.func8 (v := .bool false) (res1 Try.results8 (rv_tmp rfl rfl)) ⟨_, rfl, ?_⟩
                   have p1 := cPa hz9 hb94
                   have p2 := fun hn => cPb hb94 hn
                   have p3 := fun hn => cPc hz9 hb94 hn
                   have p4 := fun hn => cPd hz8 hb94 hn
                   skip
                   exact ⟨(by exfalso; first | (exact cB (by assumption)) | (exact absurd rfl (by assumption)) | (exact absurd (p3 (by assumption)).1 (by assumption)) | (exact absurd (p3 (by assumption)).2 (by assumption)) | (exact absurd (p2 (by assumption)) (by assumption)) | (exact absurd (p4 (by assumption)).1 (by assumption)) | omega), E191⟩
                 · refine lw_no (d := 105) rfl rfl (congrArg Value.bool (decide_eq_false hb192)) ?_
                   refine lw_v (.bool false) (dv_pick_f (T rfl (congrArg Value.bool (decide_eq_false hb192))) C) ?_
                   refine lw_v (.bool false) (dv_assign (T rfl rfl)) ?_
                   refine lw_nil ?_
                   refine rk_ret Try.func8 (v := .bool false) (res1 Try.results8 (rv_tmp rfl rfl)) ⟨_, rfl, ?_⟩
                   have p1 := cPa hz9 hb94
                   have p2 := fun hn => cPb hb94 hn
                   have p3 := fun hn => cPc hz9 hb94 hn
                   have p4 := fun hn => cPd hz8 hb94 hn
                   skip
                   exact ⟨(by exfalso; first | (exact cB (by assumption)) | (exact absurd rfl (by assumption)) | (exact absurd (p3 (by assumption)).1 (by assumption)) | (exact absurd (p3 (by assumption)).2 (by assumption)) | (exact absurd (p2 (by assumption)) (by assumption)) | (exact absurd (p4 (by assumption)).1 (by assumption)) | omega), E191⟩
           · refine rk_cf (T rfl (congrArg Value.bool (decide_eq_false hb103))) ?_
             refine rk_skip ?_
             refine rk_seq ?_
             refine rk_reg ?_
             have H193 := (e101.blk (e97.blk H84))
             refine lw_v (.agg #[.int .u64 (wv3 (pkz (dOk zd6 zd7) (zd6 / zd7))), .int .u64 (wv2 (pkz (dOk zd6 zd7) (zd6 / zd7))), .int .u64 (wv1 (pkz (dOk zd6 zd7) (zd6 / zd7))), .int .u64 (wv0 (pkz (dOk zd6 zd7) (zd6 / zd7)))]) (dv_loads (l := [.int .u64 (wv3 (pkz (dOk zd6 zd7) (zd6 / zd7))), .int .u64 (wv2 (pkz (dOk zd6 zd7) (zd6 / zd7))), .int .u64 (wv1 (pkz (dOk zd6 zd7) (zd6 / zd7))), .int .u64 (wv0 (pkz (dOk zd6 zd7) (zd6 / zd7)))]) agt26 sz26 (T rfl rfl) H193 rfl) ?_
             have H194 := (e101.blk H99)
             refine lw_v (.agg #[.int .u64 (wv3 zd7), .int .u64 (wv2 zd7), .int .u64 (wv1 zd7), .int .u64 (wv0 zd7)]) (dv_loads (l := [.int .u64 (wv3 zd7), .int .u64 (wv2 zd7), .int .u64 (wv1 zd7), .int .u64 (wv0 zd7)]) agt26 sz26 (T rfl rfl) H194 rfl) ?_
             refine lw_e (oe_callf (vs := [.agg #[.int .u64 (wv3 (pkz (dOk zd6 zd7) (zd6 / zd7))), .int .u64 (wv2 (pkz (dOk zd6 zd7) (zd6 / zd7))), .int .u64 (wv1 (pkz (dOk zd6 zd7) (zd6 / zd7))), .int .u64 (wv0 (pkz (dOk zd6 zd7) (zd6 / zd7)))], .agg #[.int .u64 (wv3 zd7), .int .u64 (wv2 zd7), .int .u64 (wv1 zd7), .int .u64 (wv0 zd7)]]) co21 (ar2 (T rfl rfl) (T rfl rfl)) (iWideMul_ok (x := pkz (dOk zd6 zd7) (zd6 / zd7)) (y := zd7) (fits_pkz fun h => h.2.1) hz9 ) ?_)
             rintro _ w195 ⟨rfl, e196⟩
             have E197 := below_ext E102 E102.size e196
             refine lw_v (.tuple #[.agg #[.int .u64 (wv3 (fz ((pkz (dOk zd6 zd7) (zd6 / zd7)) * zd7))), .int .u64 (wv2 (fz ((pkz (dOk zd6 zd7) (zd6 / zd7)) * zd7))), .int .u64 (wv1 (fz ((pkz (dOk zd6 zd7) (zd6 / zd7)) * zd7))), .int .u64 (wv0 (fz ((pkz (dOk zd6 zd7) (zd6 / zd7)) * zd7)))], .bool (decide (fits ((pkz (dOk zd6 zd7) (zd6 / zd7)) * zd7)))]) (dv_move (T rfl rfl)) ?_
             refine lw_v (.agg #[.int .u64 (wv3 (fz ((pkz (dOk zd6 zd7) (zd6 / zd7)) * zd7))), .int .u64 (wv2 (fz ((pkz (dOk zd6 zd7) (zd6 / zd7)) * zd7))), .int .u64 (wv1 (fz ((pkz (dOk zd6 zd7) (zd6 / zd7)) * zd7))), .int .u64 (wv0 (fz ((pkz (dOk zd6 zd7) (zd6 / zd7)) * zd7)))]) (dv_extract (vs := #[.agg #[.int .u64 (wv3 (fz ((pkz (dOk zd6 zd7) (zd6 / zd7)) * zd7))), .int .u64 (wv2 (fz ((pkz (dOk zd6 zd7) (zd6 / zd7)) * zd7))), .int .u64 (wv1 (fz ((pkz (dOk zd6 zd7) (zd6 / zd7)) * zd7))), .int .u64 (wv0 (fz ((pkz (dOk zd6 zd7) (zd6 / zd7)) * zd7)))], .bool (decide (fits ((pkz (dOk zd6 zd7) (zd6 / zd7)) * zd7)))]) (T rfl rfl) rfl) ?_
             refine lw_v (.bool (decide (fits ((pkz (dOk zd6 zd7) (zd6 / zd7)) * zd7)))) (dv_extract (vs := #[.agg #[.int .u64 (wv3 (fz ((pkz (dOk zd6 zd7) (zd6 / zd7)) * zd7))), .int .u64 (wv2 (fz ((pkz (dOk zd6 zd7) (zd6 / zd7)) * zd7))), .int .u64 (wv1 (fz ((pkz (dOk zd6 zd7) (zd6 / zd7)) * zd7))), .int .u64 (wv0 (fz ((pkz (dOk zd6 zd7) (zd6 / zd7)) * zd7)))], .bool (decide (fits ((pkz (dOk zd6 zd7) (zd6 / zd7)) * zd7)))]) (T rfl rfl) rfl) ?_
             refine lw_e (oe_alloc ze26 ?_)
             intro b198 w199 n200
             have N201 : w.heap.size ≤ b198 := n200.eq ▸ E197.size
             have H202 := (e196.blk (e101.blk (e97.blk H82)))
             have : b69 < b198 := n200.eq ▸ lt_of_blk H202
             have E203 := below_ext E197 E197.size n200.ext
             refine lw_e (oe_store (v := .agg #[.int .u64 (wv3 (fz ((pkz (dOk zd6 zd7) (zd6 / zd7)) * zd7))), .int .u64 (wv2 (fz ((pkz (dOk zd6 zd7) (zd6 / zd7)) * zd7))), .int .u64 (wv1 (fz ((pkz (dOk zd6 zd7) (zd6 / zd7)) * zd7))), .int .u64 (wv0 (fz ((pkz (dOk zd6 zd7) (zd6 / zd7)) * zd7)))]) (vs := [.int .u64 (wv3 (fz ((pkz (dOk zd6 zd7) (zd6 / zd7)) * zd7))), .int .u64 (wv2 (fz ((pkz (dOk zd6 zd7) (zd6 / zd7)) * zd7))), .int .u64 (wv1 (fz ((pkz (dOk zd6 zd7) (zd6 / zd7)) * zd7))), .int .u64 (wv0 (fz ((pkz (dOk zd6 zd7) (zd6 / zd7)) * zd7)))]) (l := [.int .u64 (wv3 (fz ((pkz (dOk zd6 zd7) (zd6 / zd7)) * zd7))), .int .u64 (wv2 (fz ((pkz (dOk zd6 zd7) (zd6 / zd7)) * zd7))), .int .u64 (wv1 (fz ((pkz (dOk zd6 zd7) (zd6 / zd7)) * zd7))), .int .u64 (wv0 (fz ((pkz (dOk zd6 zd7) (zd6 / zd7)) * zd7)))]) (T rfl rfl) (T rfl rfl) sz26 rfl rfl rfl n200.blk rfl ?_)
             intro w204 s205 H206
             have E207 := below_st E203 N201 s205
             refine lw_v (.bool (decide (fits ((pkz (dOk zd6 zd7) (zd6 / zd7)) * zd7)))) (dv_assign (T rfl rfl)) ?_
             refine lw_nil ?_
             refine rk_seq ?_
             refine rk_seq ?_
             refine rk_reg ?_
             refine lw_v (.bool (decide (fits ((pkz (dOk zd6 zd7) (zd6 / zd7)) * zd7)))) (dv_move (T rfl rfl)) ?_
             refine lw_v (.bool (decide (¬ (fits ((pkz (dOk zd6 zd7) (zd6 / zd7)) * zd7))))) (dv_notd (p := fits ((pkz (dOk zd6 zd7) (zd6 / zd7)) * zd7)) (T rfl rfl)) ?_
             refine lw_v (.bool (decide (¬ (fits ((pkz (dOk zd6 zd7) (zd6 / zd7)) * zd7))))) (dv_move (T rfl rfl)) ?_
             by_cases hb208 : fits ((pkz (dOk zd6 zd7) (zd6 / zd7)) * zd7)
             · have H209 := (s205.blk (n200.ext.blk (e196.blk (e101.blk (e97.blk H89)))) (by omega))
               refine lw_vy (.agg #[.int .u64 (wv3 (pkz (dOk zd6 zd7) (zd6 % zd7))), .int .u64 (wv2 (pkz (dOk zd6 zd7) (zd6 % zd7))), .int .u64 (wv1 (pkz (dOk zd6 zd7) (zd6 % zd7))), .int .u64 (wv0 (pkz (dOk zd6 zd7) (zd6 % zd7)))]) (d := 89) rfl rfl (congrArg Value.bool (decide_eq_false (not_not_intro hb208))) (dv_loads (l := [.int .u64 (wv3 (pkz (dOk zd6 zd7) (zd6 % zd7))), .int .u64 (wv2 (pkz (dOk zd6 zd7) (zd6 % zd7))), .int .u64 (wv1 (pkz (dOk zd6 zd7) (zd6 % zd7))), .int .u64 (wv0 (pkz (dOk zd6 zd7) (zd6 % zd7)))]) agt26 sz26 (T rfl rfl) H209 rfl) ?_
               refine lw_ey (d := 89) rfl rfl (congrArg Value.bool (decide_eq_false (not_not_intro hb208))) (oe_callf (vs := [.agg #[.int .u64 (wv3 (pkz (dOk zd6 zd7) (zd6 % zd7))), .int .u64 (wv2 (pkz (dOk zd6 zd7) (zd6 % zd7))), .int .u64 (wv1 (pkz (dOk zd6 zd7) (zd6 % zd7))), .int .u64 (wv0 (pkz (dOk zd6 zd7) (zd6 % zd7)))]]) co17 (ar1 (T rfl rfl)) (iWideSign_ok (x := pkz (dOk zd6 zd7) (zd6 % zd7)) (fits_pkz fun h => h.2.2) ) ?_)
               rintro _ w210 ⟨rfl, e211⟩
               have E212 := below_ext E207 E207.size e211
               have := sgnI_rg (pkz (dOk zd6 zd7) (zd6 % zd7))
               refine lw_vy (.bool (decide ((sgnI (pkz (dOk zd6 zd7) (zd6 % zd7))) < 0))) (d := 89) rfl rfl (congrArg Value.bool (decide_eq_false (not_not_intro hb208))) (dv_lss (a := sgnI (pkz (dOk zd6 zd7) (zd6 % zd7))) (b := 0) (T rfl rfl) C) ?_
               refine lw_v (.bool (decide ((sgnI (pkz (dOk zd6 zd7) (zd6 % zd7))) < 0))) (dv_pick_f (T rfl (congrArg Value.bool (decide_eq_false (not_not_intro hb208)))) (T rfl rfl)) ?_
               refine lw_v (.bool (decide ((sgnI (pkz (dOk zd6 zd7) (zd6 % zd7))) < 0))) (dv_move (T rfl rfl)) ?_
               by_cases hb213 : (sgnI (pkz (dOk zd6 zd7) (zd6 % zd7))) < 0
               · refine lw_no (d := 94) rfl rfl (congrArg Value.bool (decide_eq_true hb213)) ?_
                 refine lw_no (d := 94) rfl rfl (congrArg Value.bool (decide_eq_true hb213)) ?_
                 refine lw_v (.bool true) (dv_pick_t (T rfl (congrArg Value.bool (decide_eq_true hb213))) C) ?_
                 refine lw_nil ?_
                 refine rk_ct (T rfl rfl) ?_
                 refine rk_seq ?_
                 refine rk_reg ?_
                 refine lw_v (.bool (decide (fits ((pkz (dOk zd6 zd7) (zd6 / zd7)) * zd7)))) (dv_move (T rfl rfl)) ?_
                 refine lw_v (.bool (decide (¬ (fits ((pkz (dOk zd6 zd7) (zd6 / zd7)) * zd7))))) (dv_notd (p := fits ((pkz (dOk zd6 zd7) (zd6 / zd7)) * zd7)) (T rfl rfl)) ?_
                 refine lw_v (.bool (decide (¬ (fits ((pkz (dOk zd6 zd7) (zd6 / zd7)) * zd7))))) (dv_move (T rfl rfl)) ?_
                 refine lw_no (d := 100) rfl rfl (congrArg Value.bool (decide_eq_false (not_not_intro hb208))) ?_
                 refine lw_no (d := 100) rfl rfl (congrArg Value.bool (decide_eq_false (not_not_intro hb208))) ?_
                 refine lw_no (d := 100) rfl rfl (congrArg Value.bool (decide_eq_false (not_not_intro hb208))) ?_
                 refine lw_v (.bool false) (dv_pick_f (T rfl (congrArg Value.bool (decide_eq_false (not_not_intro hb208)))) C) ?_
                 refine lw_v (.bool false) (dv_move (T rfl rfl)) ?_
                 refine lw_no (d := 105) rfl rfl (rfl) ?_
                 refine lw_v (.bool false) (dv_pick_f (T rfl rfl) C) ?_
                 refine lw_v (.bool false) (dv_assign (T rfl rfl)) ?_
                 refine lw_nil ?_
                 refine rk_ret Try.func8 (v := .bool false) (res1 Try.results8 (rv_tmp rfl rfl)) ⟨_, rfl, ?_⟩
                 have p1 := cPa hz9 hb94
                 have p2 := fun hn => cPb hb94 hn
                 have p3 := fun hn => cPc hz9 hb94 hn
                 have p4 := fun hn => cPd hz8 hb94 hn
                 skip
                 exact ⟨(by exfalso; first | (exact cB (by assumption)) | (exact absurd rfl (by assumption)) | (exact absurd (p3 (by assumption)).1 (by assumption)) | (exact absurd (p3 (by assumption)).2 (by assumption)) | (exact absurd (p2 (by assumption)) (by assumption)) | (exact absurd (p4 (by assumption)).1 (by assumption)) | omega), E212⟩
               · refine lw_vy (.bool (decide ((sgnI ((pkz (dOk zd6 zd7) (zd6 % zd7)) - zd7)) < 0))) (d := 94) rfl rfl (congrArg Value.bool (decide_eq_false hb213)) (dv_move (T rfl rfl)) ?_
                 refine lw_vy (.bool (decide (¬ ((sgnI ((pkz (dOk zd6 zd7) (zd6 % zd7)) - zd7)) < 0)))) (d := 94) rfl rfl (congrArg Value.bool (decide_eq_false hb213)) (dv_notd (p := (sgnI ((pkz (dOk zd6 zd7) (zd6 % zd7)) - zd7)) < 0) (T rfl rfl)) ?_
                 refine lw_v (.bool (decide (¬ ((sgnI ((pkz (dOk zd6 zd7) (zd6 % zd7)) - zd7)) < 0)))) (dv_pick_f (T rfl (congrArg Value.bool (decide_eq_false hb213))) (T rfl rfl)) ?_
                 refine lw_nil ?_
                 by_cases hb214 : (sgnI ((pkz (dOk zd6 zd7) (zd6 % zd7)) - zd7)) < 0
                 · refine rk_cf (T rfl (congrArg Value.bool (decide_eq_false (not_not_intro hb214)))) ?_
                   refine rk_skip ?_
                   refine rk_seq ?_
                   refine rk_reg ?_
                   have H215 := (e211.blk H206)
                   refine lw_v (.agg #[.int .u64 (wv3 (fz ((pkz (dOk zd6 zd7) (zd6 / zd7)) * zd7))), .int .u64 (wv2 (fz ((pkz (dOk zd6 zd7) (zd6 / zd7)) * zd7))), .int .u64 (wv1 (fz ((pkz (dOk zd6 zd7) (zd6 / zd7)) * zd7))), .int .u64 (wv0 (fz ((pkz (dOk zd6 zd7) (zd6 / zd7)) * zd7)))]) (dv_loads (l := [.int .u64 (wv3 (fz ((pkz (dOk zd6 zd7) (zd6 / zd7)) * zd7))), .int .u64 (wv2 (fz ((pkz (dOk zd6 zd7) (zd6 / zd7)) * zd7))), .int .u64 (wv1 (fz ((pkz (dOk zd6 zd7) (zd6 / zd7)) * zd7))), .int .u64 (wv0 (fz ((pkz (dOk zd6 zd7) (zd6 / zd7)) * zd7)))]) agt26 sz26 (T rfl rfl) H215 rfl) ?_
                   have H216 := (e211.blk H209)
                   refine lw_v (.agg #[.int .u64 (wv3 (pkz (dOk zd6 zd7) (zd6 % zd7))), .int .u64 (wv2 (pkz (dOk zd6 zd7) (zd6 % zd7))), .int .u64 (wv1 (pkz (dOk zd6 zd7) (zd6 % zd7))), .int .u64 (wv0 (pkz (dOk zd6 zd7) (zd6 % zd7)))]) (dv_loads (l := [.int .u64 (wv3 (pkz (dOk zd6 zd7) (zd6 % zd7))), .int .u64 (wv2 (pkz (dOk zd6 zd7) (zd6 % zd7))), .int .u64 (wv1 (pkz (dOk zd6 zd7) (zd6 % zd7))), .int .u64 (wv0 (pkz (dOk zd6 zd7) (zd6 % zd7)))]) agt26 sz26 (T rfl rfl) H216 rfl) ?_
                   refine lw_e (oe_callf (vs := [.agg #[.int .u64 (wv3 (fz ((pkz (dOk zd6 zd7) (zd6 / zd7)) * zd7))), .int .u64 (wv2 (fz ((pkz (dOk zd6 zd7) (zd6 / zd7)) * zd7))), .int .u64 (wv1 (fz ((pkz (dOk zd6 zd7) (zd6 / zd7)) * zd7))), .int .u64 (wv0 (fz ((pkz (dOk zd6 zd7) (zd6 / zd7)) * zd7)))], .agg #[.int .u64 (wv3 (pkz (dOk zd6 zd7) (zd6 % zd7))), .int .u64 (wv2 (pkz (dOk zd6 zd7) (zd6 % zd7))), .int .u64 (wv1 (pkz (dOk zd6 zd7) (zd6 % zd7))), .int .u64 (wv0 (pkz (dOk zd6 zd7) (zd6 % zd7)))]]) co19 (ar2 (T rfl rfl) (T rfl rfl)) (iWideAdd_ok (x := fz ((pkz (dOk zd6 zd7) (zd6 / zd7)) * zd7)) (y := pkz (dOk zd6 zd7) (zd6 % zd7)) (fz_f _) (fits_pkz fun h => h.2.2) ) ?_)
                   rintro _ w217 ⟨rfl, e218⟩
                   have E219 := below_ext E212 E212.size e218
                   refine lw_v (.tuple #[.agg #[.int .u64 (wv3 (fz ((fz ((pkz (dOk zd6 zd7) (zd6 / zd7)) * zd7)) + (pkz (dOk zd6 zd7) (zd6 % zd7))))), .int .u64 (wv2 (fz ((fz ((pkz (dOk zd6 zd7) (zd6 / zd7)) * zd7)) + (pkz (dOk zd6 zd7) (zd6 % zd7))))), .int .u64 (wv1 (fz ((fz ((pkz (dOk zd6 zd7) (zd6 / zd7)) * zd7)) + (pkz (dOk zd6 zd7) (zd6 % zd7))))), .int .u64 (wv0 (fz ((fz ((pkz (dOk zd6 zd7) (zd6 / zd7)) * zd7)) + (pkz (dOk zd6 zd7) (zd6 % zd7)))))], .bool (decide (fits ((fz ((pkz (dOk zd6 zd7) (zd6 / zd7)) * zd7)) + (pkz (dOk zd6 zd7) (zd6 % zd7)))))]) (dv_move (T rfl rfl)) ?_
                   refine lw_v (.agg #[.int .u64 (wv3 (fz ((fz ((pkz (dOk zd6 zd7) (zd6 / zd7)) * zd7)) + (pkz (dOk zd6 zd7) (zd6 % zd7))))), .int .u64 (wv2 (fz ((fz ((pkz (dOk zd6 zd7) (zd6 / zd7)) * zd7)) + (pkz (dOk zd6 zd7) (zd6 % zd7))))), .int .u64 (wv1 (fz ((fz ((pkz (dOk zd6 zd7) (zd6 / zd7)) * zd7)) + (pkz (dOk zd6 zd7) (zd6 % zd7))))), .int .u64 (wv0 (fz ((fz ((pkz (dOk zd6 zd7) (zd6 / zd7)) * zd7)) + (pkz (dOk zd6 zd7) (zd6 % zd7)))))]) (dv_extract (vs := #[.agg #[.int .u64 (wv3 (fz ((fz ((pkz (dOk zd6 zd7) (zd6 / zd7)) * zd7)) + (pkz (dOk zd6 zd7) (zd6 % zd7))))), .int .u64 (wv2 (fz ((fz ((pkz (dOk zd6 zd7) (zd6 / zd7)) * zd7)) + (pkz (dOk zd6 zd7) (zd6 % zd7))))), .int .u64 (wv1 (fz ((fz ((pkz (dOk zd6 zd7) (zd6 / zd7)) * zd7)) + (pkz (dOk zd6 zd7) (zd6 % zd7))))), .int .u64 (wv0 (fz ((fz ((pkz (dOk zd6 zd7) (zd6 / zd7)) * zd7)) + (pkz (dOk zd6 zd7) (zd6 % zd7)))))], .bool (decide (fits ((fz ((pkz (dOk zd6 zd7) (zd6 / zd7)) * zd7)) + (pkz (dOk zd6 zd7) (zd6 % zd7)))))]) (T rfl rfl) rfl) ?_
                   refine lw_v (.bool (decide (fits ((fz ((pkz (dOk zd6 zd7) (zd6 / zd7)) * zd7)) + (pkz (dOk zd6 zd7) (zd6 % zd7)))))) (dv_extract (vs := #[.agg #[.int .u64 (wv3 (fz ((fz ((pkz (dOk zd6 zd7) (zd6 / zd7)) * zd7)) + (pkz (dOk zd6 zd7) (zd6 % zd7))))), .int .u64 (wv2 (fz ((fz ((pkz (dOk zd6 zd7) (zd6 / zd7)) * zd7)) + (pkz (dOk zd6 zd7) (zd6 % zd7))))), .int .u64 (wv1 (fz ((fz ((pkz (dOk zd6 zd7) (zd6 / zd7)) * zd7)) + (pkz (dOk zd6 zd7) (zd6 % zd7))))), .int .u64 (wv0 (fz ((fz ((pkz (dOk zd6 zd7) (zd6 / zd7)) * zd7)) + (pkz (dOk zd6 zd7) (zd6 % zd7)))))], .bool (decide (fits ((fz ((pkz (dOk zd6 zd7) (zd6 / zd7)) * zd7)) + (pkz (dOk zd6 zd7) (zd6 % zd7)))))]) (T rfl rfl) rfl) ?_
                   refine lw_e (oe_alloc ze26 ?_)
                   intro b220 w221 n222
                   have N223 : w.heap.size ≤ b220 := n222.eq ▸ E219.size
                   have H224 := (e218.blk H215)
                   have : b198 < b220 := n222.eq ▸ lt_of_blk H224
                   have E225 := below_ext E219 E219.size n222.ext
                   refine lw_e (oe_store (v := .agg #[.int .u64 (wv3 (fz ((fz ((pkz (dOk zd6 zd7) (zd6 / zd7)) * zd7)) + (pkz (dOk zd6 zd7) (zd6 % zd7))))), .int .u64 (wv2 (fz ((fz ((pkz (dOk zd6 zd7) (zd6 / zd7)) * zd7)) + (pkz (dOk zd6 zd7) (zd6 % zd7))))), .int .u64 (wv1 (fz ((fz ((pkz (dOk zd6 zd7) (zd6 / zd7)) * zd7)) + (pkz (dOk zd6 zd7) (zd6 % zd7))))), .int .u64 (wv0 (fz ((fz ((pkz (dOk zd6 zd7) (zd6 / zd7)) * zd7)) + (pkz (dOk zd6 zd7) (zd6 % zd7)))))]) (vs := [.int .u64 (wv3 (fz ((fz ((pkz (dOk zd6 zd7) (zd6 / zd7)) * zd7)) + (pkz (dOk zd6 zd7) (zd6 % zd7))))), .int .u64 (wv2 (fz ((fz ((pkz (dOk zd6 zd7) (zd6 / zd7)) * zd7)) + (pkz (dOk zd6 zd7) (zd6 % zd7))))), .int .u64 (wv1 (fz ((fz ((pkz (dOk zd6 zd7) (zd6 / zd7)) * zd7)) + (pkz (dOk zd6 zd7) (zd6 % zd7))))), .int .u64 (wv0 (fz ((fz ((pkz (dOk zd6 zd7) (zd6 / zd7)) * zd7)) + (pkz (dOk zd6 zd7) (zd6 % zd7)))))]) (l := [.int .u64 (wv3 (fz ((fz ((pkz (dOk zd6 zd7) (zd6 / zd7)) * zd7)) + (pkz (dOk zd6 zd7) (zd6 % zd7))))), .int .u64 (wv2 (fz ((fz ((pkz (dOk zd6 zd7) (zd6 / zd7)) * zd7)) + (pkz (dOk zd6 zd7) (zd6 % zd7))))), .int .u64 (wv1 (fz ((fz ((pkz (dOk zd6 zd7) (zd6 / zd7)) * zd7)) + (pkz (dOk zd6 zd7) (zd6 % zd7))))), .int .u64 (wv0 (fz ((fz ((pkz (dOk zd6 zd7) (zd6 / zd7)) * zd7)) + (pkz (dOk zd6 zd7) (zd6 % zd7)))))]) (T rfl rfl) (T rfl rfl) sz26 rfl rfl rfl n222.blk rfl ?_)
                   intro w226 s227 H228
                   have E229 := below_st E225 N223 s227
                   refine lw_v (.bool (decide (fits ((fz ((pkz (dOk zd6 zd7) (zd6 / zd7)) * zd7)) + (pkz (dOk zd6 zd7) (zd6 % zd7)))))) (dv_assign (T rfl rfl)) ?_
                   refine lw_nil ?_
                   refine rk_seq ?_
                   refine rk_reg ?_
                   refine lw_v (.bool (decide (fits ((fz ((pkz (dOk zd6 zd7) (zd6 / zd7)) * zd7)) + (pkz (dOk zd6 zd7) (zd6 % zd7)))))) (dv_move (T rfl rfl)) ?_
                   refine lw_v (.bool (decide (fits ((fz ((pkz (dOk zd6 zd7) (zd6 / zd7)) * zd7)) + (pkz (dOk zd6 zd7) (zd6 % zd7)))))) (dv_move (T rfl rfl)) ?_
                   by_cases hb230 : fits ((fz ((pkz (dOk zd6 zd7) (zd6 / zd7)) * zd7)) + (pkz (dOk zd6 zd7) (zd6 % zd7)))
                   · refine lw_vy (.agg #[.int .u64 (wv3 (fz ((fz ((pkz (dOk zd6 zd7) (zd6 / zd7)) * zd7)) + (pkz (dOk zd6 zd7) (zd6 % zd7))))), .int .u64 (wv2 (fz ((fz ((pkz (dOk zd6 zd7) (zd6 / zd7)) * zd7)) + (pkz (dOk zd6 zd7) (zd6 % zd7))))), .int .u64 (wv1 (fz ((fz ((pkz (dOk zd6 zd7) (zd6 / zd7)) * zd7)) + (pkz (dOk zd6 zd7) (zd6 % zd7))))), .int .u64 (wv0 (fz ((fz ((pkz (dOk zd6 zd7) (zd6 / zd7)) * zd7)) + (pkz (dOk zd6 zd7) (zd6 % zd7)))))]) (d := 115) rfl rfl (congrArg Value.bool (decide_eq_true hb230)) (dv_loads (l := [.int .u64 (wv3 (fz ((fz ((pkz (dOk zd6 zd7) (zd6 / zd7)) * zd7)) + (pkz (dOk zd6 zd7) (zd6 % zd7))))), .int .u64 (wv2 (fz ((fz ((pkz (dOk zd6 zd7) (zd6 / zd7)) * zd7)) + (pkz (dOk zd6 zd7) (zd6 % zd7))))), .int .u64 (wv1 (fz ((fz ((pkz (dOk zd6 zd7) (zd6 / zd7)) * zd7)) + (pkz (dOk zd6 zd7) (zd6 % zd7))))), .int .u64 (wv0 (fz ((fz ((pkz (dOk zd6 zd7) (zd6 / zd7)) * zd7)) + (pkz (dOk zd6 zd7) (zd6 % zd7)))))]) agt26 sz26 (T rfl rfl) H228 rfl) ?_
                     have H231 := (s227.blk (n222.ext.blk (e218.blk (e211.blk (s205.blk (n200.ext.blk (e196.blk (e101.blk (e97.blk (s81.blk (s76.blk (n71.ext.blk (n65.ext.blk (e61.blk H58))) (by omega)) (by omega)))))) (by omega))))) (by omega))
                     refine lw_vy (.agg #[.int .u64 (wv3 zd6), .int .u64 (wv2 zd6), .int .u64 (wv1 zd6), .int .u64 (wv0 zd6)]) (d := 115) rfl rfl (congrArg Value.bool (decide_eq_true hb230)) (dv_loads (l := [.int .u64 (wv3 zd6), .int .u64 (wv2 zd6), .int .u64 (wv1 zd6), .int .u64 (wv0 zd6)]) agt26 sz26 (T rfl rfl) H231 rfl) ?_
                     refine lw_vy (.bool (decide (([wv3 (fz ((fz ((pkz (dOk zd6 zd7) (zd6 / zd7)) * zd7)) + (pkz (dOk zd6 zd7) (zd6 % zd7)))), wv2 (fz ((fz ((pkz (dOk zd6 zd7) (zd6 / zd7)) * zd7)) + (pkz (dOk zd6 zd7) (zd6 % zd7)))), wv1 (fz ((fz ((pkz (dOk zd6 zd7) (zd6 / zd7)) * zd7)) + (pkz (dOk zd6 zd7) (zd6 % zd7)))), wv0 (fz ((fz ((pkz (dOk zd6 zd7) (zd6 / zd7)) * zd7)) + (pkz (dOk zd6 zd7) (zd6 % zd7))))] : List Int) = [wv3 zd6, wv2 zd6, wv1 zd6, wv0 zd6]))) (d := 115) rfl rfl (congrArg Value.bool (decide_eq_true hb230)) (dv_eqls (k := .u64) (la := [wv3 (fz ((fz ((pkz (dOk zd6 zd7) (zd6 / zd7)) * zd7)) + (pkz (dOk zd6 zd7) (zd6 % zd7)))), wv2 (fz ((fz ((pkz (dOk zd6 zd7) (zd6 / zd7)) * zd7)) + (pkz (dOk zd6 zd7) (zd6 % zd7)))), wv1 (fz ((fz ((pkz (dOk zd6 zd7) (zd6 / zd7)) * zd7)) + (pkz (dOk zd6 zd7) (zd6 % zd7)))), wv0 (fz ((fz ((pkz (dOk zd6 zd7) (zd6 / zd7)) * zd7)) + (pkz (dOk zd6 zd7) (zd6 % zd7))))]) (lb := [wv3 zd6, wv2 zd6, wv1 zd6, wv0 zd6]) fl26 eg26 (T rfl rfl) (T rfl rfl) rfl rfl) ?_
                     refine lw_v (.bool (decide (([wv3 (fz ((fz ((pkz (dOk zd6 zd7) (zd6 / zd7)) * zd7)) + (pkz (dOk zd6 zd7) (zd6 % zd7)))), wv2 (fz ((fz ((pkz (dOk zd6 zd7) (zd6 / zd7)) * zd7)) + (pkz (dOk zd6 zd7) (zd6 % zd7)))), wv1 (fz ((fz ((pkz (dOk zd6 zd7) (zd6 / zd7)) * zd7)) + (pkz (dOk zd6 zd7) (zd6 % zd7)))), wv0 (fz ((fz ((pkz (dOk zd6 zd7) (zd6 / zd7)) * zd7)) + (pkz (dOk zd6 zd7) (zd6 % zd7))))] : List Int) = [wv3 zd6, wv2 zd6, wv1 zd6, wv0 zd6]))) (dv_pick_t (T rfl (congrArg Value.bool (decide_eq_true hb230))) (T rfl rfl)) ?_
                     refine lw_v (.bool (decide (([wv3 (fz ((fz ((pkz (dOk zd6 zd7) (zd6 / zd7)) * zd7)) + (pkz (dOk zd6 zd7) (zd6 % zd7)))), wv2 (fz ((fz ((pkz (dOk zd6 zd7) (zd6 / zd7)) * zd7)) + (pkz (dOk zd6 zd7) (zd6 % zd7)))), wv1 (fz ((fz ((pkz (dOk zd6 zd7) (zd6 / zd7)) * zd7)) + (pkz (dOk zd6 zd7) (zd6 % zd7)))), wv0 (fz ((fz ((pkz (dOk zd6 zd7) (zd6 / zd7)) * zd7)) + (pkz (dOk zd6 zd7) (zd6 % zd7))))] : List Int) = [wv3 zd6, wv2 zd6, wv1 zd6, wv0 zd6]))) (dv_assign (T rfl rfl)) ?_
                     refine lw_nil ?_
                     refine rk_ret Try.func8 (v := .bool (decide (([wv3 (fz ((fz ((pkz (dOk zd6 zd7) (zd6 / zd7)) * zd7)) + (pkz (dOk zd6 zd7) (zd6 % zd7)))), wv2 (fz ((fz ((pkz (dOk zd6 zd7) (zd6 / zd7)) * zd7)) + (pkz (dOk zd6 zd7) (zd6 % zd7)))), wv1 (fz ((fz ((pkz (dOk zd6 zd7) (zd6 / zd7)) * zd7)) + (pkz (dOk zd6 zd7) (zd6 % zd7)))), wv0 (fz ((fz ((pkz (dOk zd6 zd7) (zd6 / zd7)) * zd7)) + (pkz (dOk zd6 zd7) (zd6 % zd7))))] : List Int) = [wv3 zd6, wv2 zd6, wv1 zd6, wv0 zd6]))) (res1 Try.results8 (rv_tmp rfl rfl)) ⟨_, rfl, ?_⟩
                     have p1 := cPa hz9 hb94
                     have p2 := fun hn => cPb hb94 hn
                     have p3 := fun hn => cPc hz9 hb94 hn
                     have p4 := fun hn => cPd hz8 hb94 hn
                     skip
                     exact ⟨(vbt (by first | assumption | omega | (exact p2 (by assumption)) | (exact (p3 (by assumption)).2) | (exact (p3 (by assumption)).1) | exact (wl_eq (fz_f _) hz8).2 (p4 (by assumption)).2)), E229⟩
                   · refine lw_no (d := 115) rfl rfl (congrArg Value.bool (decide_eq_false hb230)) ?_
                     refine lw_no (d := 115) rfl rfl (congrArg Value.bool (decide_eq_false hb230)) ?_
                     refine lw_no (d := 115) rfl rfl (congrArg Value.bool (decide_eq_false hb230)) ?_
                     refine lw_v (.bool false) (dv_pick_f (T rfl (congrArg Value.bool (decide_eq_false hb230))) C) ?_
                     refine lw_v (.bool false) (dv_assign (T rfl rfl)) ?_
                     refine lw_nil ?_
                     refine rk_ret Try.func8 (v := .bool false) (res1 Try.results8 (rv_tmp rfl rfl)) ⟨_, rfl, ?_⟩
                     have p1 := cPa hz9 hb94
                     have p2 := fun hn => cPb hb94 hn
                     have p3 := fun hn => cPc hz9 hb94 hn
                     have p4 := fun hn => cPd hz8 hb94 hn
                     skip
                     exact ⟨(by exfalso; first | (exact cB (by assumption)) | (exact absurd rfl (by assumption)) | (exact absurd (p3 (by assumption)).1 (by assumption)) | (exact absurd (p3 (by assumption)).2 (by assumption)) | (exact absurd (p2 (by assumption)) (by assumption)) | (exact absurd (p4 (by assumption)).1 (by assumption)) | omega), E229⟩
                 · refine rk_ct (T rfl (congrArg Value.bool (decide_eq_true hb214))) ?_
                   refine rk_seq ?_
                   refine rk_reg ?_
                   refine lw_v (.bool (decide (fits ((pkz (dOk zd6 zd7) (zd6 / zd7)) * zd7)))) (dv_move (T rfl rfl)) ?_
                   refine lw_v (.bool (decide (¬ (fits ((pkz (dOk zd6 zd7) (zd6 / zd7)) * zd7))))) (dv_notd (p := fits ((pkz (dOk zd6 zd7) (zd6 / zd7)) * zd7)) (T rfl rfl)) ?_
                   refine lw_v (.bool (decide (¬ (fits ((pkz (dOk zd6 zd7) (zd6 / zd7)) * zd7))))) (dv_move (T rfl rfl)) ?_
                   refine lw_no (d := 100) rfl rfl (congrArg Value.bool (decide_eq_false (not_not_intro hb208))) ?_
                   refine lw_no (d := 100) rfl rfl (congrArg Value.bool (decide_eq_false (not_not_intro hb208))) ?_
                   refine lw_no (d := 100) rfl rfl (congrArg Value.bool (decide_eq_false (not_not_intro hb208))) ?_
                   refine lw_v (.bool false) (dv_pick_f (T rfl (congrArg Value.bool (decide_eq_false (not_not_intro hb208)))) C) ?_
                   refine lw_v (.bool false) (dv_move (T rfl rfl)) ?_
                   refine lw_no (d := 105) rfl rfl (rfl) ?_
                   refine lw_v (.bool false) (dv_pick_f (T rfl rfl) C) ?_
                   refine lw_v (.bool false) (dv_assign (T rfl rfl)) ?_
                   refine lw_nil ?_
                   refine rk_ret Try.func8 (v := .bool false) (res1 Try.results8 (rv_tmp rfl rfl)) ⟨_, rfl, ?_⟩
                   have p1 := cPa hz9 hb94
                   have p2 := fun hn => cPb hb94 hn
                   have p3 := fun hn => cPc hz9 hb94 hn
                   have p4 := fun hn => cPd hz8 hb94 hn
                   skip
                   exact ⟨(by exfalso; first | (exact cB (by assumption)) | (exact absurd rfl (by assumption)) | (exact absurd (p3 (by assumption)).1 (by assumption)) | (exact absurd (p3 (by assumption)).2 (by assumption)) | (exact absurd (p2 (by assumption)) (by assumption)) | (exact absurd (p4 (by assumption)).1 (by assumption)) | omega), E212⟩
             · refine lw_no (d := 89) rfl rfl (congrArg Value.bool (decide_eq_true hb208)) ?_
               refine lw_no (d := 89) rfl rfl (congrArg Value.bool (decide_eq_true hb208)) ?_
               refine lw_no (d := 89) rfl rfl (congrArg Value.bool (decide_eq_true hb208)) ?_
               refine lw_v (.bool true) (dv_pick_t (T rfl (congrArg Value.bool (decide_eq_true hb208))) C) ?_
               refine lw_v (.bool true) (dv_move (T rfl rfl)) ?_
               refine lw_no (d := 94) rfl rfl (rfl) ?_
               refine lw_no (d := 94) rfl rfl (rfl) ?_
               refine lw_v (.bool true) (dv_pick_t (T rfl rfl) C) ?_
               refine lw_nil ?_
               refine rk_ct (T rfl rfl) ?_
               refine rk_seq ?_
               refine rk_reg ?_
               refine lw_v (.bool (decide (fits ((pkz (dOk zd6 zd7) (zd6 / zd7)) * zd7)))) (dv_move (T rfl rfl)) ?_
               refine lw_v (.bool (decide (¬ (fits ((pkz (dOk zd6 zd7) (zd6 / zd7)) * zd7))))) (dv_notd (p := fits ((pkz (dOk zd6 zd7) (zd6 / zd7)) * zd7)) (T rfl rfl)) ?_
               refine lw_v (.bool (decide (¬ (fits ((pkz (dOk zd6 zd7) (zd6 / zd7)) * zd7))))) (dv_move (T rfl rfl)) ?_
               have H232 := (s205.blk (n200.ext.blk (e196.blk (e101.blk (e97.blk H89)))) (by omega))
               refine lw_vy (.agg #[.int .u64 (wv3 (pkz (dOk zd6 zd7) (zd6 % zd7))), .int .u64 (wv2 (pkz (dOk zd6 zd7) (zd6 % zd7))), .int .u64 (wv1 (pkz (dOk zd6 zd7) (zd6 % zd7))), .int .u64 (wv0 (pkz (dOk zd6 zd7) (zd6 % zd7)))]) (d := 100) rfl rfl (congrArg Value.bool (decide_eq_true hb208)) (dv_loads (l := [.int .u64 (wv3 (pkz (dOk zd6 zd7) (zd6 % zd7))), .int .u64 (wv2 (pkz (dOk zd6 zd7) (zd6 % zd7))), .int .u64 (wv1 (pkz (dOk zd6 zd7) (zd6 % zd7))), .int .u64 (wv0 (pkz (dOk zd6 zd7) (zd6 % zd7)))]) agt26 sz26 (T rfl rfl) H232 rfl) ?_
               refine lw_ey (d := 100) rfl rfl (congrArg Value.bool (decide_eq_true hb208)) (oe_callf (vs := [.agg #[.int .u64 (wv3 (pkz (dOk zd6 zd7) (zd6 % zd7))), .int .u64 (wv2 (pkz (dOk zd6 zd7) (zd6 % zd7))), .int .u64 (wv1 (pkz (dOk zd6 zd7) (zd6 % zd7))), .int .u64 (wv0 (pkz (dOk zd6 zd7) (zd6 % zd7)))]]) co17 (ar1 (T rfl rfl)) (iWideSign_ok (x := pkz (dOk zd6 zd7) (zd6 % zd7)) (fits_pkz fun h => h.2.2) ) ?_)
               rintro _ w233 ⟨rfl, e234⟩
               have E235 := below_ext E207 E207.size e234
               have := sgnI_rg (pkz (dOk zd6 zd7) (zd6 % zd7))
               refine lw_vy (.bool (decide (0 ≤ (sgnI (pkz (dOk zd6 zd7) (zd6 % zd7)))))) (d := 100) rfl rfl (congrArg Value.bool (decide_eq_true hb208)) (dv_geq (a := sgnI (pkz (dOk zd6 zd7) (zd6 % zd7))) (b := 0) (T rfl rfl) C) ?_
               refine lw_v (.bool (decide (0 ≤ (sgnI (pkz (dOk zd6 zd7) (zd6 % zd7)))))) (dv_pick_t (T rfl (congrArg Value.bool (decide_eq_true hb208))) (T rfl rfl)) ?_
               refine lw_v (.bool (decide (0 ≤ (sgnI (pkz (dOk zd6 zd7) (zd6 % zd7)))))) (dv_move (T rfl rfl)) ?_
               by_cases hb236 : 0 ≤ (sgnI (pkz (dOk zd6 zd7) (zd6 % zd7)))
               · refine lw_vy (.bool (decide ((sgnI ((pkz (dOk zd6 zd7) (zd6 % zd7)) - zd7)) < 0))) (d := 105) rfl rfl (congrArg Value.bool (decide_eq_true hb236)) (dv_move (T rfl rfl)) ?_
                 refine lw_v (.bool (decide ((sgnI ((pkz (dOk zd6 zd7) (zd6 % zd7)) - zd7)) < 0))) (dv_pick_t (T rfl (congrArg Value.bool (decide_eq_true hb236))) (T rfl rfl)) ?_
                 refine lw_v (.bool (decide ((sgnI ((pkz (dOk zd6 zd7) (zd6 % zd7)) - zd7)) < 0))) (dv_assign (T rfl rfl)) ?_
                 refine lw_nil ?_
                 refine rk_ret Try.func8 (v := .bool (decide ((sgnI ((pkz (dOk zd6 zd7) (zd6 % zd7)) - zd7)) < 0))) (res1 Try.results8 (rv_tmp rfl rfl)) ⟨_, rfl, ?_⟩
                 have p1 := cPa hz9 hb94
                 have p2 := fun hn => cPb hb94 hn
                 have p3 := fun hn => cPc hz9 hb94 hn
                 have p4 := fun hn => cPd hz8 hb94 hn
                 skip
                 exact ⟨(vbt (by first | assumption | omega | (exact p2 (by assumption)) | (exact (p3 (by assumption)).2) | (exact (p3 (by assumption)).1) | exact (wl_eq (fz_f _) hz8).2 (p4 (by assumption)).2)), E235⟩
               · refine lw_no (d := 105) rfl rfl (congrArg Value.bool (decide_eq_false hb236)) ?_
                 refine lw_v (.bool false) (dv_pick_f (T rfl (congrArg Value.bool (decide_eq_false hb236))) C) ?_
                 refine lw_v (.bool false) (dv_assign (T rfl rfl)) ?_
                 refine lw_nil ?_
                 refine rk_ret Try.func8 (v := .bool false) (res1 Try.results8 (rv_tmp rfl rfl)) ⟨_, rfl, ?_⟩
                 have p1 := cPa hz9 hb94
                 have p2 := fun hn => cPb hb94 hn
                 have p3 := fun hn => cPc hz9 hb94 hn
                 have p4 := fun hn => cPd hz8 hb94 hn
                 skip
                 exact ⟨(by exfalso; first | (exact cB (by assumption)) | (exact absurd rfl (by assumption)) | (exact absurd (p3 (by assumption)).1 (by assumption)) | (exact absurd (p3 (by assumption)).2 (by assumption)) | (exact absurd (p2 (by assumption)) (by assumption)) | (exact absurd (p4 (by assumption)).1 (by assumption)) | omega), E235⟩
         · refine rk_ct (T rfl (congrArg Value.bool (decide_eq_true hb94))) ?_
           refine rk_seq ?_
           refine rk_reg ?_
           have H237 := (s81.blk (s76.blk (n71.ext.blk (n65.ext.blk (e61.blk H59))) (by omega)) (by omega))
           refine lw_v (.agg #[.int .u64 (wv3 zd7), .int .u64 (wv2 zd7), .int .u64 (wv1 zd7), .int .u64 (wv0 zd7)]) (dv_loads (l := [.int .u64 (wv3 zd7), .int .u64 (wv2 zd7), .int .u64 (wv1 zd7), .int .u64 (wv0 zd7)]) agt26 sz26 (T rfl rfl) H237 rfl) ?_
           refine lw_e (oe_callf (vs := [.agg #[.int .u64 (wv3 zd7), .int .u64 (wv2 zd7), .int .u64 (wv1 zd7), .int .u64 (wv0 zd7)]]) co17 (ar1 (T rfl rfl)) (iWideSign_ok (x := zd7) hz9 ) ?_)
           rintro _ w238 ⟨rfl, e239⟩
           have E240 := below_ext E83 E83.size e239
           have := sgnI_rg zd7
           refine lw_v (.bool (decide ((sgnI zd7) = 0))) (dv_eql (a := sgnI zd7) (b := 0) (T rfl rfl) C) ?_
           refine lw_v (.bool (decide ((sgnI zd7) = 0))) (dv_move (T rfl rfl)) ?_
           by_cases hb241 : (sgnI zd7) = 0
           · refine lw_no (d := 57) rfl rfl (congrArg Value.bool (decide_eq_true hb241)) ?_
             refine lw_no (d := 57) rfl rfl (congrArg Value.bool (decide_eq_true hb241)) ?_
             refine lw_no (d := 57) rfl rfl (congrArg Value.bool (decide_eq_true hb241)) ?_
             refine lw_v (.bool true) (dv_pick_t (T rfl (congrArg Value.bool (decide_eq_true hb241))) C) ?_
             refine lw_v (.bool true) (dv_assign (T rfl rfl)) ?_
             refine lw_nil ?_
             refine rk_ret Try.func8 (v := .bool true) (res1 Try.results8 (rv_tmp rfl rfl)) ⟨_, rfl, ?_⟩
             exact ⟨rfl, E240⟩
           · have H242 := (e239.blk (s81.blk (s76.blk (n71.ext.blk (n65.ext.blk (e61.blk H58))) (by omega)) (by omega)))
             refine lw_vy (.agg #[.int .u64 (wv3 zd6), .int .u64 (wv2 zd6), .int .u64 (wv1 zd6), .int .u64 (wv0 zd6)]) (d := 57) rfl rfl (congrArg Value.bool (decide_eq_false hb241)) (dv_loads (l := [.int .u64 (wv3 zd6), .int .u64 (wv2 zd6), .int .u64 (wv1 zd6), .int .u64 (wv0 zd6)]) agt26 sz26 (T rfl rfl) H242 rfl) ?_
             refine lw_ey (d := 57) rfl rfl (congrArg Value.bool (decide_eq_false hb241)) (oe_callf (vs := [.agg #[.int .u64 (wv3 zd6), .int .u64 (wv2 zd6), .int .u64 (wv1 zd6), .int .u64 (wv0 zd6)]]) co34 (ar1 (T rfl rfl)) (iWideBits_ok (x := zd6) hz8 ) ?_)
             rintro _ w243 ⟨rfl, e244⟩
             have E245 := below_ext E240 E240.size e244
             refine lw_vy (.bool (decide (((nbits zd6.natAbs : Int)) = 256))) (d := 57) rfl rfl (congrArg Value.bool (decide_eq_false hb241)) (dv_eql (a := (nbits zd6.natAbs : Int)) (b := 256) (T rfl rfl) C) ?_
             refine lw_v (.bool (decide (((nbits zd6.natAbs : Int)) = 256))) (dv_pick_f (T rfl (congrArg Value.bool (decide_eq_false hb241))) (T rfl rfl)) ?_
             refine lw_v (.bool (decide (((nbits zd6.natAbs : Int)) = 256))) (dv_assign (T rfl rfl)) ?_
             refine lw_nil ?_
             refine rk_ret Try.func8 (v := .bool (decide (((nbits zd6.natAbs : Int)) = 256))) (res1 Try.results8 (rv_tmp rfl rfl)) ⟨_, rfl, ?_⟩
             skip
             exact ⟨(vbt (by first | assumption | omega | (have h := cP1 hz8 hz9 (by assumption) (by assumption); omega))), E245⟩
end Go.Proofs.Ytfmkadgjoechnaa.W
