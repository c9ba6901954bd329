/- Walks of one law, packed by a program of this session. -/
import Derived.Test.YtfmkadgjoechnaaPdf
set_option linter.unusedVariables false
set_option linter.unusedSimpArgs false
namespace Go.Proofs.Ytfmkadgjoechnaa.W
open Go Go.RowKit Go.Proofs.Ytfmkadgjoechnaa.Fw
attribute [local irreducible] RunK LW AW DV OE Ct
theorem co11 : callOk Try.prog 11 = true := by kernel_rfl
theorem co12 : callOk Try.prog 12 = true := by kernel_rfl
theorem co13 : callOk Try.prog 13 = true := by kernel_rfl
theorem co14 : callOk Try.prog 14 = true := by kernel_rfl
theorem co15 : callOk Try.prog 15 = true := by kernel_rfl
theorem co16 : callOk Try.prog 16 = true := by kernel_rfl
theorem co17 : callOk Try.prog 17 = true := by kernel_rfl
theorem co18 : callOk Try.prog 18 = true := by kernel_rfl
theorem co19 : callOk Try.prog 19 = true := by kernel_rfl
theorem co20 : callOk Try.prog 20 = true := by kernel_rfl
theorem co21 : callOk Try.prog 21 = true := by kernel_rfl
theorem co26 : callOk Try.prog 26 = true := by kernel_rfl
theorem co27 : callOk Try.prog 27 = true := by kernel_rfl
theorem co28 : callOk Try.prog 28 = true := by kernel_rfl
theorem co29 : callOk Try.prog 29 = true := by kernel_rfl
set_option maxRecDepth 100000 in
set_option maxHeartbeats 1000000 in
theorem lawWideCommon_ok {w : World} {A : Option Addr} {l c : Nat} {xs : List Int} (hx : RdI w .u8 A xs) (hxl : xs.length = l) (hlc : l ≤ c) (hcm : c ≤ 9223372036854775807) (ok : okW 256 xs) : Ct Try.prog 6 [.slice A l c] w fun v w1 => v = .bool true ∧ Ext w w1 := by
 refine ct_run (n := 122) Try.func6 rfl Try.ntmps6 rfl ?_
 have E0 : Below w.heap.size w w := Below.refl _ _
 refine rk_seq ?_
 refine rk_reg ?_
 refine lw_v (.bool false) (dv_assign C) ?_
 refine lw_nil ?_
 refine rk_seq ?_
 refine rk_seq ?_
 refine rk_reg ?_
 refine lw_v (.slice A l c) (dv_move (T rfl rfl)) ?_
 refine lw_e (oe_callf (vs := [.slice A l c]) co11 (ar1 (T rfl rfl)) (lbig_ok ) ?_)
 rintro _ w1 ⟨rfl, e2⟩
 have E3 := below_ext E0 E0.size e2
 refine lw_nil ?_
 by_cases hb4 : 1048576 < (l : Int)
 · refine rk_ct (T rfl (congrArg Value.bool (decide_eq_true hb4))) ?_
   refine rk_seq ?_
   refine rk_reg ?_
   refine lw_v (.bool true) (dv_assign C) ?_
   refine lw_nil ?_
   refine rk_ret Try.func6 (v := .bool true) (res1 Try.results6 (rv_tmp rfl rfl)) ⟨_, rfl, ?_⟩
   exact ⟨rfl, E3⟩
 · refine rk_cf (T rfl (congrArg Value.bool (decide_eq_false hb4))) ?_
   refine rk_skip ?_
   refine rk_seq ?_
   refine rk_reg ?_
   refine lw_v (.slice A l c) (dv_move (T rfl rfl)) ?_
   have h5 := (hx.ext e2)
   refine lw_e (oe_callf (vs := [.slice A l c]) co26 (ar1 (T rfl rfl)) (drawWideGcd_ok (l := l) (c := c) (xs := xs) h5 (by first | omega | (simp; done) | (simp; omega)) (by first | omega | (simp; done) | (simp; omega)) ok) ?_)
   rintro _ w10 ⟨zd6, zd7, rfl, e11, hz8, hz9⟩
   have E12 := below_ext E3 E3.size e11
   refine lw_v (.tuple #[.agg #[.int .u64 (wv3 zd6), .int .u64 (wv2 zd6), .int .u64 (wv1 zd6), .int .u64 (wv0 zd6)], .agg #[.int .u64 (wv3 zd7), .int .u64 (wv2 zd7), .int .u64 (wv1 zd7), .int .u64 (wv0 zd7)]]) (dv_move (T rfl rfl)) ?_
   refine lw_v (.agg #[.int .u64 (wv3 zd6), .int .u64 (wv2 zd6), .int .u64 (wv1 zd6), .int .u64 (wv0 zd6)]) (dv_extract (vs := #[.agg #[.int .u64 (wv3 zd6), .int .u64 (wv2 zd6), .int .u64 (wv1 zd6), .int .u64 (wv0 zd6)], .agg #[.int .u64 (wv3 zd7), .int .u64 (wv2 zd7), .int .u64 (wv1 zd7), .int .u64 (wv0 zd7)]]) (T rfl rfl) rfl) ?_
   refine lw_v (.agg #[.int .u64 (wv3 zd7), .int .u64 (wv2 zd7), .int .u64 (wv1 zd7), .int .u64 (wv0 zd7)]) (dv_extract (vs := #[.agg #[.int .u64 (wv3 zd6), .int .u64 (wv2 zd6), .int .u64 (wv1 zd6), .int .u64 (wv0 zd6)], .agg #[.int .u64 (wv3 zd7), .int .u64 (wv2 zd7), .int .u64 (wv1 zd7), .int .u64 (wv0 zd7)]]) (T rfl rfl) rfl) ?_
   refine lw_e (oe_alloc ze26 ?_)
   intro b13 w14 n15
   have N16 : w.heap.size ≤ b13 := n15.eq ▸ E12.size
   have E17 := below_ext E12 E12.size n15.ext
   refine lw_e (oe_alloc ze26 ?_)
   intro b18 w19 n20
   have N21 : w.heap.size ≤ b18 := n20.eq ▸ E17.size
   have : b13 < b18 := n20.eq ▸ lt_of_blk n15.blk
   have E22 := below_ext E17 E17.size n20.ext
   have H23 := (n20.ext.blk n15.blk)
   refine lw_e (oe_store (v := .agg #[.int .u64 (wv3 zd6), .int .u64 (wv2 zd6), .int .u64 (wv1 zd6), .int .u64 (wv0 zd6)]) (vs := [.int .u64 (wv3 zd6), .int .u64 (wv2 zd6), .int .u64 (wv1 zd6), .int .u64 (wv0 zd6)]) (l := [.int .u64 (wv3 zd6), .int .u64 (wv2 zd6), .int .u64 (wv1 zd6), .int .u64 (wv0 zd6)]) (T rfl rfl) (T rfl rfl) sz26 rfl rfl rfl H23 rfl ?_)
   intro w24 s25 H26
   have E27 := below_st E22 N16 s25
   have H28 := (s25.blk n20.blk (by omega))
   refine lw_e (oe_store (v := .agg #[.int .u64 (wv3 zd7), .int .u64 (wv2 zd7), .int .u64 (wv1 zd7), .int .u64 (wv0 zd7)]) (vs := [.int .u64 (wv3 zd7), .int .u64 (wv2 zd7), .int .u64 (wv1 zd7), .int .u64 (wv0 zd7)]) (l := [.int .u64 (wv3 zd7), .int .u64 (wv2 zd7), .int .u64 (wv1 zd7), .int .u64 (wv0 zd7)]) (T rfl rfl) (T rfl rfl) sz26 rfl rfl rfl H28 rfl ?_)
   intro w29 s30 H31
   have E32 := below_st E27 N21 s30
   refine lw_nil ?_
   refine rk_seq ?_
   refine rk_reg ?_
   have H33 := (s30.blk H26 (by omega))
   refine lw_v (.agg #[.int .u64 (wv3 zd6), .int .u64 (wv2 zd6), .int .u64 (wv1 zd6), .int .u64 (wv0 zd6)]) (dv_loads (l := [.int .u64 (wv3 zd6), .int .u64 (wv2 zd6), .int .u64 (wv1 zd6), .int .u64 (wv0 zd6)]) agt26 sz26 (T rfl rfl) H33 rfl) ?_
   refine lw_v (.agg #[.int .u64 (wv3 zd7), .int .u64 (wv2 zd7), .int .u64 (wv1 zd7), .int .u64 (wv0 zd7)]) (dv_loads (l := [.int .u64 (wv3 zd7), .int .u64 (wv2 zd7), .int .u64 (wv1 zd7), .int .u64 (wv0 zd7)]) agt26 sz26 (T rfl rfl) H31 rfl) ?_
   refine lw_e (oe_callf (vs := [.agg #[.int .u64 (wv3 zd6), .int .u64 (wv2 zd6), .int .u64 (wv1 zd6), .int .u64 (wv0 zd6)], .agg #[.int .u64 (wv3 zd7), .int .u64 (wv2 zd7), .int .u64 (wv1 zd7), .int .u64 (wv0 zd7)]]) co27 (ar2 (T rfl rfl) (T rfl rfl)) (iWideGcd_ok (x := zd6) (y := zd7) hz8 hz9 ) ?_)
   rintro _ w34 ⟨rfl, e35⟩
   have E36 := below_ext E32 E32.size e35
   refine lw_v (.tuple #[.agg #[.int .u64 (wv3 (pkz (fits (gI zd6 zd7)) (gI zd6 zd7))), .int .u64 (wv2 (pkz (fits (gI zd6 zd7)) (gI zd6 zd7))), .int .u64 (wv1 (pkz (fits (gI zd6 zd7)) (gI zd6 zd7))), .int .u64 (wv0 (pkz (fits (gI zd6 zd7)) (gI zd6 zd7)))], .bool (decide (fits (gI zd6 zd7)))]) (dv_move (T rfl rfl)) ?_
   refine lw_v (.agg #[.int .u64 (wv3 (pkz (fits (gI zd6 zd7)) (gI zd6 zd7))), .int .u64 (wv2 (pkz (fits (gI zd6 zd7)) (gI zd6 zd7))), .int .u64 (wv1 (pkz (fits (gI zd6 zd7)) (gI zd6 zd7))), .int .u64 (wv0 (pkz (fits (gI zd6 zd7)) (gI zd6 zd7)))]) (dv_extract (vs := #[.agg #[.int .u64 (wv3 (pkz (fits (gI zd6 zd7)) (gI zd6 zd7))), .int .u64 (wv2 (pkz (fits (gI zd6 zd7)) (gI zd6 zd7))), .int .u64 (wv1 (pkz (fits (gI zd6 zd7)) (gI zd6 zd7))), .int .u64 (wv0 (pkz (fits (gI zd6 zd7)) (gI zd6 zd7)))], .bool (decide (fits (gI zd6 zd7)))]) (T rfl rfl) rfl) ?_
   refine lw_v (.bool (decide (fits (gI zd6 zd7)))) (dv_extract (vs := #[.agg #[.int .u64 (wv3 (pkz (fits (gI zd6 zd7)) (gI zd6 zd7))), .int .u64 (wv2 (pkz (fits (gI zd6 zd7)) (gI zd6 zd7))), .int .u64 (wv1 (pkz (fits (gI zd6 zd7)) (gI zd6 zd7))), .int .u64 (wv0 (pkz (fits (gI zd6 zd7)) (gI zd6 zd7)))], .bool (decide (fits (gI zd6 zd7)))]) (T rfl rfl) rfl) ?_
   refine lw_e (oe_alloc ze26 ?_)
   intro b37 w38 n39
   have N40 : w.heap.size ≤ b37 := n39.eq ▸ E36.size
   have H41 := (e35.blk H31)
   have : b18 < b37 := n39.eq ▸ lt_of_blk H41
   have E42 := below_ext E36 E36.size n39.ext
   refine lw_e (oe_store (v := .agg #[.int .u64 (wv3 (pkz (fits (gI zd6 zd7)) (gI zd6 zd7))), .int .u64 (wv2 (pkz (fits (gI zd6 zd7)) (gI zd6 zd7))), .int .u64 (wv1 (pkz (fits (gI zd6 zd7)) (gI zd6 zd7))), .int .u64 (wv0 (pkz (fits (gI zd6 zd7)) (gI zd6 zd7)))]) (vs := [.int .u64 (wv3 (pkz (fits (gI zd6 zd7)) (gI zd6 zd7))), .int .u64 (wv2 (pkz (fits (gI zd6 zd7)) (gI zd6 zd7))), .int .u64 (wv1 (pkz (fits (gI zd6 zd7)) (gI zd6 zd7))), .int .u64 (wv0 (pkz (fits (gI zd6 zd7)) (gI zd6 zd7)))]) (l := [.int .u64 (wv3 (pkz (fits (gI zd6 zd7)) (gI zd6 zd7))), .int .u64 (wv2 (pkz (fits (gI zd6 zd7)) (gI zd6 zd7))), .int .u64 (wv1 (pkz (fits (gI zd6 zd7)) (gI zd6 zd7))), .int .u64 (wv0 (pkz (fits (gI zd6 zd7)) (gI zd6 zd7)))]) (T rfl rfl) (T rfl rfl) sz26 rfl rfl rfl n39.blk rfl ?_)
   intro w43 s44 H45
   have E46 := below_st E42 N40 s44
   refine lw_v (.bool (decide (fits (gI zd6 zd7)))) (dv_assign (T rfl rfl)) ?_
   refine lw_nil ?_
   refine rk_seq ?_
   refine rk_reg ?_
   have H47 := (s44.blk (n39.ext.blk (e35.blk H33)) (by omega))
   refine lw_v (.agg #[.int .u64 (wv3 zd6), .int .u64 (wv2 zd6), .int .u64 (wv1 zd6), .int .u64 (wv0 zd6)]) (dv_loads (l := [.int .u64 (wv3 zd6), .int .u64 (wv2 zd6), .int .u64 (wv1 zd6), .int .u64 (wv0 zd6)]) agt26 sz26 (T rfl rfl) H47 rfl) ?_
   have H48 := (s44.blk (n39.ext.blk H41) (by omega))
   refine lw_v (.agg #[.int .u64 (wv3 zd7), .int .u64 (wv2 zd7), .int .u64 (wv1 zd7), .int .u64 (wv0 zd7)]) (dv_loads (l := [.int .u64 (wv3 zd7), .int .u64 (wv2 zd7), .int .u64 (wv1 zd7), .int .u64 (wv0 zd7)]) agt26 sz26 (T rfl rfl) H48 rfl) ?_
   refine lw_e (oe_callf (vs := [.agg #[.int .u64 (wv3 zd6), .int .u64 (wv2 zd6), .int .u64 (wv1 zd6), .int .u64 (wv0 zd6)], .agg #[.int .u64 (wv3 zd7), .int .u64 (wv2 zd7), .int .u64 (wv1 zd7), .int .u64 (wv0 zd7)]]) co28 (ar2 (T rfl rfl) (T rfl rfl)) (sWideGcd_ok (x := zd6) (y := zd7) hz8 hz9 ) ?_)
   rintro _ w49 ⟨rfl, e50⟩
   have E51 := below_ext E46 E46.size e50
   refine lw_v (.tuple #[.agg #[.int .u64 (wv3 (pkz (fits (gI zd6 zd7)) (gI zd6 zd7))), .int .u64 (wv2 (pkz (fits (gI zd6 zd7)) (gI zd6 zd7))), .int .u64 (wv1 (pkz (fits (gI zd6 zd7)) (gI zd6 zd7))), .int .u64 (wv0 (pkz (fits (gI zd6 zd7)) (gI zd6 zd7)))], .bool (decide (fits (gI zd6 zd7)))]) (dv_move (T rfl rfl)) ?_
   refine lw_v (.agg #[.int .u64 (wv3 (pkz (fits (gI zd6 zd7)) (gI zd6 zd7))), .int .u64 (wv2 (pkz (fits (gI zd6 zd7)) (gI zd6 zd7))), .int .u64 (wv1 (pkz (fits (gI zd6 zd7)) (gI zd6 zd7))), .int .u64 (wv0 (pkz (fits (gI zd6 zd7)) (gI zd6 zd7)))]) (dv_extract (vs := #[.agg #[.int .u64 (wv3 (pkz (fits (gI zd6 zd7)) (gI zd6 zd7))), .int .u64 (wv2 (pkz (fits (gI zd6 zd7)) (gI zd6 zd7))), .int .u64 (wv1 (pkz (fits (gI zd6 zd7)) (gI zd6 zd7))), .int .u64 (wv0 (pkz (fits (gI zd6 zd7)) (gI zd6 zd7)))], .bool (decide (fits (gI zd6 zd7)))]) (T rfl rfl) rfl) ?_
   refine lw_v (.bool (decide (fits (gI zd6 zd7)))) (dv_extract (vs := #[.agg #[.int .u64 (wv3 (pkz (fits (gI zd6 zd7)) (gI zd6 zd7))), .int .u64 (wv2 (pkz (fits (gI zd6 zd7)) (gI zd6 zd7))), .int .u64 (wv1 (pkz (fits (gI zd6 zd7)) (gI zd6 zd7))), .int .u64 (wv0 (pkz (fits (gI zd6 zd7)) (gI zd6 zd7)))], .bool (decide (fits (gI zd6 zd7)))]) (T rfl rfl) rfl) ?_
   refine lw_e (oe_alloc ze26 ?_)
   intro b52 w53 n54
   have N55 : w.heap.size ≤ b52 := n54.eq ▸ E51.size
   have H56 := (e50.blk H45)
   have : b37 < b52 := n54.eq ▸ lt_of_blk H56
   have E57 := below_ext E51 E51.size n54.ext
   refine lw_e (oe_store (v := .agg #[.int .u64 (wv3 (pkz (fits (gI zd6 zd7)) (gI zd6 zd7))), .int .u64 (wv2 (pkz (fits (gI zd6 zd7)) (gI zd6 zd7))), .int .u64 (wv1 (pkz (fits (gI zd6 zd7)) (gI zd6 zd7))), .int .u64 (wv0 (pkz (fits (gI zd6 zd7)) (gI zd6 zd7)))]) (vs := [.int .u64 (wv3 (pkz (fits (gI zd6 zd7)) (gI zd6 zd7))), .int .u64 (wv2 (pkz (fits (gI zd6 zd7)) (gI zd6 zd7))), .int .u64 (wv1 (pkz (fits (gI zd6 zd7)) (gI zd6 zd7))), .int .u64 (wv0 (pkz (fits (gI zd6 zd7)) (gI zd6 zd7)))]) (l := [.int .u64 (wv3 (pkz (fits (gI zd6 zd7)) (gI zd6 zd7))), .int .u64 (wv2 (pkz (fits (gI zd6 zd7)) (gI zd6 zd7))), .int .u64 (wv1 (pkz (fits (gI zd6 zd7)) (gI zd6 zd7))), .int .u64 (wv0 (pkz (fits (gI zd6 zd7)) (gI zd6 zd7)))]) (T rfl rfl) (T rfl rfl) sz26 rfl rfl rfl n54.blk rfl ?_)
   intro w58 s59 H60
   have E61 := below_st E57 N55 s59
   refine lw_v (.bool (decide (fits (gI zd6 zd7)))) (dv_assign (T rfl rfl)) ?_
   refine lw_nil ?_
   refine rk_seq ?_
   refine rk_seq ?_
   refine rk_reg ?_
   have H62 := (s59.blk (n54.ext.blk H56) (by omega))
   refine lw_v (.agg #[.int .u64 (wv3 (pkz (fits (gI zd6 zd7)) (gI zd6 zd7))), .int .u64 (wv2 (pkz (fits (gI zd6 zd7)) (gI zd6 zd7))), .int .u64 (wv1 (pkz (fits (gI zd6 zd7)) (gI zd6 zd7))), .int .u64 (wv0 (pkz (fits (gI zd6 zd7)) (gI zd6 zd7)))]) (dv_loads (l := [.int .u64 (wv3 (pkz (fits (gI zd6 zd7)) (gI zd6 zd7))), .int .u64 (wv2 (pkz (fits (gI zd6 zd7)) (gI zd6 zd7))), .int .u64 (wv1 (pkz (fits (gI zd6 zd7)) (gI zd6 zd7))), .int .u64 (wv0 (pkz (fits (gI zd6 zd7)) (gI zd6 zd7)))]) agt26 sz26 (T rfl rfl) H62 rfl) ?_
   refine lw_v (.agg #[.int .u64 (wv3 (pkz (fits (gI zd6 zd7)) (gI zd6 zd7))), .int .u64 (wv2 (pkz (fits (gI zd6 zd7)) (gI zd6 zd7))), .int .u64 (wv1 (pkz (fits (gI zd6 zd7)) (gI zd6 zd7))), .int .u64 (wv0 (pkz (fits (gI zd6 zd7)) (gI zd6 zd7)))]) (dv_loads (l := [.int .u64 (wv3 (pkz (fits (gI zd6 zd7)) (gI zd6 zd7))), .int .u64 (wv2 (pkz (fits (gI zd6 zd7)) (gI zd6 zd7))), .int .u64 (wv1 (pkz (fits (gI zd6 zd7)) (gI zd6 zd7))), .int .u64 (wv0 (pkz (fits (gI zd6 zd7)) (gI zd6 zd7)))]) agt26 sz26 (T rfl rfl) H60 rfl) ?_
   refine lw_v (.bool (decide (([wv3 (pkz (fits (gI zd6 zd7)) (gI zd6 zd7)), wv2 (pkz (fits (gI zd6 zd7)) (gI zd6 zd7)), wv1 (pkz (fits (gI zd6 zd7)) (gI zd6 zd7)), wv0 (pkz (fits (gI zd6 zd7)) (gI zd6 zd7))] : List Int) ≠ [wv3 (pkz (fits (gI zd6 zd7)) (gI zd6 zd7)), wv2 (pkz (fits (gI zd6 zd7)) (gI zd6 zd7)), wv1 (pkz (fits (gI zd6 zd7)) (gI zd6 zd7)), wv0 (pkz (fits (gI zd6 zd7)) (gI zd6 zd7))]))) (dv_neqs (k := .u64) (la := [wv3 (pkz (fits (gI zd6 zd7)) (gI zd6 zd7)), wv2 (pkz (fits (gI zd6 zd7)) (gI zd6 zd7)), wv1 (pkz (fits (gI zd6 zd7)) (gI zd6 zd7)), wv0 (pkz (fits (gI zd6 zd7)) (gI zd6 zd7))]) (lb := [wv3 (pkz (fits (gI zd6 zd7)) (gI zd6 zd7)), wv2 (pkz (fits (gI zd6 zd7)) (gI zd6 zd7)), wv1 (pkz (fits (gI zd6 zd7)) (gI zd6 zd7)), wv0 (pkz (fits (gI zd6 zd7)) (gI zd6 zd7))]) fl26 eg26 (T rfl rfl) (T rfl rfl) rfl rfl) ?_
   refine lw_v (.bool (decide (([wv3 (pkz (fits (gI zd6 zd7)) (gI zd6 zd7)), wv2 (pkz (fits (gI zd6 zd7)) (gI zd6 zd7)), wv1 (pkz (fits (gI zd6 zd7)) (gI zd6 zd7)), wv0 (pkz (fits (gI zd6 zd7)) (gI zd6 zd7))] : List Int) ≠ [wv3 (pkz (fits (gI zd6 zd7)) (gI zd6 zd7)), wv2 (pkz (fits (gI zd6 zd7)) (gI zd6 zd7)), wv1 (pkz (fits (gI zd6 zd7)) (gI zd6 zd7)), wv0 (pkz (fits (gI zd6 zd7)) (gI zd6 zd7))]))) (dv_move (T rfl rfl)) ?_
   by_cases hb63 : ([wv3 (pkz (fits (gI zd6 zd7)) (gI zd6 zd7)), wv2 (pkz (fits (gI zd6 zd7)) (gI zd6 zd7)), wv1 (pkz (fits (gI zd6 zd7)) (gI zd6 zd7)), wv0 (pkz (fits (gI zd6 zd7)) (gI zd6 zd7))] : List Int) ≠ [wv3 (pkz (fits (gI zd6 zd7)) (gI zd6 zd7)), wv2 (pkz (fits (gI zd6 zd7)) (gI zd6 zd7)), wv1 (pkz (fits (gI zd6 zd7)) (gI zd6 zd7)), wv0 (pkz (fits (gI zd6 zd7)) (gI zd6 zd7))]
   · have hz64 := fun hh => hb63 ((wl_eq fits_pk fits_pk).2 hh)
     refine lw_no (d := 42) rfl rfl (congrArg Value.bool (decide_eq_true hb63)) ?_
     refine lw_no (d := 42) rfl rfl (congrArg Value.bool (decide_eq_true hb63)) ?_
     refine lw_no (d := 42) rfl rfl (congrArg Value.bool (decide_eq_true hb63)) ?_
     refine lw_v (.bool true) (dv_pick_t (T rfl (congrArg Value.bool (decide_eq_true hb63))) C) ?_
     refine lw_nil ?_
     refine rk_ct (T rfl rfl) ?_
     refine rk_seq ?_
     refine rk_reg ?_
     refine lw_v (.bool false) (dv_assign C) ?_
     refine lw_nil ?_
     refine rk_ret Try.func6 (v := .bool false) (res1 Try.results6 (rv_tmp rfl rfl)) ⟨_, rfl, ?_⟩
     skip
     exact ⟨(by exfalso; exact absurd rfl hb63), E61⟩
   · have hz65 := (wl_eq fits_pk fits_pk).1 (Decidable.not_not.1 hb63)
     refine lw_vy (.bool (decide (fits (gI zd6 zd7)))) (d := 42) rfl rfl (congrArg Value.bool (decide_eq_false hb63)) (dv_move (T rfl rfl)) ?_
     refine lw_vy (.bool (decide (fits (gI zd6 zd7)))) (d := 42) rfl rfl (congrArg Value.bool (decide_eq_false hb63)) (dv_move (T rfl rfl)) ?_
     refine lw_vy (.bool ((decide (fits (gI zd6 zd7))) != (decide (fits (gI zd6 zd7))))) (d := 42) rfl rfl (congrArg Value.bool (decide_eq_false hb63)) (dv_neqb (a := decide (fits (gI zd6 zd7))) (b := decide (fits (gI zd6 zd7))) ub4 (T rfl rfl) (T rfl rfl)) ?_
     refine lw_v (.bool ((decide (fits (gI zd6 zd7))) != (decide (fits (gI zd6 zd7))))) (dv_pick_f (T rfl (congrArg Value.bool (decide_eq_false hb63))) (T rfl rfl)) ?_
     refine lw_nil ?_
     rcases Bool.eq_false_or_eq_true ((decide (fits (gI zd6 zd7))) != (decide (fits (gI zd6 zd7)))) with hb66 | hb66
     · refine rk_ct (T rfl (congrArg Value.bool hb66)) ?_
       refine rk_seq ?_
       refine rk_reg ?_
       refine lw_v (.bool false) (dv_assign C) ?_
       refine lw_nil ?_
       refine rk_ret Try.func6 (v := .bool false) (res1 Try.results6 (rv_tmp rfl rfl)) ⟨_, rfl, ?_⟩
       skip
       exact ⟨(by exfalso; exact cB hb66), E61⟩
     · refine rk_cf (T rfl (congrArg Value.bool hb66)) ?_
       refine rk_skip ?_
       refine rk_seq ?_
       refine rk_seq ?_
       refine rk_reg ?_
       refine lw_v (.bool (decide (fits (gI zd6 zd7)))) (dv_move (T rfl rfl)) ?_
       refine lw_v (.bool (decide (¬ (fits (gI zd6 zd7))))) (dv_notd (p := fits (gI zd6 zd7)) (T rfl rfl)) ?_
       refine lw_v (.bool (decide (¬ (fits (gI zd6 zd7))))) (dv_move (T rfl rfl)) ?_
       by_cases hb67 : fits (gI zd6 zd7)
       · refine lw_vy (.agg #[.int .u64 (wv3 (pkz (fits (gI zd6 zd7)) (gI zd6 zd7))), .int .u64 (wv2 (pkz (fits (gI zd6 zd7)) (gI zd6 zd7))), .int .u64 (wv1 (pkz (fits (gI zd6 zd7)) (gI zd6 zd7))), .int .u64 (wv0 (pkz (fits (gI zd6 zd7)) (gI zd6 zd7)))]) (d := 49) rfl rfl (congrArg Value.bool (decide_eq_false (not_not_intro hb67))) (dv_loads (l := [.int .u64 (wv3 (pkz (fits (gI zd6 zd7)) (gI zd6 zd7))), .int .u64 (wv2 (pkz (fits (gI zd6 zd7)) (gI zd6 zd7))), .int .u64 (wv1 (pkz (fits (gI zd6 zd7)) (gI zd6 zd7))), .int .u64 (wv0 (pkz (fits (gI zd6 zd7)) (gI zd6 zd7)))]) agt26 sz26 (T rfl rfl) H62 rfl) ?_
         refine lw_ey (d := 49) rfl rfl (congrArg Value.bool (decide_eq_false (not_not_intro hb67))) (oe_callf (vs := [.agg #[.int .u64 (wv3 (pkz (fits (gI zd6 zd7)) (gI zd6 zd7))), .int .u64 (wv2 (pkz (fits (gI zd6 zd7)) (gI zd6 zd7))), .int .u64 (wv1 (pkz (fits (gI zd6 zd7)) (gI zd6 zd7))), .int .u64 (wv0 (pkz (fits (gI zd6 zd7)) (gI zd6 zd7)))]]) co17 (ar1 (T rfl rfl)) (iWideSign_ok (x := pkz (fits (gI zd6 zd7)) (gI zd6 zd7)) fits_pk ) ?_)
         rintro _ w68 ⟨rfl, e69⟩
         have E70 := below_ext E61 E61.size e69
         have := sgnI_rg (pkz (fits (gI zd6 zd7)) (gI zd6 zd7))
         refine lw_vy (.bool (decide ((sgnI (pkz (fits (gI zd6 zd7)) (gI zd6 zd7))) = 0))) (d := 49) rfl rfl (congrArg Value.bool (decide_eq_false (not_not_intro hb67))) (dv_eql (a := sgnI (pkz (fits (gI zd6 zd7)) (gI zd6 zd7))) (b := 0) (T rfl rfl) C) ?_
         refine lw_v (.bool (decide ((sgnI (pkz (fits (gI zd6 zd7)) (gI zd6 zd7))) = 0))) (dv_pick_f (T rfl (congrArg Value.bool (decide_eq_false (not_not_intro hb67)))) (T rfl rfl)) ?_
         refine lw_nil ?_
         by_cases hb71 : (sgnI (pkz (fits (gI zd6 zd7)) (gI zd6 zd7))) = 0
         · refine rk_ct (T rfl (congrArg Value.bool (decide_eq_true hb71))) ?_
           refine rk_seq ?_
           refine rk_reg ?_
           refine lw_v (.bool (decide (fits (gI zd6 zd7)))) (dv_move (T rfl rfl)) ?_
           refine lw_v (.bool (decide (¬ (fits (gI zd6 zd7))))) (dv_notd (p := fits (gI zd6 zd7)) (T rfl rfl)) ?_
           refine lw_v (.bool (decide (¬ (fits (gI zd6 zd7))))) (dv_move (T rfl rfl)) ?_
           have H72 := (e69.blk (s59.blk (n54.ext.blk (e50.blk H47)) (by omega)))
           refine lw_vy (.agg #[.int .u64 (wv3 zd6), .int .u64 (wv2 zd6), .int .u64 (wv1 zd6), .int .u64 (wv0 zd6)]) (d := 56) rfl rfl (congrArg Value.bool (decide_eq_false (not_not_intro hb67))) (dv_loads (l := [.int .u64 (wv3 zd6), .int .u64 (wv2 zd6), .int .u64 (wv1 zd6), .int .u64 (wv0 zd6)]) agt26 sz26 (T rfl rfl) H72 rfl) ?_
           refine lw_ey (d := 56) rfl rfl (congrArg Value.bool (decide_eq_false (not_not_intro hb67))) (oe_callf (vs := [.agg #[.int .u64 (wv3 zd6), .int .u64 (wv2 zd6), .int .u64 (wv1 zd6), .int .u64 (wv0 zd6)]]) co17 (ar1 (T rfl rfl)) (iWideSign_ok (x := zd6) hz8 ) ?_)
           rintro _ w73 ⟨rfl, e74⟩
           have E75 := below_ext E70 E70.size e74
           have := sgnI_rg zd6
           refine lw_vy (.bool (decide ((sgnI zd6) = 0))) (d := 56) rfl rfl (congrArg Value.bool (decide_eq_false (not_not_intro hb67))) (dv_eql (a := sgnI zd6) (b := 0) (T rfl rfl) C) ?_
           refine lw_vy (.bool (decide ((sgnI zd6) = 0))) (d := 56) rfl rfl (congrArg Value.bool (decide_eq_false (not_not_intro hb67))) (dv_move (T rfl rfl)) ?_
           by_cases hb76 : (sgnI zd6) = 0
           · have H77 := (e74.blk (e69.blk (s59.blk (n54.ext.blk (e50.blk H48)) (by omega))))
             refine lw_vy (.agg #[.int .u64 (wv3 zd7), .int .u64 (wv2 zd7), .int .u64 (wv1 zd7), .int .u64 (wv0 zd7)]) (d := 60) rfl rfl (congrArg Value.bool (decide_eq_true hb76)) (dv_loads (l := [.int .u64 (wv3 zd7), .int .u64 (wv2 zd7), .int .u64 (wv1 zd7), .int .u64 (wv0 zd7)]) agt26 sz26 (T rfl rfl) H77 rfl) ?_
             refine lw_ey (d := 60) rfl rfl (congrArg Value.bool (decide_eq_true hb76)) (oe_callf (vs := [.agg #[.int .u64 (wv3 zd7), .int .u64 (wv2 zd7), .int .u64 (wv1 zd7), .int .u64 (wv0 zd7)]]) co17 (ar1 (T rfl rfl)) (iWideSign_ok (x := zd7) hz9 ) ?_)
             rintro _ w78 ⟨rfl, e79⟩
             have E80 := below_ext E75 E75.size e79
             have := sgnI_rg zd7
             refine lw_vy (.bool (decide ((sgnI zd7) = 0))) (d := 60) rfl rfl (congrArg Value.bool (decide_eq_true hb76)) (dv_eql (a := sgnI zd7) (b := 0) (T rfl rfl) C) ?_
             refine lw_vy (.bool (decide ((sgnI zd7) = 0))) (d := 56) rfl rfl (congrArg Value.bool (decide_eq_false (not_not_intro hb67))) (dv_pick_t (T rfl (congrArg Value.bool (decide_eq_true hb76))) (T rfl rfl)) ?_
             refine lw_v (.bool (decide ((sgnI zd7) = 0))) (dv_pick_f (T rfl (congrArg Value.bool (decide_eq_false (not_not_intro hb67)))) (T rfl rfl)) ?_
             refine lw_v (.bool (decide ((sgnI zd7) = 0))) (dv_assign (T rfl rfl)) ?_
             refine lw_nil ?_
             refine rk_ret Try.func6 (v := .bool (decide ((sgnI zd7) = 0))) (res1 Try.results6 (rv_tmp rfl rfl)) ⟨_, rfl, ?_⟩
             have c0 := cG0 hb67 hb71
             skip
             exact ⟨(vbt (by exact sgnI_zero.2 c0.2)), E80⟩
           · refine lw_no (d := 60) rfl rfl (congrArg Value.bool (decide_eq_false hb76)) ?_
             refine lw_no (d := 60) rfl rfl (congrArg Value.bool (decide_eq_false hb76)) ?_
             refine lw_no (d := 60) rfl rfl (congrArg Value.bool (decide_eq_false hb76)) ?_
             refine lw_vy (.bool false) (d := 56) rfl rfl (congrArg Value.bool (decide_eq_false (not_not_intro hb67))) (dv_pick_f (T rfl (congrArg Value.bool (decide_eq_false hb76))) C) ?_
             refine lw_v (.bool false) (dv_pick_f (T rfl (congrArg Value.bool (decide_eq_false (not_not_intro hb67)))) (T rfl rfl)) ?_
             refine lw_v (.bool false) (dv_assign (T rfl rfl)) ?_
             refine lw_nil ?_
             refine rk_ret Try.func6 (v := .bool false) (res1 Try.results6 (rv_tmp rfl rfl)) ⟨_, rfl, ?_⟩
             have c0 := cG0 hb67 hb71
             skip
             exact ⟨(by exfalso; exact hb76 (sgnI_zero.2 c0.1)), E75⟩
         · refine rk_cf (T rfl (congrArg Value.bool (decide_eq_false hb71))) ?_
           refine rk_skip ?_
           refine rk_seq ?_
           refine rk_reg ?_
           have H81 := (e69.blk (s59.blk (n54.ext.blk (e50.blk H47)) (by omega)))
           refine lw_v (.agg #[.int .u64 (wv3 zd6), .int .u64 (wv2 zd6), .int .u64 (wv1 zd6), .int .u64 (wv0 zd6)]) (dv_loads (l := [.int .u64 (wv3 zd6), .int .u64 (wv2 zd6), .int .u64 (wv1 zd6), .int .u64 (wv0 zd6)]) agt26 sz26 (T rfl rfl) H81 rfl) ?_
           have H82 := (e69.blk H62)
           refine lw_v (.agg #[.int .u64 (wv3 (pkz (fits (gI zd6 zd7)) (gI zd6 zd7))), .int .u64 (wv2 (pkz (fits (gI zd6 zd7)) (gI zd6 zd7))), .int .u64 (wv1 (pkz (fits (gI zd6 zd7)) (gI zd6 zd7))), .int .u64 (wv0 (pkz (fits (gI zd6 zd7)) (gI zd6 zd7)))]) (dv_loads (l := [.int .u64 (wv3 (pkz (fits (gI zd6 zd7)) (gI zd6 zd7))), .int .u64 (wv2 (pkz (fits (gI zd6 zd7)) (gI zd6 zd7))), .int .u64 (wv1 (pkz (fits (gI zd6 zd7)) (gI zd6 zd7))), .int .u64 (wv0 (pkz (fits (gI zd6 zd7)) (gI zd6 zd7)))]) agt26 sz26 (T rfl rfl) H82 rfl) ?_
           refine lw_e (oe_callf (vs := [.agg #[.int .u64 (wv3 zd6), .int .u64 (wv2 zd6), .int .u64 (wv1 zd6), .int .u64 (wv0 zd6)], .agg #[.int .u64 (wv3 (pkz (fits (gI zd6 zd7)) (gI zd6 zd7))), .int .u64 (wv2 (pkz (fits (gI zd6 zd7)) (gI zd6 zd7))), .int .u64 (wv1 (pkz (fits (gI zd6 zd7)) (gI zd6 zd7))), .int .u64 (wv0 (pkz (fits (gI zd6 zd7)) (gI zd6 zd7)))]]) co29 (ar2 (T rfl rfl) (T rfl rfl)) (iWideDiv_ok (x := zd6) (y := pkz (fits (gI zd6 zd7)) (gI zd6 zd7)) hz8 fits_pk ) ?_)
           rintro _ w83 ⟨rfl, e84⟩
           have E85 := below_ext E70 E70.size e84
           refine lw_v (.tuple #[.agg #[.int .u64 (wv3 (pkz (dOk zd6 (pkz (fits (gI zd6 zd7)) (gI zd6 zd7))) (zd6 / (pkz (fits (gI zd6 zd7)) (gI zd6 zd7))))), .int .u64 (wv2 (pkz (dOk zd6 (pkz (fits (gI zd6 zd7)) (gI zd6 zd7))) (zd6 / (pkz (fits (gI zd6 zd7)) (gI zd6 zd7))))), .int .u64 (wv1 (pkz (dOk zd6 (pkz (fits (gI zd6 zd7)) (gI zd6 zd7))) (zd6 / (pkz (fits (gI zd6 zd7)) (gI zd6 zd7))))), .int .u64 (wv0 (pkz (dOk zd6 (pkz (fits (gI zd6 zd7)) (gI zd6 zd7))) (zd6 / (pkz (fits (gI zd6 zd7)) (gI zd6 zd7)))))], .agg #[.int .u64 (wv3 (pkz (dOk zd6 (pkz (fits (gI zd6 zd7)) (gI zd6 zd7))) (zd6 % (pkz (fits (gI zd6 zd7)) (gI zd6 zd7))))), .int .u64 (wv2 (pkz (dOk zd6 (pkz (fits (gI zd6 zd7)) (gI zd6 zd7))) (zd6 % (pkz (fits (gI zd6 zd7)) (gI zd6 zd7))))), .int .u64 (wv1 (pkz (dOk zd6 (pkz (fits (gI zd6 zd7)) (gI zd6 zd7))) (zd6 % (pkz (fits (gI zd6 zd7)) (gI zd6 zd7))))), .int .u64 (wv0 (pkz (dOk zd6 (pkz (fits (gI zd6 zd7)) (gI zd6 zd7))) (zd6 % (pkz (fits (gI zd6 zd7)) (gI zd6 zd7)))))], .bool (decide (dOk zd6 (pkz (fits (gI zd6 zd7)) (gI zd6 zd7))))]) (dv_move (T rfl rfl)) ?_
           refine lw_v (.agg #[.int .u64 (wv3 (pkz (dOk zd6 (pkz (fits (gI zd6 zd7)) (gI zd6 zd7))) (zd6 / (pkz (fits (gI zd6 zd7)) (gI zd6 zd7))))), .int .u64 (wv2 (pkz (dOk zd6 (pkz (fits (gI zd6 zd7)) (gI zd6 zd7))) (zd6 / (pkz (fits (gI zd6 zd7)) (gI zd6 zd7))))), .int .u64 (wv1 (pkz (dOk zd6 (pkz (fits (gI zd6 zd7)) (gI zd6 zd7))) (zd6 / (pkz (fits (gI zd6 zd7)) (gI zd6 zd7))))), .int .u64 (wv0 (pkz (dOk zd6 (pkz (fits (gI zd6 zd7)) (gI zd6 zd7))) (zd6 / (pkz (fits (gI zd6 zd7)) (gI zd6 zd7)))))]) (dv_extract (vs := #[.agg #[.int .u64 (wv3 (pkz (dOk zd6 (pkz (fits (gI zd6 zd7)) (gI zd6 zd7))) (zd6 / (pkz (fits (gI zd6 zd7)) (gI zd6 zd7))))), .int .u64 (wv2 (pkz (dOk zd6 (pkz (fits (gI zd6 zd7)) (gI zd6 zd7))) (zd6 / (pkz (fits (gI zd6 zd7)) (gI zd6 zd7))))), .int .u64 (wv1 (pkz (dOk zd6 (pkz (fits (gI zd6 zd7)) (gI zd6 zd7))) (zd6 / (pkz (fits (gI zd6 zd7)) (gI zd6 zd7))))), .int .u64 (wv0 (pkz (dOk zd6 (pkz (fits (gI zd6 zd7)) (gI zd6 zd7))) (zd6 / (pkz (fits (gI zd6 zd7)) (gI zd6 zd7)))))], .agg #[.int .u64 (wv3 (pkz (dOk zd6 (pkz (fits (gI zd6 zd7)) (gI zd6 zd7))) (zd6 % (pkz (fits (gI zd6 zd7)) (gI zd6 zd7))))), .int .u64 (wv2 (pkz (dOk zd6 (pkz (fits (gI zd6 zd7)) (gI zd6 zd7))) (zd6 % (pkz (fits (gI zd6 zd7)) (gI zd6 zd7))))), .int .u64 (wv1 (pkz (dOk zd6 (pkz (fits (gI zd6 zd7)) (gI zd6 zd7))) (zd6 % (pkz (fits (gI zd6 zd7)) (gI zd6 zd7))))), .int .u64 (wv0 (pkz (dOk zd6 (pkz (fits (gI zd6 zd7)) (gI zd6 zd7))) (zd6 % (pkz (fits (gI zd6 zd7)) (gI zd6 zd7)))))], .bool (decide (dOk zd6 (pkz (fits (gI zd6 zd7)) (gI zd6 zd7))))]) (T rfl rfl) rfl) ?_
           refine lw_v (.agg #[.int .u64 (wv3 (pkz (dOk zd6 (pkz (fits (gI zd6 zd7)) (gI zd6 zd7))) (zd6 % (pkz (fits (gI zd6 zd7)) (gI zd6 zd7))))), .int .u64 (wv2 (pkz (dOk zd6 (pkz (fits (gI zd6 zd7)) (gI zd6 zd7))) (zd6 % (pkz (fits (gI zd6 zd7)) (gI zd6 zd7))))), .int .u64 (wv1 (pkz (dOk zd6 (pkz (fits (gI zd6 zd7)) (gI zd6 zd7))) (zd6 % (pkz (fits (gI zd6 zd7)) (gI zd6 zd7))))), .int .u64 (wv0 (pkz (dOk zd6 (pkz (fits (gI zd6 zd7)) (gI zd6 zd7))) (zd6 % (pkz (fits (gI zd6 zd7)) (gI zd6 zd7)))))]) (dv_extract (vs := #[.agg #[.int .u64 (wv3 (pkz (dOk zd6 (pkz (fits (gI zd6 zd7)) (gI zd6 zd7))) (zd6 / (pkz (fits (gI zd6 zd7)) (gI zd6 zd7))))), .int .u64 (wv2 (pkz (dOk zd6 (pkz (fits (gI zd6 zd7)) (gI zd6 zd7))) (zd6 / (pkz (fits (gI zd6 zd7)) (gI zd6 zd7))))), .int .u64 (wv1 (pkz (dOk zd6 (pkz (fits (gI zd6 zd7)) (gI zd6 zd7))) (zd6 / (pkz (fits (gI zd6 zd7)) (gI zd6 zd7))))), .int .u64 (wv0 (pkz (dOk zd6 (pkz (fits (gI zd6 zd7)) (gI zd6 zd7))) (zd6 / (pkz (fits (gI zd6 zd7)) (gI zd6 zd7)))))], .agg #[.int .u64 (wv3 (pkz (dOk zd6 (pkz (fits (gI zd6 zd7)) (gI zd6 zd7))) (zd6 % (pkz (fits (gI zd6 zd7)) (gI zd6 zd7))))), .int .u64 (wv2 (pkz (dOk zd6 (pkz (fits (gI zd6 zd7)) (gI zd6 zd7))) (zd6 % (pkz (fits (gI zd6 zd7)) (gI zd6 zd7))))), .int .u64 (wv1 (pkz (dOk zd6 (pkz (fits (gI zd6 zd7)) (gI zd6 zd7))) (zd6 % (pkz (fits (gI zd6 zd7)) (gI zd6 zd7))))), .int .u64 (wv0 (pkz (dOk zd6 (pkz (fits (gI zd6 zd7)) (gI zd6 zd7))) (zd6 % (pkz (fits (gI zd6 zd7)) (gI zd6 zd7)))))], .bool (decide (dOk zd6 (pkz (fits (gI zd6 zd7)) (gI zd6 zd7))))]) (T rfl rfl) rfl) ?_
           refine lw_v (.bool (decide (dOk zd6 (pkz (fits (gI zd6 zd7)) (gI zd6 zd7))))) (dv_extract (vs := #[.agg #[.int .u64 (wv3 (pkz (dOk zd6 (pkz (fits (gI zd6 zd7)) (gI zd6 zd7))) (zd6 / (pkz (fits (gI zd6 zd7)) (gI zd6 zd7))))), .int .u64 (wv2 (pkz (dOk zd6 (pkz (fits (gI zd6 zd7)) (gI zd6 zd7))) (zd6 / (pkz (fits (gI zd6 zd7)) (gI zd6 zd7))))), .int .u64 (wv1 (pkz (dOk zd6 (pkz (fits (gI zd6 zd7)) (gI zd6 zd7))) (zd6 / (pkz (fits (gI zd6 zd7)) (gI zd6 zd7))))), .int .u64 (wv0 (pkz (dOk zd6 (pkz (fits (gI zd6 zd7)) (gI zd6 zd7))) (zd6 / (pkz (fits (gI zd6 zd7)) (gI zd6 zd7)))))], .agg #[.int .u64 (wv3 (pkz (dOk zd6 (pkz (fits (gI zd6 zd7)) (gI zd6 zd7))) (zd6 % (pkz (fits (gI zd6 zd7)) (gI zd6 zd7))))), .int .u64 (wv2 (pkz (dOk zd6 (pkz (fits (gI zd6 zd7)) (gI zd6 zd7))) (zd6 % (pkz (fits (gI zd6 zd7)) (gI zd6 zd7))))), .int .u64 (wv1 (pkz (dOk zd6 (pkz (fits (gI zd6 zd7)) (gI zd6 zd7))) (zd6 % (pkz (fits (gI zd6 zd7)) (gI zd6 zd7))))), .int .u64 (wv0 (pkz (dOk zd6 (pkz (fits (gI zd6 zd7)) (gI zd6 zd7))) (zd6 % (pkz (fits (gI zd6 zd7)) (gI zd6 zd7)))))], .bool (decide (dOk zd6 (pkz (fits (gI zd6 zd7)) (gI zd6 zd7))))]) (T rfl rfl) rfl) ?_
           refine lw_e (oe_alloc ze26 ?_)
           intro b86 w87 n88
           have N89 : w.heap.size ≤ b86 := n88.eq ▸ E85.size
           have H90 := (e84.blk (e69.blk H60))
           have : b52 < b86 := n88.eq ▸ lt_of_blk H90
           have E91 := below_ext E85 E85.size n88.ext
           refine lw_e (oe_alloc ze26 ?_)
           intro b92 w93 n94
           have N95 : w.heap.size ≤ b92 := n94.eq ▸ E91.size
           have : b86 < b92 := n94.eq ▸ lt_of_blk n88.blk
           have E96 := below_ext E91 E91.size n94.ext
           have H97 := (n94.ext.blk n88.blk)
           refine lw_e (oe_store (v := .agg #[.int .u64 (wv3 (pkz (dOk zd6 (pkz (fits (gI zd6 zd7)) (gI zd6 zd7))) (zd6 / (pkz (fits (gI zd6 zd7)) (gI zd6 zd7))))), .int .u64 (wv2 (pkz (dOk zd6 (pkz (fits (gI zd6 zd7)) (gI zd6 zd7))) (zd6 / (pkz (fits (gI zd6 zd7)) (gI zd6 zd7))))), .int .u64 (wv1 (pkz (dOk zd6 (pkz (fits (gI zd6 zd7)) (gI zd6 zd7))) (zd6 / (pkz (fits (gI zd6 zd7)) (gI zd6 zd7))))), .int .u64 (wv0 (pkz (dOk zd6 (pkz (fits (gI zd6 zd7)) (gI zd6 zd7))) (zd6 / (pkz (fits (gI zd6 zd7)) (gI zd6 zd7)))))]) (vs := [.int .u64 (wv3 (pkz (dOk zd6 (pkz (fits (gI zd6 zd7)) (gI zd6 zd7))) (zd6 / (pkz (fits (gI zd6 zd7)) (gI zd6 zd7))))), .int .u64 (wv2 (pkz (dOk zd6 (pkz (fits (gI zd6 zd7)) (gI zd6 zd7))) (zd6 / (pkz (fits (gI zd6 zd7)) (gI zd6 zd7))))), .int .u64 (wv1 (pkz (dOk zd6 (pkz (fits (gI zd6 zd7)) (gI zd6 zd7))) (zd6 / (pkz (fits (gI zd6 zd7)) (gI zd6 zd7))))), .int .u64 (wv0 (pkz (dOk zd6 (pkz (fits (gI zd6 zd7)) (gI zd6 zd7))) (zd6 / (pkz (fits (gI zd6 zd7)) (gI zd6 zd7)))))]) (l := [.int .u64 (wv3 (pkz (dOk zd6 (pkz (fits (gI zd6 zd7)) (gI zd6 zd7))) (zd6 / (pkz (fits (gI zd6 zd7)) (gI zd6 zd7))))), .int .u64 (wv2 (pkz (dOk zd6 (pkz (fits (gI zd6 zd7)) (gI zd6 zd7))) (zd6 / (pkz (fits (gI zd6 zd7)) (gI zd6 zd7))))), .int .u64 (wv1 (pkz (dOk zd6 (pkz (fits (gI zd6 zd7)) (gI zd6 zd7))) (zd6 / (pkz (fits (gI zd6 zd7)) (gI zd6 zd7))))), .int .u64 (wv0 (pkz (dOk zd6 (pkz (fits (gI zd6 zd7)) (gI zd6 zd7))) (zd6 / (pkz (fits (gI zd6 zd7)) (gI zd6 zd7)))))]) (T rfl rfl) (T rfl rfl) sz26 rfl rfl rfl H97 rfl ?_)
           intro w98 s99 H100
           have E101 := below_st E96 N89 s99
           have H102 := (s99.blk n94.blk (by omega))
           refine lw_e (oe_store (v := .agg #[.int .u64 (wv3 (pkz (dOk zd6 (pkz (fits (gI zd6 zd7)) (gI zd6 zd7))) (zd6 % (pkz (fits (gI zd6 zd7)) (gI zd6 zd7))))), .int .u64 (wv2 (pkz (dOk zd6 (pkz (fits (gI zd6 zd7)) (gI zd6 zd7))) (zd6 % (pkz (fits (gI zd6 zd7)) (gI zd6 zd7))))), .int .u64 (wv1 (pkz (dOk zd6 (pkz (fits (gI zd6 zd7)) (gI zd6 zd7))) (zd6 % (pkz (fits (gI zd6 zd7)) (gI zd6 zd7))))), .int .u64 (wv0 (pkz (dOk zd6 (pkz (fits (gI zd6 zd7)) (gI zd6 zd7))) (zd6 % (pkz (fits (gI zd6 zd7)) (gI zd6 zd7)))))]) (vs := [.int .u64 (wv3 (pkz (dOk zd6 (pkz (fits (gI zd6 zd7)) (gI zd6 zd7))) (zd6 % (pkz (fits (gI zd6 zd7)) (gI zd6 zd7))))), .int .u64 (wv2 (pkz (dOk zd6 (pkz (fits (gI zd6 zd7)) (gI zd6 zd7))) (zd6 % (pkz (fits (gI zd6 zd7)) (gI zd6 zd7))))), .int .u64 (wv1 (pkz (dOk zd6 (pkz (fits (gI zd6 zd7)) (gI zd6 zd7))) (zd6 % (pkz (fits (gI zd6 zd7)) (gI zd6 zd7))))), .int .u64 (wv0 (pkz (dOk zd6 (pkz (fits (gI zd6 zd7)) (gI zd6 zd7))) (zd6 % (pkz (fits (gI zd6 zd7)) (gI zd6 zd7)))))]) (l := [.int .u64 (wv3 (pkz (dOk zd6 (pkz (fits (gI zd6 zd7)) (gI zd6 zd7))) (zd6 % (pkz (fits (gI zd6 zd7)) (gI zd6 zd7))))), .int .u64 (wv2 (pkz (dOk zd6 (pkz (fits (gI zd6 zd7)) (gI zd6 zd7))) (zd6 % (pkz (fits (gI zd6 zd7)) (gI zd6 zd7))))), .int .u64 (wv1 (pkz (dOk zd6 (pkz (fits (gI zd6 zd7)) (gI zd6 zd7))) (zd6 % (pkz (fits (gI zd6 zd7)) (gI zd6 zd7))))), .int .u64 (wv0 (pkz (dOk zd6 (pkz (fits (gI zd6 zd7)) (gI zd6 zd7))) (zd6 % (pkz (fits (gI zd6 zd7)) (gI zd6 zd7)))))]) (T rfl rfl) (T rfl rfl) sz26 rfl rfl rfl H102 rfl ?_)
           intro w103 s104 H105
           have E106 := below_st E101 N95 s104
           refine lw_v (.bool (decide (dOk zd6 (pkz (fits (gI zd6 zd7)) (gI zd6 zd7))))) (dv_assign (T rfl rfl)) ?_
           refine lw_nil ?_
           refine rk_seq ?_
           refine rk_reg ?_
           have H107 := (s104.blk (s99.blk (n94.ext.blk (n88.ext.blk (e84.blk (e69.blk (s59.blk (n54.ext.blk (e50.blk H48)) (by omega)))))) (by omega)) (by omega))
           refine lw_v (.agg #[.int .u64 (wv3 zd7), .int .u64 (wv2 zd7), .int .u64 (wv1 zd7), .int .u64 (wv0 zd7)]) (dv_loads (l := [.int .u64 (wv3 zd7), .int .u64 (wv2 zd7), .int .u64 (wv1 zd7), .int .u64 (wv0 zd7)]) agt26 sz26 (T rfl rfl) H107 rfl) ?_
           have H108 := (s104.blk (s99.blk (n94.ext.blk (n88.ext.blk (e84.blk H82))) (by omega)) (by omega))
           refine lw_v (.agg #[.int .u64 (wv3 (pkz (fits (gI zd6 zd7)) (gI zd6 zd7))), .int .u64 (wv2 (pkz (fits (gI zd6 zd7)) (gI zd6 zd7))), .int .u64 (wv1 (pkz (fits (gI zd6 zd7)) (gI zd6 zd7))), .int .u64 (wv0 (pkz (fits (gI zd6 zd7)) (gI zd6 zd7)))]) (dv_loads (l := [.int .u64 (wv3 (pkz (fits (gI zd6 zd7)) (gI zd6 zd7))), .int .u64 (wv2 (pkz (fits (gI zd6 zd7)) (gI zd6 zd7))), .int .u64 (wv1 (pkz (fits (gI zd6 zd7)) (gI zd6 zd7))), .int .u64 (wv0 (pkz (fits (gI zd6 zd7)) (gI zd6 zd7)))]) agt26 sz26 (T rfl rfl) H108 rfl) ?_
           refine lw_e (oe_callf (vs := [.agg #[.int .u64 (wv3 zd7), .int .u64 (wv2 zd7), .int .u64 (wv1 zd7), .int .u64 (wv0 zd7)], .agg #[.int .u64 (wv3 (pkz (fits (gI zd6 zd7)) (gI zd6 zd7))), .int .u64 (wv2 (pkz (fits (gI zd6 zd7)) (gI zd6 zd7))), .int .u64 (wv1 (pkz (fits (gI zd6 zd7)) (gI zd6 zd7))), .int .u64 (wv0 (pkz (fits (gI zd6 zd7)) (gI zd6 zd7)))]]) co29 (ar2 (T rfl rfl) (T rfl rfl)) (iWideDiv_ok (x := zd7) (y := pkz (fits (gI zd6 zd7)) (gI zd6 zd7)) hz9 fits_pk ) ?_)
           rintro _ w109 ⟨rfl, e110⟩
           have E111 := below_ext E106 E106.size e110
           refine lw_v (.tuple #[.agg #[.int .u64 (wv3 (pkz (dOk zd7 (pkz (fits (gI zd6 zd7)) (gI zd6 zd7))) (zd7 / (pkz (fits (gI zd6 zd7)) (gI zd6 zd7))))), .int .u64 (wv2 (pkz (dOk zd7 (pkz (fits (gI zd6 zd7)) (gI zd6 zd7))) (zd7 / (pkz (fits (gI zd6 zd7)) (gI zd6 zd7))))), .int .u64 (wv1 (pkz (dOk zd7 (pkz (fits (gI zd6 zd7)) (gI zd6 zd7))) (zd7 / (pkz (fits (gI zd6 zd7)) (gI zd6 zd7))))), .int .u64 (wv0 (pkz (dOk zd7 (pkz (fits (gI zd6 zd7)) (gI zd6 zd7))) (zd7 / (pkz (fits (gI zd6 zd7)) (gI zd6 zd7)))))], .agg #[.int .u64 (wv3 (pkz (dOk zd7 (pkz (fits (gI zd6 zd7)) (gI zd6 zd7))) (zd7 % (pkz (fits (gI zd6 zd7)) (gI zd6 zd7))))), .int .u64 (wv2 (pkz (dOk zd7 (pkz (fits (gI zd6 zd7)) (gI zd6 zd7))) (zd7 % (pkz (fits (gI zd6 zd7)) (gI zd6 zd7))))), .int .u64 (wv1 (pkz (dOk zd7 (pkz (fits (gI zd6 zd7)) (gI zd6 zd7))) (zd7 % (pkz (fits (gI zd6 zd7)) (gI zd6 zd7))))), .int .u64 (wv0 (pkz (dOk zd7 (pkz (fits (gI zd6 zd7)) (gI zd6 zd7))) (zd7 % (pkz (fits (gI zd6 zd7)) (gI zd6 zd7)))))], .bool (decide (dOk zd7 (pkz (fits (gI zd6 zd7)) (gI zd6 zd7))))]) (dv_move (T rfl rfl)) ?_
           refine lw_v (.agg #[.int .u64 (wv3 (pkz (dOk zd7 (pkz (fits (gI zd6 zd7)) (gI zd6 zd7))) (zd7 / (pkz (fits (gI zd6 zd7)) (gI zd6 zd7))))), .int .u64 (wv2 (pkz (dOk zd7 (pkz (fits (gI zd6 zd7)) (gI zd6 zd7))) (zd7 / (pkz (fits (gI zd6 zd7)) (gI zd6 zd7))))), .int .u64 (wv1 (pkz (dOk zd7 (pkz (fits (gI zd6 zd7)) (gI zd6 zd7))) (zd7 / (pkz (fits (gI zd6 zd7)) (gI zd6 zd7))))), .int .u64 (wv0 (pkz (dOk zd7 (pkz (fits (gI zd6 zd7)) (gI zd6 zd7))) (zd7 / (pkz (fits (gI zd6 zd7)) (gI zd6 zd7)))))]) (dv_extract (vs := #[.agg #[.int .u64 (wv3 (pkz (dOk zd7 (pkz (fits (gI zd6 zd7)) (gI zd6 zd7))) (zd7 / (pkz (fits (gI zd6 zd7)) (gI zd6 zd7))))), .int .u64 (wv2 (pkz (dOk zd7 (pkz (fits (gI zd6 zd7)) (gI zd6 zd7))) (zd7 / (pkz (fits (gI zd6 zd7)) (gI zd6 zd7))))), .int .u64 (wv1 (pkz (dOk zd7 (pkz (fits (gI zd6 zd7)) (gI zd6 zd7))) (zd7 / (pkz (fits (gI zd6 zd7)) (gI zd6 zd7))))), .int .u64 (wv0 (pkz (dOk zd7 (pkz (fits (gI zd6 zd7)) (gI zd6 zd7))) (zd7 / (pkz (fits (gI zd6 zd7)) (gI zd6 zd7)))))], .agg #[.int .u64 (wv3 (pkz (dOk zd7 (pkz (fits (gI zd6 zd7)) (gI zd6 zd7))) (zd7 % (pkz (fits (gI zd6 zd7)) (gI zd6 zd7))))), .int .u64 (wv2 (pkz (dOk zd7 (pkz (fits (gI zd6 zd7)) (gI zd6 zd7))) (zd7 % (pkz (fits (gI zd6 zd7)) (gI zd6 zd7))))), .int .u64 (wv1 (pkz (dOk zd7 (pkz (fits (gI zd6 zd7)) (gI zd6 zd7))) (zd7 % (pkz (fits (gI zd6 zd7)) (gI zd6 zd7))))), .int .u64 (wv0 (pkz (dOk zd7 (pkz (fits (gI zd6 zd7)) (gI zd6 zd7))) (zd7 % (pkz (fits (gI zd6 zd7)) (gI zd6 zd7)))))], .bool (decide (dOk zd7 (pkz (fits (gI zd6 zd7)) (gI zd6 zd7))))]) (T rfl rfl) rfl) ?_
           refine lw_v (.agg #[.int .u64 (wv3 (pkz (dOk zd7 (pkz (fits (gI zd6 zd7)) (gI zd6 zd7))) (zd7 % (pkz (fits (gI zd6 zd7)) (gI zd6 zd7))))), .int .u64 (wv2 (pkz (dOk zd7 (pkz (fits (gI zd6 zd7)) (gI zd6 zd7))) (zd7 % (pkz (fits (gI zd6 zd7)) (gI zd6 zd7))))), .int .u64 (wv1 (pkz (dOk zd7 (pkz (fits (gI zd6 zd7)) (gI zd6 zd7))) (zd7 % (pkz (fits (gI zd6 zd7)) (gI zd6 zd7))))), .int .u64 (wv0 (pkz (dOk zd7 (pkz (fits (gI zd6 zd7)) (gI zd6 zd7))) (zd7 % (pkz (fits (gI zd6 zd7)) (gI zd6 zd7)))))]) (dv_extract (vs := #[.agg #[.int .u64 (wv3 (pkz (dOk zd7 (pkz (fits (gI zd6 zd7)) (gI zd6 zd7))) (zd7 / (pkz (fits (gI zd6 zd7)) (gI zd6 zd7))))), .int .u64 (wv2 (pkz (dOk zd7 (pkz (fits (gI zd6 zd7)) (gI zd6 zd7))) (zd7 / (pkz (fits (gI zd6 zd7)) (gI zd6 zd7))))), .int .u64 (wv1 (pkz (dOk zd7 (pkz (fits (gI zd6 zd7)) (gI zd6 zd7))) (zd7 / (pkz (fits (gI zd6 zd7)) (gI zd6 zd7))))), .int .u64 (wv0 (pkz (dOk zd7 (pkz (fits (gI zd6 zd7)) (gI zd6 zd7))) (zd7 / (pkz (fits (gI zd6 zd7)) (gI zd6 zd7)))))], .agg #[.int .u64 (wv3 (pkz (dOk zd7 (pkz (fits (gI zd6 zd7)) (gI zd6 zd7))) (zd7 % (pkz (fits (gI zd6 zd7)) (gI zd6 zd7))))), .int .u64 (wv2 (pkz (dOk zd7 (pkz (fits (gI zd6 zd7)) (gI zd6 zd7))) (zd7 % (pkz (fits (gI zd6 zd7)) (gI zd6 zd7))))), .int .u64 (wv1 (pkz (dOk zd7 (pkz (fits (gI zd6 zd7)) (gI zd6 zd7))) (zd7 % (pkz (fits (gI zd6 zd7)) (gI zd6 zd7))))), .int .u64 (wv0 (pkz (dOk zd7 (pkz (fits (gI zd6 zd7)) (gI zd6 zd7))) (zd7 % (pkz (fits (gI zd6 zd7)) (gI zd6 zd7)))))], .bool (decide (dOk zd7 (pkz (fits (gI zd6 zd7)) (gI zd6 zd7))))]) (T rfl rfl) rfl) ?_
           refine lw_v (.bool (decide (dOk zd7 (pkz (fits (gI zd6 zd7)) (gI zd6 zd7))))) (dv_extract (vs := #[.agg #[.int .u64 (wv3 (pkz (dOk zd7 (pkz (fits (gI zd6 zd7)) (gI zd6 zd7))) (zd7 / (pkz (fits (gI zd6 zd7)) (gI zd6 zd7))))), .int .u64 (wv2 (pkz (dOk zd7 (pkz (fits (gI zd6 zd7)) (gI zd6 zd7))) (zd7 / (pkz (fits (gI zd6 zd7)) (gI zd6 zd7))))), .int .u64 (wv1 (pkz (dOk zd7 (pkz (fits (gI zd6 zd7)) (gI zd6 zd7))) (zd7 / (pkz (fits (gI zd6 zd7)) (gI zd6 zd7))))), .int .u64 (wv0 (pkz (dOk zd7 (pkz (fits (gI zd6 zd7)) (gI zd6 zd7))) (zd7 / (pkz (fits (gI zd6 zd7)) (gI zd6 zd7)))))], .agg #[.int .u64 (wv3 (pkz (dOk zd7 (pkz (fits (gI zd6 zd7)) (gI zd6 zd7))) (zd7 % (pkz (fits (gI zd6 zd7)) (gI zd6 zd7))))), .int .u64 (wv2 (pkz (dOk zd7 (pkz (fits (gI zd6 zd7)) (gI zd6 zd7))) (zd7 % (pkz (fits (gI zd6 zd7)) (gI zd6 zd7))))), .int .u64 (wv1 (pkz (dOk zd7 (pkz (fits (gI zd6 zd7)) (gI zd6 zd7))) (zd7 % (pkz (fits (gI zd6 zd7)) (gI zd6 zd7))))), .int .u64 (wv0 (pkz (dOk zd7 (pkz (fits (gI zd6 zd7)) (gI zd6 zd7))) (zd7 % (pkz (fits (gI zd6 zd7)) (gI zd6 zd7)))))], .bool (decide (dOk zd7 (pkz (fits (gI zd6 zd7)) (gI zd6 zd7))))]) (T rfl rfl) rfl) ?_
           refine lw_e (oe_alloc ze26 ?_)
           intro b112 w113 n114
           have N115 : w.heap.size ≤ b112 := n114.eq ▸ E111.size
           have H116 := (e110.blk H105)
           have : b92 < b112 := n114.eq ▸ lt_of_blk H116
           have E117 := below_ext E111 E111.size n114.ext
           refine lw_e (oe_alloc ze26 ?_)
           intro b118 w119 n120
           have N121 : w.heap.size ≤ b118 := n120.eq ▸ E117.size
           have : b112 < b118 := n120.eq ▸ lt_of_blk n114.blk
           have E122 := below_ext E117 E117.size n120.ext
           have H123 := (n120.ext.blk n114.blk)
           refine lw_e (oe_store (v := .agg #[.int .u64 (wv3 (pkz (dOk zd7 (pkz (fits (gI zd6 zd7)) (gI zd6 zd7))) (zd7 / (pkz (fits (gI zd6 zd7)) (gI zd6 zd7))))), .int .u64 (wv2 (pkz (dOk zd7 (pkz (fits (gI zd6 zd7)) (gI zd6 zd7))) (zd7 / (pkz (fits (gI zd6 zd7)) (gI zd6 zd7))))), .int .u64 (wv1 (pkz (dOk zd7 (pkz (fits (gI zd6 zd7)) (gI zd6 zd7))) (zd7 / (pkz (fits (gI zd6 zd7)) (gI zd6 zd7))))), .int .u64 (wv0 (pkz (dOk zd7 (pkz (fits (gI zd6 zd7)) (gI zd6 zd7))) (zd7 / (pkz (fits (gI zd6 zd7)) (gI zd6 zd7)))))]) (vs := [.int .u64 (wv3 (pkz (dOk zd7 (pkz (fits (gI zd6 zd7)) (gI zd6 zd7))) (zd7 / (pkz (fits (gI zd6 zd7)) (gI zd6 zd7))))), .int .u64 (wv2 (pkz (dOk zd7 (pkz (fits (gI zd6 zd7)) (gI zd6 zd7))) (zd7 / (pkz (fits (gI zd6 zd7)) (gI zd6 zd7))))), .int .u64 (wv1 (pkz (dOk zd7 (pkz (fits (gI zd6 zd7)) (gI zd6 zd7))) (zd7 / (pkz (fits (gI zd6 zd7)) (gI zd6 zd7))))), .int .u64 (wv0 (pkz (dOk zd7 (pkz (fits (gI zd6 zd7)) (gI zd6 zd7))) (zd7 / (pkz (fits (gI zd6 zd7)) (gI zd6 zd7)))))]) (l := [.int .u64 (wv3 (pkz (dOk zd7 (pkz (fits (gI zd6 zd7)) (gI zd6 zd7))) (zd7 / (pkz (fits (gI zd6 zd7)) (gI zd6 zd7))))), .int .u64 (wv2 (pkz (dOk zd7 (pkz (fits (gI zd6 zd7)) (gI zd6 zd7))) (zd7 / (pkz (fits (gI zd6 zd7)) (gI zd6 zd7))))), .int .u64 (wv1 (pkz (dOk zd7 (pkz (fits (gI zd6 zd7)) (gI zd6 zd7))) (zd7 / (pkz (fits (gI zd6 zd7)) (gI zd6 zd7))))), .int .u64 (wv0 (pkz (dOk zd7 (pkz (fits (gI zd6 zd7)) (gI zd6 zd7))) (zd7 / (pkz (fits (gI zd6 zd7)) (gI zd6 zd7)))))]) (T rfl rfl) (T rfl rfl) sz26 rfl rfl rfl H123 rfl ?_)
           intro w124 s125 H126
           have E127 := below_st E122 N115 s125
           have H128 := (s125.blk n120.blk (by omega))
           refine lw_e (oe_store (v := .agg #[.int .u64 (wv3 (pkz (dOk zd7 (pkz (fits (gI zd6 zd7)) (gI zd6 zd7))) (zd7 % (pkz (fits (gI zd6 zd7)) (gI zd6 zd7))))), .int .u64 (wv2 (pkz (dOk zd7 (pkz (fits (gI zd6 zd7)) (gI zd6 zd7))) (zd7 % (pkz (fits (gI zd6 zd7)) (gI zd6 zd7))))), .int .u64 (wv1 (pkz (dOk zd7 (pkz (fits (gI zd6 zd7)) (gI zd6 zd7))) (zd7 % (pkz (fits (gI zd6 zd7)) (gI zd6 zd7))))), .int .u64 (wv0 (pkz (dOk zd7 (pkz (fits (gI zd6 zd7)) (gI zd6 zd7))) (zd7 % (pkz (fits (gI zd6 zd7)) (gI zd6 zd7)))))]) (vs := [.int .u64 (wv3 (pkz (dOk zd7 (pkz (fits (gI zd6 zd7)) (gI zd6 zd7))) (zd7 % (pkz (fits (gI zd6 zd7)) (gI zd6 zd7))))), .int .u64 (wv2 (pkz (dOk zd7 (pkz (fits (gI zd6 zd7)) (gI zd6 zd7))) (zd7 % (pkz (fits (gI zd6 zd7)) (gI zd6 zd7))))), .int .u64 (wv1 (pkz (dOk zd7 (pkz (fits (gI zd6 zd7)) (gI zd6 zd7))) (zd7 % (pkz (fits (gI zd6 zd7)) (gI zd6 zd7))))), .int .u64 (wv0 (pkz (dOk zd7 (pkz (fits (gI zd6 zd7)) (gI zd6 zd7))) (zd7 % (pkz (fits (gI zd6 zd7)) (gI zd6 zd7)))))]) (l := [.int .u64 (wv3 (pkz (dOk zd7 (pkz (fits (gI zd6 zd7)) (gI zd6 zd7))) (zd7 % (pkz (fits (gI zd6 zd7)) (gI zd6 zd7))))), .int .u64 (wv2 (pkz (dOk zd7 (pkz (fits (gI zd6 zd7)) (gI zd6 zd7))) (zd7 % (pkz (fits (gI zd6 zd7)) (gI zd6 zd7))))), .int .u64 (wv1 (pkz (dOk zd7 (pkz (fits (gI zd6 zd7)) (gI zd6 zd7))) (zd7 % (pkz (fits (gI zd6 zd7)) (gI zd6 zd7))))), .int .u64 (wv0 (pkz (dOk zd7 (pkz (fits (gI zd6 zd7)) (gI zd6 zd7))) (zd7 % (pkz (fits (gI zd6 zd7)) (gI zd6 zd7)))))]) (T rfl rfl) (T rfl rfl) sz26 rfl rfl rfl H128 rfl ?_)
           intro w129 s130 H131
           have E132 := below_st E127 N121 s130
           refine lw_v (.bool (decide (dOk zd7 (pkz (fits (gI zd6 zd7)) (gI zd6 zd7))))) (dv_assign (T rfl rfl)) ?_
           refine lw_nil ?_
           refine rk_seq ?_
           refine rk_seq ?_
           refine rk_reg ?_
           refine lw_v (.bool (decide (dOk zd6 (pkz (fits (gI zd6 zd7)) (gI zd6 zd7))))) (dv_move (T rfl rfl)) ?_
           refine lw_v (.bool (decide (¬ (dOk zd6 (pkz (fits (gI zd6 zd7)) (gI zd6 zd7)))))) (dv_notd (p := dOk zd6 (pkz (fits (gI zd6 zd7)) (gI zd6 zd7))) (T rfl rfl)) ?_
           refine lw_v (.bool (decide (¬ (dOk zd6 (pkz (fits (gI zd6 zd7)) (gI zd6 zd7)))))) (dv_move (T rfl rfl)) ?_
           by_cases hb133 : dOk zd6 (pkz (fits (gI zd6 zd7)) (gI zd6 zd7))
           · refine lw_vy (.bool (decide (dOk zd7 (pkz (fits (gI zd6 zd7)) (gI zd6 zd7))))) (d := 82) rfl rfl (congrArg Value.bool (decide_eq_false (not_not_intro hb133))) (dv_move (T rfl rfl)) ?_
             refine lw_vy (.bool (decide (¬ (dOk zd7 (pkz (fits (gI zd6 zd7)) (gI zd6 zd7)))))) (d := 82) rfl rfl (congrArg Value.bool (decide_eq_false (not_not_intro hb133))) (dv_notd (p := dOk zd7 (pkz (fits (gI zd6 zd7)) (gI zd6 zd7))) (T rfl rfl)) ?_
             refine lw_v (.bool (decide (¬ (dOk zd7 (pkz (fits (gI zd6 zd7)) (gI zd6 zd7)))))) (dv_pick_f (T rfl (congrArg Value.bool (decide_eq_false (not_not_intro hb133)))) (T rfl rfl)) ?_
             refine lw_v (.bool (decide (¬ (dOk zd7 (pkz (fits (gI zd6 zd7)) (gI zd6 zd7)))))) (dv_move (T rfl rfl)) ?_
             by_cases hb134 : dOk zd7 (pkz (fits (gI zd6 zd7)) (gI zd6 zd7))
             · have H135 := (s130.blk (s125.blk (n120.ext.blk (n114.ext.blk H116)) (by omega)) (by omega))
               refine lw_vy (.agg #[.int .u64 (wv3 (pkz (dOk zd6 (pkz (fits (gI zd6 zd7)) (gI zd6 zd7))) (zd6 % (pkz (fits (gI zd6 zd7)) (gI zd6 zd7))))), .int .u64 (wv2 (pkz (dOk zd6 (pkz (fits (gI zd6 zd7)) (gI zd6 zd7))) (zd6 % (pkz (fits (gI zd6 zd7)) (gI zd6 zd7))))), .int .u64 (wv1 (pkz (dOk zd6 (pkz (fits (gI zd6 zd7)) (gI zd6 zd7))) (zd6 % (pkz (fits (gI zd6 zd7)) (gI zd6 zd7))))), .int .u64 (wv0 (pkz (dOk zd6 (pkz (fits (gI zd6 zd7)) (gI zd6 zd7))) (zd6 % (pkz (fits (gI zd6 zd7)) (gI zd6 zd7)))))]) (d := 86) rfl rfl (congrArg Value.bool (decide_eq_false (not_not_intro hb134))) (dv_loads (l := [.int .u64 (wv3 (pkz (dOk zd6 (pkz (fits (gI zd6 zd7)) (gI zd6 zd7))) (zd6 % (pkz (fits (gI zd6 zd7)) (gI zd6 zd7))))), .int .u64 (wv2 (pkz (dOk zd6 (pkz (fits (gI zd6 zd7)) (gI zd6 zd7))) (zd6 % (pkz (fits (gI zd6 zd7)) (gI zd6 zd7))))), .int .u64 (wv1 (pkz (dOk zd6 (pkz (fits (gI zd6 zd7)) (gI zd6 zd7))) (zd6 % (pkz (fits (gI zd6 zd7)) (gI zd6 zd7))))), .int .u64 (wv0 (pkz (dOk zd6 (pkz (fits (gI zd6 zd7)) (gI zd6 zd7))) (zd6 % (pkz (fits (gI zd6 zd7)) (gI zd6 zd7)))))]) agt26 sz26 (T rfl rfl) H135 rfl) ?_
               refine lw_ey (d := 86) rfl rfl (congrArg Value.bool (decide_eq_false (not_not_intro hb134))) (oe_callf (vs := [.agg #[.int .u64 (wv3 (pkz (dOk zd6 (pkz (fits (gI zd6 zd7)) (gI zd6 zd7))) (zd6 % (pkz (fits (gI zd6 zd7)) (gI zd6 zd7))))), .int .u64 (wv2 (pkz (dOk zd6 (pkz (fits (gI zd6 zd7)) (gI zd6 zd7))) (zd6 % (pkz (fits (gI zd6 zd7)) (gI zd6 zd7))))), .int .u64 (wv1 (pkz (dOk zd6 (pkz (fits (gI zd6 zd7)) (gI zd6 zd7))) (zd6 % (pkz (fits (gI zd6 zd7)) (gI zd6 zd7))))), .int .u64 (wv0 (pkz (dOk zd6 (pkz (fits (gI zd6 zd7)) (gI zd6 zd7))) (zd6 % (pkz (fits (gI zd6 zd7)) (gI zd6 zd7)))))]]) co17 (ar1 (T rfl rfl)) (iWideSign_ok (x := pkz (dOk zd6 (pkz (fits (gI zd6 zd7)) (gI zd6 zd7))) (zd6 % (pkz (fits (gI zd6 zd7)) (gI zd6 zd7)))) (fits_pkz fun h => h.2.2) ) ?_)
               rintro _ w136 ⟨rfl, e137⟩
               have E138 := below_ext E132 E132.size e137
               have := sgnI_rg (pkz (dOk zd6 (pkz (fits (gI zd6 zd7)) (gI zd6 zd7))) (zd6 % (pkz (fits (gI zd6 zd7)) (gI zd6 zd7))))
               refine lw_vy (.bool (decide ((sgnI (pkz (dOk zd6 (pkz (fits (gI zd6 zd7)) (gI zd6 zd7))) (zd6 % (pkz (fits (gI zd6 zd7)) (gI zd6 zd7))))) ≠ 0))) (d := 86) rfl rfl (congrArg Value.bool (decide_eq_false (not_not_intro hb134))) (dv_neq (a := sgnI (pkz (dOk zd6 (pkz (fits (gI zd6 zd7)) (gI zd6 zd7))) (zd6 % (pkz (fits (gI zd6 zd7)) (gI zd6 zd7))))) (b := 0) (T rfl rfl) C) ?_
               refine lw_v (.bool (decide ((sgnI (pkz (dOk zd6 (pkz (fits (gI zd6 zd7)) (gI zd6 zd7))) (zd6 % (pkz (fits (gI zd6 zd7)) (gI zd6 zd7))))) ≠ 0))) (dv_pick_f (T rfl (congrArg Value.bool (decide_eq_false (not_not_intro hb134)))) (T rfl rfl)) ?_
               refine lw_v (.bool (decide ((sgnI (pkz (dOk zd6 (pkz (fits (gI zd6 zd7)) (gI zd6 zd7))) (zd6 % (pkz (fits (gI zd6 zd7)) (gI zd6 zd7))))) ≠ 0))) (dv_move (T rfl rfl)) ?_
               by_cases hb139 : (sgnI (pkz (dOk zd6 (pkz (fits (gI zd6 zd7)) (gI zd6 zd7))) (zd6 % (pkz (fits (gI zd6 zd7)) (gI zd6 zd7))))) ≠ 0
               · refine lw_no (d := 91) rfl rfl (congrArg Value.bool (decide_eq_true hb139)) ?_
                 refine lw_no (d := 91) rfl rfl (congrArg Value.bool (decide_eq_true hb139)) ?_
                 refine lw_no (d := 91) rfl rfl (congrArg Value.bool (decide_eq_true hb139)) ?_
                 refine lw_v (.bool true) (dv_pick_t (T rfl (congrArg Value.bool (decide_eq_true hb139))) C) ?_
                 refine lw_v (.bool true) (dv_move (T rfl rfl)) ?_
                 refine lw_no (d := 96) rfl rfl (rfl) ?_
                 refine lw_no (d := 96) rfl rfl (rfl) ?_
                 refine lw_no (d := 96) rfl rfl (rfl) ?_
                 refine lw_v (.bool true) (dv_pick_t (T rfl rfl) C) ?_
                 refine lw_nil ?_
                 refine rk_ct (T rfl rfl) ?_
                 refine rk_seq ?_
                 refine rk_reg ?_
                 refine lw_v (.bool false) (dv_assign C) ?_
                 refine lw_nil ?_
                 refine rk_ret Try.func6 (v := .bool false) (res1 Try.results6 (rv_tmp rfl rfl)) ⟨_, rfl, ?_⟩
                 have c1 := cG1 hb67 hb71 hz8
                 have c2 := cG2 hb67 hb71 hz9
                 skip
                 exact ⟨(by exfalso; exact hb139 (sgnI_zero.2 ((pkz_t c1.1).trans c1.2.1))), E138⟩
               · have H140 := (e137.blk H131)
                 refine lw_vy (.agg #[.int .u64 (wv3 (pkz (dOk zd7 (pkz (fits (gI zd6 zd7)) (gI zd6 zd7))) (zd7 % (pkz (fits (gI zd6 zd7)) (gI zd6 zd7))))), .int .u64 (wv2 (pkz (dOk zd7 (pkz (fits (gI zd6 zd7)) (gI zd6 zd7))) (zd7 % (pkz (fits (gI zd6 zd7)) (gI zd6 zd7))))), .int .u64 (wv1 (pkz (dOk zd7 (pkz (fits (gI zd6 zd7)) (gI zd6 zd7))) (zd7 % (pkz (fits (gI zd6 zd7)) (gI zd6 zd7))))), .int .u64 (wv0 (pkz (dOk zd7 (pkz (fits (gI zd6 zd7)) (gI zd6 zd7))) (zd7 % (pkz (fits (gI zd6 zd7)) (gI zd6 zd7)))))]) (d := 91) rfl rfl (congrArg Value.bool (decide_eq_false hb139)) (dv_loads (l := [.int .u64 (wv3 (pkz (dOk zd7 (pkz (fits (gI zd6 zd7)) (gI zd6 zd7))) (zd7 % (pkz (fits (gI zd6 zd7)) (gI zd6 zd7))))), .int .u64 (wv2 (pkz (dOk zd7 (pkz (fits (gI zd6 zd7)) (gI zd6 zd7))) (zd7 % (pkz (fits (gI zd6 zd7)) (gI zd6 zd7))))), .int .u64 (wv1 (pkz (dOk zd7 (pkz (fits (gI zd6 zd7)) (gI zd6 zd7))) (zd7 % (pkz (fits (gI zd6 zd7)) (gI zd6 zd7))))), .int .u64 (wv0 (pkz (dOk zd7 (pkz (fits (gI zd6 zd7)) (gI zd6 zd7))) (zd7 % (pkz (fits (gI zd6 zd7)) (gI zd6 zd7)))))]) agt26 sz26 (T rfl rfl) H140 rfl) ?_
                 refine lw_ey (d := 91) rfl rfl (congrArg Value.bool (decide_eq_false hb139)) (oe_callf (vs := [.agg #[.int .u64 (wv3 (pkz (dOk zd7 (pkz (fits (gI zd6 zd7)) (gI zd6 zd7))) (zd7 % (pkz (fits (gI zd6 zd7)) (gI zd6 zd7))))), .int .u64 (wv2 (pkz (dOk zd7 (pkz (fits (gI zd6 zd7)) (gI zd6 zd7))) (zd7 % (pkz (fits (gI zd6 zd7)) (gI zd6 zd7))))), .int .u64 (wv1 (pkz (dOk zd7 (pkz (fits (gI zd6 zd7)) (gI zd6 zd7))) (zd7 % (pkz (fits (gI zd6 zd7)) (gI zd6 zd7))))), .int .u64 (wv0 (pkz (dOk zd7 (pkz (fits (gI zd6 zd7)) (gI zd6 zd7))) (zd7 % (pkz (fits (gI zd6 zd7)) (gI zd6 zd7)))))]]) co17 (ar1 (T rfl rfl)) (iWideSign_ok (x := pkz (dOk zd7 (pkz (fits (gI zd6 zd7)) (gI zd6 zd7))) (zd7 % (pkz (fits (gI zd6 zd7)) (gI zd6 zd7)))) (fits_pkz fun h => h.2.2) ) ?_)
                 rintro _ w141 ⟨rfl, e142⟩
                 have E143 := below_ext E138 E138.size e142
                 have := sgnI_rg (pkz (dOk zd7 (pkz (fits (gI zd6 zd7)) (gI zd6 zd7))) (zd7 % (pkz (fits (gI zd6 zd7)) (gI zd6 zd7))))
                 refine lw_vy (.bool (decide ((sgnI (pkz (dOk zd7 (pkz (fits (gI zd6 zd7)) (gI zd6 zd7))) (zd7 % (pkz (fits (gI zd6 zd7)) (gI zd6 zd7))))) ≠ 0))) (d := 91) rfl rfl (congrArg Value.bool (decide_eq_false hb139)) (dv_neq (a := sgnI (pkz (dOk zd7 (pkz (fits (gI zd6 zd7)) (gI zd6 zd7))) (zd7 % (pkz (fits (gI zd6 zd7)) (gI zd6 zd7))))) (b := 0) (T rfl rfl) C) ?_
                 refine lw_v (.bool (decide ((sgnI (pkz (dOk zd7 (pkz (fits (gI zd6 zd7)) (gI zd6 zd7))) (zd7 % (pkz (fits (gI zd6 zd7)) (gI zd6 zd7))))) ≠ 0))) (dv_pick_f (T rfl (congrArg Value.bool (decide_eq_false hb139))) (T rfl rfl)) ?_
                 refine lw_v (.bool (decide ((sgnI (pkz (dOk zd7 (pkz (fits (gI zd6 zd7)) (gI zd6 zd7))) (zd7 % (pkz (fits (gI zd6 zd7)) (gI zd6 zd7))))) ≠ 0))) (dv_move (T rfl rfl)) ?_
                 by_cases hb144 : (sgnI (pkz (dOk zd7 (pkz (fits (gI zd6 zd7)) (gI zd6 zd7))) (zd7 % (pkz (fits (gI zd6 zd7)) (gI zd6 zd7))))) ≠ 0
                 · refine lw_no (d := 96) rfl rfl (congrArg Value.bool (decide_eq_true hb144)) ?_
                   refine lw_no (d := 96) rfl rfl (congrArg Value.bool (decide_eq_true hb144)) ?_
                   refine lw_no (d := 96) rfl rfl (congrArg Value.bool (decide_eq_true hb144)) ?_
                   refine lw_v (.bool true) (dv_pick_t (T rfl (congrArg Value.bool (decide_eq_true hb144))) C) ?_
                   refine lw_nil ?_
                   refine rk_ct (T rfl rfl) ?_
                   refine rk_seq ?_
                   refine rk_reg ?_
                   refine lw_v (.bool false) (dv_assign C) ?_
                   refine lw_nil ?_
                   refine rk_ret Try.func6 (v := .bool false) (res1 Try.results6 (rv_tmp rfl rfl)) ⟨_, rfl, ?_⟩
                   have c1 := cG1 hb67 hb71 hz8
                   have c2 := cG2 hb67 hb71 hz9
                   skip
                   exact ⟨(by exfalso; exact hb144 (sgnI_zero.2 ((pkz_t c2.1).trans c2.2))), E143⟩
                 · have H145 := (e142.blk (e137.blk (s130.blk (s125.blk (n120.ext.blk (n114.ext.blk (e110.blk H108))) (by omega)) (by omega))))
                   refine lw_vy (.agg #[.int .u64 (wv3 (pkz (fits (gI zd6 zd7)) (gI zd6 zd7))), .int .u64 (wv2 (pkz (fits (gI zd6 zd7)) (gI zd6 zd7))), .int .u64 (wv1 (pkz (fits (gI zd6 zd7)) (gI zd6 zd7))), .int .u64 (wv0 (pkz (fits (gI zd6 zd7)) (gI zd6 zd7)))]) (d := 96) rfl rfl (congrArg Value.bool (decide_eq_false hb144)) (dv_loads (l := [.int .u64 (wv3 (pkz (fits (gI zd6 zd7)) (gI zd6 zd7))), .int .u64 (wv2 (pkz (fits (gI zd6 zd7)) (gI zd6 zd7))), .int .u64 (wv1 (pkz (fits (gI zd6 zd7)) (gI zd6 zd7))), .int .u64 (wv0 (pkz (fits (gI zd6 zd7)) (gI zd6 zd7)))]) agt26 sz26 (T rfl rfl) H145 rfl) ?_
                   refine lw_ey (d := 96) rfl rfl (congrArg Value.bool (decide_eq_false hb144)) (oe_callf (vs := [.agg #[.int .u64 (wv3 (pkz (fits (gI zd6 zd7)) (gI zd6 zd7))), .int .u64 (wv2 (pkz (fits (gI zd6 zd7)) (gI zd6 zd7))), .int .u64 (wv1 (pkz (fits (gI zd6 zd7)) (gI zd6 zd7))), .int .u64 (wv0 (pkz (fits (gI zd6 zd7)) (gI zd6 zd7)))]]) co17 (ar1 (T rfl rfl)) (iWideSign_ok (x := pkz (fits (gI zd6 zd7)) (gI zd6 zd7)) fits_pk ) ?_)
                   rintro _ w146 ⟨rfl, e147⟩
                   have E148 := below_ext E143 E143.size e147
                   have := sgnI_rg (pkz (fits (gI zd6 zd7)) (gI zd6 zd7))
                   refine lw_vy (.bool (decide ((sgnI (pkz (fits (gI zd6 zd7)) (gI zd6 zd7))) < 0))) (d := 96) rfl rfl (congrArg Value.bool (decide_eq_false hb144)) (dv_lss (a := sgnI (pkz (fits (gI zd6 zd7)) (gI zd6 zd7))) (b := 0) (T rfl rfl) C) ?_
                   refine lw_v (.bool (decide ((sgnI (pkz (fits (gI zd6 zd7)) (gI zd6 zd7))) < 0))) (dv_pick_f (T rfl (congrArg Value.bool (decide_eq_false hb144))) (T rfl rfl)) ?_
                   refine lw_nil ?_
                   by_cases hb149 : (sgnI (pkz (fits (gI zd6 zd7)) (gI zd6 zd7))) < 0
                   · refine rk_ct (T rfl (congrArg Value.bool (decide_eq_true hb149))) ?_
                     refine rk_seq ?_
                     refine rk_reg ?_
                     refine lw_v (.bool false) (dv_assign C) ?_
                     refine lw_nil ?_
                     refine rk_ret Try.func6 (v := .bool false) (res1 Try.results6 (rv_tmp rfl rfl)) ⟨_, rfl, ?_⟩
                     have c1 := cG1 hb67 hb71 hz8
                     have c2 := cG2 hb67 hb71 hz9
                     skip
                     exact ⟨(by exfalso; exact absurd hb149 (Int.not_lt.2 c1.2.2)), E148⟩
                   · refine rk_cf (T rfl (congrArg Value.bool (decide_eq_false hb149))) ?_
                     refine rk_skip ?_
                     refine rk_seq ?_
                     refine rk_reg ?_
                     have H150 := (e147.blk (e142.blk (e137.blk (s130.blk (s125.blk (n120.ext.blk (n114.ext.blk (e110.blk (s104.blk (s99.blk (n94.ext.blk (n88.ext.blk (e84.blk H81))) (by omega)) (by omega))))) (by omega)) (by omega)))))
                     refine lw_v (.agg #[.int .u64 (wv3 zd6), .int .u64 (wv2 zd6), .int .u64 (wv1 zd6), .int .u64 (wv0 zd6)]) (dv_loads (l := [.int .u64 (wv3 zd6), .int .u64 (wv2 zd6), .int .u64 (wv1 zd6), .int .u64 (wv0 zd6)]) agt26 sz26 (T rfl rfl) H150 rfl) ?_
                     have H151 := (e147.blk (e142.blk (e137.blk (s130.blk (s125.blk (n120.ext.blk (n114.ext.blk (e110.blk H107))) (by omega)) (by omega)))))
                     refine lw_v (.agg #[.int .u64 (wv3 zd7), .int .u64 (wv2 zd7), .int .u64 (wv1 zd7), .int .u64 (wv0 zd7)]) (dv_loads (l := [.int .u64 (wv3 zd7), .int .u64 (wv2 zd7), .int .u64 (wv1 zd7), .int .u64 (wv0 zd7)]) agt26 sz26 (T rfl rfl) H151 rfl) ?_
                     refine lw_e (oe_callf (vs := [.agg #[.int .u64 (wv3 zd6), .int .u64 (wv2 zd6), .int .u64 (wv1 zd6), .int .u64 (wv0 zd6)], .agg #[.int .u64 (wv3 zd7), .int .u64 (wv2 zd7), .int .u64 (wv1 zd7), .int .u64 (wv0 zd7)]]) co29 (ar2 (T rfl rfl) (T rfl rfl)) (iWideDiv_ok (x := zd6) (y := zd7) hz8 hz9 ) ?_)
                     rintro _ w152 ⟨rfl, e153⟩
                     have E154 := below_ext E148 E148.size e153
                     refine lw_v (.tuple #[.agg #[.int .u64 (wv3 (pkz (dOk zd6 zd7) (zd6 / zd7))), .int .u64 (wv2 (pkz (dOk zd6 zd7) (zd6 / zd7))), .int .u64 (wv1 (pkz (dOk zd6 zd7) (zd6 / zd7))), .int .u64 (wv0 (pkz (dOk zd6 zd7) (zd6 / zd7)))], .agg #[.int .u64 (wv3 (pkz (dOk zd6 zd7) (zd6 % zd7))), .int .u64 (wv2 (pkz (dOk zd6 zd7) (zd6 % zd7))), .int .u64 (wv1 (pkz (dOk zd6 zd7) (zd6 % zd7))), .int .u64 (wv0 (pkz (dOk zd6 zd7) (zd6 % zd7)))], .bool (decide (dOk zd6 zd7))]) (dv_move (T rfl rfl)) ?_
                     refine lw_v (.agg #[.int .u64 (wv3 (pkz (dOk zd6 zd7) (zd6 / zd7))), .int .u64 (wv2 (pkz (dOk zd6 zd7) (zd6 / zd7))), .int .u64 (wv1 (pkz (dOk zd6 zd7) (zd6 / zd7))), .int .u64 (wv0 (pkz (dOk zd6 zd7) (zd6 / zd7)))]) (dv_extract (vs := #[.agg #[.int .u64 (wv3 (pkz (dOk zd6 zd7) (zd6 / zd7))), .int .u64 (wv2 (pkz (dOk zd6 zd7) (zd6 / zd7))), .int .u64 (wv1 (pkz (dOk zd6 zd7) (zd6 / zd7))), .int .u64 (wv0 (pkz (dOk zd6 zd7) (zd6 / zd7)))], .agg #[.int .u64 (wv3 (pkz (dOk zd6 zd7) (zd6 % zd7))), .int .u64 (wv2 (pkz (dOk zd6 zd7) (zd6 % zd7))), .int .u64 (wv1 (pkz (dOk zd6 zd7) (zd6 % zd7))), .int .u64 (wv0 (pkz (dOk zd6 zd7) (zd6 % zd7)))], .bool (decide (dOk zd6 zd7))]) (T rfl rfl) rfl) ?_
                     refine lw_v (.agg #[.int .u64 (wv3 (pkz (dOk zd6 zd7) (zd6 % zd7))), .int .u64 (wv2 (pkz (dOk zd6 zd7) (zd6 % zd7))), .int .u64 (wv1 (pkz (dOk zd6 zd7) (zd6 % zd7))), .int .u64 (wv0 (pkz (dOk zd6 zd7) (zd6 % zd7)))]) (dv_extract (vs := #[.agg #[.int .u64 (wv3 (pkz (dOk zd6 zd7) (zd6 / zd7))), .int .u64 (wv2 (pkz (dOk zd6 zd7) (zd6 / zd7))), .int .u64 (wv1 (pkz (dOk zd6 zd7) (zd6 / zd7))), .int .u64 (wv0 (pkz (dOk zd6 zd7) (zd6 / zd7)))], .agg #[.int .u64 (wv3 (pkz (dOk zd6 zd7) (zd6 % zd7))), .int .u64 (wv2 (pkz (dOk zd6 zd7) (zd6 % zd7))), .int .u64 (wv1 (pkz (dOk zd6 zd7) (zd6 % zd7))), .int .u64 (wv0 (pkz (dOk zd6 zd7) (zd6 % zd7)))], .bool (decide (dOk zd6 zd7))]) (T rfl rfl) rfl) ?_
                     refine lw_v (.bool (decide (dOk zd6 zd7))) (dv_extract (vs := #[.agg #[.int .u64 (wv3 (pkz (dOk zd6 zd7) (zd6 / zd7))), .int .u64 (wv2 (pkz (dOk zd6 zd7) (zd6 / zd7))), .int .u64 (wv1 (pkz (dOk zd6 zd7) (zd6 / zd7))), .int .u64 (wv0 (pkz (dOk zd6 zd7) (zd6 / zd7)))], .agg #[.int .u64 (wv3 (pkz (dOk zd6 zd7) (zd6 % zd7))), .int .u64 (wv2 (pkz (dOk zd6 zd7) (zd6 % zd7))), .int .u64 (wv1 (pkz (dOk zd6 zd7) (zd6 % zd7))), .int .u64 (wv0 (pkz (dOk zd6 zd7) (zd6 % zd7)))], .bool (decide (dOk zd6 zd7))]) (T rfl rfl) rfl) ?_
                     refine lw_e (oe_alloc ze26 ?_)
                     intro b155 w156 n157
                     have N158 : w.heap.size ≤ b155 := n157.eq ▸ E154.size
                     have H159 := (e153.blk (e147.blk (e142.blk H140)))
                     have : b118 < b155 := n157.eq ▸ lt_of_blk H159
                     have E160 := below_ext E154 E154.size n157.ext
                     refine lw_e (oe_alloc ze26 ?_)
                     intro b161 w162 n163
                     have N164 : w.heap.size ≤ b161 := n163.eq ▸ E160.size
                     have : b155 < b161 := n163.eq ▸ lt_of_blk n157.blk
                     have E165 := below_ext E160 E160.size n163.ext
                     have H166 := (n163.ext.blk n157.blk)
                     refine lw_e (oe_store (v := .agg #[.int .u64 (wv3 (pkz (dOk zd6 zd7) (zd6 / zd7))), .int .u64 (wv2 (pkz (dOk zd6 zd7) (zd6 / zd7))), .int .u64 (wv1 (pkz (dOk zd6 zd7) (zd6 / zd7))), .int .u64 (wv0 (pkz (dOk zd6 zd7) (zd6 / zd7)))]) (vs := [.int .u64 (wv3 (pkz (dOk zd6 zd7) (zd6 / zd7))), .int .u64 (wv2 (pkz (dOk zd6 zd7) (zd6 / zd7))), .int .u64 (wv1 (pkz (dOk zd6 zd7) (zd6 / zd7))), .int .u64 (wv0 (pkz (dOk zd6 zd7) (zd6 / zd7)))]) (l := [.int .u64 (wv3 (pkz (dOk zd6 zd7) (zd6 / zd7))), .int .u64 (wv2 (pkz (dOk zd6 zd7) (zd6 / zd7))), .int .u64 (wv1 (pkz (dOk zd6 zd7) (zd6 / zd7))), .int .u64 (wv0 (pkz (dOk zd6 zd7) (zd6 / zd7)))]) (T rfl rfl) (T rfl rfl) sz26 rfl rfl rfl H166 rfl ?_)
                     intro w167 s168 H169
                     have E170 := below_st E165 N158 s168
                     have H171 := (s168.blk n163.blk (by omega))
                     refine lw_e (oe_store (v := .agg #[.int .u64 (wv3 (pkz (dOk zd6 zd7) (zd6 % zd7))), .int .u64 (wv2 (pkz (dOk zd6 zd7) (zd6 % zd7))), .int .u64 (wv1 (pkz (dOk zd6 zd7) (zd6 % zd7))), .int .u64 (wv0 (pkz (dOk zd6 zd7) (zd6 % zd7)))]) (vs := [.int .u64 (wv3 (pkz (dOk zd6 zd7) (zd6 % zd7))), .int .u64 (wv2 (pkz (dOk zd6 zd7) (zd6 % zd7))), .int .u64 (wv1 (pkz (dOk zd6 zd7) (zd6 % zd7))), .int .u64 (wv0 (pkz (dOk zd6 zd7) (zd6 % zd7)))]) (l := [.int .u64 (wv3 (pkz (dOk zd6 zd7) (zd6 % zd7))), .int .u64 (wv2 (pkz (dOk zd6 zd7) (zd6 % zd7))), .int .u64 (wv1 (pkz (dOk zd6 zd7) (zd6 % zd7))), .int .u64 (wv0 (pkz (dOk zd6 zd7) (zd6 % zd7)))]) (T rfl rfl) (T rfl rfl) sz26 rfl rfl rfl H171 rfl ?_)
                     intro w172 s173 H174
                     have E175 := below_st E170 N164 s173
                     refine lw_v (.bool (decide (dOk zd6 zd7))) (dv_assign (T rfl rfl)) ?_
                     refine lw_nil ?_
                     refine rk_seq ?_
                     refine rk_seq ?_
                     refine rk_reg ?_
                     refine lw_v (.bool (decide (dOk zd6 zd7))) (dv_move (T rfl rfl)) ?_
                     refine lw_v (.bool (decide (¬ (dOk zd6 zd7)))) (dv_notd (p := dOk zd6 zd7) (T rfl rfl)) ?_
                     refine lw_nil ?_
                     by_cases hb176 : dOk zd6 zd7
                     · refine rk_cf (T rfl (congrArg Value.bool (decide_eq_false (not_not_intro hb176)))) ?_
                       refine rk_skip ?_
                       refine rk_seq ?_
                       refine rk_reg ?_
                       have H177 := (s173.blk (s168.blk (n163.ext.blk (n157.ext.blk (e153.blk H151))) (by omega)) (by omega))
                       refine lw_v (.agg #[.int .u64 (wv3 zd7), .int .u64 (wv2 zd7), .int .u64 (wv1 zd7), .int .u64 (wv0 zd7)]) (dv_loads (l := [.int .u64 (wv3 zd7), .int .u64 (wv2 zd7), .int .u64 (wv1 zd7), .int .u64 (wv0 zd7)]) agt26 sz26 (T rfl rfl) H177 rfl) ?_
                       refine lw_v (.agg #[.int .u64 (wv3 (pkz (dOk zd6 zd7) (zd6 % zd7))), .int .u64 (wv2 (pkz (dOk zd6 zd7) (zd6 % zd7))), .int .u64 (wv1 (pkz (dOk zd6 zd7) (zd6 % zd7))), .int .u64 (wv0 (pkz (dOk zd6 zd7) (zd6 % zd7)))]) (dv_loads (l := [.int .u64 (wv3 (pkz (dOk zd6 zd7) (zd6 % zd7))), .int .u64 (wv2 (pkz (dOk zd6 zd7) (zd6 % zd7))), .int .u64 (wv1 (pkz (dOk zd6 zd7) (zd6 % zd7))), .int .u64 (wv0 (pkz (dOk zd6 zd7) (zd6 % zd7)))]) agt26 sz26 (T rfl rfl) H174 rfl) ?_
                       refine lw_e (oe_callf (vs := [.agg #[.int .u64 (wv3 zd7), .int .u64 (wv2 zd7), .int .u64 (wv1 zd7), .int .u64 (wv0 zd7)], .agg #[.int .u64 (wv3 (pkz (dOk zd6 zd7) (zd6 % zd7))), .int .u64 (wv2 (pkz (dOk zd6 zd7) (zd6 % zd7))), .int .u64 (wv1 (pkz (dOk zd6 zd7) (zd6 % zd7))), .int .u64 (wv0 (pkz (dOk zd6 zd7) (zd6 % zd7)))]]) co27 (ar2 (T rfl rfl) (T rfl rfl)) (iWideGcd_ok (x := zd7) (y := pkz (dOk zd6 zd7) (zd6 % zd7)) hz9 (fits_pkz fun h => h.2.2) ) ?_)
                       rintro _ w178 ⟨rfl, e179⟩
                       have E180 := below_ext E175 E175.size e179
                       refine lw_v (.tuple #[.agg #[.int .u64 (wv3 (pkz (fits (gI zd7 (pkz (dOk zd6 zd7) (zd6 % zd7)))) (gI zd7 (pkz (dOk zd6 zd7) (zd6 % zd7))))), .int .u64 (wv2 (pkz (fits (gI zd7 (pkz (dOk zd6 zd7) (zd6 % zd7)))) (gI zd7 (pkz (dOk zd6 zd7) (zd6 % zd7))))), .int .u64 (wv1 (pkz (fits (gI zd7 (pkz (dOk zd6 zd7) (zd6 % zd7)))) (gI zd7 (pkz (dOk zd6 zd7) (zd6 % zd7))))), .int .u64 (wv0 (pkz (fits (gI zd7 (pkz (dOk zd6 zd7) (zd6 % zd7)))) (gI zd7 (pkz (dOk zd6 zd7) (zd6 % zd7)))))], .bool (decide (fits (gI zd7 (pkz (dOk zd6 zd7) (zd6 % zd7)))))]) (dv_move (T rfl rfl)) ?_
                       refine lw_v (.agg #[.int .u64 (wv3 (pkz (fits (gI zd7 (pkz (dOk zd6 zd7) (zd6 % zd7)))) (gI zd7 (pkz (dOk zd6 zd7) (zd6 % zd7))))), .int .u64 (wv2 (pkz (fits (gI zd7 (pkz (dOk zd6 zd7) (zd6 % zd7)))) (gI zd7 (pkz (dOk zd6 zd7) (zd6 % zd7))))), .int .u64 (wv1 (pkz (fits (gI zd7 (pkz (dOk zd6 zd7) (zd6 % zd7)))) (gI zd7 (pkz (dOk zd6 zd7) (zd6 % zd7))))), .int .u64 (wv0 (pkz (fits (gI zd7 (pkz (dOk zd6 zd7) (zd6 % zd7)))) (gI zd7 (pkz (dOk zd6 zd7) (zd6 % zd7)))))]) (dv_extract (vs := #[.agg #[.int .u64 (wv3 (pkz (fits (gI zd7 (pkz (dOk zd6 zd7) (zd6 % zd7)))) (gI zd7 (pkz (dOk zd6 zd7) (zd6 % zd7))))), .int .u64 (wv2 (pkz (fits (gI zd7 (pkz (dOk zd6 zd7) (zd6 % zd7)))) (gI zd7 (pkz (dOk zd6 zd7) (zd6 % zd7))))), .int .u64 (wv1 (pkz (fits (gI zd7 (pkz (dOk zd6 zd7) (zd6 % zd7)))) (gI zd7 (pkz (dOk zd6 zd7) (zd6 % zd7))))), .int .u64 (wv0 (pkz (fits (gI zd7 (pkz (dOk zd6 zd7) (zd6 % zd7)))) (gI zd7 (pkz (dOk zd6 zd7) (zd6 % zd7)))))], .bool (decide (fits (gI zd7 (pkz (dOk zd6 zd7) (zd6 % zd7)))))]) (T rfl rfl) rfl) ?_
                       refine lw_v (.bool (decide (fits (gI zd7 (pkz (dOk zd6 zd7) (zd6 % zd7)))))) (dv_extract (vs := #[.agg #[.int .u64 (wv3 (pkz (fits (gI zd7 (pkz (dOk zd6 zd7) (zd6 % zd7)))) (gI zd7 (pkz (dOk zd6 zd7) (zd6 % zd7))))), .int .u64 (wv2 (pkz (fits (gI zd7 (pkz (dOk zd6 zd7) (zd6 % zd7)))) (gI zd7 (pkz (dOk zd6 zd7) (zd6 % zd7))))), .int .u64 (wv1 (pkz (fits (gI zd7 (pkz (dOk zd6 zd7) (zd6 % zd7)))) (gI zd7 (pkz (dOk zd6 zd7) (zd6 % zd7))))), .int .u64 (wv0 (pkz (fits (gI zd7 (pkz (dOk zd6 zd7) (zd6 % zd7)))) (gI zd7 (pkz (dOk zd6 zd7) (zd6 % zd7)))))], .bool (decide (fits (gI zd7 (pkz (dOk zd6 zd7) (zd6 % zd7)))))]) (T rfl rfl) rfl) ?_
                       refine lw_e (oe_alloc ze26 ?_)
                       intro b181 w182 n183
                       have N184 : w.heap.size ≤ b181 := n183.eq ▸ E180.size
                       have H185 := (e179.blk H174)
                       have : b161 < b181 := n183.eq ▸ lt_of_blk H185
                       have E186 := below_ext E180 E180.size n183.ext
                       refine lw_e (oe_store (v := .agg #[.int .u64 (wv3 (pkz (fits (gI zd7 (pkz (dOk zd6 zd7) (zd6 % zd7)))) (gI zd7 (pkz (dOk zd6 zd7) (zd6 % zd7))))), .int .u64 (wv2 (pkz (fits (gI zd7 (pkz (dOk zd6 zd7) (zd6 % zd7)))) (gI zd7 (pkz (dOk zd6 zd7) (zd6 % zd7))))), .int .u64 (wv1 (pkz (fits (gI zd7 (pkz (dOk zd6 zd7) (zd6 % zd7)))) (gI zd7 (pkz (dOk zd6 zd7) (zd6 % zd7))))), .int .u64 (wv0 (pkz (fits (gI zd7 (pkz (dOk zd6 zd7) (zd6 % zd7)))) (gI zd7 (pkz (dOk zd6 zd7) (zd6 % zd7)))))]) (vs := [.int .u64 (wv3 (pkz (fits (gI zd7 (pkz (dOk zd6 zd7) (zd6 % zd7)))) (gI zd7 (pkz (dOk zd6 zd7) (zd6 % zd7))))), .int .u64 (wv2 (pkz (fits (gI zd7 (pkz (dOk zd6 zd7) (zd6 % zd7)))) (gI zd7 (pkz (dOk zd6 zd7) (zd6 % zd7))))), .int .u64 (wv1 (pkz (fits (gI zd7 (pkz (dOk zd6 zd7) (zd6 % zd7)))) (gI zd7 (pkz (dOk zd6 zd7) (zd6 % zd7))))), .int .u64 (wv0 (pkz (fits (gI zd7 (pkz (dOk zd6 zd7) (zd6 % zd7)))) (gI zd7 (pkz (dOk zd6 zd7) (zd6 % zd7)))))]) (l := [.int .u64 (wv3 (pkz (fits (gI zd7 (pkz (dOk zd6 zd7) (zd6 % zd7)))) (gI zd7 (pkz (dOk zd6 zd7) (zd6 % zd7))))), .int .u64 (wv2 (pkz (fits (gI zd7 (pkz (dOk zd6 zd7) (zd6 % zd7)))) (gI zd7 (pkz (dOk zd6 zd7) (zd6 % zd7))))), .int .u64 (wv1 (pkz (fits (gI zd7 (pkz (dOk zd6 zd7) (zd6 % zd7)))) (gI zd7 (pkz (dOk zd6 zd7) (zd6 % zd7))))), .int .u64 (wv0 (pkz (fits (gI zd7 (pkz (dOk zd6 zd7) (zd6 % zd7)))) (gI zd7 (pkz (dOk zd6 zd7) (zd6 % zd7)))))]) (T rfl rfl) (T rfl rfl) sz26 rfl rfl rfl n183.blk rfl ?_)
                       intro w187 s188 H189
                       have E190 := below_st E186 N184 s188
                       refine lw_v (.bool (decide (fits (gI zd7 (pkz (dOk zd6 zd7) (zd6 % zd7)))))) (dv_assign (T rfl rfl)) ?_
                       refine lw_nil ?_
                       refine rk_seq ?_
                       refine rk_reg ?_
                       refine lw_v (.bool (decide (fits (gI zd7 (pkz (dOk zd6 zd7) (zd6 % zd7)))))) (dv_move (T rfl rfl)) ?_
                       refine lw_v (.bool (decide (fits (gI zd7 (pkz (dOk zd6 zd7) (zd6 % zd7)))))) (dv_move (T rfl rfl)) ?_
                       by_cases hb191 : fits (gI zd7 (pkz (dOk zd6 zd7) (zd6 % zd7)))
                       · refine lw_vy (.agg #[.int .u64 (wv3 (pkz (fits (gI zd7 (pkz (dOk zd6 zd7) (zd6 % zd7)))) (gI zd7 (pkz (dOk zd6 zd7) (zd6 % zd7))))), .int .u64 (wv2 (pkz (fits (gI zd7 (pkz (dOk zd6 zd7) (zd6 % zd7)))) (gI zd7 (pkz (dOk zd6 zd7) (zd6 % zd7))))), .int .u64 (wv1 (pkz (fits (gI zd7 (pkz (dOk zd6 zd7) (zd6 % zd7)))) (gI zd7 (pkz (dOk zd6 zd7) (zd6 % zd7))))), .int .u64 (wv0 (pkz (fits (gI zd7 (pkz (dOk zd6 zd7) (zd6 % zd7)))) (gI zd7 (pkz (dOk zd6 zd7) (zd6 % zd7)))))]) (d := 117) rfl rfl (congrArg Value.bool (decide_eq_true hb191)) (dv_loads (l := [.int .u64 (wv3 (pkz (fits (gI zd7 (pkz (dOk zd6 zd7) (zd6 % zd7)))) (gI zd7 (pkz (dOk zd6 zd7) (zd6 % zd7))))), .int .u64 (wv2 (pkz (fits (gI zd7 (pkz (dOk zd6 zd7) (zd6 % zd7)))) (gI zd7 (pkz (dOk zd6 zd7) (zd6 % zd7))))), .int .u64 (wv1 (pkz (fits (gI zd7 (pkz (dOk zd6 zd7) (zd6 % zd7)))) (gI zd7 (pkz (dOk zd6 zd7) (zd6 % zd7))))), .int .u64 (wv0 (pkz (fits (gI zd7 (pkz (dOk zd6 zd7) (zd6 % zd7)))) (gI zd7 (pkz (dOk zd6 zd7) (zd6 % zd7)))))]) agt26 sz26 (T rfl rfl) H189 rfl) ?_
                         have H192 := (s188.blk (n183.ext.blk (e179.blk (s173.blk (s168.blk (n163.ext.blk (n157.ext.blk (e153.blk (e147.blk H145)))) (by omega)) (by omega)))) (by omega))
                         refine lw_vy (.agg #[.int .u64 (wv3 (pkz (fits (gI zd6 zd7)) (gI zd6 zd7))), .int .u64 (wv2 (pkz (fits (gI zd6 zd7)) (gI zd6 zd7))), .int .u64 (wv1 (pkz (fits (gI zd6 zd7)) (gI zd6 zd7))), .int .u64 (wv0 (pkz (fits (gI zd6 zd7)) (gI zd6 zd7)))]) (d := 117) rfl rfl (congrArg Value.bool (decide_eq_true hb191)) (dv_loads (l := [.int .u64 (wv3 (pkz (fits (gI zd6 zd7)) (gI zd6 zd7))), .int .u64 (wv2 (pkz (fits (gI zd6 zd7)) (gI zd6 zd7))), .int .u64 (wv1 (pkz (fits (gI zd6 zd7)) (gI zd6 zd7))), .int .u64 (wv0 (pkz (fits (gI zd6 zd7)) (gI zd6 zd7)))]) agt26 sz26 (T rfl rfl) H192 rfl) ?_
                         refine lw_vy (.bool (decide (([wv3 (pkz (fits (gI zd7 (pkz (dOk zd6 zd7) (zd6 % zd7)))) (gI zd7 (pkz (dOk zd6 zd7) (zd6 % zd7)))), wv2 (pkz (fits (gI zd7 (pkz (dOk zd6 zd7) (zd6 % zd7)))) (gI zd7 (pkz (dOk zd6 zd7) (zd6 % zd7)))), wv1 (pkz (fits (gI zd7 (pkz (dOk zd6 zd7) (zd6 % zd7)))) (gI zd7 (pkz (dOk zd6 zd7) (zd6 % zd7)))), wv0 (pkz (fits (gI zd7 (pkz (dOk zd6 zd7) (zd6 % zd7)))) (gI zd7 (pkz (dOk zd6 zd7) (zd6 % zd7))))] : List Int) = [wv3 (pkz (fits (gI zd6 zd7)) (gI zd6 zd7)), wv2 (pkz (fits (gI zd6 zd7)) (gI zd6 zd7)), wv1 (pkz (fits (gI zd6 zd7)) (gI zd6 zd7)), wv0 (pkz (fits (gI zd6 zd7)) (gI zd6 zd7))]))) (d := 117) rfl rfl (congrArg Value.bool (decide_eq_true hb191)) (dv_eqls (k := .u64) (la := [wv3 (pkz (fits (gI zd7 (pkz (dOk zd6 zd7) (zd6 % zd7)))) (gI zd7 (pkz (dOk zd6 zd7) (zd6 % zd7)))), wv2 (pkz (fits (gI zd7 (pkz (dOk zd6 zd7) (zd6 % zd7)))) (gI zd7 (pkz (dOk zd6 zd7) (zd6 % zd7)))), wv1 (pkz (fits (gI zd7 (pkz (dOk zd6 zd7) (zd6 % zd7)))) (gI zd7 (pkz (dOk zd6 zd7) (zd6 % zd7)))), wv0 (pkz (fits (gI zd7 (pkz (dOk zd6 zd7) (zd6 % zd7)))) (gI zd7 (pkz (dOk zd6 zd7) (zd6 % zd7))))]) (lb := [wv3 (pkz (fits (gI zd6 zd7)) (gI zd6 zd7)), wv2 (pkz (fits (gI zd6 zd7)) (gI zd6 zd7)), wv1 (pkz (fits (gI zd6 zd7)) (gI zd6 zd7)), wv0 (pkz (fits (gI zd6 zd7)) (gI zd6 zd7))]) fl26 eg26 (T rfl rfl) (T rfl rfl) rfl rfl) ?_
                         refine lw_v (.bool (decide (([wv3 (pkz (fits (gI zd7 (pkz (dOk zd6 zd7) (zd6 % zd7)))) (gI zd7 (pkz (dOk zd6 zd7) (zd6 % zd7)))), wv2 (pkz (fits (gI zd7 (pkz (dOk zd6 zd7) (zd6 % zd7)))) (gI zd7 (pkz (dOk zd6 zd7) (zd6 % zd7)))), wv1 (pkz (fits (gI zd7 (pkz (dOk zd6 zd7) (zd6 % zd7)))) (gI zd7 (pkz (dOk zd6 zd7) (zd6 % zd7)))), wv0 (pkz (fits (gI zd7 (pkz (dOk zd6 zd7) (zd6 % zd7)))) (gI zd7 (pkz (dOk zd6 zd7) (zd6 % zd7))))] : List Int) = [wv3 (pkz (fits (gI zd6 zd7)) (gI zd6 zd7)), wv2 (pkz (fits (gI zd6 zd7)) (gI zd6 zd7)), wv1 (pkz (fits (gI zd6 zd7)) (gI zd6 zd7)), wv0 (pkz (fits (gI zd6 zd7)) (gI zd6 zd7))]))) (dv_pick_t (T rfl (congrArg Value.bool (decide_eq_true hb191))) (T rfl rfl)) ?_
                         refine lw_v (.bool (decide (([wv3 (pkz (fits (gI zd7 (pkz (dOk zd6 zd7) (zd6 % zd7)))) (gI zd7 (pkz (dOk zd6 zd7) (zd6 % zd7)))), wv2 (pkz (fits (gI zd7 (pkz (dOk zd6 zd7) (zd6 % zd7)))) (gI zd7 (pkz (dOk zd6 zd7) (zd6 % zd7)))), wv1 (pkz (fits (gI zd7 (pkz (dOk zd6 zd7) (zd6 % zd7)))) (gI zd7 (pkz (dOk zd6 zd7) (zd6 % zd7)))), wv0 (pkz (fits (gI zd7 (pkz (dOk zd6 zd7) (zd6 % zd7)))) (gI zd7 (pkz (dOk zd6 zd7) (zd6 % zd7))))] : List Int) = [wv3 (pkz (fits (gI zd6 zd7)) (gI zd6 zd7)), wv2 (pkz (fits (gI zd6 zd7)) (gI zd6 zd7)), wv1 (pkz (fits (gI zd6 zd7)) (gI zd6 zd7)), wv0 (pkz (fits (gI zd6 zd7)) (gI zd6 zd7))]))) (dv_assign (T rfl rfl)) ?_
                         refine lw_nil ?_
                         refine rk_ret Try.func6 (v := .bool (decide (([wv3 (pkz (fits (gI zd7 (pkz (dOk zd6 zd7) (zd6 % zd7)))) (gI zd7 (pkz (dOk zd6 zd7) (zd6 % zd7)))), wv2 (pkz (fits (gI zd7 (pkz (dOk zd6 zd7) (zd6 % zd7)))) (gI zd7 (pkz (dOk zd6 zd7) (zd6 % zd7)))), wv1 (pkz (fits (gI zd7 (pkz (dOk zd6 zd7) (zd6 % zd7)))) (gI zd7 (pkz (dOk zd6 zd7) (zd6 % zd7)))), wv0 (pkz (fits (gI zd7 (pkz (dOk zd6 zd7) (zd6 % zd7)))) (gI zd7 (pkz (dOk zd6 zd7) (zd6 % zd7))))] : List Int) = [wv3 (pkz (fits (gI zd6 zd7)) (gI zd6 zd7)), wv2 (pkz (fits (gI zd6 zd7)) (gI zd6 zd7)), wv1 (pkz (fits (gI zd6 zd7)) (gI zd6 zd7)), wv0 (pkz (fits (gI zd6 zd7)) (gI zd6 zd7))]))) (res1 Try.results6 (rv_tmp rfl rfl)) ⟨_, rfl, ?_⟩
                         have c1 := cG1 hb67 hb71 hz8
                         have c2 := cG2 hb67 hb71 hz9
                         skip
                         exact ⟨(vbt (by exact (wl_eq (fz_f _) (fz_f _)).2 (congrArg fz (cG3 hb67 hb176)))), E190⟩
                       · refine lw_no (d := 117) rfl rfl (congrArg Value.bool (decide_eq_false hb191)) ?_
                         refine lw_no (d := 117) rfl rfl (congrArg Value.bool (decide_eq_false hb191)) ?_
                         refine lw_no (d := 117) rfl rfl (congrArg Value.bool (decide_eq_false hb191)) ?_
                         refine lw_v (.bool false) (dv_pick_f (T rfl (congrArg Value.bool (decide_eq_false hb191))) C) ?_
                         refine lw_v (.bool false) (dv_assign (T rfl rfl)) ?_
                         refine lw_nil ?_
                         refine rk_ret Try.func6 (v := .bool false) (res1 Try.results6 (rv_tmp rfl rfl)) ⟨_, rfl, ?_⟩
                         have c1 := cG1 hb67 hb71 hz8
                         have c2 := cG2 hb67 hb71 hz9
                         skip
                         exact ⟨(by exfalso; exact hb191 (by rw [cG3 hb67 hb176]; exact hb67)), E190⟩
                     · refine rk_ct (T rfl (congrArg Value.bool (decide_eq_true hb176))) ?_
                       refine rk_seq ?_
                       refine rk_reg ?_
                       refine lw_v (.bool true) (dv_assign C) ?_
                       refine lw_nil ?_
                       refine rk_ret Try.func6 (v := .bool true) (res1 Try.results6 (rv_tmp rfl rfl)) ⟨_, rfl, ?_⟩
                       exact ⟨rfl, E175⟩
             · refine lw_no (d := 86) rfl rfl (congrArg Value.bool (decide_eq_true hb134)) ?_
               refine lw_no (d := 86) rfl rfl (congrArg Value.bool (decide_eq_true hb134)) ?_
               refine lw_no (d := 86) rfl rfl (congrArg Value.bool (decide_eq_true hb134)) ?_
               refine lw_v (.bool true) (dv_pick_t (T rfl (congrArg Value.bool (decide_eq_true hb134))) C) ?_
               refine lw_v (.bool true) (dv_move (T rfl rfl)) ?_
               refine lw_no (d := 91) rfl rfl (rfl) ?_
               refine lw_no (d := 91) rfl rfl (rfl) ?_
               refine lw_no (d := 91) rfl rfl (rfl) ?_
               refine lw_v (.bool true) (dv_pick_t (T rfl rfl) C) ?_
               refine lw_v (.bool true) (dv_move (T rfl rfl)) ?_
               refine lw_no (d := 96) rfl rfl (rfl) ?_
               refine lw_no (d := 96) rfl rfl (rfl) ?_
               refine lw_no (d := 96) rfl rfl (rfl) ?_
               refine lw_v (.bool true) (dv_pick_t (T rfl rfl) C) ?_
               refine lw_nil ?_
               refine rk_ct (T rfl rfl) ?_
               refine rk_seq ?_
               refine rk_reg ?_
               refine lw_v (.bool false) (dv_assign C) ?_
               refine lw_nil ?_
               refine rk_ret Try.func6 (v := .bool false) (res1 Try.results6 (rv_tmp rfl rfl)) ⟨_, rfl, ?_⟩
               have c1 := cG1 hb67 hb71 hz8
               have c2 := cG2 hb67 hb71 hz9
               skip
               exact ⟨(by exfalso; exact hb134 c2.1), E132⟩
           · refine lw_no (d := 82) rfl rfl (congrArg Value.bool (decide_eq_true hb133)) ?_
             refine lw_no (d := 82) rfl rfl (congrArg Value.bool (decide_eq_true hb133)) ?_
             refine lw_v (.bool true) (dv_pick_t (T rfl (congrArg Value.bool (decide_eq_true hb133))) C) ?_
             refine lw_v (.bool true) (dv_move (T rfl rfl)) ?_
             refine lw_no (d := 86) rfl rfl (rfl) ?_
             refine lw_no (d := 86) rfl rfl (rfl) ?_
             refine lw_no (d := 86) rfl rfl (rfl) ?_
             refine lw_v (.bool true) (dv_pick_t (T rfl rfl) C) ?_
             refine lw_v (.bool true) (dv_move (T rfl rfl)) ?_
             refine lw_no (d := 91) rfl rfl (rfl) ?_
             refine lw_no (d := 91) rfl rfl (rfl) ?_
             refine lw_no (d := 91) rfl rfl (rfl) ?_
             refine lw_v (.bool true) (dv_pick_t (T rfl rfl) C) ?_
             refine lw_v (.bool true) (dv_move (T rfl rfl)) ?_
             refine lw_no (d := 96) rfl rfl (rfl) ?_
             refine lw_no (d := 96) rfl rfl (rfl) ?_
             refine lw_no (d := 96) rfl rfl (rfl) ?_
             refine lw_v (.bool true) (dv_pick_t (T rfl rfl) C) ?_
             refine lw_nil ?_
             refine rk_ct (T rfl rfl) ?_
             refine rk_seq ?_
             refine rk_reg ?_
             refine lw_v (.bool false) (dv_assign C) ?_
             refine lw_nil ?_
             refine rk_ret Try.func6 (v := .bool false) (res1 Try.results6 (rv_tmp rfl rfl)) ⟨_, rfl, ?_⟩
             have c1 := cG1 hb67 hb71 hz8
             have c2 := cG2 hb67 hb71 hz9
             skip
             exact ⟨(by exfalso; exact hb133 c1.1), E132⟩
       · refine lw_no (d := 49) rfl rfl (congrArg Value.bool (decide_eq_true hb67)) ?_
         refine lw_no (d := 49) rfl rfl (congrArg Value.bool (decide_eq_true hb67)) ?_
         refine lw_no (d := 49) rfl rfl (congrArg Value.bool (decide_eq_true hb67)) ?_
         refine lw_v (.bool true) (dv_pick_t (T rfl (congrArg Value.bool (decide_eq_true hb67))) C) ?_
         refine lw_nil ?_
         refine rk_ct (T rfl rfl) ?_
         refine rk_seq ?_
         refine rk_reg ?_
         refine lw_v (.bool (decide (fits (gI zd6 zd7)))) (dv_move (T rfl rfl)) ?_
         refine lw_v (.bool (decide (¬ (fits (gI zd6 zd7))))) (dv_notd (p := fits (gI zd6 zd7)) (T rfl rfl)) ?_
         refine lw_v (.bool (decide (¬ (fits (gI zd6 zd7))))) (dv_move (T rfl rfl)) ?_
         refine lw_no (d := 56) rfl rfl (congrArg Value.bool (decide_eq_true hb67)) ?_
         refine lw_no (d := 56) rfl rfl (congrArg Value.bool (decide_eq_true hb67)) ?_
         refine lw_no (d := 56) rfl rfl (congrArg Value.bool (decide_eq_true hb67)) ?_
         refine lw_no (d := 56) rfl rfl (congrArg Value.bool (decide_eq_true hb67)) ?_
         refine lw_nou (d := 60) rfl rfl ?_
         refine lw_nou (d := 60) rfl rfl ?_
         refine lw_nou (d := 60) rfl rfl ?_
         refine lw_no (d := 56) rfl rfl (congrArg Value.bool (decide_eq_true hb67)) ?_
         refine lw_v (.bool true) (dv_pick_t (T rfl (congrArg Value.bool (decide_eq_true hb67))) C) ?_
         refine lw_v (.bool true) (dv_assign (T rfl rfl)) ?_
         refine lw_nil ?_
         refine rk_ret Try.func6 (v := .bool true) (res1 Try.results6 (rv_tmp rfl rfl)) ⟨_, rfl, ?_⟩
         exact ⟨rfl, E61⟩
end Go.Proofs.Ytfmkadgjoechnaa.W
