/- Walks of one law, packed by a program of this session. -/
import Derived.Test.YtfmkadgjoechnaaPdf
set_option linter.unusedVariables false
set_option linter.unusedSimpArgs false
namespace Go.Proofs.Ytfmkadgjoechnaa.W
open Go Go.RowKit Go.Proofs.Ytfmkadgjoechnaa.Fw
attribute [local irreducible] RunK LW AW DV OE Ct
theorem co11 : callOk Try.prog 11 = true := by kernel_rfl
theorem co16 : callOk Try.prog 16 = true := by kernel_rfl
theorem co18 : callOk Try.prog 18 = true := by kernel_rfl
theorem co19 : callOk Try.prog 19 = true := by kernel_rfl
theorem co20 : callOk Try.prog 20 = true := by kernel_rfl
theorem co21 : callOk Try.prog 21 = true := by kernel_rfl
set_option maxRecDepth 100000 in
set_option maxHeartbeats 1000000 in
theorem lawWideSums_ok {w : World} {A : Option Addr} {l c : Nat} {xs : List Int} (hx : RdI w .u8 A xs) (hxl : xs.length = l) (hlc : l ≤ c) (hcm : c ≤ 9223372036854775807) (ok : okW 256 xs) : Ct Try.prog 4 [.slice A l c] w fun v w1 => v = .bool true ∧ Ext w w1 := by
 refine ct_run (n := 154) Try.func4 rfl Try.ntmps4 rfl ?_
 have E0 : Below w.heap.size w w := Below.refl _ _
 refine rk_seq ?_
 refine rk_reg ?_
 refine lw_v (.bool false) (dv_assign C) ?_
 refine lw_nil ?_
 refine rk_seq ?_
 refine rk_seq ?_
 refine rk_reg ?_
 refine lw_v (.slice A l c) (dv_move (T rfl rfl)) ?_
 refine lw_e (oe_callf (vs := [.slice A l c]) co11 (ar1 (T rfl rfl)) (lbig_ok ) ?_)
 rintro _ w1 ⟨rfl, e2⟩
 have E3 := below_ext E0 E0.size e2
 refine lw_nil ?_
 by_cases hb4 : 1048576 < (l : Int)
 · refine rk_ct (T rfl (congrArg Value.bool (decide_eq_true hb4))) ?_
   refine rk_seq ?_
   refine rk_reg ?_
   refine lw_v (.bool true) (dv_assign C) ?_
   refine lw_nil ?_
   refine rk_ret Try.func4 (v := .bool true) (res1 Try.results4 (rv_tmp rfl rfl)) ⟨_, rfl, ?_⟩
   exact ⟨rfl, E3⟩
 · refine rk_cf (T rfl (congrArg Value.bool (decide_eq_false hb4))) ?_
   refine rk_skip ?_
   refine rk_seq ?_
   refine rk_reg ?_
   refine lw_v (.slice A l c) (dv_move (T rfl rfl)) ?_
   have h5 := (hx.ext e2)
   refine lw_e (oe_callf (vs := [.slice A l c]) co18 (ar1 (T rfl rfl)) (drawWideMul_ok (l := l) (c := c) (xs := xs) h5 (by first | omega | (simp; done) | (simp; omega)) (by first | omega | (simp; done) | (simp; omega)) ok) ?_)
   rintro _ w10 ⟨zd6, zd7, rfl, e11, hz8, hz9⟩
   have E12 := below_ext E3 E3.size e11
   refine lw_v (.tuple #[.agg #[.int .u64 (wv3 zd6), .int .u64 (wv2 zd6), .int .u64 (wv1 zd6), .int .u64 (wv0 zd6)], .agg #[.int .u64 (wv3 zd7), .int .u64 (wv2 zd7), .int .u64 (wv1 zd7), .int .u64 (wv0 zd7)]]) (dv_move (T rfl rfl)) ?_
   refine lw_v (.agg #[.int .u64 (wv3 zd6), .int .u64 (wv2 zd6), .int .u64 (wv1 zd6), .int .u64 (wv0 zd6)]) (dv_extract (vs := #[.agg #[.int .u64 (wv3 zd6), .int .u64 (wv2 zd6), .int .u64 (wv1 zd6), .int .u64 (wv0 zd6)], .agg #[.int .u64 (wv3 zd7), .int .u64 (wv2 zd7), .int .u64 (wv1 zd7), .int .u64 (wv0 zd7)]]) (T rfl rfl) rfl) ?_
   refine lw_v (.agg #[.int .u64 (wv3 zd7), .int .u64 (wv2 zd7), .int .u64 (wv1 zd7), .int .u64 (wv0 zd7)]) (dv_extract (vs := #[.agg #[.int .u64 (wv3 zd6), .int .u64 (wv2 zd6), .int .u64 (wv1 zd6), .int .u64 (wv0 zd6)], .agg #[.int .u64 (wv3 zd7), .int .u64 (wv2 zd7), .int .u64 (wv1 zd7), .int .u64 (wv0 zd7)]]) (T rfl rfl) rfl) ?_
   refine lw_e (oe_alloc ze26 ?_)
   intro b13 w14 n15
   have N16 : w.heap.size ≤ b13 := n15.eq ▸ E12.size
   have E17 := below_ext E12 E12.size n15.ext
   refine lw_e (oe_alloc ze26 ?_)
   intro b18 w19 n20
   have N21 : w.heap.size ≤ b18 := n20.eq ▸ E17.size
   have : b13 < b18 := n20.eq ▸ lt_of_blk n15.blk
   have E22 := below_ext E17 E17.size n20.ext
   have H23 := (n20.ext.blk n15.blk)
   refine lw_e (oe_store (v := .agg #[.int .u64 (wv3 zd6), .int .u64 (wv2 zd6), .int .u64 (wv1 zd6), .int .u64 (wv0 zd6)]) (vs := [.int .u64 (wv3 zd6), .int .u64 (wv2 zd6), .int .u64 (wv1 zd6), .int .u64 (wv0 zd6)]) (l := [.int .u64 (wv3 zd6), .int .u64 (wv2 zd6), .int .u64 (wv1 zd6), .int .u64 (wv0 zd6)]) (T rfl rfl) (T rfl rfl) sz26 rfl rfl rfl H23 rfl ?_)
   intro w24 s25 H26
   have E27 := below_st E22 N16 s25
   have H28 := (s25.blk n20.blk (by omega))
   refine lw_e (oe_store (v := .agg #[.int .u64 (wv3 zd7), .int .u64 (wv2 zd7), .int .u64 (wv1 zd7), .int .u64 (wv0 zd7)]) (vs := [.int .u64 (wv3 zd7), .int .u64 (wv2 zd7), .int .u64 (wv1 zd7), .int .u64 (wv0 zd7)]) (l := [.int .u64 (wv3 zd7), .int .u64 (wv2 zd7), .int .u64 (wv1 zd7), .int .u64 (wv0 zd7)]) (T rfl rfl) (T rfl rfl) sz26 rfl rfl rfl H28 rfl ?_)
   intro w29 s30 H31
   have E32 := below_st E27 N21 s30
   refine lw_nil ?_
   refine rk_seq ?_
   refine rk_reg ?_
   have H33 := (s30.blk H26 (by omega))
   refine lw_v (.agg #[.int .u64 (wv3 zd6), .int .u64 (wv2 zd6), .int .u64 (wv1 zd6), .int .u64 (wv0 zd6)]) (dv_loads (l := [.int .u64 (wv3 zd6), .int .u64 (wv2 zd6), .int .u64 (wv1 zd6), .int .u64 (wv0 zd6)]) agt26 sz26 (T rfl rfl) H33 rfl) ?_
   refine lw_v (.agg #[.int .u64 (wv3 zd7), .int .u64 (wv2 zd7), .int .u64 (wv1 zd7), .int .u64 (wv0 zd7)]) (dv_loads (l := [.int .u64 (wv3 zd7), .int .u64 (wv2 zd7), .int .u64 (wv1 zd7), .int .u64 (wv0 zd7)]) agt26 sz26 (T rfl rfl) H31 rfl) ?_
   refine lw_e (oe_callf (vs := [.agg #[.int .u64 (wv3 zd6), .int .u64 (wv2 zd6), .int .u64 (wv1 zd6), .int .u64 (wv0 zd6)], .agg #[.int .u64 (wv3 zd7), .int .u64 (wv2 zd7), .int .u64 (wv1 zd7), .int .u64 (wv0 zd7)]]) co19 (ar2 (T rfl rfl) (T rfl rfl)) (iWideAdd_ok (x := zd6) (y := zd7) hz8 hz9 ) ?_)
   rintro _ w34 ⟨rfl, e35⟩
   have E36 := below_ext E32 E32.size e35
   refine lw_v (.tuple #[.agg #[.int .u64 (wv3 (fz (zd6 + zd7))), .int .u64 (wv2 (fz (zd6 + zd7))), .int .u64 (wv1 (fz (zd6 + zd7))), .int .u64 (wv0 (fz (zd6 + zd7)))], .bool (decide (fits (zd6 + zd7)))]) (dv_move (T rfl rfl)) ?_
   refine lw_v (.agg #[.int .u64 (wv3 (fz (zd6 + zd7))), .int .u64 (wv2 (fz (zd6 + zd7))), .int .u64 (wv1 (fz (zd6 + zd7))), .int .u64 (wv0 (fz (zd6 + zd7)))]) (dv_extract (vs := #[.agg #[.int .u64 (wv3 (fz (zd6 + zd7))), .int .u64 (wv2 (fz (zd6 + zd7))), .int .u64 (wv1 (fz (zd6 + zd7))), .int .u64 (wv0 (fz (zd6 + zd7)))], .bool (decide (fits (zd6 + zd7)))]) (T rfl rfl) rfl) ?_
   refine lw_v (.bool (decide (fits (zd6 + zd7)))) (dv_extract (vs := #[.agg #[.int .u64 (wv3 (fz (zd6 + zd7))), .int .u64 (wv2 (fz (zd6 + zd7))), .int .u64 (wv1 (fz (zd6 + zd7))), .int .u64 (wv0 (fz (zd6 + zd7)))], .bool (decide (fits (zd6 + zd7)))]) (T rfl rfl) rfl) ?_
   refine lw_e (oe_alloc ze26 ?_)
   intro b37 w38 n39
   have N40 : w.heap.size ≤ b37 := n39.eq ▸ E36.size
   have H41 := (e35.blk H31)
   have : b18 < b37 := n39.eq ▸ lt_of_blk H41
   have E42 := below_ext E36 E36.size n39.ext
   refine lw_e (oe_store (v := .agg #[.int .u64 (wv3 (fz (zd6 + zd7))), .int .u64 (wv2 (fz (zd6 + zd7))), .int .u64 (wv1 (fz (zd6 + zd7))), .int .u64 (wv0 (fz (zd6 + zd7)))]) (vs := [.int .u64 (wv3 (fz (zd6 + zd7))), .int .u64 (wv2 (fz (zd6 + zd7))), .int .u64 (wv1 (fz (zd6 + zd7))), .int .u64 (wv0 (fz (zd6 + zd7)))]) (l := [.int .u64 (wv3 (fz (zd6 + zd7))), .int .u64 (wv2 (fz (zd6 + zd7))), .int .u64 (wv1 (fz (zd6 + zd7))), .int .u64 (wv0 (fz (zd6 + zd7)))]) (T rfl rfl) (T rfl rfl) sz26 rfl rfl rfl n39.blk rfl ?_)
   intro w43 s44 H45
   have E46 := below_st E42 N40 s44
   refine lw_v (.bool (decide (fits (zd6 + zd7)))) (dv_assign (T rfl rfl)) ?_
   refine lw_nil ?_
   refine rk_seq ?_
   refine rk_reg ?_
   have H47 := (s44.blk (n39.ext.blk H41) (by omega))
   refine lw_v (.agg #[.int .u64 (wv3 zd7), .int .u64 (wv2 zd7), .int .u64 (wv1 zd7), .int .u64 (wv0 zd7)]) (dv_loads (l := [.int .u64 (wv3 zd7), .int .u64 (wv2 zd7), .int .u64 (wv1 zd7), .int .u64 (wv0 zd7)]) agt26 sz26 (T rfl rfl) H47 rfl) ?_
   have H48 := (s44.blk (n39.ext.blk (e35.blk H33)) (by omega))
   refine lw_v (.agg #[.int .u64 (wv3 zd6), .int .u64 (wv2 zd6), .int .u64 (wv1 zd6), .int .u64 (wv0 zd6)]) (dv_loads (l := [.int .u64 (wv3 zd6), .int .u64 (wv2 zd6), .int .u64 (wv1 zd6), .int .u64 (wv0 zd6)]) agt26 sz26 (T rfl rfl) H48 rfl) ?_
   refine lw_e (oe_callf (vs := [.agg #[.int .u64 (wv3 zd7), .int .u64 (wv2 zd7), .int .u64 (wv1 zd7), .int .u64 (wv0 zd7)], .agg #[.int .u64 (wv3 zd6), .int .u64 (wv2 zd6), .int .u64 (wv1 zd6), .int .u64 (wv0 zd6)]]) co19 (ar2 (T rfl rfl) (T rfl rfl)) (iWideAdd_ok (x := zd7) (y := zd6) hz9 hz8 ) ?_)
   rintro _ w49 ⟨rfl, e50⟩
   have E51 := below_ext E46 E46.size e50
   refine lw_v (.tuple #[.agg #[.int .u64 (wv3 (fz (zd7 + zd6))), .int .u64 (wv2 (fz (zd7 + zd6))), .int .u64 (wv1 (fz (zd7 + zd6))), .int .u64 (wv0 (fz (zd7 + zd6)))], .bool (decide (fits (zd7 + zd6)))]) (dv_move (T rfl rfl)) ?_
   refine lw_v (.agg #[.int .u64 (wv3 (fz (zd7 + zd6))), .int .u64 (wv2 (fz (zd7 + zd6))), .int .u64 (wv1 (fz (zd7 + zd6))), .int .u64 (wv0 (fz (zd7 + zd6)))]) (dv_extract (vs := #[.agg #[.int .u64 (wv3 (fz (zd7 + zd6))), .int .u64 (wv2 (fz (zd7 + zd6))), .int .u64 (wv1 (fz (zd7 + zd6))), .int .u64 (wv0 (fz (zd7 + zd6)))], .bool (decide (fits (zd7 + zd6)))]) (T rfl rfl) rfl) ?_
   refine lw_v (.bool (decide (fits (zd7 + zd6)))) (dv_extract (vs := #[.agg #[.int .u64 (wv3 (fz (zd7 + zd6))), .int .u64 (wv2 (fz (zd7 + zd6))), .int .u64 (wv1 (fz (zd7 + zd6))), .int .u64 (wv0 (fz (zd7 + zd6)))], .bool (decide (fits (zd7 + zd6)))]) (T rfl rfl) rfl) ?_
   refine lw_e (oe_alloc ze26 ?_)
   intro b52 w53 n54
   have N55 : w.heap.size ≤ b52 := n54.eq ▸ E51.size
   have H56 := (e50.blk H45)
   have : b37 < b52 := n54.eq ▸ lt_of_blk H56
   have E57 := below_ext E51 E51.size n54.ext
   refine lw_e (oe_store (v := .agg #[.int .u64 (wv3 (fz (zd7 + zd6))), .int .u64 (wv2 (fz (zd7 + zd6))), .int .u64 (wv1 (fz (zd7 + zd6))), .int .u64 (wv0 (fz (zd7 + zd6)))]) (vs := [.int .u64 (wv3 (fz (zd7 + zd6))), .int .u64 (wv2 (fz (zd7 + zd6))), .int .u64 (wv1 (fz (zd7 + zd6))), .int .u64 (wv0 (fz (zd7 + zd6)))]) (l := [.int .u64 (wv3 (fz (zd7 + zd6))), .int .u64 (wv2 (fz (zd7 + zd6))), .int .u64 (wv1 (fz (zd7 + zd6))), .int .u64 (wv0 (fz (zd7 + zd6)))]) (T rfl rfl) (T rfl rfl) sz26 rfl rfl rfl n54.blk rfl ?_)
   intro w58 s59 H60
   have E61 := below_st E57 N55 s59
   refine lw_v (.bool (decide (fits (zd7 + zd6)))) (dv_assign (T rfl rfl)) ?_
   refine lw_nil ?_
   refine rk_seq ?_
   refine rk_reg ?_
   have H62 := (s59.blk (n54.ext.blk (e50.blk H48)) (by omega))
   refine lw_v (.agg #[.int .u64 (wv3 zd6), .int .u64 (wv2 zd6), .int .u64 (wv1 zd6), .int .u64 (wv0 zd6)]) (dv_loads (l := [.int .u64 (wv3 zd6), .int .u64 (wv2 zd6), .int .u64 (wv1 zd6), .int .u64 (wv0 zd6)]) agt26 sz26 (T rfl rfl) H62 rfl) ?_
   have H63 := (s59.blk (n54.ext.blk (e50.blk H47)) (by omega))
   refine lw_v (.agg #[.int .u64 (wv3 zd7), .int .u64 (wv2 zd7), .int .u64 (wv1 zd7), .int .u64 (wv0 zd7)]) (dv_loads (l := [.int .u64 (wv3 zd7), .int .u64 (wv2 zd7), .int .u64 (wv1 zd7), .int .u64 (wv0 zd7)]) agt26 sz26 (T rfl rfl) H63 rfl) ?_
   refine lw_e (oe_callf (vs := [.agg #[.int .u64 (wv3 zd6), .int .u64 (wv2 zd6), .int .u64 (wv1 zd6), .int .u64 (wv0 zd6)], .agg #[.int .u64 (wv3 zd7), .int .u64 (wv2 zd7), .int .u64 (wv1 zd7), .int .u64 (wv0 zd7)]]) co20 (ar2 (T rfl rfl) (T rfl rfl)) (sWideAdd_ok (x := zd6) (y := zd7) hz8 hz9 ) ?_)
   rintro _ w64 ⟨rfl, e65⟩
   have E66 := below_ext E61 E61.size e65
   refine lw_v (.tuple #[.agg #[.int .u64 (wv3 (fz (zd6 + zd7))), .int .u64 (wv2 (fz (zd6 + zd7))), .int .u64 (wv1 (fz (zd6 + zd7))), .int .u64 (wv0 (fz (zd6 + zd7)))], .bool (decide (fits (zd6 + zd7)))]) (dv_move (T rfl rfl)) ?_
   refine lw_v (.agg #[.int .u64 (wv3 (fz (zd6 + zd7))), .int .u64 (wv2 (fz (zd6 + zd7))), .int .u64 (wv1 (fz (zd6 + zd7))), .int .u64 (wv0 (fz (zd6 + zd7)))]) (dv_extract (vs := #[.agg #[.int .u64 (wv3 (fz (zd6 + zd7))), .int .u64 (wv2 (fz (zd6 + zd7))), .int .u64 (wv1 (fz (zd6 + zd7))), .int .u64 (wv0 (fz (zd6 + zd7)))], .bool (decide (fits (zd6 + zd7)))]) (T rfl rfl) rfl) ?_
   refine lw_v (.bool (decide (fits (zd6 + zd7)))) (dv_extract (vs := #[.agg #[.int .u64 (wv3 (fz (zd6 + zd7))), .int .u64 (wv2 (fz (zd6 + zd7))), .int .u64 (wv1 (fz (zd6 + zd7))), .int .u64 (wv0 (fz (zd6 + zd7)))], .bool (decide (fits (zd6 + zd7)))]) (T rfl rfl) rfl) ?_
   refine lw_e (oe_alloc ze26 ?_)
   intro b67 w68 n69
   have N70 : w.heap.size ≤ b67 := n69.eq ▸ E66.size
   have H71 := (e65.blk H60)
   have : b52 < b67 := n69.eq ▸ lt_of_blk H71
   have E72 := below_ext E66 E66.size n69.ext
   refine lw_e (oe_store (v := .agg #[.int .u64 (wv3 (fz (zd6 + zd7))), .int .u64 (wv2 (fz (zd6 + zd7))), .int .u64 (wv1 (fz (zd6 + zd7))), .int .u64 (wv0 (fz (zd6 + zd7)))]) (vs := [.int .u64 (wv3 (fz (zd6 + zd7))), .int .u64 (wv2 (fz (zd6 + zd7))), .int .u64 (wv1 (fz (zd6 + zd7))), .int .u64 (wv0 (fz (zd6 + zd7)))]) (l := [.int .u64 (wv3 (fz (zd6 + zd7))), .int .u64 (wv2 (fz (zd6 + zd7))), .int .u64 (wv1 (fz (zd6 + zd7))), .int .u64 (wv0 (fz (zd6 + zd7)))]) (T rfl rfl) (T rfl rfl) sz26 rfl rfl rfl n69.blk rfl ?_)
   intro w73 s74 H75
   have E76 := below_st E72 N70 s74
   refine lw_v (.bool (decide (fits (zd6 + zd7)))) (dv_assign (T rfl rfl)) ?_
   refine lw_nil ?_
   refine rk_seq ?_
   refine rk_seq ?_
   refine rk_reg ?_
   have H77 := (s74.blk (n69.ext.blk (e65.blk (s59.blk (n54.ext.blk H56) (by omega)))) (by omega))
   refine lw_v (.agg #[.int .u64 (wv3 (fz (zd6 + zd7))), .int .u64 (wv2 (fz (zd6 + zd7))), .int .u64 (wv1 (fz (zd6 + zd7))), .int .u64 (wv0 (fz (zd6 + zd7)))]) (dv_loads (l := [.int .u64 (wv3 (fz (zd6 + zd7))), .int .u64 (wv2 (fz (zd6 + zd7))), .int .u64 (wv1 (fz (zd6 + zd7))), .int .u64 (wv0 (fz (zd6 + zd7)))]) agt26 sz26 (T rfl rfl) H77 rfl) ?_
   have H78 := (s74.blk (n69.ext.blk H71) (by omega))
   refine lw_v (.agg #[.int .u64 (wv3 (fz (zd7 + zd6))), .int .u64 (wv2 (fz (zd7 + zd6))), .int .u64 (wv1 (fz (zd7 + zd6))), .int .u64 (wv0 (fz (zd7 + zd6)))]) (dv_loads (l := [.int .u64 (wv3 (fz (zd7 + zd6))), .int .u64 (wv2 (fz (zd7 + zd6))), .int .u64 (wv1 (fz (zd7 + zd6))), .int .u64 (wv0 (fz (zd7 + zd6)))]) agt26 sz26 (T rfl rfl) H78 rfl) ?_
   refine lw_v (.bool (decide (([wv3 (fz (zd6 + zd7)), wv2 (fz (zd6 + zd7)), wv1 (fz (zd6 + zd7)), wv0 (fz (zd6 + zd7))] : List Int) ≠ [wv3 (fz (zd7 + zd6)), wv2 (fz (zd7 + zd6)), wv1 (fz (zd7 + zd6)), wv0 (fz (zd7 + zd6))]))) (dv_neqs (k := .u64) (la := [wv3 (fz (zd6 + zd7)), wv2 (fz (zd6 + zd7)), wv1 (fz (zd6 + zd7)), wv0 (fz (zd6 + zd7))]) (lb := [wv3 (fz (zd7 + zd6)), wv2 (fz (zd7 + zd6)), wv1 (fz (zd7 + zd6)), wv0 (fz (zd7 + zd6))]) fl26 eg26 (T rfl rfl) (T rfl rfl) rfl rfl) ?_
   refine lw_v (.bool (decide (([wv3 (fz (zd6 + zd7)), wv2 (fz (zd6 + zd7)), wv1 (fz (zd6 + zd7)), wv0 (fz (zd6 + zd7))] : List Int) ≠ [wv3 (fz (zd7 + zd6)), wv2 (fz (zd7 + zd6)), wv1 (fz (zd7 + zd6)), wv0 (fz (zd7 + zd6))]))) (dv_move (T rfl rfl)) ?_
   by_cases hb79 : ([wv3 (fz (zd6 + zd7)), wv2 (fz (zd6 + zd7)), wv1 (fz (zd6 + zd7)), wv0 (fz (zd6 + zd7))] : List Int) ≠ [wv3 (fz (zd7 + zd6)), wv2 (fz (zd7 + zd6)), wv1 (fz (zd7 + zd6)), wv0 (fz (zd7 + zd6))]
   · have hz80 := fun hh => hb79 ((wl_eq (fz_f _) (fz_f _)).2 hh)
     refine lw_no (d := 54) rfl rfl (congrArg Value.bool (decide_eq_true hb79)) ?_
     refine lw_no (d := 54) rfl rfl (congrArg Value.bool (decide_eq_true hb79)) ?_
     refine lw_no (d := 54) rfl rfl (congrArg Value.bool (decide_eq_true hb79)) ?_
     refine lw_v (.bool true) (dv_pick_t (T rfl (congrArg Value.bool (decide_eq_true hb79))) C) ?_
     refine lw_v (.bool true) (dv_move (T rfl rfl)) ?_
     refine lw_no (d := 59) rfl rfl (rfl) ?_
     refine lw_no (d := 59) rfl rfl (rfl) ?_
     refine lw_no (d := 59) rfl rfl (rfl) ?_
     refine lw_v (.bool true) (dv_pick_t (T rfl rfl) C) ?_
     refine lw_v (.bool true) (dv_move (T rfl rfl)) ?_
     refine lw_no (d := 64) rfl rfl (rfl) ?_
     refine lw_no (d := 64) rfl rfl (rfl) ?_
     refine lw_no (d := 64) rfl rfl (rfl) ?_
     refine lw_v (.bool true) (dv_pick_t (T rfl rfl) C) ?_
     refine lw_nil ?_
     refine rk_ct (T rfl rfl) ?_
     refine rk_seq ?_
     refine rk_reg ?_
     refine lw_v (.bool false) (dv_assign C) ?_
     refine lw_nil ?_
     refine rk_ret Try.func4 (v := .bool false) (res1 Try.results4 (rv_tmp rfl rfl)) ⟨_, rfl, ?_⟩
     skip
     exact ⟨(by exfalso; first | (exact cB (by assumption)) | (exact absurd rfl (by assumption)) | (exact cS1 (a := zd6) (b := zd7) (by assumption)) | (exact cS2 (a := zd6) (b := zd7) (by assumption)) | (exact cM1 (a := zd6) (b := zd7) (by assumption)) | (exact cM2 (a := zd6) (b := zd7) (by assumption)) | (exact cS4 (a := zd6) (b := zd7) (by assumption) hz8 (by assumption)) | (exact cS5 (a := zd6) (b := zd7) (by assumption) hz8 (by assumption)) | (exact cS7 (a := zd6) (b := zd7) (by assumption) (by assumption) (by assumption) (by assumption) (by assumption)) | omega), E76⟩
   · have hz81 := (wl_eq (fz_f _) (fz_f _)).1 (Decidable.not_not.1 hb79)
     refine lw_vy (.bool (decide (fits (zd6 + zd7)))) (d := 54) rfl rfl (congrArg Value.bool (decide_eq_false hb79)) (dv_move (T rfl rfl)) ?_
     refine lw_vy (.bool (decide (fits (zd7 + zd6)))) (d := 54) rfl rfl (congrArg Value.bool (decide_eq_false hb79)) (dv_move (T rfl rfl)) ?_
     refine lw_vy (.bool ((decide (fits (zd6 + zd7))) != (decide (fits (zd7 + zd6))))) (d := 54) rfl rfl (congrArg Value.bool (decide_eq_false hb79)) (dv_neqb (a := decide (fits (zd6 + zd7))) (b := decide (fits (zd7 + zd6))) ub4 (T rfl rfl) (T rfl rfl)) ?_
     refine lw_v (.bool ((decide (fits (zd6 + zd7))) != (decide (fits (zd7 + zd6))))) (dv_pick_f (T rfl (congrArg Value.bool (decide_eq_false hb79))) (T rfl rfl)) ?_
     refine lw_v (.bool ((decide (fits (zd6 + zd7))) != (decide (fits (zd7 + zd6))))) (dv_move (T rfl rfl)) ?_
     rcases Bool.eq_false_or_eq_true ((decide (fits (zd6 + zd7))) != (decide (fits (zd7 + zd6)))) with hb82 | hb82
     · refine lw_no (d := 59) rfl rfl (congrArg Value.bool hb82) ?_
       refine lw_no (d := 59) rfl rfl (congrArg Value.bool hb82) ?_
       refine lw_no (d := 59) rfl rfl (congrArg Value.bool hb82) ?_
       refine lw_v (.bool true) (dv_pick_t (T rfl (congrArg Value.bool hb82)) C) ?_
       refine lw_v (.bool true) (dv_move (T rfl rfl)) ?_
       refine lw_no (d := 64) rfl rfl (rfl) ?_
       refine lw_no (d := 64) rfl rfl (rfl) ?_
       refine lw_no (d := 64) rfl rfl (rfl) ?_
       refine lw_v (.bool true) (dv_pick_t (T rfl rfl) C) ?_
       refine lw_nil ?_
       refine rk_ct (T rfl rfl) ?_
       refine rk_seq ?_
       refine rk_reg ?_
       refine lw_v (.bool false) (dv_assign C) ?_
       refine lw_nil ?_
       refine rk_ret Try.func4 (v := .bool false) (res1 Try.results4 (rv_tmp rfl rfl)) ⟨_, rfl, ?_⟩
       skip
       exact ⟨(by exfalso; first | (exact cB (by assumption)) | (exact absurd rfl (by assumption)) | (exact cS1 (a := zd6) (b := zd7) (by assumption)) | (exact cS2 (a := zd6) (b := zd7) (by assumption)) | (exact cM1 (a := zd6) (b := zd7) (by assumption)) | (exact cM2 (a := zd6) (b := zd7) (by assumption)) | (exact cS4 (a := zd6) (b := zd7) (by assumption) hz8 (by assumption)) | (exact cS5 (a := zd6) (b := zd7) (by assumption) hz8 (by assumption)) | (exact cS7 (a := zd6) (b := zd7) (by assumption) (by assumption) (by assumption) (by assumption) (by assumption)) | omega), E76⟩
     · refine lw_vy (.agg #[.int .u64 (wv3 (fz (zd6 + zd7))), .int .u64 (wv2 (fz (zd6 + zd7))), .int .u64 (wv1 (fz (zd6 + zd7))), .int .u64 (wv0 (fz (zd6 + zd7)))]) (d := 59) rfl rfl (congrArg Value.bool hb82) (dv_loads (l := [.int .u64 (wv3 (fz (zd6 + zd7))), .int .u64 (wv2 (fz (zd6 + zd7))), .int .u64 (wv1 (fz (zd6 + zd7))), .int .u64 (wv0 (fz (zd6 + zd7)))]) agt26 sz26 (T rfl rfl) H77 rfl) ?_
       refine lw_vy (.agg #[.int .u64 (wv3 (fz (zd6 + zd7))), .int .u64 (wv2 (fz (zd6 + zd7))), .int .u64 (wv1 (fz (zd6 + zd7))), .int .u64 (wv0 (fz (zd6 + zd7)))]) (d := 59) rfl rfl (congrArg Value.bool hb82) (dv_loads (l := [.int .u64 (wv3 (fz (zd6 + zd7))), .int .u64 (wv2 (fz (zd6 + zd7))), .int .u64 (wv1 (fz (zd6 + zd7))), .int .u64 (wv0 (fz (zd6 + zd7)))]) agt26 sz26 (T rfl rfl) H75 rfl) ?_
       refine lw_vy (.bool (decide (([wv3 (fz (zd6 + zd7)), wv2 (fz (zd6 + zd7)), wv1 (fz (zd6 + zd7)), wv0 (fz (zd6 + zd7))] : List Int) ≠ [wv3 (fz (zd6 + zd7)), wv2 (fz (zd6 + zd7)), wv1 (fz (zd6 + zd7)), wv0 (fz (zd6 + zd7))]))) (d := 59) rfl rfl (congrArg Value.bool hb82) (dv_neqs (k := .u64) (la := [wv3 (fz (zd6 + zd7)), wv2 (fz (zd6 + zd7)), wv1 (fz (zd6 + zd7)), wv0 (fz (zd6 + zd7))]) (lb := [wv3 (fz (zd6 + zd7)), wv2 (fz (zd6 + zd7)), wv1 (fz (zd6 + zd7)), wv0 (fz (zd6 + zd7))]) fl26 eg26 (T rfl rfl) (T rfl rfl) rfl rfl) ?_
       refine lw_v (.bool (decide (([wv3 (fz (zd6 + zd7)), wv2 (fz (zd6 + zd7)), wv1 (fz (zd6 + zd7)), wv0 (fz (zd6 + zd7))] : List Int) ≠ [wv3 (fz (zd6 + zd7)), wv2 (fz (zd6 + zd7)), wv1 (fz (zd6 + zd7)), wv0 (fz (zd6 + zd7))]))) (dv_pick_f (T rfl (congrArg Value.bool hb82)) (T rfl rfl)) ?_
       refine lw_v (.bool (decide (([wv3 (fz (zd6 + zd7)), wv2 (fz (zd6 + zd7)), wv1 (fz (zd6 + zd7)), wv0 (fz (zd6 + zd7))] : List Int) ≠ [wv3 (fz (zd6 + zd7)), wv2 (fz (zd6 + zd7)), wv1 (fz (zd6 + zd7)), wv0 (fz (zd6 + zd7))]))) (dv_move (T rfl rfl)) ?_
       by_cases hb83 : ([wv3 (fz (zd6 + zd7)), wv2 (fz (zd6 + zd7)), wv1 (fz (zd6 + zd7)), wv0 (fz (zd6 + zd7))] : List Int) ≠ [wv3 (fz (zd6 + zd7)), wv2 (fz (zd6 + zd7)), wv1 (fz (zd6 + zd7)), wv0 (fz (zd6 + zd7))]
       · have hz84 := fun hh => hb83 ((wl_eq (fz_f _) (fz_f _)).2 hh)
         refine lw_no (d := 64) rfl rfl (congrArg Value.bool (decide_eq_true hb83)) ?_
         refine lw_no (d := 64) rfl rfl (congrArg Value.bool (decide_eq_true hb83)) ?_
         refine lw_no (d := 64) rfl rfl (congrArg Value.bool (decide_eq_true hb83)) ?_
         refine lw_v (.bool true) (dv_pick_t (T rfl (congrArg Value.bool (decide_eq_true hb83))) C) ?_
         refine lw_nil ?_
         refine rk_ct (T rfl rfl) ?_
         refine rk_seq ?_
         refine rk_reg ?_
         refine lw_v (.bool false) (dv_assign C) ?_
         refine lw_nil ?_
         refine rk_ret Try.func4 (v := .bool false) (res1 Try.results4 (rv_tmp rfl rfl)) ⟨_, rfl, ?_⟩
         skip
         exact ⟨(by exfalso; first | (exact cB (by assumption)) | (exact absurd rfl (by assumption)) | (exact cS1 (a := zd6) (b := zd7) (by assumption)) | (exact cS2 (a := zd6) (b := zd7) (by assumption)) | (exact cM1 (a := zd6) (b := zd7) (by assumption)) | (exact cM2 (a := zd6) (b := zd7) (by assumption)) | (exact cS4 (a := zd6) (b := zd7) (by assumption) hz8 (by assumption)) | (exact cS5 (a := zd6) (b := zd7) (by assumption) hz8 (by assumption)) | (exact cS7 (a := zd6) (b := zd7) (by assumption) (by assumption) (by assumption) (by assumption) (by assumption)) | omega), E76⟩
       · have hz85 := (wl_eq (fz_f _) (fz_f _)).1 (Decidable.not_not.1 hb83)
         refine lw_vy (.bool (decide (fits (zd6 + zd7)))) (d := 64) rfl rfl (congrArg Value.bool (decide_eq_false hb83)) (dv_move (T rfl rfl)) ?_
         refine lw_vy (.bool (decide (fits (zd6 + zd7)))) (d := 64) rfl rfl (congrArg Value.bool (decide_eq_false hb83)) (dv_move (T rfl rfl)) ?_
         refine lw_vy (.bool ((decide (fits (zd6 + zd7))) != (decide (fits (zd6 + zd7))))) (d := 64) rfl rfl (congrArg Value.bool (decide_eq_false hb83)) (dv_neqb (a := decide (fits (zd6 + zd7))) (b := decide (fits (zd6 + zd7))) ub4 (T rfl rfl) (T rfl rfl)) ?_
         refine lw_v (.bool ((decide (fits (zd6 + zd7))) != (decide (fits (zd6 + zd7))))) (dv_pick_f (T rfl (congrArg Value.bool (decide_eq_false hb83))) (T rfl rfl)) ?_
         refine lw_nil ?_
         rcases Bool.eq_false_or_eq_true ((decide (fits (zd6 + zd7))) != (decide (fits (zd6 + zd7)))) with hb86 | hb86
         · refine rk_ct (T rfl (congrArg Value.bool hb86)) ?_
           refine rk_seq ?_
           refine rk_reg ?_
           refine lw_v (.bool false) (dv_assign C) ?_
           refine lw_nil ?_
           refine rk_ret Try.func4 (v := .bool false) (res1 Try.results4 (rv_tmp rfl rfl)) ⟨_, rfl, ?_⟩
           skip
           exact ⟨(by exfalso; first | (exact cB (by assumption)) | (exact absurd rfl (by assumption)) | (exact cS1 (a := zd6) (b := zd7) (by assumption)) | (exact cS2 (a := zd6) (b := zd7) (by assumption)) | (exact cM1 (a := zd6) (b := zd7) (by assumption)) | (exact cM2 (a := zd6) (b := zd7) (by assumption)) | (exact cS4 (a := zd6) (b := zd7) (by assumption) hz8 (by assumption)) | (exact cS5 (a := zd6) (b := zd7) (by assumption) hz8 (by assumption)) | (exact cS7 (a := zd6) (b := zd7) (by assumption) (by assumption) (by assumption) (by assumption) (by assumption)) | omega), E76⟩
         · refine rk_cf (T rfl (congrArg Value.bool hb86)) ?_
           refine rk_skip ?_
           refine rk_seq ?_
           refine rk_reg ?_
           have H87 := (s74.blk (n69.ext.blk (e65.blk H62)) (by omega))
           refine lw_v (.agg #[.int .u64 (wv3 zd6), .int .u64 (wv2 zd6), .int .u64 (wv1 zd6), .int .u64 (wv0 zd6)]) (dv_loads (l := [.int .u64 (wv3 zd6), .int .u64 (wv2 zd6), .int .u64 (wv1 zd6), .int .u64 (wv0 zd6)]) agt26 sz26 (T rfl rfl) H87 rfl) ?_
           have H88 := (s74.blk (n69.ext.blk (e65.blk H63)) (by omega))
           refine lw_v (.agg #[.int .u64 (wv3 zd7), .int .u64 (wv2 zd7), .int .u64 (wv1 zd7), .int .u64 (wv0 zd7)]) (dv_loads (l := [.int .u64 (wv3 zd7), .int .u64 (wv2 zd7), .int .u64 (wv1 zd7), .int .u64 (wv0 zd7)]) agt26 sz26 (T rfl rfl) H88 rfl) ?_
           refine lw_e (oe_callf (vs := [.agg #[.int .u64 (wv3 zd6), .int .u64 (wv2 zd6), .int .u64 (wv1 zd6), .int .u64 (wv0 zd6)], .agg #[.int .u64 (wv3 zd7), .int .u64 (wv2 zd7), .int .u64 (wv1 zd7), .int .u64 (wv0 zd7)]]) co21 (ar2 (T rfl rfl) (T rfl rfl)) (iWideMul_ok (x := zd6) (y := zd7) hz8 hz9 ) ?_)
           rintro _ w89 ⟨rfl, e90⟩
           have E91 := below_ext E76 E76.size e90
           refine lw_v (.tuple #[.agg #[.int .u64 (wv3 (fz (zd6 * zd7))), .int .u64 (wv2 (fz (zd6 * zd7))), .int .u64 (wv1 (fz (zd6 * zd7))), .int .u64 (wv0 (fz (zd6 * zd7)))], .bool (decide (fits (zd6 * zd7)))]) (dv_move (T rfl rfl)) ?_
           refine lw_v (.agg #[.int .u64 (wv3 (fz (zd6 * zd7))), .int .u64 (wv2 (fz (zd6 * zd7))), .int .u64 (wv1 (fz (zd6 * zd7))), .int .u64 (wv0 (fz (zd6 * zd7)))]) (dv_extract (vs := #[.agg #[.int .u64 (wv3 (fz (zd6 * zd7))), .int .u64 (wv2 (fz (zd6 * zd7))), .int .u64 (wv1 (fz (zd6 * zd7))), .int .u64 (wv0 (fz (zd6 * zd7)))], .bool (decide (fits (zd6 * zd7)))]) (T rfl rfl) rfl) ?_
           refine lw_v (.bool (decide (fits (zd6 * zd7)))) (dv_extract (vs := #[.agg #[.int .u64 (wv3 (fz (zd6 * zd7))), .int .u64 (wv2 (fz (zd6 * zd7))), .int .u64 (wv1 (fz (zd6 * zd7))), .int .u64 (wv0 (fz (zd6 * zd7)))], .bool (decide (fits (zd6 * zd7)))]) (T rfl rfl) rfl) ?_
           refine lw_e (oe_alloc ze26 ?_)
           intro b92 w93 n94
           have N95 : w.heap.size ≤ b92 := n94.eq ▸ E91.size
           have H96 := (e90.blk H75)
           have : b67 < b92 := n94.eq ▸ lt_of_blk H96
           have E97 := below_ext E91 E91.size n94.ext
           refine lw_e (oe_store (v := .agg #[.int .u64 (wv3 (fz (zd6 * zd7))), .int .u64 (wv2 (fz (zd6 * zd7))), .int .u64 (wv1 (fz (zd6 * zd7))), .int .u64 (wv0 (fz (zd6 * zd7)))]) (vs := [.int .u64 (wv3 (fz (zd6 * zd7))), .int .u64 (wv2 (fz (zd6 * zd7))), .int .u64 (wv1 (fz (zd6 * zd7))), .int .u64 (wv0 (fz (zd6 * zd7)))]) (l := [.int .u64 (wv3 (fz (zd6 * zd7))), .int .u64 (wv2 (fz (zd6 * zd7))), .int .u64 (wv1 (fz (zd6 * zd7))), .int .u64 (wv0 (fz (zd6 * zd7)))]) (T rfl rfl) (T rfl rfl) sz26 rfl rfl rfl n94.blk rfl ?_)
           intro w98 s99 H100
           have E101 := below_st E97 N95 s99
           refine lw_v (.bool (decide (fits (zd6 * zd7)))) (dv_assign (T rfl rfl)) ?_
           refine lw_nil ?_
           refine rk_seq ?_
           refine rk_reg ?_
           have H102 := (s99.blk (n94.ext.blk (e90.blk H88)) (by omega))
           refine lw_v (.agg #[.int .u64 (wv3 zd7), .int .u64 (wv2 zd7), .int .u64 (wv1 zd7), .int .u64 (wv0 zd7)]) (dv_loads (l := [.int .u64 (wv3 zd7), .int .u64 (wv2 zd7), .int .u64 (wv1 zd7), .int .u64 (wv0 zd7)]) agt26 sz26 (T rfl rfl) H102 rfl) ?_
           have H103 := (s99.blk (n94.ext.blk (e90.blk H87)) (by omega))
           refine lw_v (.agg #[.int .u64 (wv3 zd6), .int .u64 (wv2 zd6), .int .u64 (wv1 zd6), .int .u64 (wv0 zd6)]) (dv_loads (l := [.int .u64 (wv3 zd6), .int .u64 (wv2 zd6), .int .u64 (wv1 zd6), .int .u64 (wv0 zd6)]) agt26 sz26 (T rfl rfl) H103 rfl) ?_
           refine lw_e (oe_callf (vs := [.agg #[.int .u64 (wv3 zd7), .int .u64 (wv2 zd7), .int .u64 (wv1 zd7), .int .u64 (wv0 zd7)], .agg #[.int .u64 (wv3 zd6), .int .u64 (wv2 zd6), .int .u64 (wv1 zd6), .int .u64 (wv0 zd6)]]) co21 (ar2 (T rfl rfl) (T rfl rfl)) (iWideMul_ok (x := zd7) (y := zd6) hz9 hz8 ) ?_)
           rintro _ w104 ⟨rfl, e105⟩
           have E106 := below_ext E101 E101.size e105
           refine lw_v (.tuple #[.agg #[.int .u64 (wv3 (fz (zd7 * zd6))), .int .u64 (wv2 (fz (zd7 * zd6))), .int .u64 (wv1 (fz (zd7 * zd6))), .int .u64 (wv0 (fz (zd7 * zd6)))], .bool (decide (fits (zd7 * zd6)))]) (dv_move (T rfl rfl)) ?_
           refine lw_v (.agg #[.int .u64 (wv3 (fz (zd7 * zd6))), .int .u64 (wv2 (fz (zd7 * zd6))), .int .u64 (wv1 (fz (zd7 * zd6))), .int .u64 (wv0 (fz (zd7 * zd6)))]) (dv_extract (vs := #[.agg #[.int .u64 (wv3 (fz (zd7 * zd6))), .int .u64 (wv2 (fz (zd7 * zd6))), .int .u64 (wv1 (fz (zd7 * zd6))), .int .u64 (wv0 (fz (zd7 * zd6)))], .bool (decide (fits (zd7 * zd6)))]) (T rfl rfl) rfl) ?_
           refine lw_v (.bool (decide (fits (zd7 * zd6)))) (dv_extract (vs := #[.agg #[.int .u64 (wv3 (fz (zd7 * zd6))), .int .u64 (wv2 (fz (zd7 * zd6))), .int .u64 (wv1 (fz (zd7 * zd6))), .int .u64 (wv0 (fz (zd7 * zd6)))], .bool (decide (fits (zd7 * zd6)))]) (T rfl rfl) rfl) ?_
           refine lw_e (oe_alloc ze26 ?_)
           intro b107 w108 n109
           have N110 : w.heap.size ≤ b107 := n109.eq ▸ E106.size
           have H111 := (e105.blk H100)
           have : b92 < b107 := n109.eq ▸ lt_of_blk H111
           have E112 := below_ext E106 E106.size n109.ext
           refine lw_e (oe_store (v := .agg #[.int .u64 (wv3 (fz (zd7 * zd6))), .int .u64 (wv2 (fz (zd7 * zd6))), .int .u64 (wv1 (fz (zd7 * zd6))), .int .u64 (wv0 (fz (zd7 * zd6)))]) (vs := [.int .u64 (wv3 (fz (zd7 * zd6))), .int .u64 (wv2 (fz (zd7 * zd6))), .int .u64 (wv1 (fz (zd7 * zd6))), .int .u64 (wv0 (fz (zd7 * zd6)))]) (l := [.int .u64 (wv3 (fz (zd7 * zd6))), .int .u64 (wv2 (fz (zd7 * zd6))), .int .u64 (wv1 (fz (zd7 * zd6))), .int .u64 (wv0 (fz (zd7 * zd6)))]) (T rfl rfl) (T rfl rfl) sz26 rfl rfl rfl n109.blk rfl ?_)
           intro w113 s114 H115
           have E116 := below_st E112 N110 s114
           refine lw_v (.bool (decide (fits (zd7 * zd6)))) (dv_assign (T rfl rfl)) ?_
           refine lw_nil ?_
           refine rk_seq ?_
           refine rk_seq ?_
           refine rk_reg ?_
           have H117 := (s114.blk (n109.ext.blk H111) (by omega))
           refine lw_v (.agg #[.int .u64 (wv3 (fz (zd6 * zd7))), .int .u64 (wv2 (fz (zd6 * zd7))), .int .u64 (wv1 (fz (zd6 * zd7))), .int .u64 (wv0 (fz (zd6 * zd7)))]) (dv_loads (l := [.int .u64 (wv3 (fz (zd6 * zd7))), .int .u64 (wv2 (fz (zd6 * zd7))), .int .u64 (wv1 (fz (zd6 * zd7))), .int .u64 (wv0 (fz (zd6 * zd7)))]) agt26 sz26 (T rfl rfl) H117 rfl) ?_
           refine lw_v (.agg #[.int .u64 (wv3 (fz (zd7 * zd6))), .int .u64 (wv2 (fz (zd7 * zd6))), .int .u64 (wv1 (fz (zd7 * zd6))), .int .u64 (wv0 (fz (zd7 * zd6)))]) (dv_loads (l := [.int .u64 (wv3 (fz (zd7 * zd6))), .int .u64 (wv2 (fz (zd7 * zd6))), .int .u64 (wv1 (fz (zd7 * zd6))), .int .u64 (wv0 (fz (zd7 * zd6)))]) agt26 sz26 (T rfl rfl) H115 rfl) ?_
           refine lw_v (.bool (decide (([wv3 (fz (zd6 * zd7)), wv2 (fz (zd6 * zd7)), wv1 (fz (zd6 * zd7)), wv0 (fz (zd6 * zd7))] : List Int) ≠ [wv3 (fz (zd7 * zd6)), wv2 (fz (zd7 * zd6)), wv1 (fz (zd7 * zd6)), wv0 (fz (zd7 * zd6))]))) (dv_neqs (k := .u64) (la := [wv3 (fz (zd6 * zd7)), wv2 (fz (zd6 * zd7)), wv1 (fz (zd6 * zd7)), wv0 (fz (zd6 * zd7))]) (lb := [wv3 (fz (zd7 * zd6)), wv2 (fz (zd7 * zd6)), wv1 (fz (zd7 * zd6)), wv0 (fz (zd7 * zd6))]) fl26 eg26 (T rfl rfl) (T rfl rfl) rfl rfl) ?_
           refine lw_v (.bool (decide (([wv3 (fz (zd6 * zd7)), wv2 (fz (zd6 * zd7)), wv1 (fz (zd6 * zd7)), wv0 (fz (zd6 * zd7))] : List Int) ≠ [wv3 (fz (zd7 * zd6)), wv2 (fz (zd7 * zd6)), wv1 (fz (zd7 * zd6)), wv0 (fz (zd7 * zd6))]))) (dv_move (T rfl rfl)) ?_
           by_cases hb118 : ([wv3 (fz (zd6 * zd7)), wv2 (fz (zd6 * zd7)), wv1 (fz (zd6 * zd7)), wv0 (fz (zd6 * zd7))] : List Int) ≠ [wv3 (fz (zd7 * zd6)), wv2 (fz (zd7 * zd6)), wv1 (fz (zd7 * zd6)), wv0 (fz (zd7 * zd6))]
           · have hz119 := fun hh => hb118 ((wl_eq (fz_f _) (fz_f _)).2 hh)
             refine lw_no (d := 84) rfl rfl (congrArg Value.bool (decide_eq_true hb118)) ?_
             refine lw_no (d := 84) rfl rfl (congrArg Value.bool (decide_eq_true hb118)) ?_
             refine lw_no (d := 84) rfl rfl (congrArg Value.bool (decide_eq_true hb118)) ?_
             refine lw_v (.bool true) (dv_pick_t (T rfl (congrArg Value.bool (decide_eq_true hb118))) C) ?_
             refine lw_nil ?_
             refine rk_ct (T rfl rfl) ?_
             refine rk_seq ?_
             refine rk_reg ?_
             refine lw_v (.bool false) (dv_assign C) ?_
             refine lw_nil ?_
             refine rk_ret Try.func4 (v := .bool false) (res1 Try.results4 (rv_tmp rfl rfl)) ⟨_, rfl, ?_⟩
             skip
             exact ⟨(by exfalso; first | (exact cB (by assumption)) | (exact absurd rfl (by assumption)) | (exact cS1 (a := zd6) (b := zd7) (by assumption)) | (exact cS2 (a := zd6) (b := zd7) (by assumption)) | (exact cM1 (a := zd6) (b := zd7) (by assumption)) | (exact cM2 (a := zd6) (b := zd7) (by assumption)) | (exact cS4 (a := zd6) (b := zd7) (by assumption) hz8 (by assumption)) | (exact cS5 (a := zd6) (b := zd7) (by assumption) hz8 (by assumption)) | (exact cS7 (a := zd6) (b := zd7) (by assumption) (by assumption) (by assumption) (by assumption) (by assumption)) | omega), E116⟩
           · have hz120 := (wl_eq (fz_f _) (fz_f _)).1 (Decidable.not_not.1 hb118)
             refine lw_vy (.bool (decide (fits (zd6 * zd7)))) (d := 84) rfl rfl (congrArg Value.bool (decide_eq_false hb118)) (dv_move (T rfl rfl)) ?_
             refine lw_vy (.bool (decide (fits (zd7 * zd6)))) (d := 84) rfl rfl (congrArg Value.bool (decide_eq_false hb118)) (dv_move (T rfl rfl)) ?_
             refine lw_vy (.bool ((decide (fits (zd6 * zd7))) != (decide (fits (zd7 * zd6))))) (d := 84) rfl rfl (congrArg Value.bool (decide_eq_false hb118)) (dv_neqb (a := decide (fits (zd6 * zd7))) (b := decide (fits (zd7 * zd6))) ub4 (T rfl rfl) (T rfl rfl)) ?_
             refine lw_v (.bool ((decide (fits (zd6 * zd7))) != (decide (fits (zd7 * zd6))))) (dv_pick_f (T rfl (congrArg Value.bool (decide_eq_false hb118))) (T rfl rfl)) ?_
             refine lw_nil ?_
             rcases Bool.eq_false_or_eq_true ((decide (fits (zd6 * zd7))) != (decide (fits (zd7 * zd6)))) with hb121 | hb121
             · refine rk_ct (T rfl (congrArg Value.bool hb121)) ?_
               refine rk_seq ?_
               refine rk_reg ?_
               refine lw_v (.bool false) (dv_assign C) ?_
               refine lw_nil ?_
               refine rk_ret Try.func4 (v := .bool false) (res1 Try.results4 (rv_tmp rfl rfl)) ⟨_, rfl, ?_⟩
               skip
               exact ⟨(by exfalso; first | (exact cB (by assumption)) | (exact absurd rfl (by assumption)) | (exact cS1 (a := zd6) (b := zd7) (by assumption)) | (exact cS2 (a := zd6) (b := zd7) (by assumption)) | (exact cM1 (a := zd6) (b := zd7) (by assumption)) | (exact cM2 (a := zd6) (b := zd7) (by assumption)) | (exact cS4 (a := zd6) (b := zd7) (by assumption) hz8 (by assumption)) | (exact cS5 (a := zd6) (b := zd7) (by assumption) hz8 (by assumption)) | (exact cS7 (a := zd6) (b := zd7) (by assumption) (by assumption) (by assumption) (by assumption) (by assumption)) | omega), E116⟩
             · refine rk_cf (T rfl (congrArg Value.bool hb121)) ?_
               refine rk_skip ?_
               refine rk_seq ?_
               refine rk_seq ?_
               refine rk_reg ?_
               refine lw_v (.bool (decide (fits (zd6 + zd7)))) (dv_move (T rfl rfl)) ?_
               refine lw_nil ?_
               by_cases hb122 : fits (zd6 + zd7)
               · refine rk_ct (T rfl (congrArg Value.bool (decide_eq_true hb122))) ?_
                 refine rk_seq ?_
                 refine rk_reg ?_
                 have H123 := (s114.blk (n109.ext.blk (e105.blk (s99.blk (n94.ext.blk (e90.blk H77)) (by omega)))) (by omega))
                 refine lw_v (.agg #[.int .u64 (wv3 (fz (zd6 + zd7))), .int .u64 (wv2 (fz (zd6 + zd7))), .int .u64 (wv1 (fz (zd6 + zd7))), .int .u64 (wv0 (fz (zd6 + zd7)))]) (dv_loads (l := [.int .u64 (wv3 (fz (zd6 + zd7))), .int .u64 (wv2 (fz (zd6 + zd7))), .int .u64 (wv1 (fz (zd6 + zd7))), .int .u64 (wv0 (fz (zd6 + zd7)))]) agt26 sz26 (T rfl rfl) H123 rfl) ?_
                 have H124 := (s114.blk (n109.ext.blk (e105.blk H102)) (by omega))
                 refine lw_v (.agg #[.int .u64 (wv3 zd7), .int .u64 (wv2 zd7), .int .u64 (wv1 zd7), .int .u64 (wv0 zd7)]) (dv_loads (l := [.int .u64 (wv3 zd7), .int .u64 (wv2 zd7), .int .u64 (wv1 zd7), .int .u64 (wv0 zd7)]) agt26 sz26 (T rfl rfl) H124 rfl) ?_
                 refine lw_e (oe_callf (vs := [.agg #[.int .u64 (wv3 (fz (zd6 + zd7))), .int .u64 (wv2 (fz (zd6 + zd7))), .int .u64 (wv1 (fz (zd6 + zd7))), .int .u64 (wv0 (fz (zd6 + zd7)))], .agg #[.int .u64 (wv3 zd7), .int .u64 (wv2 zd7), .int .u64 (wv1 zd7), .int .u64 (wv0 zd7)]]) co16 (ar2 (T rfl rfl) (T rfl rfl)) (iWideSub_ok (x := fz (zd6 + zd7)) (y := zd7) (fz_f _) hz9 ) ?_)
                 rintro _ w125 ⟨rfl, e126⟩
                 have E127 := below_ext E116 E116.size e126
                 refine lw_v (.tuple #[.agg #[.int .u64 (wv3 (fz ((fz (zd6 + zd7)) - zd7))), .int .u64 (wv2 (fz ((fz (zd6 + zd7)) - zd7))), .int .u64 (wv1 (fz ((fz (zd6 + zd7)) - zd7))), .int .u64 (wv0 (fz ((fz (zd6 + zd7)) - zd7)))], .bool (decide (fits ((fz (zd6 + zd7)) - zd7)))]) (dv_move (T rfl rfl)) ?_
                 refine lw_v (.agg #[.int .u64 (wv3 (fz ((fz (zd6 + zd7)) - zd7))), .int .u64 (wv2 (fz ((fz (zd6 + zd7)) - zd7))), .int .u64 (wv1 (fz ((fz (zd6 + zd7)) - zd7))), .int .u64 (wv0 (fz ((fz (zd6 + zd7)) - zd7)))]) (dv_extract (vs := #[.agg #[.int .u64 (wv3 (fz ((fz (zd6 + zd7)) - zd7))), .int .u64 (wv2 (fz ((fz (zd6 + zd7)) - zd7))), .int .u64 (wv1 (fz ((fz (zd6 + zd7)) - zd7))), .int .u64 (wv0 (fz ((fz (zd6 + zd7)) - zd7)))], .bool (decide (fits ((fz (zd6 + zd7)) - zd7)))]) (T rfl rfl) rfl) ?_
                 refine lw_v (.bool (decide (fits ((fz (zd6 + zd7)) - zd7)))) (dv_extract (vs := #[.agg #[.int .u64 (wv3 (fz ((fz (zd6 + zd7)) - zd7))), .int .u64 (wv2 (fz ((fz (zd6 + zd7)) - zd7))), .int .u64 (wv1 (fz ((fz (zd6 + zd7)) - zd7))), .int .u64 (wv0 (fz ((fz (zd6 + zd7)) - zd7)))], .bool (decide (fits ((fz (zd6 + zd7)) - zd7)))]) (T rfl rfl) rfl) ?_
                 refine lw_e (oe_alloc ze26 ?_)
                 intro b128 w129 n130
                 have N131 : w.heap.size ≤ b128 := n130.eq ▸ E127.size
                 have H132 := (e126.blk H115)
                 have : b107 < b128 := n130.eq ▸ lt_of_blk H132
                 have E133 := below_ext E127 E127.size n130.ext
                 refine lw_e (oe_store (v := .agg #[.int .u64 (wv3 (fz ((fz (zd6 + zd7)) - zd7))), .int .u64 (wv2 (fz ((fz (zd6 + zd7)) - zd7))), .int .u64 (wv1 (fz ((fz (zd6 + zd7)) - zd7))), .int .u64 (wv0 (fz ((fz (zd6 + zd7)) - zd7)))]) (vs := [.int .u64 (wv3 (fz ((fz (zd6 + zd7)) - zd7))), .int .u64 (wv2 (fz ((fz (zd6 + zd7)) - zd7))), .int .u64 (wv1 (fz ((fz (zd6 + zd7)) - zd7))), .int .u64 (wv0 (fz ((fz (zd6 + zd7)) - zd7)))]) (l := [.int .u64 (wv3 (fz ((fz (zd6 + zd7)) - zd7))), .int .u64 (wv2 (fz ((fz (zd6 + zd7)) - zd7))), .int .u64 (wv1 (fz ((fz (zd6 + zd7)) - zd7))), .int .u64 (wv0 (fz ((fz (zd6 + zd7)) - zd7)))]) (T rfl rfl) (T rfl rfl) sz26 rfl rfl rfl n130.blk rfl ?_)
                 intro w134 s135 H136
                 have E137 := below_st E133 N131 s135
                 refine lw_v (.bool (decide (fits ((fz (zd6 + zd7)) - zd7)))) (dv_assign (T rfl rfl)) ?_
                 refine lw_nil ?_
                 refine rk_seq ?_
                 refine rk_reg ?_
                 refine lw_v (.agg #[.int .u64 (wv3 (fz ((fz (zd6 + zd7)) - zd7))), .int .u64 (wv2 (fz ((fz (zd6 + zd7)) - zd7))), .int .u64 (wv1 (fz ((fz (zd6 + zd7)) - zd7))), .int .u64 (wv0 (fz ((fz (zd6 + zd7)) - zd7)))]) (dv_loads (l := [.int .u64 (wv3 (fz ((fz (zd6 + zd7)) - zd7))), .int .u64 (wv2 (fz ((fz (zd6 + zd7)) - zd7))), .int .u64 (wv1 (fz ((fz (zd6 + zd7)) - zd7))), .int .u64 (wv0 (fz ((fz (zd6 + zd7)) - zd7)))]) agt26 sz26 (T rfl rfl) H136 rfl) ?_
                 have H138 := (s135.blk (n130.ext.blk (e126.blk (s114.blk (n109.ext.blk (e105.blk H103)) (by omega)))) (by omega))
                 refine lw_v (.agg #[.int .u64 (wv3 zd6), .int .u64 (wv2 zd6), .int .u64 (wv1 zd6), .int .u64 (wv0 zd6)]) (dv_loads (l := [.int .u64 (wv3 zd6), .int .u64 (wv2 zd6), .int .u64 (wv1 zd6), .int .u64 (wv0 zd6)]) agt26 sz26 (T rfl rfl) H138 rfl) ?_
                 refine lw_v (.bool (decide (([wv3 (fz ((fz (zd6 + zd7)) - zd7)), wv2 (fz ((fz (zd6 + zd7)) - zd7)), wv1 (fz ((fz (zd6 + zd7)) - zd7)), wv0 (fz ((fz (zd6 + zd7)) - zd7))] : List Int) ≠ [wv3 zd6, wv2 zd6, wv1 zd6, wv0 zd6]))) (dv_neqs (k := .u64) (la := [wv3 (fz ((fz (zd6 + zd7)) - zd7)), wv2 (fz ((fz (zd6 + zd7)) - zd7)), wv1 (fz ((fz (zd6 + zd7)) - zd7)), wv0 (fz ((fz (zd6 + zd7)) - zd7))]) (lb := [wv3 zd6, wv2 zd6, wv1 zd6, wv0 zd6]) fl26 eg26 (T rfl rfl) (T rfl rfl) rfl rfl) ?_
                 refine lw_v (.bool (decide (([wv3 (fz ((fz (zd6 + zd7)) - zd7)), wv2 (fz ((fz (zd6 + zd7)) - zd7)), wv1 (fz ((fz (zd6 + zd7)) - zd7)), wv0 (fz ((fz (zd6 + zd7)) - zd7))] : List Int) ≠ [wv3 zd6, wv2 zd6, wv1 zd6, wv0 zd6]))) (dv_move (T rfl rfl)) ?_
                 by_cases hb139 : ([wv3 (fz ((fz (zd6 + zd7)) - zd7)), wv2 (fz ((fz (zd6 + zd7)) - zd7)), wv1 (fz ((fz (zd6 + zd7)) - zd7)), wv0 (fz ((fz (zd6 + zd7)) - zd7))] : List Int) ≠ [wv3 zd6, wv2 zd6, wv1 zd6, wv0 zd6]
                 · have hz140 := fun hh => hb139 ((wl_eq (fz_f _) hz8).2 hh)
                   refine lw_no (d := 99) rfl rfl (congrArg Value.bool (decide_eq_true hb139)) ?_
                   refine lw_no (d := 99) rfl rfl (congrArg Value.bool (decide_eq_true hb139)) ?_
                   refine lw_v (.bool true) (dv_pick_t (T rfl (congrArg Value.bool (decide_eq_true hb139))) C) ?_
                   refine lw_nil ?_
                   refine rk_ct (T rfl rfl) ?_
                   refine rk_seq ?_
                   refine rk_reg ?_
                   refine lw_v (.bool false) (dv_assign C) ?_
                   refine lw_nil ?_
                   refine rk_ret Try.func4 (v := .bool false) (res1 Try.results4 (rv_tmp rfl rfl)) ⟨_, rfl, ?_⟩
                   skip
                   exact ⟨(by exfalso; first | (exact cB (by assumption)) | (exact absurd rfl (by assumption)) | (exact cS1 (a := zd6) (b := zd7) (by assumption)) | (exact cS2 (a := zd6) (b := zd7) (by assumption)) | (exact cM1 (a := zd6) (b := zd7) (by assumption)) | (exact cM2 (a := zd6) (b := zd7) (by assumption)) | (exact cS4 (a := zd6) (b := zd7) (by assumption) hz8 (by assumption)) | (exact cS5 (a := zd6) (b := zd7) (by assumption) hz8 (by assumption)) | (exact cS7 (a := zd6) (b := zd7) (by assumption) (by assumption) (by assumption) (by assumption) (by assumption)) | omega), E137⟩
                 · have hz141 := (wl_eq (fz_f _) hz8).1 (Decidable.not_not.1 hb139)
                   refine lw_vy (.bool (decide (fits ((fz (zd6 + zd7)) - zd7)))) (d := 99) rfl rfl (congrArg Value.bool (decide_eq_false hb139)) (dv_move (T rfl rfl)) ?_
                   refine lw_vy (.bool (decide (¬ (fits ((fz (zd6 + zd7)) - zd7))))) (d := 99) rfl rfl (congrArg Value.bool (decide_eq_false hb139)) (dv_notd (p := fits ((fz (zd6 + zd7)) - zd7)) (T rfl rfl)) ?_
                   refine lw_v (.bool (decide (¬ (fits ((fz (zd6 + zd7)) - zd7))))) (dv_pick_f (T rfl (congrArg Value.bool (decide_eq_false hb139))) (T rfl rfl)) ?_
                   refine lw_nil ?_
                   by_cases hb142 : fits ((fz (zd6 + zd7)) - zd7)
                   · refine rk_cf (T rfl (congrArg Value.bool (decide_eq_false (not_not_intro hb142)))) ?_
                     refine rk_skip ?_
                     refine rk_seq ?_
                     refine rk_reg ?_
                     refine lw_v (.slice A l c) (dv_move (T rfl rfl)) ?_
                     refine lw_v (.int .i64 ((l : Int))) (dv_len (ad := A) (l := l) (c := c) us22 (T rfl rfl)) ?_
                     refine lw_v (.int .i64 (((l : Int)) % 9)) (dv_rem (a := (l : Int)) (b := 9) (z := ((l : Int)) % 9) (T rfl rfl) C (by decide) (rem_c (by omega) rfl)) ?_
                     refine lw_v (.int .i64 ((((l : Int)) % 9) - 4)) (dv_sub (a := ((l : Int)) % 9) (b := 4) (z := (((l : Int)) % 9) - 4) (T rfl rfl) C (wr_i64 (by omega) (by omega))) ?_
                     refine lw_e (oe_callf (vs := [.int .i64 ((((l : Int)) % 9) - 4)]) co22 (ar1 (T rfl rfl)) (iWideOf_ok (x := (((l : Int)) % 9) - 4)  (by omega)) ?_)
                     rintro _ w143 ⟨rfl, e144⟩
                     have E145 := below_ext E137 E137.size e144
                     refine lw_e (oe_alloc ze26 ?_)
                     intro b146 w147 n148
                     have N149 : w.heap.size ≤ b146 := n148.eq ▸ E145.size
                     have H150 := (e144.blk H136)
                     have : b128 < b146 := n148.eq ▸ lt_of_blk H150
                     have E151 := below_ext E145 E145.size n148.ext
                     refine lw_e (oe_store (v := .agg #[.int .u64 (wv3 ((((l : Int)) % 9) - 4)), .int .u64 (wv2 ((((l : Int)) % 9) - 4)), .int .u64 (wv1 ((((l : Int)) % 9) - 4)), .int .u64 (wv0 ((((l : Int)) % 9) - 4))]) (vs := [.int .u64 (wv3 ((((l : Int)) % 9) - 4)), .int .u64 (wv2 ((((l : Int)) % 9) - 4)), .int .u64 (wv1 ((((l : Int)) % 9) - 4)), .int .u64 (wv0 ((((l : Int)) % 9) - 4))]) (l := [.int .u64 (wv3 ((((l : Int)) % 9) - 4)), .int .u64 (wv2 ((((l : Int)) % 9) - 4)), .int .u64 (wv1 ((((l : Int)) % 9) - 4)), .int .u64 (wv0 ((((l : Int)) % 9) - 4))]) (T rfl rfl) (T rfl rfl) sz26 rfl rfl rfl n148.blk rfl ?_)
                     intro w152 s153 H154
                     have E155 := below_st E151 N149 s153
                     refine lw_nil ?_
                     refine rk_seq ?_
                     refine rk_reg ?_
                     have H156 := (s153.blk (n148.ext.blk (e144.blk (s135.blk (n130.ext.blk (e126.blk H123)) (by omega)))) (by omega))
                     refine lw_v (.agg #[.int .u64 (wv3 (fz (zd6 + zd7))), .int .u64 (wv2 (fz (zd6 + zd7))), .int .u64 (wv1 (fz (zd6 + zd7))), .int .u64 (wv0 (fz (zd6 + zd7)))]) (dv_loads (l := [.int .u64 (wv3 (fz (zd6 + zd7))), .int .u64 (wv2 (fz (zd6 + zd7))), .int .u64 (wv1 (fz (zd6 + zd7))), .int .u64 (wv0 (fz (zd6 + zd7)))]) agt26 sz26 (T rfl rfl) H156 rfl) ?_
                     refine lw_v (.agg #[.int .u64 (wv3 ((((l : Int)) % 9) - 4)), .int .u64 (wv2 ((((l : Int)) % 9) - 4)), .int .u64 (wv1 ((((l : Int)) % 9) - 4)), .int .u64 (wv0 ((((l : Int)) % 9) - 4))]) (dv_loads (l := [.int .u64 (wv3 ((((l : Int)) % 9) - 4)), .int .u64 (wv2 ((((l : Int)) % 9) - 4)), .int .u64 (wv1 ((((l : Int)) % 9) - 4)), .int .u64 (wv0 ((((l : Int)) % 9) - 4))]) agt26 sz26 (T rfl rfl) H154 rfl) ?_
                     refine lw_e (oe_callf (vs := [.agg #[.int .u64 (wv3 (fz (zd6 + zd7))), .int .u64 (wv2 (fz (zd6 + zd7))), .int .u64 (wv1 (fz (zd6 + zd7))), .int .u64 (wv0 (fz (zd6 + zd7)))], .agg #[.int .u64 (wv3 ((((l : Int)) % 9) - 4)), .int .u64 (wv2 ((((l : Int)) % 9) - 4)), .int .u64 (wv1 ((((l : Int)) % 9) - 4)), .int .u64 (wv0 ((((l : Int)) % 9) - 4))]]) co21 (ar2 (T rfl rfl) (T rfl rfl)) (iWideMul_ok (x := fz (zd6 + zd7)) (y := (((l : Int)) % 9) - 4) (fz_f _) (fits_i (by omega)) ) ?_)
                     rintro _ w157 ⟨rfl, e158⟩
                     have E159 := below_ext E155 E155.size e158
                     refine lw_v (.tuple #[.agg #[.int .u64 (wv3 (fz ((fz (zd6 + zd7)) * ((((l : Int)) % 9) - 4)))), .int .u64 (wv2 (fz ((fz (zd6 + zd7)) * ((((l : Int)) % 9) - 4)))), .int .u64 (wv1 (fz ((fz (zd6 + zd7)) * ((((l : Int)) % 9) - 4)))), .int .u64 (wv0 (fz ((fz (zd6 + zd7)) * ((((l : Int)) % 9) - 4))))], .bool (decide (fits ((fz (zd6 + zd7)) * ((((l : Int)) % 9) - 4))))]) (dv_move (T rfl rfl)) ?_
                     refine lw_v (.agg #[.int .u64 (wv3 (fz ((fz (zd6 + zd7)) * ((((l : Int)) % 9) - 4)))), .int .u64 (wv2 (fz ((fz (zd6 + zd7)) * ((((l : Int)) % 9) - 4)))), .int .u64 (wv1 (fz ((fz (zd6 + zd7)) * ((((l : Int)) % 9) - 4)))), .int .u64 (wv0 (fz ((fz (zd6 + zd7)) * ((((l : Int)) % 9) - 4))))]) (dv_extract (vs := #[.agg #[.int .u64 (wv3 (fz ((fz (zd6 + zd7)) * ((((l : Int)) % 9) - 4)))), .int .u64 (wv2 (fz ((fz (zd6 + zd7)) * ((((l : Int)) % 9) - 4)))), .int .u64 (wv1 (fz ((fz (zd6 + zd7)) * ((((l : Int)) % 9) - 4)))), .int .u64 (wv0 (fz ((fz (zd6 + zd7)) * ((((l : Int)) % 9) - 4))))], .bool (decide (fits ((fz (zd6 + zd7)) * ((((l : Int)) % 9) - 4))))]) (T rfl rfl) rfl) ?_
                     refine lw_v (.bool (decide (fits ((fz (zd6 + zd7)) * ((((l : Int)) % 9) - 4))))) (dv_extract (vs := #[.agg #[.int .u64 (wv3 (fz ((fz (zd6 + zd7)) * ((((l : Int)) % 9) - 4)))), .int .u64 (wv2 (fz ((fz (zd6 + zd7)) * ((((l : Int)) % 9) - 4)))), .int .u64 (wv1 (fz ((fz (zd6 + zd7)) * ((((l : Int)) % 9) - 4)))), .int .u64 (wv0 (fz ((fz (zd6 + zd7)) * ((((l : Int)) % 9) - 4))))], .bool (decide (fits ((fz (zd6 + zd7)) * ((((l : Int)) % 9) - 4))))]) (T rfl rfl) rfl) ?_
                     refine lw_e (oe_alloc ze26 ?_)
                     intro b160 w161 n162
                     have N163 : w.heap.size ≤ b160 := n162.eq ▸ E159.size
                     have H164 := (e158.blk H154)
                     have : b146 < b160 := n162.eq ▸ lt_of_blk H164
                     have E165 := below_ext E159 E159.size n162.ext
                     refine lw_e (oe_store (v := .agg #[.int .u64 (wv3 (fz ((fz (zd6 + zd7)) * ((((l : Int)) % 9) - 4)))), .int .u64 (wv2 (fz ((fz (zd6 + zd7)) * ((((l : Int)) % 9) - 4)))), .int .u64 (wv1 (fz ((fz (zd6 + zd7)) * ((((l : Int)) % 9) - 4)))), .int .u64 (wv0 (fz ((fz (zd6 + zd7)) * ((((l : Int)) % 9) - 4))))]) (vs := [.int .u64 (wv3 (fz ((fz (zd6 + zd7)) * ((((l : Int)) % 9) - 4)))), .int .u64 (wv2 (fz ((fz (zd6 + zd7)) * ((((l : Int)) % 9) - 4)))), .int .u64 (wv1 (fz ((fz (zd6 + zd7)) * ((((l : Int)) % 9) - 4)))), .int .u64 (wv0 (fz ((fz (zd6 + zd7)) * ((((l : Int)) % 9) - 4))))]) (l := [.int .u64 (wv3 (fz ((fz (zd6 + zd7)) * ((((l : Int)) % 9) - 4)))), .int .u64 (wv2 (fz ((fz (zd6 + zd7)) * ((((l : Int)) % 9) - 4)))), .int .u64 (wv1 (fz ((fz (zd6 + zd7)) * ((((l : Int)) % 9) - 4)))), .int .u64 (wv0 (fz ((fz (zd6 + zd7)) * ((((l : Int)) % 9) - 4))))]) (T rfl rfl) (T rfl rfl) sz26 rfl rfl rfl n162.blk rfl ?_)
                     intro w166 s167 H168
                     have E169 := below_st E165 N163 s167
                     refine lw_v (.bool (decide (fits ((fz (zd6 + zd7)) * ((((l : Int)) % 9) - 4))))) (dv_assign (T rfl rfl)) ?_
                     refine lw_nil ?_
                     refine rk_seq ?_
                     refine rk_reg ?_
                     have H170 := (s167.blk (n162.ext.blk (e158.blk (s153.blk (n148.ext.blk (e144.blk H138)) (by omega)))) (by omega))
                     refine lw_v (.agg #[.int .u64 (wv3 zd6), .int .u64 (wv2 zd6), .int .u64 (wv1 zd6), .int .u64 (wv0 zd6)]) (dv_loads (l := [.int .u64 (wv3 zd6), .int .u64 (wv2 zd6), .int .u64 (wv1 zd6), .int .u64 (wv0 zd6)]) agt26 sz26 (T rfl rfl) H170 rfl) ?_
                     have H171 := (s167.blk (n162.ext.blk H164) (by omega))
                     refine lw_v (.agg #[.int .u64 (wv3 ((((l : Int)) % 9) - 4)), .int .u64 (wv2 ((((l : Int)) % 9) - 4)), .int .u64 (wv1 ((((l : Int)) % 9) - 4)), .int .u64 (wv0 ((((l : Int)) % 9) - 4))]) (dv_loads (l := [.int .u64 (wv3 ((((l : Int)) % 9) - 4)), .int .u64 (wv2 ((((l : Int)) % 9) - 4)), .int .u64 (wv1 ((((l : Int)) % 9) - 4)), .int .u64 (wv0 ((((l : Int)) % 9) - 4))]) agt26 sz26 (T rfl rfl) H171 rfl) ?_
                     refine lw_e (oe_callf (vs := [.agg #[.int .u64 (wv3 zd6), .int .u64 (wv2 zd6), .int .u64 (wv1 zd6), .int .u64 (wv0 zd6)], .agg #[.int .u64 (wv3 ((((l : Int)) % 9) - 4)), .int .u64 (wv2 ((((l : Int)) % 9) - 4)), .int .u64 (wv1 ((((l : Int)) % 9) - 4)), .int .u64 (wv0 ((((l : Int)) % 9) - 4))]]) co21 (ar2 (T rfl rfl) (T rfl rfl)) (iWideMul_ok (x := zd6) (y := (((l : Int)) % 9) - 4) hz8 (fits_i (by omega)) ) ?_)
                     rintro _ w172 ⟨rfl, e173⟩
                     have E174 := below_ext E169 E169.size e173
                     refine lw_v (.tuple #[.agg #[.int .u64 (wv3 (fz (zd6 * ((((l : Int)) % 9) - 4)))), .int .u64 (wv2 (fz (zd6 * ((((l : Int)) % 9) - 4)))), .int .u64 (wv1 (fz (zd6 * ((((l : Int)) % 9) - 4)))), .int .u64 (wv0 (fz (zd6 * ((((l : Int)) % 9) - 4))))], .bool (decide (fits (zd6 * ((((l : Int)) % 9) - 4))))]) (dv_move (T rfl rfl)) ?_
                     refine lw_v (.agg #[.int .u64 (wv3 (fz (zd6 * ((((l : Int)) % 9) - 4)))), .int .u64 (wv2 (fz (zd6 * ((((l : Int)) % 9) - 4)))), .int .u64 (wv1 (fz (zd6 * ((((l : Int)) % 9) - 4)))), .int .u64 (wv0 (fz (zd6 * ((((l : Int)) % 9) - 4))))]) (dv_extract (vs := #[.agg #[.int .u64 (wv3 (fz (zd6 * ((((l : Int)) % 9) - 4)))), .int .u64 (wv2 (fz (zd6 * ((((l : Int)) % 9) - 4)))), .int .u64 (wv1 (fz (zd6 * ((((l : Int)) % 9) - 4)))), .int .u64 (wv0 (fz (zd6 * ((((l : Int)) % 9) - 4))))], .bool (decide (fits (zd6 * ((((l : Int)) % 9) - 4))))]) (T rfl rfl) rfl) ?_
                     refine lw_v (.bool (decide (fits (zd6 * ((((l : Int)) % 9) - 4))))) (dv_extract (vs := #[.agg #[.int .u64 (wv3 (fz (zd6 * ((((l : Int)) % 9) - 4)))), .int .u64 (wv2 (fz (zd6 * ((((l : Int)) % 9) - 4)))), .int .u64 (wv1 (fz (zd6 * ((((l : Int)) % 9) - 4)))), .int .u64 (wv0 (fz (zd6 * ((((l : Int)) % 9) - 4))))], .bool (decide (fits (zd6 * ((((l : Int)) % 9) - 4))))]) (T rfl rfl) rfl) ?_
                     refine lw_e (oe_alloc ze26 ?_)
                     intro b175 w176 n177
                     have N178 : w.heap.size ≤ b175 := n177.eq ▸ E174.size
                     have H179 := (e173.blk H168)
                     have : b160 < b175 := n177.eq ▸ lt_of_blk H179
                     have E180 := below_ext E174 E174.size n177.ext
                     refine lw_e (oe_store (v := .agg #[.int .u64 (wv3 (fz (zd6 * ((((l : Int)) % 9) - 4)))), .int .u64 (wv2 (fz (zd6 * ((((l : Int)) % 9) - 4)))), .int .u64 (wv1 (fz (zd6 * ((((l : Int)) % 9) - 4)))), .int .u64 (wv0 (fz (zd6 * ((((l : Int)) % 9) - 4))))]) (vs := [.int .u64 (wv3 (fz (zd6 * ((((l : Int)) % 9) - 4)))), .int .u64 (wv2 (fz (zd6 * ((((l : Int)) % 9) - 4)))), .int .u64 (wv1 (fz (zd6 * ((((l : Int)) % 9) - 4)))), .int .u64 (wv0 (fz (zd6 * ((((l : Int)) % 9) - 4))))]) (l := [.int .u64 (wv3 (fz (zd6 * ((((l : Int)) % 9) - 4)))), .int .u64 (wv2 (fz (zd6 * ((((l : Int)) % 9) - 4)))), .int .u64 (wv1 (fz (zd6 * ((((l : Int)) % 9) - 4)))), .int .u64 (wv0 (fz (zd6 * ((((l : Int)) % 9) - 4))))]) (T rfl rfl) (T rfl rfl) sz26 rfl rfl rfl n177.blk rfl ?_)
                     intro w181 s182 H183
                     have E184 := below_st E180 N178 s182
                     refine lw_v (.bool (decide (fits (zd6 * ((((l : Int)) % 9) - 4))))) (dv_assign (T rfl rfl)) ?_
                     refine lw_nil ?_
                     refine rk_seq ?_
                     refine rk_reg ?_
                     have H185 := (s182.blk (n177.ext.blk (e173.blk (s167.blk (n162.ext.blk (e158.blk (s153.blk (n148.ext.blk (e144.blk (s135.blk (n130.ext.blk (e126.blk H124)) (by omega)))) (by omega)))) (by omega)))) (by omega))
                     refine lw_v (.agg #[.int .u64 (wv3 zd7), .int .u64 (wv2 zd7), .int .u64 (wv1 zd7), .int .u64 (wv0 zd7)]) (dv_loads (l := [.int .u64 (wv3 zd7), .int .u64 (wv2 zd7), .int .u64 (wv1 zd7), .int .u64 (wv0 zd7)]) agt26 sz26 (T rfl rfl) H185 rfl) ?_
                     have H186 := (s182.blk (n177.ext.blk (e173.blk H171)) (by omega))
                     refine lw_v (.agg #[.int .u64 (wv3 ((((l : Int)) % 9) - 4)), .int .u64 (wv2 ((((l : Int)) % 9) - 4)), .int .u64 (wv1 ((((l : Int)) % 9) - 4)), .int .u64 (wv0 ((((l : Int)) % 9) - 4))]) (dv_loads (l := [.int .u64 (wv3 ((((l : Int)) % 9) - 4)), .int .u64 (wv2 ((((l : Int)) % 9) - 4)), .int .u64 (wv1 ((((l : Int)) % 9) - 4)), .int .u64 (wv0 ((((l : Int)) % 9) - 4))]) agt26 sz26 (T rfl rfl) H186 rfl) ?_
                     refine lw_e (oe_callf (vs := [.agg #[.int .u64 (wv3 zd7), .int .u64 (wv2 zd7), .int .u64 (wv1 zd7), .int .u64 (wv0 zd7)], .agg #[.int .u64 (wv3 ((((l : Int)) % 9) - 4)), .int .u64 (wv2 ((((l : Int)) % 9) - 4)), .int .u64 (wv1 ((((l : Int)) % 9) - 4)), .int .u64 (wv0 ((((l : Int)) % 9) - 4))]]) co21 (ar2 (T rfl rfl) (T rfl rfl)) (iWideMul_ok (x := zd7) (y := (((l : Int)) % 9) - 4) hz9 (fits_i (by omega)) ) ?_)
                     rintro _ w187 ⟨rfl, e188⟩
                     have E189 := below_ext E184 E184.size e188
                     refine lw_v (.tuple #[.agg #[.int .u64 (wv3 (fz (zd7 * ((((l : Int)) % 9) - 4)))), .int .u64 (wv2 (fz (zd7 * ((((l : Int)) % 9) - 4)))), .int .u64 (wv1 (fz (zd7 * ((((l : Int)) % 9) - 4)))), .int .u64 (wv0 (fz (zd7 * ((((l : Int)) % 9) - 4))))], .bool (decide (fits (zd7 * ((((l : Int)) % 9) - 4))))]) (dv_move (T rfl rfl)) ?_
                     refine lw_v (.agg #[.int .u64 (wv3 (fz (zd7 * ((((l : Int)) % 9) - 4)))), .int .u64 (wv2 (fz (zd7 * ((((l : Int)) % 9) - 4)))), .int .u64 (wv1 (fz (zd7 * ((((l : Int)) % 9) - 4)))), .int .u64 (wv0 (fz (zd7 * ((((l : Int)) % 9) - 4))))]) (dv_extract (vs := #[.agg #[.int .u64 (wv3 (fz (zd7 * ((((l : Int)) % 9) - 4)))), .int .u64 (wv2 (fz (zd7 * ((((l : Int)) % 9) - 4)))), .int .u64 (wv1 (fz (zd7 * ((((l : Int)) % 9) - 4)))), .int .u64 (wv0 (fz (zd7 * ((((l : Int)) % 9) - 4))))], .bool (decide (fits (zd7 * ((((l : Int)) % 9) - 4))))]) (T rfl rfl) rfl) ?_
                     refine lw_v (.bool (decide (fits (zd7 * ((((l : Int)) % 9) - 4))))) (dv_extract (vs := #[.agg #[.int .u64 (wv3 (fz (zd7 * ((((l : Int)) % 9) - 4)))), .int .u64 (wv2 (fz (zd7 * ((((l : Int)) % 9) - 4)))), .int .u64 (wv1 (fz (zd7 * ((((l : Int)) % 9) - 4)))), .int .u64 (wv0 (fz (zd7 * ((((l : Int)) % 9) - 4))))], .bool (decide (fits (zd7 * ((((l : Int)) % 9) - 4))))]) (T rfl rfl) rfl) ?_
                     refine lw_e (oe_alloc ze26 ?_)
                     intro b190 w191 n192
                     have N193 : w.heap.size ≤ b190 := n192.eq ▸ E189.size
                     have H194 := (e188.blk H183)
                     have : b175 < b190 := n192.eq ▸ lt_of_blk H194
                     have E195 := below_ext E189 E189.size n192.ext
                     refine lw_e (oe_store (v := .agg #[.int .u64 (wv3 (fz (zd7 * ((((l : Int)) % 9) - 4)))), .int .u64 (wv2 (fz (zd7 * ((((l : Int)) % 9) - 4)))), .int .u64 (wv1 (fz (zd7 * ((((l : Int)) % 9) - 4)))), .int .u64 (wv0 (fz (zd7 * ((((l : Int)) % 9) - 4))))]) (vs := [.int .u64 (wv3 (fz (zd7 * ((((l : Int)) % 9) - 4)))), .int .u64 (wv2 (fz (zd7 * ((((l : Int)) % 9) - 4)))), .int .u64 (wv1 (fz (zd7 * ((((l : Int)) % 9) - 4)))), .int .u64 (wv0 (fz (zd7 * ((((l : Int)) % 9) - 4))))]) (l := [.int .u64 (wv3 (fz (zd7 * ((((l : Int)) % 9) - 4)))), .int .u64 (wv2 (fz (zd7 * ((((l : Int)) % 9) - 4)))), .int .u64 (wv1 (fz (zd7 * ((((l : Int)) % 9) - 4)))), .int .u64 (wv0 (fz (zd7 * ((((l : Int)) % 9) - 4))))]) (T rfl rfl) (T rfl rfl) sz26 rfl rfl rfl n192.blk rfl ?_)
                     intro w196 s197 H198
                     have E199 := below_st E195 N193 s197
                     refine lw_v (.bool (decide (fits (zd7 * ((((l : Int)) % 9) - 4))))) (dv_assign (T rfl rfl)) ?_
                     refine lw_nil ?_
                     refine rk_seq ?_
                     refine rk_reg ?_
                     have H200 := (s197.blk (n192.ext.blk H194) (by omega))
                     refine lw_v (.agg #[.int .u64 (wv3 (fz (zd6 * ((((l : Int)) % 9) - 4)))), .int .u64 (wv2 (fz (zd6 * ((((l : Int)) % 9) - 4)))), .int .u64 (wv1 (fz (zd6 * ((((l : Int)) % 9) - 4)))), .int .u64 (wv0 (fz (zd6 * ((((l : Int)) % 9) - 4))))]) (dv_loads (l := [.int .u64 (wv3 (fz (zd6 * ((((l : Int)) % 9) - 4)))), .int .u64 (wv2 (fz (zd6 * ((((l : Int)) % 9) - 4)))), .int .u64 (wv1 (fz (zd6 * ((((l : Int)) % 9) - 4)))), .int .u64 (wv0 (fz (zd6 * ((((l : Int)) % 9) - 4))))]) agt26 sz26 (T rfl rfl) H200 rfl) ?_
                     refine lw_v (.agg #[.int .u64 (wv3 (fz (zd7 * ((((l : Int)) % 9) - 4)))), .int .u64 (wv2 (fz (zd7 * ((((l : Int)) % 9) - 4)))), .int .u64 (wv1 (fz (zd7 * ((((l : Int)) % 9) - 4)))), .int .u64 (wv0 (fz (zd7 * ((((l : Int)) % 9) - 4))))]) (dv_loads (l := [.int .u64 (wv3 (fz (zd7 * ((((l : Int)) % 9) - 4)))), .int .u64 (wv2 (fz (zd7 * ((((l : Int)) % 9) - 4)))), .int .u64 (wv1 (fz (zd7 * ((((l : Int)) % 9) - 4)))), .int .u64 (wv0 (fz (zd7 * ((((l : Int)) % 9) - 4))))]) agt26 sz26 (T rfl rfl) H198 rfl) ?_
                     refine lw_e (oe_callf (vs := [.agg #[.int .u64 (wv3 (fz (zd6 * ((((l : Int)) % 9) - 4)))), .int .u64 (wv2 (fz (zd6 * ((((l : Int)) % 9) - 4)))), .int .u64 (wv1 (fz (zd6 * ((((l : Int)) % 9) - 4)))), .int .u64 (wv0 (fz (zd6 * ((((l : Int)) % 9) - 4))))], .agg #[.int .u64 (wv3 (fz (zd7 * ((((l : Int)) % 9) - 4)))), .int .u64 (wv2 (fz (zd7 * ((((l : Int)) % 9) - 4)))), .int .u64 (wv1 (fz (zd7 * ((((l : Int)) % 9) - 4)))), .int .u64 (wv0 (fz (zd7 * ((((l : Int)) % 9) - 4))))]]) co19 (ar2 (T rfl rfl) (T rfl rfl)) (iWideAdd_ok (x := fz (zd6 * ((((l : Int)) % 9) - 4))) (y := fz (zd7 * ((((l : Int)) % 9) - 4))) (fz_f _) (fz_f _) ) ?_)
                     rintro _ w201 ⟨rfl, e202⟩
                     have E203 := below_ext E199 E199.size e202
                     refine lw_v (.tuple #[.agg #[.int .u64 (wv3 (fz ((fz (zd6 * ((((l : Int)) % 9) - 4))) + (fz (zd7 * ((((l : Int)) % 9) - 4)))))), .int .u64 (wv2 (fz ((fz (zd6 * ((((l : Int)) % 9) - 4))) + (fz (zd7 * ((((l : Int)) % 9) - 4)))))), .int .u64 (wv1 (fz ((fz (zd6 * ((((l : Int)) % 9) - 4))) + (fz (zd7 * ((((l : Int)) % 9) - 4)))))), .int .u64 (wv0 (fz ((fz (zd6 * ((((l : Int)) % 9) - 4))) + (fz (zd7 * ((((l : Int)) % 9) - 4))))))], .bool (decide (fits ((fz (zd6 * ((((l : Int)) % 9) - 4))) + (fz (zd7 * ((((l : Int)) % 9) - 4))))))]) (dv_move (T rfl rfl)) ?_
                     refine lw_v (.agg #[.int .u64 (wv3 (fz ((fz (zd6 * ((((l : Int)) % 9) - 4))) + (fz (zd7 * ((((l : Int)) % 9) - 4)))))), .int .u64 (wv2 (fz ((fz (zd6 * ((((l : Int)) % 9) - 4))) + (fz (zd7 * ((((l : Int)) % 9) - 4)))))), .int .u64 (wv1 (fz ((fz (zd6 * ((((l : Int)) % 9) - 4))) + (fz (zd7 * ((((l : Int)) % 9) - 4)))))), .int .u64 (wv0 (fz ((fz (zd6 * ((((l : Int)) % 9) - 4))) + (fz (zd7 * ((((l : Int)) % 9) - 4))))))]) (dv_extract (vs := #[.agg #[.int .u64 (wv3 (fz ((fz (zd6 * ((((l : Int)) % 9) - 4))) + (fz (zd7 * ((((l : Int)) % 9) - 4)))))), .int .u64 (wv2 (fz ((fz (zd6 * ((((l : Int)) % 9) - 4))) + (fz (zd7 * ((((l : Int)) % 9) - 4)))))), .int .u64 (wv1 (fz ((fz (zd6 * ((((l : Int)) % 9) - 4))) + (fz (zd7 * ((((l : Int)) % 9) - 4)))))), .int .u64 (wv0 (fz ((fz (zd6 * ((((l : Int)) % 9) - 4))) + (fz (zd7 * ((((l : Int)) % 9) - 4))))))], .bool (decide (fits ((fz (zd6 * ((((l : Int)) % 9) - 4))) + (fz (zd7 * ((((l : Int)) % 9) - 4))))))]) (T rfl rfl) rfl) ?_
                     refine lw_v (.bool (decide (fits ((fz (zd6 * ((((l : Int)) % 9) - 4))) + (fz (zd7 * ((((l : Int)) % 9) - 4))))))) (dv_extract (vs := #[.agg #[.int .u64 (wv3 (fz ((fz (zd6 * ((((l : Int)) % 9) - 4))) + (fz (zd7 * ((((l : Int)) % 9) - 4)))))), .int .u64 (wv2 (fz ((fz (zd6 * ((((l : Int)) % 9) - 4))) + (fz (zd7 * ((((l : Int)) % 9) - 4)))))), .int .u64 (wv1 (fz ((fz (zd6 * ((((l : Int)) % 9) - 4))) + (fz (zd7 * ((((l : Int)) % 9) - 4)))))), .int .u64 (wv0 (fz ((fz (zd6 * ((((l : Int)) % 9) - 4))) + (fz (zd7 * ((((l : Int)) % 9) - 4))))))], .bool (decide (fits ((fz (zd6 * ((((l : Int)) % 9) - 4))) + (fz (zd7 * ((((l : Int)) % 9) - 4))))))]) (T rfl rfl) rfl) ?_
                     refine lw_e (oe_alloc ze26 ?_)
                     intro b204 w205 n206
                     have N207 : w.heap.size ≤ b204 := n206.eq ▸ E203.size
                     have H208 := (e202.blk H198)
                     have : b190 < b204 := n206.eq ▸ lt_of_blk H208
                     have E209 := below_ext E203 E203.size n206.ext
                     refine lw_e (oe_store (v := .agg #[.int .u64 (wv3 (fz ((fz (zd6 * ((((l : Int)) % 9) - 4))) + (fz (zd7 * ((((l : Int)) % 9) - 4)))))), .int .u64 (wv2 (fz ((fz (zd6 * ((((l : Int)) % 9) - 4))) + (fz (zd7 * ((((l : Int)) % 9) - 4)))))), .int .u64 (wv1 (fz ((fz (zd6 * ((((l : Int)) % 9) - 4))) + (fz (zd7 * ((((l : Int)) % 9) - 4)))))), .int .u64 (wv0 (fz ((fz (zd6 * ((((l : Int)) % 9) - 4))) + (fz (zd7 * ((((l : Int)) % 9) - 4))))))]) (vs := [.int .u64 (wv3 (fz ((fz (zd6 * ((((l : Int)) % 9) - 4))) + (fz (zd7 * ((((l : Int)) % 9) - 4)))))), .int .u64 (wv2 (fz ((fz (zd6 * ((((l : Int)) % 9) - 4))) + (fz (zd7 * ((((l : Int)) % 9) - 4)))))), .int .u64 (wv1 (fz ((fz (zd6 * ((((l : Int)) % 9) - 4))) + (fz (zd7 * ((((l : Int)) % 9) - 4)))))), .int .u64 (wv0 (fz ((fz (zd6 * ((((l : Int)) % 9) - 4))) + (fz (zd7 * ((((l : Int)) % 9) - 4))))))]) (l := [.int .u64 (wv3 (fz ((fz (zd6 * ((((l : Int)) % 9) - 4))) + (fz (zd7 * ((((l : Int)) % 9) - 4)))))), .int .u64 (wv2 (fz ((fz (zd6 * ((((l : Int)) % 9) - 4))) + (fz (zd7 * ((((l : Int)) % 9) - 4)))))), .int .u64 (wv1 (fz ((fz (zd6 * ((((l : Int)) % 9) - 4))) + (fz (zd7 * ((((l : Int)) % 9) - 4)))))), .int .u64 (wv0 (fz ((fz (zd6 * ((((l : Int)) % 9) - 4))) + (fz (zd7 * ((((l : Int)) % 9) - 4))))))]) (T rfl rfl) (T rfl rfl) sz26 rfl rfl rfl n206.blk rfl ?_)
                     intro w210 s211 H212
                     have E213 := below_st E209 N207 s211
                     refine lw_v (.bool (decide (fits ((fz (zd6 * ((((l : Int)) % 9) - 4))) + (fz (zd7 * ((((l : Int)) % 9) - 4))))))) (dv_assign (T rfl rfl)) ?_
                     refine lw_nil ?_
                     refine rk_seq ?_
                     refine rk_reg ?_
                     refine lw_v (.bool (decide (fits (zd6 + zd7)))) (dv_move (T rfl rfl)) ?_
                     refine lw_v (.bool (decide (¬ (fits (zd6 + zd7))))) (dv_notd (p := fits (zd6 + zd7)) (T rfl rfl)) ?_
                     refine lw_v (.bool (decide (¬ (fits (zd6 + zd7))))) (dv_move (T rfl rfl)) ?_
                     refine lw_vy (.bool (decide (fits ((fz (zd6 + zd7)) * ((((l : Int)) % 9) - 4))))) (d := 134) rfl rfl (congrArg Value.bool (decide_eq_false (not_not_intro hb122))) (dv_move (T rfl rfl)) ?_
                     refine lw_vy (.bool (decide (¬ (fits ((fz (zd6 + zd7)) * ((((l : Int)) % 9) - 4)))))) (d := 134) rfl rfl (congrArg Value.bool (decide_eq_false (not_not_intro hb122))) (dv_notd (p := fits ((fz (zd6 + zd7)) * ((((l : Int)) % 9) - 4))) (T rfl rfl)) ?_
                     refine lw_v (.bool (decide (¬ (fits ((fz (zd6 + zd7)) * ((((l : Int)) % 9) - 4)))))) (dv_pick_f (T rfl (congrArg Value.bool (decide_eq_false (not_not_intro hb122)))) (T rfl rfl)) ?_
                     refine lw_v (.bool (decide (¬ (fits ((fz (zd6 + zd7)) * ((((l : Int)) % 9) - 4)))))) (dv_move (T rfl rfl)) ?_
                     by_cases hb214 : fits ((fz (zd6 + zd7)) * ((((l : Int)) % 9) - 4))
                     · refine lw_vy (.bool (decide (fits (zd6 * ((((l : Int)) % 9) - 4))))) (d := 138) rfl rfl (congrArg Value.bool (decide_eq_false (not_not_intro hb214))) (dv_move (T rfl rfl)) ?_
                       refine lw_vy (.bool (decide (¬ (fits (zd6 * ((((l : Int)) % 9) - 4)))))) (d := 138) rfl rfl (congrArg Value.bool (decide_eq_false (not_not_intro hb214))) (dv_notd (p := fits (zd6 * ((((l : Int)) % 9) - 4))) (T rfl rfl)) ?_
                       refine lw_v (.bool (decide (¬ (fits (zd6 * ((((l : Int)) % 9) - 4)))))) (dv_pick_f (T rfl (congrArg Value.bool (decide_eq_false (not_not_intro hb214)))) (T rfl rfl)) ?_
                       refine lw_v (.bool (decide (¬ (fits (zd6 * ((((l : Int)) % 9) - 4)))))) (dv_move (T rfl rfl)) ?_
                       by_cases hb215 : fits (zd6 * ((((l : Int)) % 9) - 4))
                       · refine lw_vy (.bool (decide (fits (zd7 * ((((l : Int)) % 9) - 4))))) (d := 142) rfl rfl (congrArg Value.bool (decide_eq_false (not_not_intro hb215))) (dv_move (T rfl rfl)) ?_
                         refine lw_vy (.bool (decide (¬ (fits (zd7 * ((((l : Int)) % 9) - 4)))))) (d := 142) rfl rfl (congrArg Value.bool (decide_eq_false (not_not_intro hb215))) (dv_notd (p := fits (zd7 * ((((l : Int)) % 9) - 4))) (T rfl rfl)) ?_
                         refine lw_v (.bool (decide (¬ (fits (zd7 * ((((l : Int)) % 9) - 4)))))) (dv_pick_f (T rfl (congrArg Value.bool (decide_eq_false (not_not_intro hb215)))) (T rfl rfl)) ?_
                         refine lw_v (.bool (decide (¬ (fits (zd7 * ((((l : Int)) % 9) - 4)))))) (dv_move (T rfl rfl)) ?_
                         by_cases hb216 : fits (zd7 * ((((l : Int)) % 9) - 4))
                         · refine lw_vy (.bool (decide (fits ((fz (zd6 * ((((l : Int)) % 9) - 4))) + (fz (zd7 * ((((l : Int)) % 9) - 4))))))) (d := 146) rfl rfl (congrArg Value.bool (decide_eq_false (not_not_intro hb216))) (dv_move (T rfl rfl)) ?_
                           refine lw_vy (.bool (decide (fits ((fz (zd6 * ((((l : Int)) % 9) - 4))) + (fz (zd7 * ((((l : Int)) % 9) - 4))))))) (d := 146) rfl rfl (congrArg Value.bool (decide_eq_false (not_not_intro hb216))) (dv_move (T rfl rfl)) ?_
                           by_cases hb217 : fits ((fz (zd6 * ((((l : Int)) % 9) - 4))) + (fz (zd7 * ((((l : Int)) % 9) - 4))))
                           · refine lw_vy (.agg #[.int .u64 (wv3 (fz ((fz (zd6 * ((((l : Int)) % 9) - 4))) + (fz (zd7 * ((((l : Int)) % 9) - 4)))))), .int .u64 (wv2 (fz ((fz (zd6 * ((((l : Int)) % 9) - 4))) + (fz (zd7 * ((((l : Int)) % 9) - 4)))))), .int .u64 (wv1 (fz ((fz (zd6 * ((((l : Int)) % 9) - 4))) + (fz (zd7 * ((((l : Int)) % 9) - 4)))))), .int .u64 (wv0 (fz ((fz (zd6 * ((((l : Int)) % 9) - 4))) + (fz (zd7 * ((((l : Int)) % 9) - 4))))))]) (d := 148) rfl rfl (congrArg Value.bool (decide_eq_true hb217)) (dv_loads (l := [.int .u64 (wv3 (fz ((fz (zd6 * ((((l : Int)) % 9) - 4))) + (fz (zd7 * ((((l : Int)) % 9) - 4)))))), .int .u64 (wv2 (fz ((fz (zd6 * ((((l : Int)) % 9) - 4))) + (fz (zd7 * ((((l : Int)) % 9) - 4)))))), .int .u64 (wv1 (fz ((fz (zd6 * ((((l : Int)) % 9) - 4))) + (fz (zd7 * ((((l : Int)) % 9) - 4)))))), .int .u64 (wv0 (fz ((fz (zd6 * ((((l : Int)) % 9) - 4))) + (fz (zd7 * ((((l : Int)) % 9) - 4))))))]) agt26 sz26 (T rfl rfl) H212 rfl) ?_
                             have H218 := (s211.blk (n206.ext.blk (e202.blk (s197.blk (n192.ext.blk (e188.blk (s182.blk (n177.ext.blk H179) (by omega)))) (by omega)))) (by omega))
                             refine lw_vy (.agg #[.int .u64 (wv3 (fz ((fz (zd6 + zd7)) * ((((l : Int)) % 9) - 4)))), .int .u64 (wv2 (fz ((fz (zd6 + zd7)) * ((((l : Int)) % 9) - 4)))), .int .u64 (wv1 (fz ((fz (zd6 + zd7)) * ((((l : Int)) % 9) - 4)))), .int .u64 (wv0 (fz ((fz (zd6 + zd7)) * ((((l : Int)) % 9) - 4))))]) (d := 148) rfl rfl (congrArg Value.bool (decide_eq_true hb217)) (dv_loads (l := [.int .u64 (wv3 (fz ((fz (zd6 + zd7)) * ((((l : Int)) % 9) - 4)))), .int .u64 (wv2 (fz ((fz (zd6 + zd7)) * ((((l : Int)) % 9) - 4)))), .int .u64 (wv1 (fz ((fz (zd6 + zd7)) * ((((l : Int)) % 9) - 4)))), .int .u64 (wv0 (fz ((fz (zd6 + zd7)) * ((((l : Int)) % 9) - 4))))]) agt26 sz26 (T rfl rfl) H218 rfl) ?_
                             refine lw_vy (.bool (decide (([wv3 (fz ((fz (zd6 * ((((l : Int)) % 9) - 4))) + (fz (zd7 * ((((l : Int)) % 9) - 4))))), wv2 (fz ((fz (zd6 * ((((l : Int)) % 9) - 4))) + (fz (zd7 * ((((l : Int)) % 9) - 4))))), wv1 (fz ((fz (zd6 * ((((l : Int)) % 9) - 4))) + (fz (zd7 * ((((l : Int)) % 9) - 4))))), wv0 (fz ((fz (zd6 * ((((l : Int)) % 9) - 4))) + (fz (zd7 * ((((l : Int)) % 9) - 4)))))] : List Int) = [wv3 (fz ((fz (zd6 + zd7)) * ((((l : Int)) % 9) - 4))), wv2 (fz ((fz (zd6 + zd7)) * ((((l : Int)) % 9) - 4))), wv1 (fz ((fz (zd6 + zd7)) * ((((l : Int)) % 9) - 4))), wv0 (fz ((fz (zd6 + zd7)) * ((((l : Int)) % 9) - 4)))]))) (d := 148) rfl rfl (congrArg Value.bool (decide_eq_true hb217)) (dv_eqls (k := .u64) (la := [wv3 (fz ((fz (zd6 * ((((l : Int)) % 9) - 4))) + (fz (zd7 * ((((l : Int)) % 9) - 4))))), wv2 (fz ((fz (zd6 * ((((l : Int)) % 9) - 4))) + (fz (zd7 * ((((l : Int)) % 9) - 4))))), wv1 (fz ((fz (zd6 * ((((l : Int)) % 9) - 4))) + (fz (zd7 * ((((l : Int)) % 9) - 4))))), wv0 (fz ((fz (zd6 * ((((l : Int)) % 9) - 4))) + (fz (zd7 * ((((l : Int)) % 9) - 4)))))]) (lb := [wv3 (fz ((fz (zd6 + zd7)) * ((((l : Int)) % 9) - 4))), wv2 (fz ((fz (zd6 + zd7)) * ((((l : Int)) % 9) - 4))), wv1 (fz ((fz (zd6 + zd7)) * ((((l : Int)) % 9) - 4))), wv0 (fz ((fz (zd6 + zd7)) * ((((l : Int)) % 9) - 4)))]) fl26 eg26 (T rfl rfl) (T rfl rfl) rfl rfl) ?_
                             refine lw_vy (.bool (decide (([wv3 (fz ((fz (zd6 * ((((l : Int)) % 9) - 4))) + (fz (zd7 * ((((l : Int)) % 9) - 4))))), wv2 (fz ((fz (zd6 * ((((l : Int)) % 9) - 4))) + (fz (zd7 * ((((l : Int)) % 9) - 4))))), wv1 (fz ((fz (zd6 * ((((l : Int)) % 9) - 4))) + (fz (zd7 * ((((l : Int)) % 9) - 4))))), wv0 (fz ((fz (zd6 * ((((l : Int)) % 9) - 4))) + (fz (zd7 * ((((l : Int)) % 9) - 4)))))] : List Int) = [wv3 (fz ((fz (zd6 + zd7)) * ((((l : Int)) % 9) - 4))), wv2 (fz ((fz (zd6 + zd7)) * ((((l : Int)) % 9) - 4))), wv1 (fz ((fz (zd6 + zd7)) * ((((l : Int)) % 9) - 4))), wv0 (fz ((fz (zd6 + zd7)) * ((((l : Int)) % 9) - 4)))]))) (d := 146) rfl rfl (congrArg Value.bool (decide_eq_false (not_not_intro hb216))) (dv_pick_t (T rfl (congrArg Value.bool (decide_eq_true hb217))) (T rfl rfl)) ?_
                             refine lw_v (.bool (decide (([wv3 (fz ((fz (zd6 * ((((l : Int)) % 9) - 4))) + (fz (zd7 * ((((l : Int)) % 9) - 4))))), wv2 (fz ((fz (zd6 * ((((l : Int)) % 9) - 4))) + (fz (zd7 * ((((l : Int)) % 9) - 4))))), wv1 (fz ((fz (zd6 * ((((l : Int)) % 9) - 4))) + (fz (zd7 * ((((l : Int)) % 9) - 4))))), wv0 (fz ((fz (zd6 * ((((l : Int)) % 9) - 4))) + (fz (zd7 * ((((l : Int)) % 9) - 4)))))] : List Int) = [wv3 (fz ((fz (zd6 + zd7)) * ((((l : Int)) % 9) - 4))), wv2 (fz ((fz (zd6 + zd7)) * ((((l : Int)) % 9) - 4))), wv1 (fz ((fz (zd6 + zd7)) * ((((l : Int)) % 9) - 4))), wv0 (fz ((fz (zd6 + zd7)) * ((((l : Int)) % 9) - 4)))]))) (dv_pick_f (T rfl (congrArg Value.bool (decide_eq_false (not_not_intro hb216)))) (T rfl rfl)) ?_
                             refine lw_v (.bool (decide (([wv3 (fz ((fz (zd6 * ((((l : Int)) % 9) - 4))) + (fz (zd7 * ((((l : Int)) % 9) - 4))))), wv2 (fz ((fz (zd6 * ((((l : Int)) % 9) - 4))) + (fz (zd7 * ((((l : Int)) % 9) - 4))))), wv1 (fz ((fz (zd6 * ((((l : Int)) % 9) - 4))) + (fz (zd7 * ((((l : Int)) % 9) - 4))))), wv0 (fz ((fz (zd6 * ((((l : Int)) % 9) - 4))) + (fz (zd7 * ((((l : Int)) % 9) - 4)))))] : List Int) = [wv3 (fz ((fz (zd6 + zd7)) * ((((l : Int)) % 9) - 4))), wv2 (fz ((fz (zd6 + zd7)) * ((((l : Int)) % 9) - 4))), wv1 (fz ((fz (zd6 + zd7)) * ((((l : Int)) % 9) - 4))), wv0 (fz ((fz (zd6 + zd7)) * ((((l : Int)) % 9) - 4)))]))) (dv_assign (T rfl rfl)) ?_
                             refine lw_nil ?_
                             refine rk_ret Try.func4 (v := .bool (decide (([wv3 (fz ((fz (zd6 * ((((l : Int)) % 9) - 4))) + (fz (zd7 * ((((l : Int)) % 9) - 4))))), wv2 (fz ((fz (zd6 * ((((l : Int)) % 9) - 4))) + (fz (zd7 * ((((l : Int)) % 9) - 4))))), wv1 (fz ((fz (zd6 * ((((l : Int)) % 9) - 4))) + (fz (zd7 * ((((l : Int)) % 9) - 4))))), wv0 (fz ((fz (zd6 * ((((l : Int)) % 9) - 4))) + (fz (zd7 * ((((l : Int)) % 9) - 4)))))] : List Int) = [wv3 (fz ((fz (zd6 + zd7)) * ((((l : Int)) % 9) - 4))), wv2 (fz ((fz (zd6 + zd7)) * ((((l : Int)) % 9) - 4))), wv1 (fz ((fz (zd6 + zd7)) * ((((l : Int)) % 9) - 4))), wv0 (fz ((fz (zd6 + zd7)) * ((((l : Int)) % 9) - 4)))]))) (res1 Try.results4 (rv_tmp rfl rfl)) ⟨_, rfl, ?_⟩
                             skip
                             exact ⟨(vbt (by first | assumption | omega | exact (wl_eq (fz_f _) (fz_f _)).2 (cS6 (a := zd6) (b := zd7) (by assumption) (by assumption) (by assumption) (by assumption)).2)), E213⟩
                           · refine lw_no (d := 148) rfl rfl (congrArg Value.bool (decide_eq_false hb217)) ?_
                             refine lw_no (d := 148) rfl rfl (congrArg Value.bool (decide_eq_false hb217)) ?_
                             refine lw_no (d := 148) rfl rfl (congrArg Value.bool (decide_eq_false hb217)) ?_
                             refine lw_vy (.bool false) (d := 146) rfl rfl (congrArg Value.bool (decide_eq_false (not_not_intro hb216))) (dv_pick_f (T rfl (congrArg Value.bool (decide_eq_false hb217))) C) ?_
                             refine lw_v (.bool false) (dv_pick_f (T rfl (congrArg Value.bool (decide_eq_false (not_not_intro hb216)))) (T rfl rfl)) ?_
                             refine lw_v (.bool false) (dv_assign (T rfl rfl)) ?_
                             refine lw_nil ?_
                             refine rk_ret Try.func4 (v := .bool false) (res1 Try.results4 (rv_tmp rfl rfl)) ⟨_, rfl, ?_⟩
                             skip
                             exact ⟨(by exfalso; first | (exact cB (by assumption)) | (exact absurd rfl (by assumption)) | (exact cS1 (a := zd6) (b := zd7) (by assumption)) | (exact cS2 (a := zd6) (b := zd7) (by assumption)) | (exact cM1 (a := zd6) (b := zd7) (by assumption)) | (exact cM2 (a := zd6) (b := zd7) (by assumption)) | (exact cS4 (a := zd6) (b := zd7) (by assumption) hz8 (by assumption)) | (exact cS5 (a := zd6) (b := zd7) (by assumption) hz8 (by assumption)) | (exact cS7 (a := zd6) (b := zd7) (by assumption) (by assumption) (by assumption) (by assumption) (by assumption)) | omega), E213⟩
                         · refine lw_no (d := 146) rfl rfl (congrArg Value.bool (decide_eq_true hb216)) ?_
                           refine lw_no (d := 146) rfl rfl (congrArg Value.bool (decide_eq_true hb216)) ?_
                           refine lw_nou (d := 148) rfl rfl ?_
                           refine lw_nou (d := 148) rfl rfl ?_
                           refine lw_nou (d := 148) rfl rfl ?_
                           refine lw_no (d := 146) rfl rfl (congrArg Value.bool (decide_eq_true hb216)) ?_
                           refine lw_v (.bool true) (dv_pick_t (T rfl (congrArg Value.bool (decide_eq_true hb216))) C) ?_
                           refine lw_v (.bool true) (dv_assign (T rfl rfl)) ?_
                           refine lw_nil ?_
                           refine rk_ret Try.func4 (v := .bool true) (res1 Try.results4 (rv_tmp rfl rfl)) ⟨_, rfl, ?_⟩
                           exact ⟨rfl, E213⟩
                       · refine lw_no (d := 142) rfl rfl (congrArg Value.bool (decide_eq_true hb215)) ?_
                         refine lw_no (d := 142) rfl rfl (congrArg Value.bool (decide_eq_true hb215)) ?_
                         refine lw_v (.bool true) (dv_pick_t (T rfl (congrArg Value.bool (decide_eq_true hb215))) C) ?_
                         refine lw_v (.bool true) (dv_move (T rfl rfl)) ?_
                         refine lw_no (d := 146) rfl rfl (rfl) ?_
                         refine lw_no (d := 146) rfl rfl (rfl) ?_
                         refine lw_nou (d := 148) rfl rfl ?_
                         refine lw_nou (d := 148) rfl rfl ?_
                         refine lw_nou (d := 148) rfl rfl ?_
                         refine lw_no (d := 146) rfl rfl (rfl) ?_
                         refine lw_v (.bool true) (dv_pick_t (T rfl rfl) C) ?_
                         refine lw_v (.bool true) (dv_assign (T rfl rfl)) ?_
                         refine lw_nil ?_
                         refine rk_ret Try.func4 (v := .bool true) (res1 Try.results4 (rv_tmp rfl rfl)) ⟨_, rfl, ?_⟩
                         exact ⟨rfl, E213⟩
                     · refine lw_no (d := 138) rfl rfl (congrArg Value.bool (decide_eq_true hb214)) ?_
                       refine lw_no (d := 138) rfl rfl (congrArg Value.bool (decide_eq_true hb214)) ?_
                       refine lw_v (.bool true) (dv_pick_t (T rfl (congrArg Value.bool (decide_eq_true hb214))) C) ?_
                       refine lw_v (.bool true) (dv_move (T rfl rfl)) ?_
                       refine lw_no (d := 142) rfl rfl (rfl) ?_
                       refine lw_no (d := 142) rfl rfl (rfl) ?_
                       refine lw_v (.bool true) (dv_pick_t (T rfl rfl) C) ?_
                       refine lw_v (.bool true) (dv_move (T rfl rfl)) ?_
                       refine lw_no (d := 146) rfl rfl (rfl) ?_
                       refine lw_no (d := 146) rfl rfl (rfl) ?_
                       refine lw_nou (d := 148) rfl rfl ?_
                       refine lw_nou (d := 148) rfl rfl ?_
                       refine lw_nou (d := 148) rfl rfl ?_
                       refine lw_no (d := 146) rfl rfl (rfl) ?_
                       refine lw_v (.bool true) (dv_pick_t (T rfl rfl) C) ?_
                       refine lw_v (.bool true) (dv_assign (T rfl rfl)) ?_
                       refine lw_nil ?_
                       refine rk_ret Try.func4 (v := .bool true) (res1 Try.results4 (rv_tmp rfl rfl)) ⟨_, rfl, ?_⟩
                       exact ⟨rfl, E213⟩
                   · refine rk_ct (T rfl (congrArg Value.bool (decide_eq_true hb142))) ?_
                     refine rk_seq ?_
                     refine rk_reg ?_
                     refine lw_v (.bool false) (dv_assign C) ?_
                     refine lw_nil ?_
                     refine rk_ret Try.func4 (v := .bool false) (res1 Try.results4 (rv_tmp rfl rfl)) ⟨_, rfl, ?_⟩
                     skip
                     exact ⟨(by exfalso; first | (exact cB (by assumption)) | (exact absurd rfl (by assumption)) | (exact cS1 (a := zd6) (b := zd7) (by assumption)) | (exact cS2 (a := zd6) (b := zd7) (by assumption)) | (exact cM1 (a := zd6) (b := zd7) (by assumption)) | (exact cM2 (a := zd6) (b := zd7) (by assumption)) | (exact cS4 (a := zd6) (b := zd7) (by assumption) hz8 (by assumption)) | (exact cS5 (a := zd6) (b := zd7) (by assumption) hz8 (by assumption)) | (exact cS7 (a := zd6) (b := zd7) (by assumption) (by assumption) (by assumption) (by assumption) (by assumption)) | omega), E137⟩
               · refine rk_cf (T rfl (congrArg Value.bool (decide_eq_false hb122))) ?_
                 refine rk_skip ?_
                 refine rk_seq ?_
                 refine rk_reg ?_
                 refine lw_v (.slice A l c) (dv_move (T rfl rfl)) ?_
                 refine lw_v (.int .i64 ((l : Int))) (dv_len (ad := A) (l := l) (c := c) us22 (T rfl rfl)) ?_
                 refine lw_v (.int .i64 (((l : Int)) % 9)) (dv_rem (a := (l : Int)) (b := 9) (z := ((l : Int)) % 9) (T rfl rfl) C (by decide) (rem_c (by omega) rfl)) ?_
                 refine lw_v (.int .i64 ((((l : Int)) % 9) - 4)) (dv_sub (a := ((l : Int)) % 9) (b := 4) (z := (((l : Int)) % 9) - 4) (T rfl rfl) C (wr_i64 (by omega) (by omega))) ?_
                 refine lw_e (oe_callf (vs := [.int .i64 ((((l : Int)) % 9) - 4)]) co22 (ar1 (T rfl rfl)) (iWideOf_ok (x := (((l : Int)) % 9) - 4)  (by omega)) ?_)
                 rintro _ w219 ⟨rfl, e220⟩
                 have E221 := below_ext E116 E116.size e220
                 refine lw_e (oe_alloc ze26 ?_)
                 intro b222 w223 n224
                 have N225 : w.heap.size ≤ b222 := n224.eq ▸ E221.size
                 have H226 := (e220.blk H115)
                 have : b107 < b222 := n224.eq ▸ lt_of_blk H226
                 have E227 := below_ext E221 E221.size n224.ext
                 refine lw_e (oe_store (v := .agg #[.int .u64 (wv3 ((((l : Int)) % 9) - 4)), .int .u64 (wv2 ((((l : Int)) % 9) - 4)), .int .u64 (wv1 ((((l : Int)) % 9) - 4)), .int .u64 (wv0 ((((l : Int)) % 9) - 4))]) (vs := [.int .u64 (wv3 ((((l : Int)) % 9) - 4)), .int .u64 (wv2 ((((l : Int)) % 9) - 4)), .int .u64 (wv1 ((((l : Int)) % 9) - 4)), .int .u64 (wv0 ((((l : Int)) % 9) - 4))]) (l := [.int .u64 (wv3 ((((l : Int)) % 9) - 4)), .int .u64 (wv2 ((((l : Int)) % 9) - 4)), .int .u64 (wv1 ((((l : Int)) % 9) - 4)), .int .u64 (wv0 ((((l : Int)) % 9) - 4))]) (T rfl rfl) (T rfl rfl) sz26 rfl rfl rfl n224.blk rfl ?_)
                 intro w228 s229 H230
                 have E231 := below_st E227 N225 s229
                 refine lw_nil ?_
                 refine rk_seq ?_
                 refine rk_reg ?_
                 have H232 := (s229.blk (n224.ext.blk (e220.blk (s114.blk (n109.ext.blk (e105.blk (s99.blk (n94.ext.blk (e90.blk H77)) (by omega)))) (by omega)))) (by omega))
                 refine lw_v (.agg #[.int .u64 (wv3 (fz (zd6 + zd7))), .int .u64 (wv2 (fz (zd6 + zd7))), .int .u64 (wv1 (fz (zd6 + zd7))), .int .u64 (wv0 (fz (zd6 + zd7)))]) (dv_loads (l := [.int .u64 (wv3 (fz (zd6 + zd7))), .int .u64 (wv2 (fz (zd6 + zd7))), .int .u64 (wv1 (fz (zd6 + zd7))), .int .u64 (wv0 (fz (zd6 + zd7)))]) agt26 sz26 (T rfl rfl) H232 rfl) ?_
                 refine lw_v (.agg #[.int .u64 (wv3 ((((l : Int)) % 9) - 4)), .int .u64 (wv2 ((((l : Int)) % 9) - 4)), .int .u64 (wv1 ((((l : Int)) % 9) - 4)), .int .u64 (wv0 ((((l : Int)) % 9) - 4))]) (dv_loads (l := [.int .u64 (wv3 ((((l : Int)) % 9) - 4)), .int .u64 (wv2 ((((l : Int)) % 9) - 4)), .int .u64 (wv1 ((((l : Int)) % 9) - 4)), .int .u64 (wv0 ((((l : Int)) % 9) - 4))]) agt26 sz26 (T rfl rfl) H230 rfl) ?_
                 refine lw_e (oe_callf (vs := [.agg #[.int .u64 (wv3 (fz (zd6 + zd7))), .int .u64 (wv2 (fz (zd6 + zd7))), .int .u64 (wv1 (fz (zd6 + zd7))), .int .u64 (wv0 (fz (zd6 + zd7)))], .agg #[.int .u64 (wv3 ((((l : Int)) % 9) - 4)), .int .u64 (wv2 ((((l : Int)) % 9) - 4)), .int .u64 (wv1 ((((l : Int)) % 9) - 4)), .int .u64 (wv0 ((((l : Int)) % 9) - 4))]]) co21 (ar2 (T rfl rfl) (T rfl rfl)) (iWideMul_ok (x := fz (zd6 + zd7)) (y := (((l : Int)) % 9) - 4) (fz_f _) (fits_i (by omega)) ) ?_)
                 rintro _ w233 ⟨rfl, e234⟩
                 have E235 := below_ext E231 E231.size e234
                 refine lw_v (.tuple #[.agg #[.int .u64 (wv3 (fz ((fz (zd6 + zd7)) * ((((l : Int)) % 9) - 4)))), .int .u64 (wv2 (fz ((fz (zd6 + zd7)) * ((((l : Int)) % 9) - 4)))), .int .u64 (wv1 (fz ((fz (zd6 + zd7)) * ((((l : Int)) % 9) - 4)))), .int .u64 (wv0 (fz ((fz (zd6 + zd7)) * ((((l : Int)) % 9) - 4))))], .bool (decide (fits ((fz (zd6 + zd7)) * ((((l : Int)) % 9) - 4))))]) (dv_move (T rfl rfl)) ?_
                 refine lw_v (.agg #[.int .u64 (wv3 (fz ((fz (zd6 + zd7)) * ((((l : Int)) % 9) - 4)))), .int .u64 (wv2 (fz ((fz (zd6 + zd7)) * ((((l : Int)) % 9) - 4)))), .int .u64 (wv1 (fz ((fz (zd6 + zd7)) * ((((l : Int)) % 9) - 4)))), .int .u64 (wv0 (fz ((fz (zd6 + zd7)) * ((((l : Int)) % 9) - 4))))]) (dv_extract (vs := #[.agg #[.int .u64 (wv3 (fz ((fz (zd6 + zd7)) * ((((l : Int)) % 9) - 4)))), .int .u64 (wv2 (fz ((fz (zd6 + zd7)) * ((((l : Int)) % 9) - 4)))), .int .u64 (wv1 (fz ((fz (zd6 + zd7)) * ((((l : Int)) % 9) - 4)))), .int .u64 (wv0 (fz ((fz (zd6 + zd7)) * ((((l : Int)) % 9) - 4))))], .bool (decide (fits ((fz (zd6 + zd7)) * ((((l : Int)) % 9) - 4))))]) (T rfl rfl) rfl) ?_
                 refine lw_v (.bool (decide (fits ((fz (zd6 + zd7)) * ((((l : Int)) % 9) - 4))))) (dv_extract (vs := #[.agg #[.int .u64 (wv3 (fz ((fz (zd6 + zd7)) * ((((l : Int)) % 9) - 4)))), .int .u64 (wv2 (fz ((fz (zd6 + zd7)) * ((((l : Int)) % 9) - 4)))), .int .u64 (wv1 (fz ((fz (zd6 + zd7)) * ((((l : Int)) % 9) - 4)))), .int .u64 (wv0 (fz ((fz (zd6 + zd7)) * ((((l : Int)) % 9) - 4))))], .bool (decide (fits ((fz (zd6 + zd7)) * ((((l : Int)) % 9) - 4))))]) (T rfl rfl) rfl) ?_
                 refine lw_e (oe_alloc ze26 ?_)
                 intro b236 w237 n238
                 have N239 : w.heap.size ≤ b236 := n238.eq ▸ E235.size
                 have H240 := (e234.blk H230)
                 have : b222 < b236 := n238.eq ▸ lt_of_blk H240
                 have E241 := below_ext E235 E235.size n238.ext
                 refine lw_e (oe_store (v := .agg #[.int .u64 (wv3 (fz ((fz (zd6 + zd7)) * ((((l : Int)) % 9) - 4)))), .int .u64 (wv2 (fz ((fz (zd6 + zd7)) * ((((l : Int)) % 9) - 4)))), .int .u64 (wv1 (fz ((fz (zd6 + zd7)) * ((((l : Int)) % 9) - 4)))), .int .u64 (wv0 (fz ((fz (zd6 + zd7)) * ((((l : Int)) % 9) - 4))))]) (vs := [.int .u64 (wv3 (fz ((fz (zd6 + zd7)) * ((((l : Int)) % 9) - 4)))), .int .u64 (wv2 (fz ((fz (zd6 + zd7)) * ((((l : Int)) % 9) - 4)))), .int .u64 (wv1 (fz ((fz (zd6 + zd7)) * ((((l : Int)) % 9) - 4)))), .int .u64 (wv0 (fz ((fz (zd6 + zd7)) * ((((l : Int)) % 9) - 4))))]) (l := [.int .u64 (wv3 (fz ((fz (zd6 + zd7)) * ((((l : Int)) % 9) - 4)))), .int .u64 (wv2 (fz ((fz (zd6 + zd7)) * ((((l : Int)) % 9) - 4)))), .int .u64 (wv1 (fz ((fz (zd6 + zd7)) * ((((l : Int)) % 9) - 4)))), .int .u64 (wv0 (fz ((fz (zd6 + zd7)) * ((((l : Int)) % 9) - 4))))]) (T rfl rfl) (T rfl rfl) sz26 rfl rfl rfl n238.blk rfl ?_)
                 intro w242 s243 H244
                 have E245 := below_st E241 N239 s243
                 refine lw_v (.bool (decide (fits ((fz (zd6 + zd7)) * ((((l : Int)) % 9) - 4))))) (dv_assign (T rfl rfl)) ?_
                 refine lw_nil ?_
                 refine rk_seq ?_
                 refine rk_reg ?_
                 have H246 := (s243.blk (n238.ext.blk (e234.blk (s229.blk (n224.ext.blk (e220.blk (s114.blk (n109.ext.blk (e105.blk H103)) (by omega)))) (by omega)))) (by omega))
                 refine lw_v (.agg #[.int .u64 (wv3 zd6), .int .u64 (wv2 zd6), .int .u64 (wv1 zd6), .int .u64 (wv0 zd6)]) (dv_loads (l := [.int .u64 (wv3 zd6), .int .u64 (wv2 zd6), .int .u64 (wv1 zd6), .int .u64 (wv0 zd6)]) agt26 sz26 (T rfl rfl) H246 rfl) ?_
                 have H247 := (s243.blk (n238.ext.blk H240) (by omega))
                 refine lw_v (.agg #[.int .u64 (wv3 ((((l : Int)) % 9) - 4)), .int .u64 (wv2 ((((l : Int)) % 9) - 4)), .int .u64 (wv1 ((((l : Int)) % 9) - 4)), .int .u64 (wv0 ((((l : Int)) % 9) - 4))]) (dv_loads (l := [.int .u64 (wv3 ((((l : Int)) % 9) - 4)), .int .u64 (wv2 ((((l : Int)) % 9) - 4)), .int .u64 (wv1 ((((l : Int)) % 9) - 4)), .int .u64 (wv0 ((((l : Int)) % 9) - 4))]) agt26 sz26 (T rfl rfl) H247 rfl) ?_
                 refine lw_e (oe_callf (vs := [.agg #[.int .u64 (wv3 zd6), .int .u64 (wv2 zd6), .int .u64 (wv1 zd6), .int .u64 (wv0 zd6)], .agg #[.int .u64 (wv3 ((((l : Int)) % 9) - 4)), .int .u64 (wv2 ((((l : Int)) % 9) - 4)), .int .u64 (wv1 ((((l : Int)) % 9) - 4)), .int .u64 (wv0 ((((l : Int)) % 9) - 4))]]) co21 (ar2 (T rfl rfl) (T rfl rfl)) (iWideMul_ok (x := zd6) (y := (((l : Int)) % 9) - 4) hz8 (fits_i (by omega)) ) ?_)
                 rintro _ w248 ⟨rfl, e249⟩
                 have E250 := below_ext E245 E245.size e249
                 refine lw_v (.tuple #[.agg #[.int .u64 (wv3 (fz (zd6 * ((((l : Int)) % 9) - 4)))), .int .u64 (wv2 (fz (zd6 * ((((l : Int)) % 9) - 4)))), .int .u64 (wv1 (fz (zd6 * ((((l : Int)) % 9) - 4)))), .int .u64 (wv0 (fz (zd6 * ((((l : Int)) % 9) - 4))))], .bool (decide (fits (zd6 * ((((l : Int)) % 9) - 4))))]) (dv_move (T rfl rfl)) ?_
                 refine lw_v (.agg #[.int .u64 (wv3 (fz (zd6 * ((((l : Int)) % 9) - 4)))), .int .u64 (wv2 (fz (zd6 * ((((l : Int)) % 9) - 4)))), .int .u64 (wv1 (fz (zd6 * ((((l : Int)) % 9) - 4)))), .int .u64 (wv0 (fz (zd6 * ((((l : Int)) % 9) - 4))))]) (dv_extract (vs := #[.agg #[.int .u64 (wv3 (fz (zd6 * ((((l : Int)) % 9) - 4)))), .int .u64 (wv2 (fz (zd6 * ((((l : Int)) % 9) - 4)))), .int .u64 (wv1 (fz (zd6 * ((((l : Int)) % 9) - 4)))), .int .u64 (wv0 (fz (zd6 * ((((l : Int)) % 9) - 4))))], .bool (decide (fits (zd6 * ((((l : Int)) % 9) - 4))))]) (T rfl rfl) rfl) ?_
                 refine lw_v (.bool (decide (fits (zd6 * ((((l : Int)) % 9) - 4))))) (dv_extract (vs := #[.agg #[.int .u64 (wv3 (fz (zd6 * ((((l : Int)) % 9) - 4)))), .int .u64 (wv2 (fz (zd6 * ((((l : Int)) % 9) - 4)))), .int .u64 (wv1 (fz (zd6 * ((((l : Int)) % 9) - 4)))), .int .u64 (wv0 (fz (zd6 * ((((l : Int)) % 9) - 4))))], .bool (decide (fits (zd6 * ((((l : Int)) % 9) - 4))))]) (T rfl rfl) rfl) ?_
                 refine lw_e (oe_alloc ze26 ?_)
                 intro b251 w252 n253
                 have N254 : w.heap.size ≤ b251 := n253.eq ▸ E250.size
                 have H255 := (e249.blk H244)
                 have : b236 < b251 := n253.eq ▸ lt_of_blk H255
                 have E256 := below_ext E250 E250.size n253.ext
                 refine lw_e (oe_store (v := .agg #[.int .u64 (wv3 (fz (zd6 * ((((l : Int)) % 9) - 4)))), .int .u64 (wv2 (fz (zd6 * ((((l : Int)) % 9) - 4)))), .int .u64 (wv1 (fz (zd6 * ((((l : Int)) % 9) - 4)))), .int .u64 (wv0 (fz (zd6 * ((((l : Int)) % 9) - 4))))]) (vs := [.int .u64 (wv3 (fz (zd6 * ((((l : Int)) % 9) - 4)))), .int .u64 (wv2 (fz (zd6 * ((((l : Int)) % 9) - 4)))), .int .u64 (wv1 (fz (zd6 * ((((l : Int)) % 9) - 4)))), .int .u64 (wv0 (fz (zd6 * ((((l : Int)) % 9) - 4))))]) (l := [.int .u64 (wv3 (fz (zd6 * ((((l : Int)) % 9) - 4)))), .int .u64 (wv2 (fz (zd6 * ((((l : Int)) % 9) - 4)))), .int .u64 (wv1 (fz (zd6 * ((((l : Int)) % 9) - 4)))), .int .u64 (wv0 (fz (zd6 * ((((l : Int)) % 9) - 4))))]) (T rfl rfl) (T rfl rfl) sz26 rfl rfl rfl n253.blk rfl ?_)
                 intro w257 s258 H259
                 have E260 := below_st E256 N254 s258
                 refine lw_v (.bool (decide (fits (zd6 * ((((l : Int)) % 9) - 4))))) (dv_assign (T rfl rfl)) ?_
                 refine lw_nil ?_
                 refine rk_seq ?_
                 refine rk_reg ?_
                 have H261 := (s258.blk (n253.ext.blk (e249.blk (s243.blk (n238.ext.blk (e234.blk (s229.blk (n224.ext.blk (e220.blk (s114.blk (n109.ext.blk (e105.blk H102)) (by omega)))) (by omega)))) (by omega)))) (by omega))
                 refine lw_v (.agg #[.int .u64 (wv3 zd7), .int .u64 (wv2 zd7), .int .u64 (wv1 zd7), .int .u64 (wv0 zd7)]) (dv_loads (l := [.int .u64 (wv3 zd7), .int .u64 (wv2 zd7), .int .u64 (wv1 zd7), .int .u64 (wv0 zd7)]) agt26 sz26 (T rfl rfl) H261 rfl) ?_
                 have H262 := (s258.blk (n253.ext.blk (e249.blk H247)) (by omega))
                 refine lw_v (.agg #[.int .u64 (wv3 ((((l : Int)) % 9) - 4)), .int .u64 (wv2 ((((l : Int)) % 9) - 4)), .int .u64 (wv1 ((((l : Int)) % 9) - 4)), .int .u64 (wv0 ((((l : Int)) % 9) - 4))]) (dv_loads (l := [.int .u64 (wv3 ((((l : Int)) % 9) - 4)), .int .u64 (wv2 ((((l : Int)) % 9) - 4)), .int .u64 (wv1 ((((l : Int)) % 9) - 4)), .int .u64 (wv0 ((((l : Int)) % 9) - 4))]) agt26 sz26 (T rfl rfl) H262 rfl) ?_
                 refine lw_e (oe_callf (vs := [.agg #[.int .u64 (wv3 zd7), .int .u64 (wv2 zd7), .int .u64 (wv1 zd7), .int .u64 (wv0 zd7)], .agg #[.int .u64 (wv3 ((((l : Int)) % 9) - 4)), .int .u64 (wv2 ((((l : Int)) % 9) - 4)), .int .u64 (wv1 ((((l : Int)) % 9) - 4)), .int .u64 (wv0 ((((l : Int)) % 9) - 4))]]) co21 (ar2 (T rfl rfl) (T rfl rfl)) (iWideMul_ok (x := zd7) (y := (((l : Int)) % 9) - 4) hz9 (fits_i (by omega)) ) ?_)
                 rintro _ w263 ⟨rfl, e264⟩
                 have E265 := below_ext E260 E260.size e264
                 refine lw_v (.tuple #[.agg #[.int .u64 (wv3 (fz (zd7 * ((((l : Int)) % 9) - 4)))), .int .u64 (wv2 (fz (zd7 * ((((l : Int)) % 9) - 4)))), .int .u64 (wv1 (fz (zd7 * ((((l : Int)) % 9) - 4)))), .int .u64 (wv0 (fz (zd7 * ((((l : Int)) % 9) - 4))))], .bool (decide (fits (zd7 * ((((l : Int)) % 9) - 4))))]) (dv_move (T rfl rfl)) ?_
                 refine lw_v (.agg #[.int .u64 (wv3 (fz (zd7 * ((((l : Int)) % 9) - 4)))), .int .u64 (wv2 (fz (zd7 * ((((l : Int)) % 9) - 4)))), .int .u64 (wv1 (fz (zd7 * ((((l : Int)) % 9) - 4)))), .int .u64 (wv0 (fz (zd7 * ((((l : Int)) % 9) - 4))))]) (dv_extract (vs := #[.agg #[.int .u64 (wv3 (fz (zd7 * ((((l : Int)) % 9) - 4)))), .int .u64 (wv2 (fz (zd7 * ((((l : Int)) % 9) - 4)))), .int .u64 (wv1 (fz (zd7 * ((((l : Int)) % 9) - 4)))), .int .u64 (wv0 (fz (zd7 * ((((l : Int)) % 9) - 4))))], .bool (decide (fits (zd7 * ((((l : Int)) % 9) - 4))))]) (T rfl rfl) rfl) ?_
                 refine lw_v (.bool (decide (fits (zd7 * ((((l : Int)) % 9) - 4))))) (dv_extract (vs := #[.agg #[.int .u64 (wv3 (fz (zd7 * ((((l : Int)) % 9) - 4)))), .int .u64 (wv2 (fz (zd7 * ((((l : Int)) % 9) - 4)))), .int .u64 (wv1 (fz (zd7 * ((((l : Int)) % 9) - 4)))), .int .u64 (wv0 (fz (zd7 * ((((l : Int)) % 9) - 4))))], .bool (decide (fits (zd7 * ((((l : Int)) % 9) - 4))))]) (T rfl rfl) rfl) ?_
                 refine lw_e (oe_alloc ze26 ?_)
                 intro b266 w267 n268
                 have N269 : w.heap.size ≤ b266 := n268.eq ▸ E265.size
                 have H270 := (e264.blk H259)
                 have : b251 < b266 := n268.eq ▸ lt_of_blk H270
                 have E271 := below_ext E265 E265.size n268.ext
                 refine lw_e (oe_store (v := .agg #[.int .u64 (wv3 (fz (zd7 * ((((l : Int)) % 9) - 4)))), .int .u64 (wv2 (fz (zd7 * ((((l : Int)) % 9) - 4)))), .int .u64 (wv1 (fz (zd7 * ((((l : Int)) % 9) - 4)))), .int .u64 (wv0 (fz (zd7 * ((((l : Int)) % 9) - 4))))]) (vs := [.int .u64 (wv3 (fz (zd7 * ((((l : Int)) % 9) - 4)))), .int .u64 (wv2 (fz (zd7 * ((((l : Int)) % 9) - 4)))), .int .u64 (wv1 (fz (zd7 * ((((l : Int)) % 9) - 4)))), .int .u64 (wv0 (fz (zd7 * ((((l : Int)) % 9) - 4))))]) (l := [.int .u64 (wv3 (fz (zd7 * ((((l : Int)) % 9) - 4)))), .int .u64 (wv2 (fz (zd7 * ((((l : Int)) % 9) - 4)))), .int .u64 (wv1 (fz (zd7 * ((((l : Int)) % 9) - 4)))), .int .u64 (wv0 (fz (zd7 * ((((l : Int)) % 9) - 4))))]) (T rfl rfl) (T rfl rfl) sz26 rfl rfl rfl n268.blk rfl ?_)
                 intro w272 s273 H274
                 have E275 := below_st E271 N269 s273
                 refine lw_v (.bool (decide (fits (zd7 * ((((l : Int)) % 9) - 4))))) (dv_assign (T rfl rfl)) ?_
                 refine lw_nil ?_
                 refine rk_seq ?_
                 refine rk_reg ?_
                 have H276 := (s273.blk (n268.ext.blk H270) (by omega))
                 refine lw_v (.agg #[.int .u64 (wv3 (fz (zd6 * ((((l : Int)) % 9) - 4)))), .int .u64 (wv2 (fz (zd6 * ((((l : Int)) % 9) - 4)))), .int .u64 (wv1 (fz (zd6 * ((((l : Int)) % 9) - 4)))), .int .u64 (wv0 (fz (zd6 * ((((l : Int)) % 9) - 4))))]) (dv_loads (l := [.int .u64 (wv3 (fz (zd6 * ((((l : Int)) % 9) - 4)))), .int .u64 (wv2 (fz (zd6 * ((((l : Int)) % 9) - 4)))), .int .u64 (wv1 (fz (zd6 * ((((l : Int)) % 9) - 4)))), .int .u64 (wv0 (fz (zd6 * ((((l : Int)) % 9) - 4))))]) agt26 sz26 (T rfl rfl) H276 rfl) ?_
                 refine lw_v (.agg #[.int .u64 (wv3 (fz (zd7 * ((((l : Int)) % 9) - 4)))), .int .u64 (wv2 (fz (zd7 * ((((l : Int)) % 9) - 4)))), .int .u64 (wv1 (fz (zd7 * ((((l : Int)) % 9) - 4)))), .int .u64 (wv0 (fz (zd7 * ((((l : Int)) % 9) - 4))))]) (dv_loads (l := [.int .u64 (wv3 (fz (zd7 * ((((l : Int)) % 9) - 4)))), .int .u64 (wv2 (fz (zd7 * ((((l : Int)) % 9) - 4)))), .int .u64 (wv1 (fz (zd7 * ((((l : Int)) % 9) - 4)))), .int .u64 (wv0 (fz (zd7 * ((((l : Int)) % 9) - 4))))]) agt26 sz26 (T rfl rfl) H274 rfl) ?_
                 refine lw_e (oe_callf (vs := [.agg #[.int .u64 (wv3 (fz (zd6 * ((((l : Int)) % 9) - 4)))), .int .u64 (wv2 (fz (zd6 * ((((l : Int)) % 9) - 4)))), .int .u64 (wv1 (fz (zd6 * ((((l : Int)) % 9) - 4)))), .int .u64 (wv0 (fz (zd6 * ((((l : Int)) % 9) - 4))))], .agg #[.int .u64 (wv3 (fz (zd7 * ((((l : Int)) % 9) - 4)))), .int .u64 (wv2 (fz (zd7 * ((((l : Int)) % 9) - 4)))), .int .u64 (wv1 (fz (zd7 * ((((l : Int)) % 9) - 4)))), .int .u64 (wv0 (fz (zd7 * ((((l : Int)) % 9) - 4))))]]) co19 (ar2 (T rfl rfl) (T rfl rfl)) (iWideAdd_ok (x := fz (zd6 * ((((l : Int)) % 9) - 4))) (y := fz (zd7 * ((((l : Int)) % 9) - 4))) (fz_f _) (fz_f _) ) ?_)
                 rintro _ w277 ⟨rfl, e278⟩
                 have E279 := below_ext E275 E275.size e278
                 refine lw_v (.tuple #[.agg #[.int .u64 (wv3 (fz ((fz (zd6 * ((((l : Int)) % 9) - 4))) + (fz (zd7 * ((((l : Int)) % 9) - 4)))))), .int .u64 (wv2 (fz ((fz (zd6 * ((((l : Int)) % 9) - 4))) + (fz (zd7 * ((((l : Int)) % 9) - 4)))))), .int .u64 (wv1 (fz ((fz (zd6 * ((((l : Int)) % 9) - 4))) + (fz (zd7 * ((((l : Int)) % 9) - 4)))))), .int .u64 (wv0 (fz ((fz (zd6 * ((((l : Int)) % 9) - 4))) + (fz (zd7 * ((((l : Int)) % 9) - 4))))))], .bool (decide (fits ((fz (zd6 * ((((l : Int)) % 9) - 4))) + (fz (zd7 * ((((l : Int)) % 9) - 4))))))]) (dv_move (T rfl rfl)) ?_
                 refine lw_v (.agg #[.int .u64 (wv3 (fz ((fz (zd6 * ((((l : Int)) % 9) - 4))) + (fz (zd7 * ((((l : Int)) % 9) - 4)))))), .int .u64 (wv2 (fz ((fz (zd6 * ((((l : Int)) % 9) - 4))) + (fz (zd7 * ((((l : Int)) % 9) - 4)))))), .int .u64 (wv1 (fz ((fz (zd6 * ((((l : Int)) % 9) - 4))) + (fz (zd7 * ((((l : Int)) % 9) - 4)))))), .int .u64 (wv0 (fz ((fz (zd6 * ((((l : Int)) % 9) - 4))) + (fz (zd7 * ((((l : Int)) % 9) - 4))))))]) (dv_extract (vs := #[.agg #[.int .u64 (wv3 (fz ((fz (zd6 * ((((l : Int)) % 9) - 4))) + (fz (zd7 * ((((l : Int)) % 9) - 4)))))), .int .u64 (wv2 (fz ((fz (zd6 * ((((l : Int)) % 9) - 4))) + (fz (zd7 * ((((l : Int)) % 9) - 4)))))), .int .u64 (wv1 (fz ((fz (zd6 * ((((l : Int)) % 9) - 4))) + (fz (zd7 * ((((l : Int)) % 9) - 4)))))), .int .u64 (wv0 (fz ((fz (zd6 * ((((l : Int)) % 9) - 4))) + (fz (zd7 * ((((l : Int)) % 9) - 4))))))], .bool (decide (fits ((fz (zd6 * ((((l : Int)) % 9) - 4))) + (fz (zd7 * ((((l : Int)) % 9) - 4))))))]) (T rfl rfl) rfl) ?_
                 refine lw_v (.bool (decide (fits ((fz (zd6 * ((((l : Int)) % 9) - 4))) + (fz (zd7 * ((((l : Int)) % 9) - 4))))))) (dv_extract (vs := #[.agg #[.int .u64 (wv3 (fz ((fz (zd6 * ((((l : Int)) % 9) - 4))) + (fz (zd7 * ((((l : Int)) % 9) - 4)))))), .int .u64 (wv2 (fz ((fz (zd6 * ((((l : Int)) % 9) - 4))) + (fz (zd7 * ((((l : Int)) % 9) - 4)))))), .int .u64 (wv1 (fz ((fz (zd6 * ((((l : Int)) % 9) - 4))) + (fz (zd7 * ((((l : Int)) % 9) - 4)))))), .int .u64 (wv0 (fz ((fz (zd6 * ((((l : Int)) % 9) - 4))) + (fz (zd7 * ((((l : Int)) % 9) - 4))))))], .bool (decide (fits ((fz (zd6 * ((((l : Int)) % 9) - 4))) + (fz (zd7 * ((((l : Int)) % 9) - 4))))))]) (T rfl rfl) rfl) ?_
                 refine lw_e (oe_alloc ze26 ?_)
                 intro b280 w281 n282
                 have N283 : w.heap.size ≤ b280 := n282.eq ▸ E279.size
                 have H284 := (e278.blk H274)
                 have : b266 < b280 := n282.eq ▸ lt_of_blk H284
                 have E285 := below_ext E279 E279.size n282.ext
                 refine lw_e (oe_store (v := .agg #[.int .u64 (wv3 (fz ((fz (zd6 * ((((l : Int)) % 9) - 4))) + (fz (zd7 * ((((l : Int)) % 9) - 4)))))), .int .u64 (wv2 (fz ((fz (zd6 * ((((l : Int)) % 9) - 4))) + (fz (zd7 * ((((l : Int)) % 9) - 4)))))), .int .u64 (wv1 (fz ((fz (zd6 * ((((l : Int)) % 9) - 4))) + (fz (zd7 * ((((l : Int)) % 9) - 4)))))), .int .u64 (wv0 (fz ((fz (zd6 * ((((l : Int)) % 9) - 4))) + (fz (zd7 * ((((l : Int)) % 9) - 4))))))]) (vs := [.int .u64 (wv3 (fz ((fz (zd6 * ((((l : Int)) % 9) - 4))) + (fz (zd7 * ((((l : Int)) % 9) - 4)))))), .int .u64 (wv2 (fz ((fz (zd6 * ((((l : Int)) % 9) - 4))) + (fz (zd7 * ((((l : Int)) % 9) - 4)))))), .int .u64 (wv1 (fz ((fz (zd6 * ((((l : Int)) % 9) - 4))) + (fz (zd7 * ((((l : Int)) % 9) - 4)))))), .int .u64 (wv0 (fz ((fz (zd6 * ((((l : Int)) % 9) - 4))) + (fz (zd7 * ((((l : Int)) % 9) - 4))))))]) (l := [.int .u64 (wv3 (fz ((fz (zd6 * ((((l : Int)) % 9) - 4))) + (fz (zd7 * ((((l : Int)) % 9) - 4)))))), .int .u64 (wv2 (fz ((fz (zd6 * ((((l : Int)) % 9) - 4))) + (fz (zd7 * ((((l : Int)) % 9) - 4)))))), .int .u64 (wv1 (fz ((fz (zd6 * ((((l : Int)) % 9) - 4))) + (fz (zd7 * ((((l : Int)) % 9) - 4)))))), .int .u64 (wv0 (fz ((fz (zd6 * ((((l : Int)) % 9) - 4))) + (fz (zd7 * ((((l : Int)) % 9) - 4))))))]) (T rfl rfl) (T rfl rfl) sz26 rfl rfl rfl n282.blk rfl ?_)
                 intro w286 s287 H288
                 have E289 := below_st E285 N283 s287
                 refine lw_v (.bool (decide (fits ((fz (zd6 * ((((l : Int)) % 9) - 4))) + (fz (zd7 * ((((l : Int)) % 9) - 4))))))) (dv_assign (T rfl rfl)) ?_
                 refine lw_nil ?_
                 refine rk_seq ?_
                 refine rk_reg ?_
                 refine lw_v (.bool (decide (fits (zd6 + zd7)))) (dv_move (T rfl rfl)) ?_
                 refine lw_v (.bool (decide (¬ (fits (zd6 + zd7))))) (dv_notd (p := fits (zd6 + zd7)) (T rfl rfl)) ?_
                 refine lw_v (.bool (decide (¬ (fits (zd6 + zd7))))) (dv_move (T rfl rfl)) ?_
                 refine lw_no (d := 134) rfl rfl (congrArg Value.bool (decide_eq_true hb122)) ?_
                 refine lw_no (d := 134) rfl rfl (congrArg Value.bool (decide_eq_true hb122)) ?_
                 refine lw_v (.bool true) (dv_pick_t (T rfl (congrArg Value.bool (decide_eq_true hb122))) C) ?_
                 refine lw_v (.bool true) (dv_move (T rfl rfl)) ?_
                 refine lw_no (d := 138) rfl rfl (rfl) ?_
                 refine lw_no (d := 138) rfl rfl (rfl) ?_
                 refine lw_v (.bool true) (dv_pick_t (T rfl rfl) C) ?_
                 refine lw_v (.bool true) (dv_move (T rfl rfl)) ?_
                 refine lw_no (d := 142) rfl rfl (rfl) ?_
                 refine lw_no (d := 142) rfl rfl (rfl) ?_
                 refine lw_v (.bool true) (dv_pick_t (T rfl rfl) C) ?_
                 refine lw_v (.bool true) (dv_move (T rfl rfl)) ?_
                 refine lw_no (d := 146) rfl rfl (rfl) ?_
                 refine lw_no (d := 146) rfl rfl (rfl) ?_
                 refine lw_nou (d := 148) rfl rfl ?_
                 refine lw_nou (d := 148) rfl rfl ?_
                 refine lw_nou (d := 148) rfl rfl ?_
                 refine lw_no (d := 146) rfl rfl (rfl) ?_
                 refine lw_v (.bool true) (dv_pick_t (T rfl rfl) C) ?_
                 refine lw_v (.bool true) (dv_assign (T rfl rfl)) ?_
                 refine lw_nil ?_
                 refine rk_ret Try.func4 (v := .bool true) (res1 Try.results4 (rv_tmp rfl rfl)) ⟨_, rfl, ?_⟩
                 exact ⟨rfl, E289⟩
end Go.Proofs.Ytfmkadgjoechnaa.W
