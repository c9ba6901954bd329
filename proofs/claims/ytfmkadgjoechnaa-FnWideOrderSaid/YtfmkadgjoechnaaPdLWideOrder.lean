/- Walks of one law, packed by a program of this session. -/
import Derived.Test.YtfmkadgjoechnaaPdf
set_option linter.unusedVariables false
set_option linter.unusedSimpArgs false
namespace Go.Proofs.Ytfmkadgjoechnaa.W
open Go Go.RowKit Go.Proofs.Ytfmkadgjoechnaa.Fw
attribute [local irreducible] RunK LW AW DV OE Ct
theorem co11 : callOk Try.prog 11 = true := by kernel_rfl
theorem co12 : callOk Try.prog 12 = true := by kernel_rfl
theorem co13 : callOk Try.prog 13 = true := by kernel_rfl
theorem co14 : callOk Try.prog 14 = true := by kernel_rfl
theorem co15 : callOk Try.prog 15 = true := by kernel_rfl
theorem co16 : callOk Try.prog 16 = true := by kernel_rfl
theorem co17 : callOk Try.prog 17 = true := by kernel_rfl
theorem co18 : callOk Try.prog 18 = true := by kernel_rfl
theorem co19 : callOk Try.prog 19 = true := by kernel_rfl
theorem co20 : callOk Try.prog 20 = true := by kernel_rfl
theorem co21 : callOk Try.prog 21 = true := by kernel_rfl
set_option maxRecDepth 100000 in
set_option maxHeartbeats 1000000 in
theorem lawWideOrder_ok {w : World} {A : Option Addr} {l c : Nat} {xs : List Int} (hx : RdI w .u8 A xs) (hxl : xs.length = l) (hlc : l ≤ c) (hcm : c ≤ 9223372036854775807) (ok : okW 256 xs) : Ct Try.prog 3 [.slice A l c] w fun v w1 => v = .bool true ∧ Ext w w1 := by
 refine ct_run (n := 84) Try.func3 rfl Try.ntmps3 rfl ?_
 have E0 : Below w.heap.size w w := Below.refl _ _
 refine rk_seq ?_
 refine rk_reg ?_
 refine lw_v (.bool false) (dv_assign C) ?_
 refine lw_nil ?_
 refine rk_seq ?_
 refine rk_seq ?_
 refine rk_reg ?_
 refine lw_v (.slice A l c) (dv_move (T rfl rfl)) ?_
 refine lw_e (oe_callf (vs := [.slice A l c]) co11 (ar1 (T rfl rfl)) (lbig_ok ) ?_)
 rintro _ w1 ⟨rfl, e2⟩
 have E3 := below_ext E0 E0.size e2
 refine lw_nil ?_
 by_cases hb4 : 1048576 < (l : Int)
 · refine rk_ct (T rfl (congrArg Value.bool (decide_eq_true hb4))) ?_
   refine rk_seq ?_
   refine rk_reg ?_
   refine lw_v (.bool true) (dv_assign C) ?_
   refine lw_nil ?_
   refine rk_ret Try.func3 (v := .bool true) (res1 Try.results3 (rv_tmp rfl rfl)) ⟨_, rfl, ?_⟩
   exact ⟨rfl, E3⟩
 · refine rk_cf (T rfl (congrArg Value.bool (decide_eq_false hb4))) ?_
   refine rk_skip ?_
   refine rk_seq ?_
   refine rk_reg ?_
   refine lw_v (.slice A l c) (dv_move (T rfl rfl)) ?_
   have h5 := (hx.ext e2)
   refine lw_e (oe_callf (vs := [.slice A l c]) co12 (ar1 (T rfl rfl)) (drawWideCmp_ok (l := l) (c := c) (xs := xs) h5 (by first | omega | (simp; done) | (simp; omega)) (by first | omega | (simp; done) | (simp; omega)) ok) ?_)
   rintro _ w10 ⟨zd6, zd7, rfl, e11, hz8, hz9⟩
   have E12 := below_ext E3 E3.size e11
   refine lw_v (.tuple #[.agg #[.int .u64 (wv3 zd6), .int .u64 (wv2 zd6), .int .u64 (wv1 zd6), .int .u64 (wv0 zd6)], .agg #[.int .u64 (wv3 zd7), .int .u64 (wv2 zd7), .int .u64 (wv1 zd7), .int .u64 (wv0 zd7)]]) (dv_move (T rfl rfl)) ?_
   refine lw_v (.agg #[.int .u64 (wv3 zd6), .int .u64 (wv2 zd6), .int .u64 (wv1 zd6), .int .u64 (wv0 zd6)]) (dv_extract (vs := #[.agg #[.int .u64 (wv3 zd6), .int .u64 (wv2 zd6), .int .u64 (wv1 zd6), .int .u64 (wv0 zd6)], .agg #[.int .u64 (wv3 zd7), .int .u64 (wv2 zd7), .int .u64 (wv1 zd7), .int .u64 (wv0 zd7)]]) (T rfl rfl) rfl) ?_
   refine lw_v (.agg #[.int .u64 (wv3 zd7), .int .u64 (wv2 zd7), .int .u64 (wv1 zd7), .int .u64 (wv0 zd7)]) (dv_extract (vs := #[.agg #[.int .u64 (wv3 zd6), .int .u64 (wv2 zd6), .int .u64 (wv1 zd6), .int .u64 (wv0 zd6)], .agg #[.int .u64 (wv3 zd7), .int .u64 (wv2 zd7), .int .u64 (wv1 zd7), .int .u64 (wv0 zd7)]]) (T rfl rfl) rfl) ?_
   refine lw_e (oe_alloc ze26 ?_)
   intro b13 w14 n15
   have N16 : w.heap.size ≤ b13 := n15.eq ▸ E12.size
   have E17 := below_ext E12 E12.size n15.ext
   refine lw_e (oe_alloc ze26 ?_)
   intro b18 w19 n20
   have N21 : w.heap.size ≤ b18 := n20.eq ▸ E17.size
   have : b13 < b18 := n20.eq ▸ lt_of_blk n15.blk
   have E22 := below_ext E17 E17.size n20.ext
   have H23 := (n20.ext.blk n15.blk)
   refine lw_e (oe_store (v := .agg #[.int .u64 (wv3 zd6), .int .u64 (wv2 zd6), .int .u64 (wv1 zd6), .int .u64 (wv0 zd6)]) (vs := [.int .u64 (wv3 zd6), .int .u64 (wv2 zd6), .int .u64 (wv1 zd6), .int .u64 (wv0 zd6)]) (l := [.int .u64 (wv3 zd6), .int .u64 (wv2 zd6), .int .u64 (wv1 zd6), .int .u64 (wv0 zd6)]) (T rfl rfl) (T rfl rfl) sz26 rfl rfl rfl H23 rfl ?_)
   intro w24 s25 H26
   have E27 := below_st E22 N16 s25
   have H28 := (s25.blk n20.blk (by omega))
   refine lw_e (oe_store (v := .agg #[.int .u64 (wv3 zd7), .int .u64 (wv2 zd7), .int .u64 (wv1 zd7), .int .u64 (wv0 zd7)]) (vs := [.int .u64 (wv3 zd7), .int .u64 (wv2 zd7), .int .u64 (wv1 zd7), .int .u64 (wv0 zd7)]) (l := [.int .u64 (wv3 zd7), .int .u64 (wv2 zd7), .int .u64 (wv1 zd7), .int .u64 (wv0 zd7)]) (T rfl rfl) (T rfl rfl) sz26 rfl rfl rfl H28 rfl ?_)
   intro w29 s30 H31
   have E32 := below_st E27 N21 s30
   refine lw_nil ?_
   refine rk_seq ?_
   refine rk_reg ?_
   refine lw_v (.slice A l c) (dv_move (T rfl rfl)) ?_
   have h33 := hx.ext E32
   refine lw_e (oe_callf (vs := [.slice A l c]) co13 (ar1 (T rfl rfl)) (drawWideAdd_ok (l := l) (c := c) (xs := xs) h33 (by first | omega | (simp; done) | (simp; omega)) (by first | omega | (simp; done) | (simp; omega)) ok) ?_)
   rintro _ w38 ⟨zd34, zd35, rfl, e39, hz36, hz37⟩
   have E40 := below_ext E32 E32.size e39
   refine lw_v (.tuple #[.agg #[.int .u64 (wv3 zd34), .int .u64 (wv2 zd34), .int .u64 (wv1 zd34), .int .u64 (wv0 zd34)], .agg #[.int .u64 (wv3 zd35), .int .u64 (wv2 zd35), .int .u64 (wv1 zd35), .int .u64 (wv0 zd35)]]) (dv_move (T rfl rfl)) ?_
   refine lw_v (.agg #[.int .u64 (wv3 zd34), .int .u64 (wv2 zd34), .int .u64 (wv1 zd34), .int .u64 (wv0 zd34)]) (dv_extract (vs := #[.agg #[.int .u64 (wv3 zd34), .int .u64 (wv2 zd34), .int .u64 (wv1 zd34), .int .u64 (wv0 zd34)], .agg #[.int .u64 (wv3 zd35), .int .u64 (wv2 zd35), .int .u64 (wv1 zd35), .int .u64 (wv0 zd35)]]) (T rfl rfl) rfl) ?_
   refine lw_v (.agg #[.int .u64 (wv3 zd35), .int .u64 (wv2 zd35), .int .u64 (wv1 zd35), .int .u64 (wv0 zd35)]) (dv_extract (vs := #[.agg #[.int .u64 (wv3 zd34), .int .u64 (wv2 zd34), .int .u64 (wv1 zd34), .int .u64 (wv0 zd34)], .agg #[.int .u64 (wv3 zd35), .int .u64 (wv2 zd35), .int .u64 (wv1 zd35), .int .u64 (wv0 zd35)]]) (T rfl rfl) rfl) ?_
   refine lw_e (oe_alloc ze26 ?_)
   intro b41 w42 n43
   have N44 : w.heap.size ≤ b41 := n43.eq ▸ E40.size
   have H45 := (e39.blk H31)
   have : b18 < b41 := n43.eq ▸ lt_of_blk H45
   have E46 := below_ext E40 E40.size n43.ext
   refine lw_e (oe_alloc ze26 ?_)
   intro b47 w48 n49
   have N50 : w.heap.size ≤ b47 := n49.eq ▸ E46.size
   have : b41 < b47 := n49.eq ▸ lt_of_blk n43.blk
   have E51 := below_ext E46 E46.size n49.ext
   have H52 := (n49.ext.blk n43.blk)
   refine lw_e (oe_store (v := .agg #[.int .u64 (wv3 zd34), .int .u64 (wv2 zd34), .int .u64 (wv1 zd34), .int .u64 (wv0 zd34)]) (vs := [.int .u64 (wv3 zd34), .int .u64 (wv2 zd34), .int .u64 (wv1 zd34), .int .u64 (wv0 zd34)]) (l := [.int .u64 (wv3 zd34), .int .u64 (wv2 zd34), .int .u64 (wv1 zd34), .int .u64 (wv0 zd34)]) (T rfl rfl) (T rfl rfl) sz26 rfl rfl rfl H52 rfl ?_)
   intro w53 s54 H55
   have E56 := below_st E51 N44 s54
   have H57 := (s54.blk n49.blk (by omega))
   refine lw_e (oe_store (v := .agg #[.int .u64 (wv3 zd35), .int .u64 (wv2 zd35), .int .u64 (wv1 zd35), .int .u64 (wv0 zd35)]) (vs := [.int .u64 (wv3 zd35), .int .u64 (wv2 zd35), .int .u64 (wv1 zd35), .int .u64 (wv0 zd35)]) (l := [.int .u64 (wv3 zd35), .int .u64 (wv2 zd35), .int .u64 (wv1 zd35), .int .u64 (wv0 zd35)]) (T rfl rfl) (T rfl rfl) sz26 rfl rfl rfl H57 rfl ?_)
   intro w58 s59 H60
   have E61 := below_st E56 N50 s59
   refine lw_nil ?_
   refine rk_seq ?_
   refine rk_reg ?_
   have H62 := (s59.blk (s54.blk (n49.ext.blk (n43.ext.blk (e39.blk (s30.blk H26 (by omega))))) (by omega)) (by omega))
   refine lw_v (.agg #[.int .u64 (wv3 zd6), .int .u64 (wv2 zd6), .int .u64 (wv1 zd6), .int .u64 (wv0 zd6)]) (dv_loads (l := [.int .u64 (wv3 zd6), .int .u64 (wv2 zd6), .int .u64 (wv1 zd6), .int .u64 (wv0 zd6)]) agt26 sz26 (T rfl rfl) H62 rfl) ?_
   have H63 := (s59.blk (s54.blk (n49.ext.blk (n43.ext.blk H45)) (by omega)) (by omega))
   refine lw_v (.agg #[.int .u64 (wv3 zd7), .int .u64 (wv2 zd7), .int .u64 (wv1 zd7), .int .u64 (wv0 zd7)]) (dv_loads (l := [.int .u64 (wv3 zd7), .int .u64 (wv2 zd7), .int .u64 (wv1 zd7), .int .u64 (wv0 zd7)]) agt26 sz26 (T rfl rfl) H63 rfl) ?_
   refine lw_e (oe_callf (vs := [.agg #[.int .u64 (wv3 zd6), .int .u64 (wv2 zd6), .int .u64 (wv1 zd6), .int .u64 (wv0 zd6)], .agg #[.int .u64 (wv3 zd7), .int .u64 (wv2 zd7), .int .u64 (wv1 zd7), .int .u64 (wv0 zd7)]]) co14 (ar2 (T rfl rfl) (T rfl rfl)) (iWideCmp_ok (x := zd6) (y := zd7) hz8 hz9 ) ?_)
   rintro _ w64 ⟨rfl, e65⟩
   have E66 := below_ext E61 E61.size e65
   have := sgnI_rg (zd6 - zd7)
   refine lw_v (.int .i64 (sgnI (zd6 - zd7))) (dv_assign (T rfl rfl)) ?_
   refine lw_nil ?_
   refine rk_seq ?_
   refine rk_seq ?_
   refine rk_reg ?_
   refine lw_v (.int .i64 (sgnI (zd6 - zd7))) (dv_move (T rfl rfl)) ?_
   have H67 := (e65.blk H62)
   refine lw_v (.agg #[.int .u64 (wv3 zd6), .int .u64 (wv2 zd6), .int .u64 (wv1 zd6), .int .u64 (wv0 zd6)]) (dv_loads (l := [.int .u64 (wv3 zd6), .int .u64 (wv2 zd6), .int .u64 (wv1 zd6), .int .u64 (wv0 zd6)]) agt26 sz26 (T rfl rfl) H67 rfl) ?_
   have H68 := (e65.blk H63)
   refine lw_v (.agg #[.int .u64 (wv3 zd7), .int .u64 (wv2 zd7), .int .u64 (wv1 zd7), .int .u64 (wv0 zd7)]) (dv_loads (l := [.int .u64 (wv3 zd7), .int .u64 (wv2 zd7), .int .u64 (wv1 zd7), .int .u64 (wv0 zd7)]) agt26 sz26 (T rfl rfl) H68 rfl) ?_
   refine lw_e (oe_callf (vs := [.agg #[.int .u64 (wv3 zd6), .int .u64 (wv2 zd6), .int .u64 (wv1 zd6), .int .u64 (wv0 zd6)], .agg #[.int .u64 (wv3 zd7), .int .u64 (wv2 zd7), .int .u64 (wv1 zd7), .int .u64 (wv0 zd7)]]) co15 (ar2 (T rfl rfl) (T rfl rfl)) (sWideCmp_ok (x := zd6) (y := zd7) hz8 hz9 ) ?_)
   rintro _ w69 ⟨rfl, e70⟩
   have E71 := below_ext E66 E66.size e70
   have := sgnI_rg (zd6 - zd7)
   refine lw_v (.bool (decide ((sgnI (zd6 - zd7)) ≠ (sgnI (zd6 - zd7))))) (dv_neq (a := sgnI (zd6 - zd7)) (b := sgnI (zd6 - zd7)) (T rfl rfl) (T rfl rfl)) ?_
   refine lw_v (.bool (decide ((sgnI (zd6 - zd7)) ≠ (sgnI (zd6 - zd7))))) (dv_move (T rfl rfl)) ?_
   by_cases hb72 : (sgnI (zd6 - zd7)) ≠ (sgnI (zd6 - zd7))
   · refine lw_no (d := 32) rfl rfl (congrArg Value.bool (decide_eq_true hb72)) ?_
     refine lw_no (d := 32) rfl rfl (congrArg Value.bool (decide_eq_true hb72)) ?_
     refine lw_no (d := 32) rfl rfl (congrArg Value.bool (decide_eq_true hb72)) ?_
     refine lw_no (d := 32) rfl rfl (congrArg Value.bool (decide_eq_true hb72)) ?_
     refine lw_no (d := 32) rfl rfl (congrArg Value.bool (decide_eq_true hb72)) ?_
     refine lw_no (d := 32) rfl rfl (congrArg Value.bool (decide_eq_true hb72)) ?_
     refine lw_v (.bool true) (dv_pick_t (T rfl (congrArg Value.bool (decide_eq_true hb72))) C) ?_
     refine lw_v (.bool true) (dv_move (T rfl rfl)) ?_
     refine lw_no (d := 40) rfl rfl (rfl) ?_
     refine lw_no (d := 40) rfl rfl (rfl) ?_
     refine lw_no (d := 40) rfl rfl (rfl) ?_
     refine lw_no (d := 40) rfl rfl (rfl) ?_
     refine lw_no (d := 40) rfl rfl (rfl) ?_
     refine lw_no (d := 40) rfl rfl (rfl) ?_
     refine lw_v (.bool true) (dv_pick_t (T rfl rfl) C) ?_
     refine lw_nil ?_
     refine rk_ct (T rfl rfl) ?_
     refine rk_seq ?_
     refine rk_reg ?_
     refine lw_v (.bool false) (dv_assign C) ?_
     refine lw_nil ?_
     refine rk_ret Try.func3 (v := .bool false) (res1 Try.results3 (rv_tmp rfl rfl)) ⟨_, rfl, ?_⟩
     skip
     exact ⟨(by exfalso; first | (exact cB (by assumption)) | (exact absurd rfl (by assumption)) | (exact cO1 (by assumption)) | (exact cO2w hz8 hz9 (by assumption)) | (exact cO3 (by assumption) (by assumption)) | (exact cO4 (a := zd6) (b := zd7) (x := zd34) (by assumption) (by assumption) (by assumption)) | (exact cO4 (a := zd6) (b := zd7) (x := zd35) (by assumption) (by assumption) (by assumption)) | omega), E71⟩
   · refine lw_vy (.int .i64 (sgnI (zd6 - zd7))) (d := 32) rfl rfl (congrArg Value.bool (decide_eq_false hb72)) (dv_move (T rfl rfl)) ?_
     have H73 := (e70.blk H68)
     refine lw_vy (.agg #[.int .u64 (wv3 zd7), .int .u64 (wv2 zd7), .int .u64 (wv1 zd7), .int .u64 (wv0 zd7)]) (d := 32) rfl rfl (congrArg Value.bool (decide_eq_false hb72)) (dv_loads (l := [.int .u64 (wv3 zd7), .int .u64 (wv2 zd7), .int .u64 (wv1 zd7), .int .u64 (wv0 zd7)]) agt26 sz26 (T rfl rfl) H73 rfl) ?_
     have H74 := (e70.blk H67)
     refine lw_vy (.agg #[.int .u64 (wv3 zd6), .int .u64 (wv2 zd6), .int .u64 (wv1 zd6), .int .u64 (wv0 zd6)]) (d := 32) rfl rfl (congrArg Value.bool (decide_eq_false hb72)) (dv_loads (l := [.int .u64 (wv3 zd6), .int .u64 (wv2 zd6), .int .u64 (wv1 zd6), .int .u64 (wv0 zd6)]) agt26 sz26 (T rfl rfl) H74 rfl) ?_
     refine lw_ey (d := 32) rfl rfl (congrArg Value.bool (decide_eq_false hb72)) (oe_callf (vs := [.agg #[.int .u64 (wv3 zd7), .int .u64 (wv2 zd7), .int .u64 (wv1 zd7), .int .u64 (wv0 zd7)], .agg #[.int .u64 (wv3 zd6), .int .u64 (wv2 zd6), .int .u64 (wv1 zd6), .int .u64 (wv0 zd6)]]) co14 (ar2 (T rfl rfl) (T rfl rfl)) (iWideCmp_ok (x := zd7) (y := zd6) hz9 hz8 ) ?_)
     rintro _ w75 ⟨rfl, e76⟩
     have E77 := below_ext E71 E71.size e76
     have := sgnI_rg (zd7 - zd6)
     refine lw_vy (.int .i64 (-(sgnI (zd7 - zd6)))) (d := 32) rfl rfl (congrArg Value.bool (decide_eq_false hb72)) (dv_neg (a := sgnI (zd7 - zd6)) (z := -(sgnI (zd7 - zd6))) (T rfl rfl) (by rw [Int.zero_sub]; exact wr_i64 (by omega) (by omega))) ?_
     refine lw_vy (.bool (decide ((sgnI (zd6 - zd7)) ≠ (-(sgnI (zd7 - zd6)))))) (d := 32) rfl rfl (congrArg Value.bool (decide_eq_false hb72)) (dv_neq (a := sgnI (zd6 - zd7)) (b := -(sgnI (zd7 - zd6))) (T rfl rfl) (T rfl rfl)) ?_
     refine lw_v (.bool (decide ((sgnI (zd6 - zd7)) ≠ (-(sgnI (zd7 - zd6)))))) (dv_pick_f (T rfl (congrArg Value.bool (decide_eq_false hb72))) (T rfl rfl)) ?_
     refine lw_v (.bool (decide ((sgnI (zd6 - zd7)) ≠ (-(sgnI (zd7 - zd6)))))) (dv_move (T rfl rfl)) ?_
     by_cases hb78 : (sgnI (zd6 - zd7)) ≠ (-(sgnI (zd7 - zd6)))
     · refine lw_no (d := 40) rfl rfl (congrArg Value.bool (decide_eq_true hb78)) ?_
       refine lw_no (d := 40) rfl rfl (congrArg Value.bool (decide_eq_true hb78)) ?_
       refine lw_no (d := 40) rfl rfl (congrArg Value.bool (decide_eq_true hb78)) ?_
       refine lw_no (d := 40) rfl rfl (congrArg Value.bool (decide_eq_true hb78)) ?_
       refine lw_no (d := 40) rfl rfl (congrArg Value.bool (decide_eq_true hb78)) ?_
       refine lw_no (d := 40) rfl rfl (congrArg Value.bool (decide_eq_true hb78)) ?_
       refine lw_v (.bool true) (dv_pick_t (T rfl (congrArg Value.bool (decide_eq_true hb78))) C) ?_
       refine lw_nil ?_
       refine rk_ct (T rfl rfl) ?_
       refine rk_seq ?_
       refine rk_reg ?_
       refine lw_v (.bool false) (dv_assign C) ?_
       refine lw_nil ?_
       refine rk_ret Try.func3 (v := .bool false) (res1 Try.results3 (rv_tmp rfl rfl)) ⟨_, rfl, ?_⟩
       skip
       exact ⟨(by exfalso; first | (exact cB (by assumption)) | (exact absurd rfl (by assumption)) | (exact cO1 (by assumption)) | (exact cO2w hz8 hz9 (by assumption)) | (exact cO3 (by assumption) (by assumption)) | (exact cO4 (a := zd6) (b := zd7) (x := zd34) (by assumption) (by assumption) (by assumption)) | (exact cO4 (a := zd6) (b := zd7) (x := zd35) (by assumption) (by assumption) (by assumption)) | omega), E77⟩
     · refine lw_vy (.int .i64 (sgnI (zd6 - zd7))) (d := 40) rfl rfl (congrArg Value.bool (decide_eq_false hb78)) (dv_move (T rfl rfl)) ?_
       refine lw_vy (.bool (decide ((sgnI (zd6 - zd7)) = 0))) (d := 40) rfl rfl (congrArg Value.bool (decide_eq_false hb78)) (dv_eql (a := sgnI (zd6 - zd7)) (b := 0) (T rfl rfl) C) ?_
       have H79 := (e76.blk H74)
       refine lw_vy (.agg #[.int .u64 (wv3 zd6), .int .u64 (wv2 zd6), .int .u64 (wv1 zd6), .int .u64 (wv0 zd6)]) (d := 40) rfl rfl (congrArg Value.bool (decide_eq_false hb78)) (dv_loads (l := [.int .u64 (wv3 zd6), .int .u64 (wv2 zd6), .int .u64 (wv1 zd6), .int .u64 (wv0 zd6)]) agt26 sz26 (T rfl rfl) H79 rfl) ?_
       have H80 := (e76.blk H73)
       refine lw_vy (.agg #[.int .u64 (wv3 zd7), .int .u64 (wv2 zd7), .int .u64 (wv1 zd7), .int .u64 (wv0 zd7)]) (d := 40) rfl rfl (congrArg Value.bool (decide_eq_false hb78)) (dv_loads (l := [.int .u64 (wv3 zd7), .int .u64 (wv2 zd7), .int .u64 (wv1 zd7), .int .u64 (wv0 zd7)]) agt26 sz26 (T rfl rfl) H80 rfl) ?_
       refine lw_vy (.bool (decide (([wv3 zd6, wv2 zd6, wv1 zd6, wv0 zd6] : List Int) = [wv3 zd7, wv2 zd7, wv1 zd7, wv0 zd7]))) (d := 40) rfl rfl (congrArg Value.bool (decide_eq_false hb78)) (dv_eqls (k := .u64) (la := [wv3 zd6, wv2 zd6, wv1 zd6, wv0 zd6]) (lb := [wv3 zd7, wv2 zd7, wv1 zd7, wv0 zd7]) fl26 eg26 (T rfl rfl) (T rfl rfl) rfl rfl) ?_
       refine lw_vy (.bool ((decide ((sgnI (zd6 - zd7)) = 0)) != (decide (([wv3 zd6, wv2 zd6, wv1 zd6, wv0 zd6] : List Int) = [wv3 zd7, wv2 zd7, wv1 zd7, wv0 zd7])))) (d := 40) rfl rfl (congrArg Value.bool (decide_eq_false hb78)) (dv_neqb (a := decide ((sgnI (zd6 - zd7)) = 0)) (b := decide (([wv3 zd6, wv2 zd6, wv1 zd6, wv0 zd6] : List Int) = [wv3 zd7, wv2 zd7, wv1 zd7, wv0 zd7])) ub4 (T rfl rfl) (T rfl rfl)) ?_
       refine lw_v (.bool ((decide ((sgnI (zd6 - zd7)) = 0)) != (decide (([wv3 zd6, wv2 zd6, wv1 zd6, wv0 zd6] : List Int) = [wv3 zd7, wv2 zd7, wv1 zd7, wv0 zd7])))) (dv_pick_f (T rfl (congrArg Value.bool (decide_eq_false hb78))) (T rfl rfl)) ?_
       refine lw_nil ?_
       rcases Bool.eq_false_or_eq_true ((decide ((sgnI (zd6 - zd7)) = 0)) != (decide (([wv3 zd6, wv2 zd6, wv1 zd6, wv0 zd6] : List Int) = [wv3 zd7, wv2 zd7, wv1 zd7, wv0 zd7]))) with hb81 | hb81
       · refine rk_ct (T rfl (congrArg Value.bool hb81)) ?_
         refine rk_seq ?_
         refine rk_reg ?_
         refine lw_v (.bool false) (dv_assign C) ?_
         refine lw_nil ?_
         refine rk_ret Try.func3 (v := .bool false) (res1 Try.results3 (rv_tmp rfl rfl)) ⟨_, rfl, ?_⟩
         skip
         exact ⟨(by exfalso; first | (exact cB (by assumption)) | (exact absurd rfl (by assumption)) | (exact cO1 (by assumption)) | (exact cO2w hz8 hz9 (by assumption)) | (exact cO3 (by assumption) (by assumption)) | (exact cO4 (a := zd6) (b := zd7) (x := zd34) (by assumption) (by assumption) (by assumption)) | (exact cO4 (a := zd6) (b := zd7) (x := zd35) (by assumption) (by assumption) (by assumption)) | omega), E77⟩
       · refine rk_cf (T rfl (congrArg Value.bool hb81)) ?_
         refine rk_skip ?_
         refine rk_seq ?_
         refine rk_reg ?_
         refine lw_v (.agg #[.int .u64 (wv3 zd6), .int .u64 (wv2 zd6), .int .u64 (wv1 zd6), .int .u64 (wv0 zd6)]) (dv_loads (l := [.int .u64 (wv3 zd6), .int .u64 (wv2 zd6), .int .u64 (wv1 zd6), .int .u64 (wv0 zd6)]) agt26 sz26 (T rfl rfl) H79 rfl) ?_
         refine lw_v (.agg #[.int .u64 (wv3 zd7), .int .u64 (wv2 zd7), .int .u64 (wv1 zd7), .int .u64 (wv0 zd7)]) (dv_loads (l := [.int .u64 (wv3 zd7), .int .u64 (wv2 zd7), .int .u64 (wv1 zd7), .int .u64 (wv0 zd7)]) agt26 sz26 (T rfl rfl) H80 rfl) ?_
         refine lw_e (oe_callf (vs := [.agg #[.int .u64 (wv3 zd6), .int .u64 (wv2 zd6), .int .u64 (wv1 zd6), .int .u64 (wv0 zd6)], .agg #[.int .u64 (wv3 zd7), .int .u64 (wv2 zd7), .int .u64 (wv1 zd7), .int .u64 (wv0 zd7)]]) co16 (ar2 (T rfl rfl) (T rfl rfl)) (iWideSub_ok (x := zd6) (y := zd7) hz8 hz9 ) ?_)
         rintro _ w82 ⟨rfl, e83⟩
         have E84 := below_ext E77 E77.size e83
         refine lw_v (.tuple #[.agg #[.int .u64 (wv3 (fz (zd6 - zd7))), .int .u64 (wv2 (fz (zd6 - zd7))), .int .u64 (wv1 (fz (zd6 - zd7))), .int .u64 (wv0 (fz (zd6 - zd7)))], .bool (decide (fits (zd6 - zd7)))]) (dv_move (T rfl rfl)) ?_
         refine lw_v (.agg #[.int .u64 (wv3 (fz (zd6 - zd7))), .int .u64 (wv2 (fz (zd6 - zd7))), .int .u64 (wv1 (fz (zd6 - zd7))), .int .u64 (wv0 (fz (zd6 - zd7)))]) (dv_extract (vs := #[.agg #[.int .u64 (wv3 (fz (zd6 - zd7))), .int .u64 (wv2 (fz (zd6 - zd7))), .int .u64 (wv1 (fz (zd6 - zd7))), .int .u64 (wv0 (fz (zd6 - zd7)))], .bool (decide (fits (zd6 - zd7)))]) (T rfl rfl) rfl) ?_
         refine lw_v (.bool (decide (fits (zd6 - zd7)))) (dv_extract (vs := #[.agg #[.int .u64 (wv3 (fz (zd6 - zd7))), .int .u64 (wv2 (fz (zd6 - zd7))), .int .u64 (wv1 (fz (zd6 - zd7))), .int .u64 (wv0 (fz (zd6 - zd7)))], .bool (decide (fits (zd6 - zd7)))]) (T rfl rfl) rfl) ?_
         refine lw_e (oe_alloc ze26 ?_)
         intro b85 w86 n87
         have N88 : w.heap.size ≤ b85 := n87.eq ▸ E84.size
         have H89 := (e83.blk (e76.blk (e70.blk (e65.blk H60))))
         have : b47 < b85 := n87.eq ▸ lt_of_blk H89
         have E90 := below_ext E84 E84.size n87.ext
         refine lw_e (oe_store (v := .agg #[.int .u64 (wv3 (fz (zd6 - zd7))), .int .u64 (wv2 (fz (zd6 - zd7))), .int .u64 (wv1 (fz (zd6 - zd7))), .int .u64 (wv0 (fz (zd6 - zd7)))]) (vs := [.int .u64 (wv3 (fz (zd6 - zd7))), .int .u64 (wv2 (fz (zd6 - zd7))), .int .u64 (wv1 (fz (zd6 - zd7))), .int .u64 (wv0 (fz (zd6 - zd7)))]) (l := [.int .u64 (wv3 (fz (zd6 - zd7))), .int .u64 (wv2 (fz (zd6 - zd7))), .int .u64 (wv1 (fz (zd6 - zd7))), .int .u64 (wv0 (fz (zd6 - zd7)))]) (T rfl rfl) (T rfl rfl) sz26 rfl rfl rfl n87.blk rfl ?_)
         intro w91 s92 H93
         have E94 := below_st E90 N88 s92
         refine lw_v (.bool (decide (fits (zd6 - zd7)))) (dv_assign (T rfl rfl)) ?_
         refine lw_nil ?_
         refine rk_seq ?_
         refine rk_seq ?_
         refine rk_reg ?_
         refine lw_v (.bool (decide (fits (zd6 - zd7)))) (dv_move (T rfl rfl)) ?_
         refine lw_v (.bool (decide (fits (zd6 - zd7)))) (dv_move (T rfl rfl)) ?_
         by_cases hb95 : fits (zd6 - zd7)
         · refine lw_vy (.agg #[.int .u64 (wv3 (fz (zd6 - zd7))), .int .u64 (wv2 (fz (zd6 - zd7))), .int .u64 (wv1 (fz (zd6 - zd7))), .int .u64 (wv0 (fz (zd6 - zd7)))]) (d := 55) rfl rfl (congrArg Value.bool (decide_eq_true hb95)) (dv_loads (l := [.int .u64 (wv3 (fz (zd6 - zd7))), .int .u64 (wv2 (fz (zd6 - zd7))), .int .u64 (wv1 (fz (zd6 - zd7))), .int .u64 (wv0 (fz (zd6 - zd7)))]) agt26 sz26 (T rfl rfl) H93 rfl) ?_
           refine lw_ey (d := 55) rfl rfl (congrArg Value.bool (decide_eq_true hb95)) (oe_callf (vs := [.agg #[.int .u64 (wv3 (fz (zd6 - zd7))), .int .u64 (wv2 (fz (zd6 - zd7))), .int .u64 (wv1 (fz (zd6 - zd7))), .int .u64 (wv0 (fz (zd6 - zd7)))]]) co17 (ar1 (T rfl rfl)) (iWideSign_ok (x := fz (zd6 - zd7)) (fz_f _) ) ?_)
           rintro _ w96 ⟨rfl, e97⟩
           have E98 := below_ext E94 E94.size e97
           have := sgnI_rg (fz (zd6 - zd7))
           refine lw_vy (.int .i64 (sgnI (zd6 - zd7))) (d := 55) rfl rfl (congrArg Value.bool (decide_eq_true hb95)) (dv_move (T rfl rfl)) ?_
           refine lw_vy (.bool (decide ((sgnI (fz (zd6 - zd7))) ≠ (sgnI (zd6 - zd7))))) (d := 55) rfl rfl (congrArg Value.bool (decide_eq_true hb95)) (dv_neq (a := sgnI (fz (zd6 - zd7))) (b := sgnI (zd6 - zd7)) (T rfl rfl) (T rfl rfl)) ?_
           refine lw_v (.bool (decide ((sgnI (fz (zd6 - zd7))) ≠ (sgnI (zd6 - zd7))))) (dv_pick_t (T rfl (congrArg Value.bool (decide_eq_true hb95))) (T rfl rfl)) ?_
           refine lw_nil ?_
           by_cases hb99 : (sgnI (fz (zd6 - zd7))) ≠ (sgnI (zd6 - zd7))
           · refine rk_ct (T rfl (congrArg Value.bool (decide_eq_true hb99))) ?_
             refine rk_seq ?_
             refine rk_reg ?_
             refine lw_v (.bool false) (dv_assign C) ?_
             refine lw_nil ?_
             refine rk_ret Try.func3 (v := .bool false) (res1 Try.results3 (rv_tmp rfl rfl)) ⟨_, rfl, ?_⟩
             skip
             exact ⟨(by exfalso; first | (exact cB (by assumption)) | (exact absurd rfl (by assumption)) | (exact cO1 (by assumption)) | (exact cO2w hz8 hz9 (by assumption)) | (exact cO3 (by assumption) (by assumption)) | (exact cO4 (a := zd6) (b := zd7) (x := zd34) (by assumption) (by assumption) (by assumption)) | (exact cO4 (a := zd6) (b := zd7) (x := zd35) (by assumption) (by assumption) (by assumption)) | omega), E98⟩
           · refine rk_cf (T rfl (congrArg Value.bool (decide_eq_false hb99))) ?_
             refine rk_skip ?_
             refine rk_seq ?_
             refine rk_seq ?_
             refine rk_reg ?_
             have H100 := (e97.blk (s92.blk (n87.ext.blk (e83.blk (e76.blk (e70.blk (e65.blk (s59.blk H55 (by omega))))))) (by omega)))
             refine lw_v (.agg #[.int .u64 (wv3 zd34), .int .u64 (wv2 zd34), .int .u64 (wv1 zd34), .int .u64 (wv0 zd34)]) (dv_loads (l := [.int .u64 (wv3 zd34), .int .u64 (wv2 zd34), .int .u64 (wv1 zd34), .int .u64 (wv0 zd34)]) agt26 sz26 (T rfl rfl) H100 rfl) ?_
             have H101 := (e97.blk (s92.blk (n87.ext.blk H89) (by omega)))
             refine lw_v (.agg #[.int .u64 (wv3 zd35), .int .u64 (wv2 zd35), .int .u64 (wv1 zd35), .int .u64 (wv0 zd35)]) (dv_loads (l := [.int .u64 (wv3 zd35), .int .u64 (wv2 zd35), .int .u64 (wv1 zd35), .int .u64 (wv0 zd35)]) agt26 sz26 (T rfl rfl) H101 rfl) ?_
             refine lw_e (oe_buildSlice (pv := [(0, .agg #[.int .u64 (wv3 zd34), .int .u64 (wv2 zd34), .int .u64 (wv1 zd34), .int .u64 (wv0 zd34)]), (1, .agg #[.int .u64 (wv3 zd35), .int .u64 (wv2 zd35), .int .u64 (wv1 zd35), .int .u64 (wv0 zd35)])]) (init := [.int .u64 0, .int .u64 0, .int .u64 0, .int .u64 0, .int .u64 0, .int .u64 0, .int .u64 0, .int .u64 0]) (l := [.int .u64 (wv3 zd34), .int .u64 (wv2 zd34), .int .u64 (wv1 zd34), .int .u64 (wv0 zd34), .int .u64 (wv3 zd35), .int .u64 (wv2 zd35), .int .u64 (wv1 zd35), .int .u64 (wv0 zd35)]) us33 sz26 rfl rfl zc26 (by kernel_rfl) ⟨rfl, (T rfl rfl), ⟨rfl, (T rfl rfl), trivial⟩⟩ rfl ?_)
             intro b102 w103 n104
             have N105 : w.heap.size ≤ b102 := n104.eq ▸ E98.size
             have H106 := (e97.blk H93)
             have : b85 < b102 := n104.eq ▸ lt_of_blk H106
             have E107 := below_ext E98 E98.size n104.ext
             refine lw_v (.int .i64 2) (dv_len (ad := some ⟨b102, 0, none⟩) (l := 2) (c := 2) us33 (T rfl rfl)) ?_
             refine lw_v (.int .i64 0) (dv_move C) ?_
             refine lw_nil ?_
             refine rk_block ?_
             refine rk_unroll ?_
             refine rk_seq ?_
             refine rk_reg ?_
             refine lw_v (.bool (decide (((0 : Int) < 2 : Prop)))) (dv_lss (a := 0) (b := 2) (T rfl rfl) (T rfl rfl)) ?_
             refine lw_nil ?_
             refine rk_seq ?_
             refine rk_ct (T rfl (rfl)) ?_
             refine rk_skip ?_
             refine rk_seq ?_
             refine rk_block ?_
             refine rk_seq ?_
             refine rk_reg ?_
             refine lw_v (.pointer (some ⟨b102, 0, none⟩)) (dv_indexAddr (a := ⟨b102, 0, none⟩) (a' := ⟨b102, 0, none⟩) (l := 2) (c := 2) (j := 0) us33 sz26 (T rfl rfl) (T rfl rfl) (by decide) (by decide) rfl) ?_
             refine lw_v (.agg #[.int .u64 (wv3 zd34), .int .u64 (wv2 zd34), .int .u64 (wv1 zd34), .int .u64 (wv0 zd34)]) (dv_loads (l := [.int .u64 (wv3 zd34), .int .u64 (wv2 zd34), .int .u64 (wv1 zd34), .int .u64 (wv0 zd34)]) agt26 sz26 (T rfl rfl) n104.blk rfl) ?_
             refine lw_e (oe_alloc ze26 ?_)
             intro b108 w109 n110
             have N111 : w.heap.size ≤ b108 := n110.eq ▸ E107.size
             have : b102 < b108 := n110.eq ▸ lt_of_blk n104.blk
             have E112 := below_ext E107 E107.size n110.ext
             refine lw_e (oe_store (v := .agg #[.int .u64 (wv3 zd34), .int .u64 (wv2 zd34), .int .u64 (wv1 zd34), .int .u64 (wv0 zd34)]) (vs := [.int .u64 (wv3 zd34), .int .u64 (wv2 zd34), .int .u64 (wv1 zd34), .int .u64 (wv0 zd34)]) (l := [.int .u64 (wv3 zd34), .int .u64 (wv2 zd34), .int .u64 (wv1 zd34), .int .u64 (wv0 zd34)]) (T rfl rfl) (T rfl rfl) sz26 rfl rfl rfl n110.blk rfl ?_)
             intro w113 s114 H115
             have E116 := below_st E112 N111 s114
             refine lw_nil ?_
             refine rk_seq ?_
             refine rk_reg ?_
             refine lw_v (.int .i64 (sgnI (zd6 - zd7))) (dv_move (T rfl rfl)) ?_
             refine lw_v (.bool (decide ((sgnI (zd6 - zd7)) ≤ 0))) (dv_leq (a := sgnI (zd6 - zd7)) (b := 0) (T rfl rfl) C) ?_
             refine lw_v (.bool (decide ((sgnI (zd6 - zd7)) ≤ 0))) (dv_move (T rfl rfl)) ?_
             by_cases hb117 : (sgnI (zd6 - zd7)) ≤ 0
             · have H118 := (s114.blk (n110.ext.blk (n104.ext.blk (e97.blk (s92.blk (n87.ext.blk (e83.blk H80)) (by omega))))) (by omega))
               refine lw_vy (.agg #[.int .u64 (wv3 zd7), .int .u64 (wv2 zd7), .int .u64 (wv1 zd7), .int .u64 (wv0 zd7)]) (d := 71) rfl rfl (congrArg Value.bool (decide_eq_true hb117)) (dv_loads (l := [.int .u64 (wv3 zd7), .int .u64 (wv2 zd7), .int .u64 (wv1 zd7), .int .u64 (wv0 zd7)]) agt26 sz26 (T rfl rfl) H118 rfl) ?_
               refine lw_vy (.agg #[.int .u64 (wv3 zd34), .int .u64 (wv2 zd34), .int .u64 (wv1 zd34), .int .u64 (wv0 zd34)]) (d := 71) rfl rfl (congrArg Value.bool (decide_eq_true hb117)) (dv_loads (l := [.int .u64 (wv3 zd34), .int .u64 (wv2 zd34), .int .u64 (wv1 zd34), .int .u64 (wv0 zd34)]) agt26 sz26 (T rfl rfl) H115 rfl) ?_
               refine lw_ey (d := 71) rfl rfl (congrArg Value.bool (decide_eq_true hb117)) (oe_callf (vs := [.agg #[.int .u64 (wv3 zd7), .int .u64 (wv2 zd7), .int .u64 (wv1 zd7), .int .u64 (wv0 zd7)], .agg #[.int .u64 (wv3 zd34), .int .u64 (wv2 zd34), .int .u64 (wv1 zd34), .int .u64 (wv0 zd34)]]) co14 (ar2 (T rfl rfl) (T rfl rfl)) (iWideCmp_ok (x := zd7) (y := zd34) hz9 hz36 ) ?_)
               rintro _ w119 ⟨rfl, e120⟩
               have E121 := below_ext E116 E116.size e120
               have := sgnI_rg (zd7 - zd34)
               refine lw_vy (.bool (decide ((sgnI (zd7 - zd34)) ≤ 0))) (d := 71) rfl rfl (congrArg Value.bool (decide_eq_true hb117)) (dv_leq (a := sgnI (zd7 - zd34)) (b := 0) (T rfl rfl) C) ?_
               refine lw_v (.bool (decide ((sgnI (zd7 - zd34)) ≤ 0))) (dv_pick_t (T rfl (congrArg Value.bool (decide_eq_true hb117))) (T rfl rfl)) ?_
               refine lw_v (.bool (decide ((sgnI (zd7 - zd34)) ≤ 0))) (dv_move (T rfl rfl)) ?_
               by_cases hb122 : (sgnI (zd7 - zd34)) ≤ 0
               · have H123 := (e120.blk (s114.blk (n110.ext.blk (n104.ext.blk (e97.blk (s92.blk (n87.ext.blk (e83.blk H79)) (by omega))))) (by omega)))
                 refine lw_vy (.agg #[.int .u64 (wv3 zd6), .int .u64 (wv2 zd6), .int .u64 (wv1 zd6), .int .u64 (wv0 zd6)]) (d := 77) rfl rfl (congrArg Value.bool (decide_eq_true hb122)) (dv_loads (l := [.int .u64 (wv3 zd6), .int .u64 (wv2 zd6), .int .u64 (wv1 zd6), .int .u64 (wv0 zd6)]) agt26 sz26 (T rfl rfl) H123 rfl) ?_
                 have H124 := (e120.blk H115)
                 refine lw_vy (.agg #[.int .u64 (wv3 zd34), .int .u64 (wv2 zd34), .int .u64 (wv1 zd34), .int .u64 (wv0 zd34)]) (d := 77) rfl rfl (congrArg Value.bool (decide_eq_true hb122)) (dv_loads (l := [.int .u64 (wv3 zd34), .int .u64 (wv2 zd34), .int .u64 (wv1 zd34), .int .u64 (wv0 zd34)]) agt26 sz26 (T rfl rfl) H124 rfl) ?_
                 refine lw_ey (d := 77) rfl rfl (congrArg Value.bool (decide_eq_true hb122)) (oe_callf (vs := [.agg #[.int .u64 (wv3 zd6), .int .u64 (wv2 zd6), .int .u64 (wv1 zd6), .int .u64 (wv0 zd6)], .agg #[.int .u64 (wv3 zd34), .int .u64 (wv2 zd34), .int .u64 (wv1 zd34), .int .u64 (wv0 zd34)]]) co14 (ar2 (T rfl rfl) (T rfl rfl)) (iWideCmp_ok (x := zd6) (y := zd34) hz8 hz36 ) ?_)
                 rintro _ w125 ⟨rfl, e126⟩
                 have E127 := below_ext E121 E121.size e126
                 have := sgnI_rg (zd6 - zd34)
                 refine lw_vy (.bool (decide (0 < (sgnI (zd6 - zd34))))) (d := 77) rfl rfl (congrArg Value.bool (decide_eq_true hb122)) (dv_gtr (a := sgnI (zd6 - zd34)) (b := 0) (T rfl rfl) C) ?_
                 refine lw_v (.bool (decide (0 < (sgnI (zd6 - zd34))))) (dv_pick_t (T rfl (congrArg Value.bool (decide_eq_true hb122))) (T rfl rfl)) ?_
                 refine lw_nil ?_
                 by_cases hb128 : 0 < (sgnI (zd6 - zd34))
                 · refine rk_ct (T rfl (congrArg Value.bool (decide_eq_true hb128))) ?_
                   refine rk_seq ?_
                   refine rk_reg ?_
                   refine lw_v (.bool false) (dv_assign C) ?_
                   refine lw_nil ?_
                   refine rk_ret Try.func3 (v := .bool false) (res1 Try.results3 (rv_tmp rfl rfl)) ⟨_, rfl, ?_⟩
                   skip
                   exact ⟨(by exfalso; first | (exact cB (by assumption)) | (exact absurd rfl (by assumption)) | (exact cO1 (by assumption)) | (exact cO2w hz8 hz9 (by assumption)) | (exact cO3 (by assumption) (by assumption)) | (exact cO4 (a := zd6) (b := zd7) (x := zd34) (by assumption) (by assumption) (by assumption)) | (exact cO4 (a := zd6) (b := zd7) (x := zd35) (by assumption) (by assumption) (by assumption)) | omega), E127⟩
                 · refine rk_cf (T rfl (congrArg Value.bool (decide_eq_false hb128))) ?_
                   refine rk_skip ?_
                   refine rk_inBlock ?_
                   refine rk_reg ?_
                   refine lw_v (.int .i64 1) (dv_add (a := 0) (b := 1) (z := 1) (T rfl rfl) C (by decide)) ?_
                   refine lw_v (.int .i64 1) (dv_move (T rfl rfl)) ?_
                   refine lw_nil ?_
                   refine rk_inLoop ?_
                   refine rk_seq ?_
                   refine rk_reg ?_
                   refine lw_v (.bool (decide (((1 : Int) < 2 : Prop)))) (dv_lss (a := 1) (b := 2) (T rfl rfl) (T rfl rfl)) ?_
                   refine lw_nil ?_
                   refine rk_seq ?_
                   refine rk_ct (T rfl (rfl)) ?_
                   refine rk_skip ?_
                   refine rk_seq ?_
                   refine rk_block ?_
                   refine rk_seq ?_
                   refine rk_reg ?_
                   refine lw_v (.pointer (some ⟨b102, 4, none⟩)) (dv_indexAddr (a := ⟨b102, 0, none⟩) (a' := ⟨b102, 4, none⟩) (l := 2) (c := 2) (j := 1) us33 sz26 (T rfl rfl) (T rfl rfl) (by decide) (by decide) rfl) ?_
                   have H129 := (e126.blk (e120.blk (s114.blk (n110.ext.blk n104.blk) (by omega))))
                   refine lw_v (.agg #[.int .u64 (wv3 zd35), .int .u64 (wv2 zd35), .int .u64 (wv1 zd35), .int .u64 (wv0 zd35)]) (dv_loads (l := [.int .u64 (wv3 zd35), .int .u64 (wv2 zd35), .int .u64 (wv1 zd35), .int .u64 (wv0 zd35)]) agt26 sz26 (T rfl rfl) H129 rfl) ?_
                   refine lw_e (oe_alloc ze26 ?_)
                   intro b130 w131 n132
                   have N133 : w.heap.size ≤ b130 := n132.eq ▸ E127.size
                   have H134 := (e126.blk H124)
                   have : b108 < b130 := n132.eq ▸ lt_of_blk H134
                   have E135 := below_ext E127 E127.size n132.ext
                   refine lw_e (oe_store (v := .agg #[.int .u64 (wv3 zd35), .int .u64 (wv2 zd35), .int .u64 (wv1 zd35), .int .u64 (wv0 zd35)]) (vs := [.int .u64 (wv3 zd35), .int .u64 (wv2 zd35), .int .u64 (wv1 zd35), .int .u64 (wv0 zd35)]) (l := [.int .u64 (wv3 zd35), .int .u64 (wv2 zd35), .int .u64 (wv1 zd35), .int .u64 (wv0 zd35)]) (T rfl rfl) (T rfl rfl) sz26 rfl rfl rfl n132.blk rfl ?_)
                   intro w136 s137 H138
                   have E139 := below_st E135 N133 s137
                   refine lw_nil ?_
                   refine rk_seq ?_
                   refine rk_reg ?_
                   refine lw_v (.int .i64 (sgnI (zd6 - zd7))) (dv_move (T rfl rfl)) ?_
                   refine lw_v (.bool (decide ((sgnI (zd6 - zd7)) ≤ 0))) (dv_leq (a := sgnI (zd6 - zd7)) (b := 0) (T rfl rfl) C) ?_
                   refine lw_v (.bool (decide ((sgnI (zd6 - zd7)) ≤ 0))) (dv_move (T rfl rfl)) ?_
                   have H140 := (s137.blk (n132.ext.blk (e126.blk (e120.blk H118))) (by omega))
                   refine lw_vy (.agg #[.int .u64 (wv3 zd7), .int .u64 (wv2 zd7), .int .u64 (wv1 zd7), .int .u64 (wv0 zd7)]) (d := 71) rfl rfl (congrArg Value.bool (decide_eq_true hb117)) (dv_loads (l := [.int .u64 (wv3 zd7), .int .u64 (wv2 zd7), .int .u64 (wv1 zd7), .int .u64 (wv0 zd7)]) agt26 sz26 (T rfl rfl) H140 rfl) ?_
                   refine lw_vy (.agg #[.int .u64 (wv3 zd35), .int .u64 (wv2 zd35), .int .u64 (wv1 zd35), .int .u64 (wv0 zd35)]) (d := 71) rfl rfl (congrArg Value.bool (decide_eq_true hb117)) (dv_loads (l := [.int .u64 (wv3 zd35), .int .u64 (wv2 zd35), .int .u64 (wv1 zd35), .int .u64 (wv0 zd35)]) agt26 sz26 (T rfl rfl) H138 rfl) ?_
                   refine lw_ey (d := 71) rfl rfl (congrArg Value.bool (decide_eq_true hb117)) (oe_callf (vs := [.agg #[.int .u64 (wv3 zd7), .int .u64 (wv2 zd7), .int .u64 (wv1 zd7), .int .u64 (wv0 zd7)], .agg #[.int .u64 (wv3 zd35), .int .u64 (wv2 zd35), .int .u64 (wv1 zd35), .int .u64 (wv0 zd35)]]) co14 (ar2 (T rfl rfl) (T rfl rfl)) (iWideCmp_ok (x := zd7) (y := zd35) hz9 hz37 ) ?_)
                   rintro _ w141 ⟨rfl, e142⟩
                   have E143 := below_ext E139 E139.size e142
                   have := sgnI_rg (zd7 - zd35)
                   refine lw_vy (.bool (decide ((sgnI (zd7 - zd35)) ≤ 0))) (d := 71) rfl rfl (congrArg Value.bool (decide_eq_true hb117)) (dv_leq (a := sgnI (zd7 - zd35)) (b := 0) (T rfl rfl) C) ?_
                   refine lw_v (.bool (decide ((sgnI (zd7 - zd35)) ≤ 0))) (dv_pick_t (T rfl (congrArg Value.bool (decide_eq_true hb117))) (T rfl rfl)) ?_
                   refine lw_v (.bool (decide ((sgnI (zd7 - zd35)) ≤ 0))) (dv_move (T rfl rfl)) ?_
                   by_cases hb144 : (sgnI (zd7 - zd35)) ≤ 0
                   · have H145 := (e142.blk (s137.blk (n132.ext.blk (e126.blk H123)) (by omega)))
                     refine lw_vy (.agg #[.int .u64 (wv3 zd6), .int .u64 (wv2 zd6), .int .u64 (wv1 zd6), .int .u64 (wv0 zd6)]) (d := 77) rfl rfl (congrArg Value.bool (decide_eq_true hb144)) (dv_loads (l := [.int .u64 (wv3 zd6), .int .u64 (wv2 zd6), .int .u64 (wv1 zd6), .int .u64 (wv0 zd6)]) agt26 sz26 (T rfl rfl) H145 rfl) ?_
                     have H146 := (e142.blk H138)
                     refine lw_vy (.agg #[.int .u64 (wv3 zd35), .int .u64 (wv2 zd35), .int .u64 (wv1 zd35), .int .u64 (wv0 zd35)]) (d := 77) rfl rfl (congrArg Value.bool (decide_eq_true hb144)) (dv_loads (l := [.int .u64 (wv3 zd35), .int .u64 (wv2 zd35), .int .u64 (wv1 zd35), .int .u64 (wv0 zd35)]) agt26 sz26 (T rfl rfl) H146 rfl) ?_
                     refine lw_ey (d := 77) rfl rfl (congrArg Value.bool (decide_eq_true hb144)) (oe_callf (vs := [.agg #[.int .u64 (wv3 zd6), .int .u64 (wv2 zd6), .int .u64 (wv1 zd6), .int .u64 (wv0 zd6)], .agg #[.int .u64 (wv3 zd35), .int .u64 (wv2 zd35), .int .u64 (wv1 zd35), .int .u64 (wv0 zd35)]]) co14 (ar2 (T rfl rfl) (T rfl rfl)) (iWideCmp_ok (x := zd6) (y := zd35) hz8 hz37 ) ?_)
                     rintro _ w147 ⟨rfl, e148⟩
                     have E149 := below_ext E143 E143.size e148
                     have := sgnI_rg (zd6 - zd35)
                     refine lw_vy (.bool (decide (0 < (sgnI (zd6 - zd35))))) (d := 77) rfl rfl (congrArg Value.bool (decide_eq_true hb144)) (dv_gtr (a := sgnI (zd6 - zd35)) (b := 0) (T rfl rfl) C) ?_
                     refine lw_v (.bool (decide (0 < (sgnI (zd6 - zd35))))) (dv_pick_t (T rfl (congrArg Value.bool (decide_eq_true hb144))) (T rfl rfl)) ?_
                     refine lw_nil ?_
                     by_cases hb150 : 0 < (sgnI (zd6 - zd35))
                     · refine rk_ct (T rfl (congrArg Value.bool (decide_eq_true hb150))) ?_
                       refine rk_seq ?_
                       refine rk_reg ?_
                       refine lw_v (.bool false) (dv_assign C) ?_
                       refine lw_nil ?_
                       refine rk_ret Try.func3 (v := .bool false) (res1 Try.results3 (rv_tmp rfl rfl)) ⟨_, rfl, ?_⟩
                       skip
                       exact ⟨(by exfalso; first | (exact cB (by assumption)) | (exact absurd rfl (by assumption)) | (exact cO1 (by assumption)) | (exact cO2w hz8 hz9 (by assumption)) | (exact cO3 (by assumption) (by assumption)) | (exact cO4 (a := zd6) (b := zd7) (x := zd34) (by assumption) (by assumption) (by assumption)) | (exact cO4 (a := zd6) (b := zd7) (x := zd35) (by assumption) (by assumption) (by assumption)) | omega), E149⟩
                     · refine rk_cf (T rfl (congrArg Value.bool (decide_eq_false hb150))) ?_
                       refine rk_skip ?_
                       refine rk_inBlock ?_
                       refine rk_reg ?_
                       refine lw_v (.int .i64 2) (dv_add (a := 1) (b := 1) (z := 2) (T rfl rfl) C (by decide)) ?_
                       refine lw_v (.int .i64 2) (dv_move (T rfl rfl)) ?_
                       refine lw_nil ?_
                       refine rk_inLoop ?_
                       refine rk_seq ?_
                       refine rk_reg ?_
                       refine lw_v (.bool (decide (((2 : Int) < 2 : Prop)))) (dv_lss (a := 2) (b := 2) (T rfl rfl) (T rfl rfl)) ?_
                       refine lw_nil ?_
                       refine rk_seq ?_
                       refine rk_cf (T rfl (rfl)) ?_
                       refine rk_exit rfl ?_
                       refine rk_seq ?_
                       refine rk_reg ?_
                       refine lw_v (.bool true) (dv_assign C) ?_
                       refine lw_nil ?_
                       refine rk_ret Try.func3 (v := .bool true) (res1 Try.results3 (rv_tmp rfl rfl)) ⟨_, rfl, ?_⟩
                       exact ⟨rfl, E149⟩
                   · refine lw_no (d := 77) rfl rfl (congrArg Value.bool (decide_eq_false hb144)) ?_
                     refine lw_no (d := 77) rfl rfl (congrArg Value.bool (decide_eq_false hb144)) ?_
                     refine lw_no (d := 77) rfl rfl (congrArg Value.bool (decide_eq_false hb144)) ?_
                     refine lw_no (d := 77) rfl rfl (congrArg Value.bool (decide_eq_false hb144)) ?_
                     refine lw_v (.bool false) (dv_pick_f (T rfl (congrArg Value.bool (decide_eq_false hb144))) C) ?_
                     refine lw_nil ?_
                     refine rk_cf (T rfl rfl) ?_
                     refine rk_skip ?_
                     refine rk_inBlock ?_
                     refine rk_reg ?_
                     refine lw_v (.int .i64 2) (dv_add (a := 1) (b := 1) (z := 2) (T rfl rfl) C (by decide)) ?_
                     refine lw_v (.int .i64 2) (dv_move (T rfl rfl)) ?_
                     refine lw_nil ?_
                     refine rk_inLoop ?_
                     refine rk_seq ?_
                     refine rk_reg ?_
                     refine lw_v (.bool (decide (((2 : Int) < 2 : Prop)))) (dv_lss (a := 2) (b := 2) (T rfl rfl) (T rfl rfl)) ?_
                     refine lw_nil ?_
                     refine rk_seq ?_
                     refine rk_cf (T rfl (rfl)) ?_
                     refine rk_exit rfl ?_
                     refine rk_seq ?_
                     refine rk_reg ?_
                     refine lw_v (.bool true) (dv_assign C) ?_
                     refine lw_nil ?_
                     refine rk_ret Try.func3 (v := .bool true) (res1 Try.results3 (rv_tmp rfl rfl)) ⟨_, rfl, ?_⟩
                     exact ⟨rfl, E143⟩
               · refine lw_no (d := 77) rfl rfl (congrArg Value.bool (decide_eq_false hb122)) ?_
                 refine lw_no (d := 77) rfl rfl (congrArg Value.bool (decide_eq_false hb122)) ?_
                 refine lw_no (d := 77) rfl rfl (congrArg Value.bool (decide_eq_false hb122)) ?_
                 refine lw_no (d := 77) rfl rfl (congrArg Value.bool (decide_eq_false hb122)) ?_
                 refine lw_v (.bool false) (dv_pick_f (T rfl (congrArg Value.bool (decide_eq_false hb122))) C) ?_
                 refine lw_nil ?_
                 refine rk_cf (T rfl rfl) ?_
                 refine rk_skip ?_
                 refine rk_inBlock ?_
                 refine rk_reg ?_
                 refine lw_v (.int .i64 1) (dv_add (a := 0) (b := 1) (z := 1) (T rfl rfl) C (by decide)) ?_
                 refine lw_v (.int .i64 1) (dv_move (T rfl rfl)) ?_
                 refine lw_nil ?_
                 refine rk_inLoop ?_
                 refine rk_seq ?_
                 refine rk_reg ?_
                 refine lw_v (.bool (decide (((1 : Int) < 2 : Prop)))) (dv_lss (a := 1) (b := 2) (T rfl rfl) (T rfl rfl)) ?_
                 refine lw_nil ?_
                 refine rk_seq ?_
                 refine rk_ct (T rfl (rfl)) ?_
                 refine rk_skip ?_
                 refine rk_seq ?_
                 refine rk_block ?_
                 refine rk_seq ?_
                 refine rk_reg ?_
                 refine lw_v (.pointer (some ⟨b102, 4, none⟩)) (dv_indexAddr (a := ⟨b102, 0, none⟩) (a' := ⟨b102, 4, none⟩) (l := 2) (c := 2) (j := 1) us33 sz26 (T rfl rfl) (T rfl rfl) (by decide) (by decide) rfl) ?_
                 have H151 := (e120.blk (s114.blk (n110.ext.blk n104.blk) (by omega)))
                 refine lw_v (.agg #[.int .u64 (wv3 zd35), .int .u64 (wv2 zd35), .int .u64 (wv1 zd35), .int .u64 (wv0 zd35)]) (dv_loads (l := [.int .u64 (wv3 zd35), .int .u64 (wv2 zd35), .int .u64 (wv1 zd35), .int .u64 (wv0 zd35)]) agt26 sz26 (T rfl rfl) H151 rfl) ?_
                 refine lw_e (oe_alloc ze26 ?_)
                 intro b152 w153 n154
                 have N155 : w.heap.size ≤ b152 := n154.eq ▸ E121.size
                 have H156 := (e120.blk H115)
                 have : b108 < b152 := n154.eq ▸ lt_of_blk H156
                 have E157 := below_ext E121 E121.size n154.ext
                 refine lw_e (oe_store (v := .agg #[.int .u64 (wv3 zd35), .int .u64 (wv2 zd35), .int .u64 (wv1 zd35), .int .u64 (wv0 zd35)]) (vs := [.int .u64 (wv3 zd35), .int .u64 (wv2 zd35), .int .u64 (wv1 zd35), .int .u64 (wv0 zd35)]) (l := [.int .u64 (wv3 zd35), .int .u64 (wv2 zd35), .int .u64 (wv1 zd35), .int .u64 (wv0 zd35)]) (T rfl rfl) (T rfl rfl) sz26 rfl rfl rfl n154.blk rfl ?_)
                 intro w158 s159 H160
                 have E161 := below_st E157 N155 s159
                 refine lw_nil ?_
                 refine rk_seq ?_
                 refine rk_reg ?_
                 refine lw_v (.int .i64 (sgnI (zd6 - zd7))) (dv_move (T rfl rfl)) ?_
                 refine lw_v (.bool (decide ((sgnI (zd6 - zd7)) ≤ 0))) (dv_leq (a := sgnI (zd6 - zd7)) (b := 0) (T rfl rfl) C) ?_
                 refine lw_v (.bool (decide ((sgnI (zd6 - zd7)) ≤ 0))) (dv_move (T rfl rfl)) ?_
                 have H162 := (s159.blk (n154.ext.blk (e120.blk H118)) (by omega))
                 refine lw_vy (.agg #[.int .u64 (wv3 zd7), .int .u64 (wv2 zd7), .int .u64 (wv1 zd7), .int .u64 (wv0 zd7)]) (d := 71) rfl rfl (congrArg Value.bool (decide_eq_true hb117)) (dv_loads (l := [.int .u64 (wv3 zd7), .int .u64 (wv2 zd7), .int .u64 (wv1 zd7), .int .u64 (wv0 zd7)]) agt26 sz26 (T rfl rfl) H162 rfl) ?_
                 refine lw_vy (.agg #[.int .u64 (wv3 zd35), .int .u64 (wv2 zd35), .int .u64 (wv1 zd35), .int .u64 (wv0 zd35)]) (d := 71) rfl rfl (congrArg Value.bool (decide_eq_true hb117)) (dv_loads (l := [.int .u64 (wv3 zd35), .int .u64 (wv2 zd35), .int .u64 (wv1 zd35), .int .u64 (wv0 zd35)]) agt26 sz26 (T rfl rfl) H160 rfl) ?_
                 refine lw_ey (d := 71) rfl rfl (congrArg Value.bool (decide_eq_true hb117)) (oe_callf (vs := [.agg #[.int .u64 (wv3 zd7), .int .u64 (wv2 zd7), .int .u64 (wv1 zd7), .int .u64 (wv0 zd7)], .agg #[.int .u64 (wv3 zd35), .int .u64 (wv2 zd35), .int .u64 (wv1 zd35), .int .u64 (wv0 zd35)]]) co14 (ar2 (T rfl rfl) (T rfl rfl)) (iWideCmp_ok (x := zd7) (y := zd35) hz9 hz37 ) ?_)
                 rintro _ w163 ⟨rfl, e164⟩
                 have E165 := below_ext E161 E161.size e164
                 have := sgnI_rg (zd7 - zd35)
                 refine lw_vy (.bool (decide ((sgnI (zd7 - zd35)) ≤ 0))) (d := 71) rfl rfl (congrArg Value.bool (decide_eq_true hb117)) (dv_leq (a := sgnI (zd7 - zd35)) (b := 0) (T rfl rfl) C) ?_
                 refine lw_v (.bool (decide ((sgnI (zd7 - zd35)) ≤ 0))) (dv_pick_t (T rfl (congrArg Value.bool (decide_eq_true hb117))) (T rfl rfl)) ?_
                 refine lw_v (.bool (decide ((sgnI (zd7 - zd35)) ≤ 0))) (dv_move (T rfl rfl)) ?_
                 by_cases hb166 : (sgnI (zd7 - zd35)) ≤ 0
                 · have H167 := (e164.blk (s159.blk (n154.ext.blk (e120.blk (s114.blk (n110.ext.blk (n104.ext.blk (e97.blk (s92.blk (n87.ext.blk (e83.blk H79)) (by omega))))) (by omega)))) (by omega)))
                   refine lw_vy (.agg #[.int .u64 (wv3 zd6), .int .u64 (wv2 zd6), .int .u64 (wv1 zd6), .int .u64 (wv0 zd6)]) (d := 77) rfl rfl (congrArg Value.bool (decide_eq_true hb166)) (dv_loads (l := [.int .u64 (wv3 zd6), .int .u64 (wv2 zd6), .int .u64 (wv1 zd6), .int .u64 (wv0 zd6)]) agt26 sz26 (T rfl rfl) H167 rfl) ?_
                   have H168 := (e164.blk H160)
                   refine lw_vy (.agg #[.int .u64 (wv3 zd35), .int .u64 (wv2 zd35), .int .u64 (wv1 zd35), .int .u64 (wv0 zd35)]) (d := 77) rfl rfl (congrArg Value.bool (decide_eq_true hb166)) (dv_loads (l := [.int .u64 (wv3 zd35), .int .u64 (wv2 zd35), .int .u64 (wv1 zd35), .int .u64 (wv0 zd35)]) agt26 sz26 (T rfl rfl) H168 rfl) ?_
                   refine lw_ey (d := 77) rfl rfl (congrArg Value.bool (decide_eq_true hb166)) (oe_callf (vs := [.agg #[.int .u64 (wv3 zd6), .int .u64 (wv2 zd6), .int .u64 (wv1 zd6), .int .u64 (wv0 zd6)], .agg #[.int .u64 (wv3 zd35), .int .u64 (wv2 zd35), .int .u64 (wv1 zd35), .int .u64 (wv0 zd35)]]) co14 (ar2 (T rfl rfl) (T rfl rfl)) (iWideCmp_ok (x := zd6) (y := zd35) hz8 hz37 ) ?_)
                   rintro _ w169 ⟨rfl, e170⟩
                   have E171 := below_ext E165 E165.size e170
                   have := sgnI_rg (zd6 - zd35)
                   refine lw_vy (.bool (decide (0 < (sgnI (zd6 - zd35))))) (d := 77) rfl rfl (congrArg Value.bool (decide_eq_true hb166)) (dv_gtr (a := sgnI (zd6 - zd35)) (b := 0) (T rfl rfl) C) ?_
                   refine lw_v (.bool (decide (0 < (sgnI (zd6 - zd35))))) (dv_pick_t (T rfl (congrArg Value.bool (decide_eq_true hb166))) (T rfl rfl)) ?_
                   refine lw_nil ?_
                   by_cases hb172 : 0 < (sgnI (zd6 - zd35))
                   · refine rk_ct (T rfl (congrArg Value.bool (decide_eq_true hb172))) ?_
                     refine rk_seq ?_
                     refine rk_reg ?_
                     refine lw_v (.bool false) (dv_assign C) ?_
                     refine lw_nil ?_
                     refine rk_ret Try.func3 (v := .bool false) (res1 Try.results3 (rv_tmp rfl rfl)) ⟨_, rfl, ?_⟩
                     skip
                     exact ⟨(by exfalso; first | (exact cB (by assumption)) | (exact absurd rfl (by assumption)) | (exact cO1 (by assumption)) | (exact cO2w hz8 hz9 (by assumption)) | (exact cO3 (by assumption) (by assumption)) | (exact cO4 (a := zd6) (b := zd7) (x := zd34) (by assumption) (by assumption) (by assumption)) | (exact cO4 (a := zd6) (b := zd7) (x := zd35) (by assumption) (by assumption) (by assumption)) | omega), E171⟩
                   · refine rk_cf (T rfl (congrArg Value.bool (decide_eq_false hb172))) ?_
                     refine rk_skip ?_
                     refine rk_inBlock ?_
                     refine rk_reg ?_
                     refine lw_v (.int .i64 2) (dv_add (a := 1) (b := 1) (z := 2) (T rfl rfl) C (by decide)) ?_
                     refine lw_v (.int .i64 2) (dv_move (T rfl rfl)) ?_
                     refine lw_nil ?_
                     refine rk_inLoop ?_
                     refine rk_seq ?_
                     refine rk_reg ?_
                     refine lw_v (.bool (decide (((2 : Int) < 2 : Prop)))) (dv_lss (a := 2) (b := 2) (T rfl rfl) (T rfl rfl)) ?_
                     refine lw_nil ?_
                     refine rk_seq ?_
                     refine rk_cf (T rfl (rfl)) ?_
                     refine rk_exit rfl ?_
                     refine rk_seq ?_
                     refine rk_reg ?_
                     refine lw_v (.bool true) (dv_assign C) ?_
                     refine lw_nil ?_
                     refine rk_ret Try.func3 (v := .bool true) (res1 Try.results3 (rv_tmp rfl rfl)) ⟨_, rfl, ?_⟩
                     exact ⟨rfl, E171⟩
                 · refine lw_no (d := 77) rfl rfl (congrArg Value.bool (decide_eq_false hb166)) ?_
                   refine lw_no (d := 77) rfl rfl (congrArg Value.bool (decide_eq_false hb166)) ?_
                   refine lw_no (d := 77) rfl rfl (congrArg Value.bool (decide_eq_false hb166)) ?_
                   refine lw_no (d := 77) rfl rfl (congrArg Value.bool (decide_eq_false hb166)) ?_
                   refine lw_v (.bool false) (dv_pick_f (T rfl (congrArg Value.bool (decide_eq_false hb166))) C) ?_
                   refine lw_nil ?_
                   refine rk_cf (T rfl rfl) ?_
                   refine rk_skip ?_
                   refine rk_inBlock ?_
                   refine rk_reg ?_
                   refine lw_v (.int .i64 2) (dv_add (a := 1) (b := 1) (z := 2) (T rfl rfl) C (by decide)) ?_
                   refine lw_v (.int .i64 2) (dv_move (T rfl rfl)) ?_
                   refine lw_nil ?_
                   refine rk_inLoop ?_
                   refine rk_seq ?_
                   refine rk_reg ?_
                   refine lw_v (.bool (decide (((2 : Int) < 2 : Prop)))) (dv_lss (a := 2) (b := 2) (T rfl rfl) (T rfl rfl)) ?_
                   refine lw_nil ?_
                   refine rk_seq ?_
                   refine rk_cf (T rfl (rfl)) ?_
                   refine rk_exit rfl ?_
                   refine rk_seq ?_
                   refine rk_reg ?_
                   refine lw_v (.bool true) (dv_assign C) ?_
                   refine lw_nil ?_
                   refine rk_ret Try.func3 (v := .bool true) (res1 Try.results3 (rv_tmp rfl rfl)) ⟨_, rfl, ?_⟩
                   exact ⟨rfl, E165⟩
             · refine lw_no (d := 71) rfl rfl (congrArg Value.bool (decide_eq_false hb117)) ?_
               refine lw_no (d := 71) rfl rfl (congrArg Value.bool (decide_eq_false hb117)) ?_
               refine lw_no (d := 71) rfl rfl (congrArg Value.bool (decide_eq_false hb117)) ?_
               refine lw_no (d := 71) rfl rfl (congrArg Value.bool (decide_eq_false hb117)) ?_
               refine lw_v (.bool false) (dv_pick_f (T rfl (congrArg Value.bool (decide_eq_false hb117))) C) ?_
               refine lw_v (.bool false) (dv_move (T rfl rfl)) ?_
               refine lw_no (d := 77) rfl rfl (rfl) ?_
               refine lw_no (d := 77) rfl rfl (rfl) ?_
               refine lw_no (d := 77) rfl rfl (rfl) ?_
               refine lw_no (d := 77) rfl rfl (rfl) ?_
               refine lw_v (.bool false) (dv_pick_f (T rfl rfl) C) ?_
               refine lw_nil ?_
               refine rk_cf (T rfl rfl) ?_
               refine rk_skip ?_
               refine rk_inBlock ?_
               refine rk_reg ?_
               refine lw_v (.int .i64 1) (dv_add (a := 0) (b := 1) (z := 1) (T rfl rfl) C (by decide)) ?_
               refine lw_v (.int .i64 1) (dv_move (T rfl rfl)) ?_
               refine lw_nil ?_
               refine rk_inLoop ?_
               refine rk_seq ?_
               refine rk_reg ?_
               refine lw_v (.bool (decide (((1 : Int) < 2 : Prop)))) (dv_lss (a := 1) (b := 2) (T rfl rfl) (T rfl rfl)) ?_
               refine lw_nil ?_
               refine rk_seq ?_
               refine rk_ct (T rfl (rfl)) ?_
               refine rk_skip ?_
               refine rk_seq ?_
               refine rk_block ?_
               refine rk_seq ?_
               refine rk_reg ?_
               refine lw_v (.pointer (some ⟨b102, 4, none⟩)) (dv_indexAddr (a := ⟨b102, 0, none⟩) (a' := ⟨b102, 4, none⟩) (l := 2) (c := 2) (j := 1) us33 sz26 (T rfl rfl) (T rfl rfl) (by decide) (by decide) rfl) ?_
               have H173 := (s114.blk (n110.ext.blk n104.blk) (by omega))
               refine lw_v (.agg #[.int .u64 (wv3 zd35), .int .u64 (wv2 zd35), .int .u64 (wv1 zd35), .int .u64 (wv0 zd35)]) (dv_loads (l := [.int .u64 (wv3 zd35), .int .u64 (wv2 zd35), .int .u64 (wv1 zd35), .int .u64 (wv0 zd35)]) agt26 sz26 (T rfl rfl) H173 rfl) ?_
               refine lw_e (oe_alloc ze26 ?_)
               intro b174 w175 n176
               have N177 : w.heap.size ≤ b174 := n176.eq ▸ E116.size
               have : b108 < b174 := n176.eq ▸ lt_of_blk H115
               have E178 := below_ext E116 E116.size n176.ext
               refine lw_e (oe_store (v := .agg #[.int .u64 (wv3 zd35), .int .u64 (wv2 zd35), .int .u64 (wv1 zd35), .int .u64 (wv0 zd35)]) (vs := [.int .u64 (wv3 zd35), .int .u64 (wv2 zd35), .int .u64 (wv1 zd35), .int .u64 (wv0 zd35)]) (l := [.int .u64 (wv3 zd35), .int .u64 (wv2 zd35), .int .u64 (wv1 zd35), .int .u64 (wv0 zd35)]) (T rfl rfl) (T rfl rfl) sz26 rfl rfl rfl n176.blk rfl ?_)
               intro w179 s180 H181
               have E182 := below_st E178 N177 s180
               refine lw_nil ?_
               refine rk_seq ?_
               refine rk_reg ?_
               refine lw_v (.int .i64 (sgnI (zd6 - zd7))) (dv_move (T rfl rfl)) ?_
               refine lw_v (.bool (decide ((sgnI (zd6 - zd7)) ≤ 0))) (dv_leq (a := sgnI (zd6 - zd7)) (b := 0) (T rfl rfl) C) ?_
               refine lw_v (.bool (decide ((sgnI (zd6 - zd7)) ≤ 0))) (dv_move (T rfl rfl)) ?_
               refine lw_no (d := 71) rfl rfl (congrArg Value.bool (decide_eq_false hb117)) ?_
               refine lw_no (d := 71) rfl rfl (congrArg Value.bool (decide_eq_false hb117)) ?_
               refine lw_no (d := 71) rfl rfl (congrArg Value.bool (decide_eq_false hb117)) ?_
               refine lw_no (d := 71) rfl rfl (congrArg Value.bool (decide_eq_false hb117)) ?_
               refine lw_v (.bool false) (dv_pick_f (T rfl (congrArg Value.bool (decide_eq_false hb117))) C) ?_
               refine lw_v (.bool false) (dv_move (T rfl rfl)) ?_
               refine lw_no (d := 77) rfl rfl (rfl) ?_
               refine lw_no (d := 77) rfl rfl (rfl) ?_
               refine lw_no (d := 77) rfl rfl (rfl) ?_
               refine lw_no (d := 77) rfl rfl (rfl) ?_
               refine lw_v (.bool false) (dv_pick_f (T rfl rfl) C) ?_
               refine lw_nil ?_
               refine rk_cf (T rfl rfl) ?_
               refine rk_skip ?_
               refine rk_inBlock ?_
               refine rk_reg ?_
               refine lw_v (.int .i64 2) (dv_add (a := 1) (b := 1) (z := 2) (T rfl rfl) C (by decide)) ?_
               refine lw_v (.int .i64 2) (dv_move (T rfl rfl)) ?_
               refine lw_nil ?_
               refine rk_inLoop ?_
               refine rk_seq ?_
               refine rk_reg ?_
               refine lw_v (.bool (decide (((2 : Int) < 2 : Prop)))) (dv_lss (a := 2) (b := 2) (T rfl rfl) (T rfl rfl)) ?_
               refine lw_nil ?_
               refine rk_seq ?_
               refine rk_cf (T rfl (rfl)) ?_
               refine rk_exit rfl ?_
               refine rk_seq ?_
               refine rk_reg ?_
               refine lw_v (.bool true) (dv_assign C) ?_
               refine lw_nil ?_
               refine rk_ret Try.func3 (v := .bool true) (res1 Try.results3 (rv_tmp rfl rfl)) ⟨_, rfl, ?_⟩
               exact ⟨rfl, E182⟩
         · refine lw_no (d := 55) rfl rfl (congrArg Value.bool (decide_eq_false hb95)) ?_
           refine lw_no (d := 55) rfl rfl (congrArg Value.bool (decide_eq_false hb95)) ?_
           refine lw_no (d := 55) rfl rfl (congrArg Value.bool (decide_eq_false hb95)) ?_
           refine lw_no (d := 55) rfl rfl (congrArg Value.bool (decide_eq_false hb95)) ?_
           refine lw_v (.bool false) (dv_pick_f (T rfl (congrArg Value.bool (decide_eq_false hb95))) C) ?_
           refine lw_nil ?_
           refine rk_cf (T rfl rfl) ?_
           refine rk_skip ?_
           refine rk_seq ?_
           refine rk_seq ?_
           refine rk_reg ?_
           have H183 := (s92.blk (n87.ext.blk (e83.blk (e76.blk (e70.blk (e65.blk (s59.blk H55 (by omega))))))) (by omega))
           refine lw_v (.agg #[.int .u64 (wv3 zd34), .int .u64 (wv2 zd34), .int .u64 (wv1 zd34), .int .u64 (wv0 zd34)]) (dv_loads (l := [.int .u64 (wv3 zd34), .int .u64 (wv2 zd34), .int .u64 (wv1 zd34), .int .u64 (wv0 zd34)]) agt26 sz26 (T rfl rfl) H183 rfl) ?_
           have H184 := (s92.blk (n87.ext.blk H89) (by omega))
           refine lw_v (.agg #[.int .u64 (wv3 zd35), .int .u64 (wv2 zd35), .int .u64 (wv1 zd35), .int .u64 (wv0 zd35)]) (dv_loads (l := [.int .u64 (wv3 zd35), .int .u64 (wv2 zd35), .int .u64 (wv1 zd35), .int .u64 (wv0 zd35)]) agt26 sz26 (T rfl rfl) H184 rfl) ?_
           refine lw_e (oe_buildSlice (pv := [(0, .agg #[.int .u64 (wv3 zd34), .int .u64 (wv2 zd34), .int .u64 (wv1 zd34), .int .u64 (wv0 zd34)]), (1, .agg #[.int .u64 (wv3 zd35), .int .u64 (wv2 zd35), .int .u64 (wv1 zd35), .int .u64 (wv0 zd35)])]) (init := [.int .u64 0, .int .u64 0, .int .u64 0, .int .u64 0, .int .u64 0, .int .u64 0, .int .u64 0, .int .u64 0]) (l := [.int .u64 (wv3 zd34), .int .u64 (wv2 zd34), .int .u64 (wv1 zd34), .int .u64 (wv0 zd34), .int .u64 (wv3 zd35), .int .u64 (wv2 zd35), .int .u64 (wv1 zd35), .int .u64 (wv0 zd35)]) us33 sz26 rfl rfl zc26 (by kernel_rfl) ⟨rfl, (T rfl rfl), ⟨rfl, (T rfl rfl), trivial⟩⟩ rfl ?_)
           intro b185 w186 n187
           have N188 : w.heap.size ≤ b185 := n187.eq ▸ E94.size
           have : b85 < b185 := n187.eq ▸ lt_of_blk H93
           have E189 := below_ext E94 E94.size n187.ext
           refine lw_v (.int .i64 2) (dv_len (ad := some ⟨b185, 0, none⟩) (l := 2) (c := 2) us33 (T rfl rfl)) ?_
           refine lw_v (.int .i64 0) (dv_move C) ?_
           refine lw_nil ?_
           refine rk_block ?_
           refine rk_unroll ?_
           refine rk_seq ?_
           refine rk_reg ?_
           refine lw_v (.bool (decide (((0 : Int) < 2 : Prop)))) (dv_lss (a := 0) (b := 2) (T rfl rfl) (T rfl rfl)) ?_
           refine lw_nil ?_
           refine rk_seq ?_
           refine rk_ct (T rfl (rfl)) ?_
           refine rk_skip ?_
           refine rk_seq ?_
           refine rk_block ?_
           refine rk_seq ?_
           refine rk_reg ?_
           refine lw_v (.pointer (some ⟨b185, 0, none⟩)) (dv_indexAddr (a := ⟨b185, 0, none⟩) (a' := ⟨b185, 0, none⟩) (l := 2) (c := 2) (j := 0) us33 sz26 (T rfl rfl) (T rfl rfl) (by decide) (by decide) rfl) ?_
           refine lw_v (.agg #[.int .u64 (wv3 zd34), .int .u64 (wv2 zd34), .int .u64 (wv1 zd34), .int .u64 (wv0 zd34)]) (dv_loads (l := [.int .u64 (wv3 zd34), .int .u64 (wv2 zd34), .int .u64 (wv1 zd34), .int .u64 (wv0 zd34)]) agt26 sz26 (T rfl rfl) n187.blk rfl) ?_
           refine lw_e (oe_alloc ze26 ?_)
           intro b190 w191 n192
           have N193 : w.heap.size ≤ b190 := n192.eq ▸ E189.size
           have : b185 < b190 := n192.eq ▸ lt_of_blk n187.blk
           have E194 := below_ext E189 E189.size n192.ext
           refine lw_e (oe_store (v := .agg #[.int .u64 (wv3 zd34), .int .u64 (wv2 zd34), .int .u64 (wv1 zd34), .int .u64 (wv0 zd34)]) (vs := [.int .u64 (wv3 zd34), .int .u64 (wv2 zd34), .int .u64 (wv1 zd34), .int .u64 (wv0 zd34)]) (l := [.int .u64 (wv3 zd34), .int .u64 (wv2 zd34), .int .u64 (wv1 zd34), .int .u64 (wv0 zd34)]) (T rfl rfl) (T rfl rfl) sz26 rfl rfl rfl n192.blk rfl ?_)
           intro w195 s196 H197
           have E198 := below_st E194 N193 s196
           refine lw_nil ?_
           refine rk_seq ?_
           refine rk_reg ?_
           refine lw_v (.int .i64 (sgnI (zd6 - zd7))) (dv_move (T rfl rfl)) ?_
           refine lw_v (.bool (decide ((sgnI (zd6 - zd7)) ≤ 0))) (dv_leq (a := sgnI (zd6 - zd7)) (b := 0) (T rfl rfl) C) ?_
           refine lw_v (.bool (decide ((sgnI (zd6 - zd7)) ≤ 0))) (dv_move (T rfl rfl)) ?_
           by_cases hb199 : (sgnI (zd6 - zd7)) ≤ 0
           · have H200 := (s196.blk (n192.ext.blk (n187.ext.blk (s92.blk (n87.ext.blk (e83.blk H80)) (by omega)))) (by omega))
             refine lw_vy (.agg #[.int .u64 (wv3 zd7), .int .u64 (wv2 zd7), .int .u64 (wv1 zd7), .int .u64 (wv0 zd7)]) (d := 71) rfl rfl (congrArg Value.bool (decide_eq_true hb199)) (dv_loads (l := [.int .u64 (wv3 zd7), .int .u64 (wv2 zd7), .int .u64 (wv1 zd7), .int .u64 (wv0 zd7)]) agt26 sz26 (T rfl rfl) H200 rfl) ?_
             refine lw_vy (.agg #[.int .u64 (wv3 zd34), .int .u64 (wv2 zd34), .int .u64 (wv1 zd34), .int .u64 (wv0 zd34)]) (d := 71) rfl rfl (congrArg Value.bool (decide_eq_true hb199)) (dv_loads (l := [.int .u64 (wv3 zd34), .int .u64 (wv2 zd34), .int .u64 (wv1 zd34), .int .u64 (wv0 zd34)]) agt26 sz26 (T rfl rfl) H197 rfl) ?_
             refine lw_ey (d := 71) rfl rfl (congrArg Value.bool (decide_eq_true hb199)) (oe_callf (vs := [.agg #[.int .u64 (wv3 zd7), .int .u64 (wv2 zd7), .int .u64 (wv1 zd7), .int .u64 (wv0 zd7)], .agg #[.int .u64 (wv3 zd34), .int .u64 (wv2 zd34), .int .u64 (wv1 zd34), .int .u64 (wv0 zd34)]]) co14 (ar2 (T rfl rfl) (T rfl rfl)) (iWideCmp_ok (x := zd7) (y := zd34) hz9 hz36 ) ?_)
             rintro _ w201 ⟨rfl, e202⟩
             have E203 := below_ext E198 E198.size e202
             have := sgnI_rg (zd7 - zd34)
             refine lw_vy (.bool (decide ((sgnI (zd7 - zd34)) ≤ 0))) (d := 71) rfl rfl (congrArg Value.bool (decide_eq_true hb199)) (dv_leq (a := sgnI (zd7 - zd34)) (b := 0) (T rfl rfl) C) ?_
             refine lw_v (.bool (decide ((sgnI (zd7 - zd34)) ≤ 0))) (dv_pick_t (T rfl (congrArg Value.bool (decide_eq_true hb199))) (T rfl rfl)) ?_
             refine lw_v (.bool (decide ((sgnI (zd7 - zd34)) ≤ 0))) (dv_move (T rfl rfl)) ?_
             by_cases hb204 : (sgnI (zd7 - zd34)) ≤ 0
             · have H205 := (e202.blk (s196.blk (n192.ext.blk (n187.ext.blk (s92.blk (n87.ext.blk (e83.blk H79)) (by omega)))) (by omega)))
               refine lw_vy (.agg #[.int .u64 (wv3 zd6), .int .u64 (wv2 zd6), .int .u64 (wv1 zd6), .int .u64 (wv0 zd6)]) (d := 77) rfl rfl (congrArg Value.bool (decide_eq_true hb204)) (dv_loads (l := [.int .u64 (wv3 zd6), .int .u64 (wv2 zd6), .int .u64 (wv1 zd6), .int .u64 (wv0 zd6)]) agt26 sz26 (T rfl rfl) H205 rfl) ?_
               have H206 := (e202.blk H197)
               refine lw_vy (.agg #[.int .u64 (wv3 zd34), .int .u64 (wv2 zd34), .int .u64 (wv1 zd34), .int .u64 (wv0 zd34)]) (d := 77) rfl rfl (congrArg Value.bool (decide_eq_true hb204)) (dv_loads (l := [.int .u64 (wv3 zd34), .int .u64 (wv2 zd34), .int .u64 (wv1 zd34), .int .u64 (wv0 zd34)]) agt26 sz26 (T rfl rfl) H206 rfl) ?_
               refine lw_ey (d := 77) rfl rfl (congrArg Value.bool (decide_eq_true hb204)) (oe_callf (vs := [.agg #[.int .u64 (wv3 zd6), .int .u64 (wv2 zd6), .int .u64 (wv1 zd6), .int .u64 (wv0 zd6)], .agg #[.int .u64 (wv3 zd34), .int .u64 (wv2 zd34), .int .u64 (wv1 zd34), .int .u64 (wv0 zd34)]]) co14 (ar2 (T rfl rfl) (T rfl rfl)) (iWideCmp_ok (x := zd6) (y := zd34) hz8 hz36 ) ?_)
               rintro _ w207 ⟨rfl, e208⟩
               have E209 := below_ext E203 E203.size e208
               have := sgnI_rg (zd6 - zd34)
               refine lw_vy (.bool (decide (0 < (sgnI (zd6 - zd34))))) (d := 77) rfl rfl (congrArg Value.bool (decide_eq_true hb204)) (dv_gtr (a := sgnI (zd6 - zd34)) (b := 0) (T rfl rfl) C) ?_
               refine lw_v (.bool (decide (0 < (sgnI (zd6 - zd34))))) (dv_pick_t (T rfl (congrArg Value.bool (decide_eq_true hb204))) (T rfl rfl)) ?_
               refine lw_nil ?_
               by_cases hb210 : 0 < (sgnI (zd6 - zd34))
               · refine rk_ct (T rfl (congrArg Value.bool (decide_eq_true hb210))) ?_
                 refine rk_seq ?_
                 refine rk_reg ?_
                 refine lw_v (.bool false) (dv_assign C) ?_
                 refine lw_nil ?_
                 refine rk_ret Try.func3 (v := .bool false) (res1 Try.results3 (rv_tmp rfl rfl)) ⟨_, rfl, ?_⟩
                 skip
                 exact ⟨(by exfalso; first | (exact cB (by assumption)) | (exact absurd rfl (by assumption)) | (exact cO1 (by assumption)) | (exact cO2w hz8 hz9 (by assumption)) | (exact cO3 (by assumption) (by assumption)) | (exact cO4 (a := zd6) (b := zd7) (x := zd34) (by assumption) (by assumption) (by assumption)) | (exact cO4 (a := zd6) (b := zd7) (x := zd35) (by assumption) (by assumption) (by assumption)) | omega), E209⟩
               · refine rk_cf (T rfl (congrArg Value.bool (decide_eq_false hb210))) ?_
                 refine rk_skip ?_
                 refine rk_inBlock ?_
                 refine rk_reg ?_
                 refine lw_v (.int .i64 1) (dv_add (a := 0) (b := 1) (z := 1) (T rfl rfl) C (by decide)) ?_
                 refine lw_v (.int .i64 1) (dv_move (T rfl rfl)) ?_
                 refine lw_nil ?_
                 refine rk_inLoop ?_
                 refine rk_seq ?_
                 refine rk_reg ?_
                 refine lw_v (.bool (decide (((1 : Int) < 2 : Prop)))) (dv_lss (a := 1) (b := 2) (T rfl rfl) (T rfl rfl)) ?_
                 refine lw_nil ?_
                 refine rk_seq ?_
                 refine rk_ct (T rfl (rfl)) ?_
                 refine rk_skip ?_
                 refine rk_seq ?_
                 refine rk_block ?_
                 refine rk_seq ?_
                 refine rk_reg ?_
                 refine lw_v (.pointer (some ⟨b185, 4, none⟩)) (dv_indexAddr (a := ⟨b185, 0, none⟩) (a' := ⟨b185, 4, none⟩) (l := 2) (c := 2) (j := 1) us33 sz26 (T rfl rfl) (T rfl rfl) (by decide) (by decide) rfl) ?_
                 have H211 := (e208.blk (e202.blk (s196.blk (n192.ext.blk n187.blk) (by omega))))
                 refine lw_v (.agg #[.int .u64 (wv3 zd35), .int .u64 (wv2 zd35), .int .u64 (wv1 zd35), .int .u64 (wv0 zd35)]) (dv_loads (l := [.int .u64 (wv3 zd35), .int .u64 (wv2 zd35), .int .u64 (wv1 zd35), .int .u64 (wv0 zd35)]) agt26 sz26 (T rfl rfl) H211 rfl) ?_
                 refine lw_e (oe_alloc ze26 ?_)
                 intro b212 w213 n214
                 have N215 : w.heap.size ≤ b212 := n214.eq ▸ E209.size
                 have H216 := (e208.blk H206)
                 have : b190 < b212 := n214.eq ▸ lt_of_blk H216
                 have E217 := below_ext E209 E209.size n214.ext
                 refine lw_e (oe_store (v := .agg #[.int .u64 (wv3 zd35), .int .u64 (wv2 zd35), .int .u64 (wv1 zd35), .int .u64 (wv0 zd35)]) (vs := [.int .u64 (wv3 zd35), .int .u64 (wv2 zd35), .int .u64 (wv1 zd35), .int .u64 (wv0 zd35)]) (l := [.int .u64 (wv3 zd35), .int .u64 (wv2 zd35), .int .u64 (wv1 zd35), .int .u64 (wv0 zd35)]) (T rfl rfl) (T rfl rfl) sz26 rfl rfl rfl n214.blk rfl ?_)
                 intro w218 s219 H220
                 have E221 := below_st E217 N215 s219
                 refine lw_nil ?_
                 refine rk_seq ?_
                 refine rk_reg ?_
                 refine lw_v (.int .i64 (sgnI (zd6 - zd7))) (dv_move (T rfl rfl)) ?_
                 refine lw_v (.bool (decide ((sgnI (zd6 - zd7)) ≤ 0))) (dv_leq (a := sgnI (zd6 - zd7)) (b := 0) (T rfl rfl) C) ?_
                 refine lw_v (.bool (decide ((sgnI (zd6 - zd7)) ≤ 0))) (dv_move (T rfl rfl)) ?_
                 have H222 := (s219.blk (n214.ext.blk (e208.blk (e202.blk H200))) (by omega))
                 refine lw_vy (.agg #[.int .u64 (wv3 zd7), .int .u64 (wv2 zd7), .int .u64 (wv1 zd7), .int .u64 (wv0 zd7)]) (d := 71) rfl rfl (congrArg Value.bool (decide_eq_true hb199)) (dv_loads (l := [.int .u64 (wv3 zd7), .int .u64 (wv2 zd7), .int .u64 (wv1 zd7), .int .u64 (wv0 zd7)]) agt26 sz26 (T rfl rfl) H222 rfl) ?_
                 refine lw_vy (.agg #[.int .u64 (wv3 zd35), .int .u64 (wv2 zd35), .int .u64 (wv1 zd35), .int .u64 (wv0 zd35)]) (d := 71) rfl rfl (congrArg Value.bool (decide_eq_true hb199)) (dv_loads (l := [.int .u64 (wv3 zd35), .int .u64 (wv2 zd35), .int .u64 (wv1 zd35), .int .u64 (wv0 zd35)]) agt26 sz26 (T rfl rfl) H220 rfl) ?_
                 refine lw_ey (d := 71) rfl rfl (congrArg Value.bool (decide_eq_true hb199)) (oe_callf (vs := [.agg #[.int .u64 (wv3 zd7), .int .u64 (wv2 zd7), .int .u64 (wv1 zd7), .int .u64 (wv0 zd7)], .agg #[.int .u64 (wv3 zd35), .int .u64 (wv2 zd35), .int .u64 (wv1 zd35), .int .u64 (wv0 zd35)]]) co14 (ar2 (T rfl rfl) (T rfl rfl)) (iWideCmp_ok (x := zd7) (y := zd35) hz9 hz37 ) ?_)
                 rintro _ w223 ⟨rfl, e224⟩
                 have E225 := below_ext E221 E221.size e224
                 have := sgnI_rg (zd7 - zd35)
                 refine lw_vy (.bool (decide ((sgnI (zd7 - zd35)) ≤ 0))) (d := 71) rfl rfl (congrArg Value.bool (decide_eq_true hb199)) (dv_leq (a := sgnI (zd7 - zd35)) (b := 0) (T rfl rfl) C) ?_
                 refine lw_v (.bool (decide ((sgnI (zd7 - zd35)) ≤ 0))) (dv_pick_t (T rfl (congrArg Value.bool (decide_eq_true hb199))) (T rfl rfl)) ?_
                 refine lw_v (.bool (decide ((sgnI (zd7 - zd35)) ≤ 0))) (dv_move (T rfl rfl)) ?_
                 by_cases hb226 : (sgnI (zd7 - zd35)) ≤ 0
                 · have H227 := (e224.blk (s219.blk (n214.ext.blk (e208.blk H205)) (by omega)))
                   refine lw_vy (.agg #[.int .u64 (wv3 zd6), .int .u64 (wv2 zd6), .int .u64 (wv1 zd6), .int .u64 (wv0 zd6)]) (d := 77) rfl rfl (congrArg Value.bool (decide_eq_true hb226)) (dv_loads (l := [.int .u64 (wv3 zd6), .int .u64 (wv2 zd6), .int .u64 (wv1 zd6), .int .u64 (wv0 zd6)]) agt26 sz26 (T rfl rfl) H227 rfl) ?_
                   have H228 := (e224.blk H220)
                   refine lw_vy (.agg #[.int .u64 (wv3 zd35), .int .u64 (wv2 zd35), .int .u64 (wv1 zd35), .int .u64 (wv0 zd35)]) (d := 77) rfl rfl (congrArg Value.bool (decide_eq_true hb226)) (dv_loads (l := [.int .u64 (wv3 zd35), .int .u64 (wv2 zd35), .int .u64 (wv1 zd35), .int .u64 (wv0 zd35)]) agt26 sz26 (T rfl rfl) H228 rfl) ?_
                   refine lw_ey (d := 77) rfl rfl (congrArg Value.bool (decide_eq_true hb226)) (oe_callf (vs := [.agg #[.int .u64 (wv3 zd6), .int .u64 (wv2 zd6), .int .u64 (wv1 zd6), .int .u64 (wv0 zd6)], .agg #[.int .u64 (wv3 zd35), .int .u64 (wv2 zd35), .int .u64 (wv1 zd35), .int .u64 (wv0 zd35)]]) co14 (ar2 (T rfl rfl) (T rfl rfl)) (iWideCmp_ok (x := zd6) (y := zd35) hz8 hz37 ) ?_)
                   rintro _ w229 ⟨rfl, e230⟩
                   have E231 := below_ext E225 E225.size e230
                   have := sgnI_rg (zd6 - zd35)
                   refine lw_vy (.bool (decide (0 < (sgnI (zd6 - zd35))))) (d := 77) rfl rfl (congrArg Value.bool (decide_eq_true hb226)) (dv_gtr (a := sgnI (zd6 - zd35)) (b := 0) (T rfl rfl) C) ?_
                   refine lw_v (.bool (decide (0 < (sgnI (zd6 - zd35))))) (dv_pick_t (T rfl (congrArg Value.bool (decide_eq_true hb226))) (T rfl rfl)) ?_
                   refine lw_nil ?_
                   by_cases hb232 : 0 < (sgnI (zd6 - zd35))
                   · refine rk_ct (T rfl (congrArg Value.bool (decide_eq_true hb232))) ?_
                     refine rk_seq ?_
                     refine rk_reg ?_
                     refine lw_v (.bool false) (dv_assign C) ?_
                     refine lw_nil ?_
                     refine rk_ret Try.func3 (v := .bool false) (res1 Try.results3 (rv_tmp rfl rfl)) ⟨_, rfl, ?_⟩
                     skip
                     exact ⟨(by exfalso; first | (exact cB (by assumption)) | (exact absurd rfl (by assumption)) | (exact cO1 (by assumption)) | (exact cO2w hz8 hz9 (by assumption)) | (exact cO3 (by assumption) (by assumption)) | (exact cO4 (a := zd6) (b := zd7) (x := zd34) (by assumption) (by assumption) (by assumption)) | (exact cO4 (a := zd6) (b := zd7) (x := zd35) (by assumption) (by assumption) (by assumption)) | omega), E231⟩
                   · refine rk_cf (T rfl (congrArg Value.bool (decide_eq_false hb232))) ?_
                     refine rk_skip ?_
                     refine rk_inBlock ?_
                     refine rk_reg ?_
                     refine lw_v (.int .i64 2) (dv_add (a := 1) (b := 1) (z := 2) (T rfl rfl) C (by decide)) ?_
                     refine lw_v (.int .i64 2) (dv_move (T rfl rfl)) ?_
                     refine lw_nil ?_
                     refine rk_inLoop ?_
                     refine rk_seq ?_
                     refine rk_reg ?_
                     refine lw_v (.bool (decide (((2 : Int) < 2 : Prop)))) (dv_lss (a := 2) (b := 2) (T rfl rfl) (T rfl rfl)) ?_
                     refine lw_nil ?_
                     refine rk_seq ?_
                     refine rk_cf (T rfl (rfl)) ?_
                     refine rk_exit rfl ?_
                     refine rk_seq ?_
                     refine rk_reg ?_
                     refine lw_v (.bool true) (dv_assign C) ?_
                     refine lw_nil ?_
                     refine rk_ret Try.func3 (v := .bool true) (res1 Try.results3 (rv_tmp rfl rfl)) ⟨_, rfl, ?_⟩
                     exact ⟨rfl, E231⟩
                 · refine lw_no (d := 77) rfl rfl (congrArg Value.bool (decide_eq_false hb226)) ?_
                   refine lw_no (d := 77) rfl rfl (congrArg Value.bool (decide_eq_false hb226)) ?_
                   refine lw_no (d := 77) rfl rfl (congrArg Value.bool (decide_eq_false hb226)) ?_
                   refine lw_no (d := 77) rfl rfl (congrArg Value.bool (decide_eq_false hb226)) ?_
                   refine lw_v (.bool false) (dv_pick_f (T rfl (congrArg Value.bool (decide_eq_false hb226))) C) ?_
                   refine lw_nil ?_
                   refine rk_cf (T rfl rfl) ?_
                   refine rk_skip ?_
                   refine rk_inBlock ?_
                   refine rk_reg ?_
                   refine lw_v (.int .i64 2) (dv_add (a := 1) (b := 1) (z := 2) (T rfl rfl) C (by decide)) ?_
                   refine lw_v (.int .i64 2) (dv_move (T rfl rfl)) ?_
                   refine lw_nil ?_
                   refine rk_inLoop ?_
                   refine rk_seq ?_
                   refine rk_reg ?_
                   refine lw_v (.bool (decide (((2 : Int) < 2 : Prop)))) (dv_lss (a := 2) (b := 2) (T rfl rfl) (T rfl rfl)) ?_
                   refine lw_nil ?_
                   refine rk_seq ?_
                   refine rk_cf (T rfl (rfl)) ?_
                   refine rk_exit rfl ?_
                   refine rk_seq ?_
                   refine rk_reg ?_
                   refine lw_v (.bool true) (dv_assign C) ?_
                   refine lw_nil ?_
                   refine rk_ret Try.func3 (v := .bool true) (res1 Try.results3 (rv_tmp rfl rfl)) ⟨_, rfl, ?_⟩
                   exact ⟨rfl, E225⟩
             · refine lw_no (d := 77) rfl rfl (congrArg Value.bool (decide_eq_false hb204)) ?_
               refine lw_no (d := 77) rfl rfl (congrArg Value.bool (decide_eq_false hb204)) ?_
               refine lw_no (d := 77) rfl rfl (congrArg Value.bool (decide_eq_false hb204)) ?_
               refine lw_no (d := 77) rfl rfl (congrArg Value.bool (decide_eq_false hb204)) ?_
               refine lw_v (.bool false) (dv_pick_f (T rfl (congrArg Value.bool (decide_eq_false hb204))) C) ?_
               refine lw_nil ?_
               refine rk_cf (T rfl rfl) ?_
               refine rk_skip ?_
               refine rk_inBlock ?_
               refine rk_reg ?_
               refine lw_v (.int .i64 1) (dv_add (a := 0) (b := 1) (z := 1) (T rfl rfl) C (by decide)) ?_
               refine lw_v (.int .i64 1) (dv_move (T rfl rfl)) ?_
               refine lw_nil ?_
               refine rk_inLoop ?_
               refine rk_seq ?_
               refine rk_reg ?_
               refine lw_v (.bool (decide (((1 : Int) < 2 : Prop)))) (dv_lss (a := 1) (b := 2) (T rfl rfl) (T rfl rfl)) ?_
               refine lw_nil ?_
               refine rk_seq ?_
               refine rk_ct (T rfl (rfl)) ?_
               refine rk_skip ?_
               refine rk_seq ?_
               refine rk_block ?_
               refine rk_seq ?_
               refine rk_reg ?_
               refine lw_v (.pointer (some ⟨b185, 4, none⟩)) (dv_indexAddr (a := ⟨b185, 0, none⟩) (a' := ⟨b185, 4, none⟩) (l := 2) (c := 2) (j := 1) us33 sz26 (T rfl rfl) (T rfl rfl) (by decide) (by decide) rfl) ?_
               have H233 := (e202.blk (s196.blk (n192.ext.blk n187.blk) (by omega)))
               refine lw_v (.agg #[.int .u64 (wv3 zd35), .int .u64 (wv2 zd35), .int .u64 (wv1 zd35), .int .u64 (wv0 zd35)]) (dv_loads (l := [.int .u64 (wv3 zd35), .int .u64 (wv2 zd35), .int .u64 (wv1 zd35), .int .u64 (wv0 zd35)]) agt26 sz26 (T rfl rfl) H233 rfl) ?_
               refine lw_e (oe_alloc ze26 ?_)
               intro b234 w235 n236
               have N237 : w.heap.size ≤ b234 := n236.eq ▸ E203.size
               have H238 := (e202.blk H197)
               have : b190 < b234 := n236.eq ▸ lt_of_blk H238
               have E239 := below_ext E203 E203.size n236.ext
               refine lw_e (oe_store (v := .agg #[.int .u64 (wv3 zd35), .int .u64 (wv2 zd35), .int .u64 (wv1 zd35), .int .u64 (wv0 zd35)]) (vs := [.int .u64 (wv3 zd35), .int .u64 (wv2 zd35), .int .u64 (wv1 zd35), .int .u64 (wv0 zd35)]) (l := [.int .u64 (wv3 zd35), .int .u64 (wv2 zd35), .int .u64 (wv1 zd35), .int .u64 (wv0 zd35)]) (T rfl rfl) (T rfl rfl) sz26 rfl rfl rfl n236.blk rfl ?_)
               intro w240 s241 H242
               have E243 := below_st E239 N237 s241
               refine lw_nil ?_
               refine rk_seq ?_
               refine rk_reg ?_
               refine lw_v (.int .i64 (sgnI (zd6 - zd7))) (dv_move (T rfl rfl)) ?_
               refine lw_v (.bool (decide ((sgnI (zd6 - zd7)) ≤ 0))) (dv_leq (a := sgnI (zd6 - zd7)) (b := 0) (T rfl rfl) C) ?_
               refine lw_v (.bool (decide ((sgnI (zd6 - zd7)) ≤ 0))) (dv_move (T rfl rfl)) ?_
               have H244 := (s241.blk (n236.ext.blk (e202.blk H200)) (by omega))
               refine lw_vy (.agg #[.int .u64 (wv3 zd7), .int .u64 (wv2 zd7), .int .u64 (wv1 zd7), .int .u64 (wv0 zd7)]) (d := 71) rfl rfl (congrArg Value.bool (decide_eq_true hb199)) (dv_loads (l := [.int .u64 (wv3 zd7), .int .u64 (wv2 zd7), .int .u64 (wv1 zd7), .int .u64 (wv0 zd7)]) agt26 sz26 (T rfl rfl) H244 rfl) ?_
               refine lw_vy (.agg #[.int .u64 (wv3 zd35), .int .u64 (wv2 zd35), .int .u64 (wv1 zd35), .int .u64 (wv0 zd35)]) (d := 71) rfl rfl (congrArg Value.bool (decide_eq_true hb199)) (dv_loads (l := [.int .u64 (wv3 zd35), .int .u64 (wv2 zd35), .int .u64 (wv1 zd35), .int .u64 (wv0 zd35)]) agt26 sz26 (T rfl rfl) H242 rfl) ?_
               refine lw_ey (d := 71) rfl rfl (congrArg Value.bool (decide_eq_true hb199)) (oe_callf (vs := [.agg #[.int .u64 (wv3 zd7), .int .u64 (wv2 zd7), .int .u64 (wv1 zd7), .int .u64 (wv0 zd7)], .agg #[.int .u64 (wv3 zd35), .int .u64 (wv2 zd35), .int .u64 (wv1 zd35), .int .u64 (wv0 zd35)]]) co14 (ar2 (T rfl rfl) (T rfl rfl)) (iWideCmp_ok (x := zd7) (y := zd35) hz9 hz37 ) ?_)
               rintro _ w245 ⟨rfl, e246⟩
               have E247 := below_ext E243 E243.size e246
               have := sgnI_rg (zd7 - zd35)
               refine lw_vy (.bool (decide ((sgnI (zd7 - zd35)) ≤ 0))) (d := 71) rfl rfl (congrArg Value.bool (decide_eq_true hb199)) (dv_leq (a := sgnI (zd7 - zd35)) (b := 0) (T rfl rfl) C) ?_
               refine lw_v (.bool (decide ((sgnI (zd7 - zd35)) ≤ 0))) (dv_pick_t (T rfl (congrArg Value.bool (decide_eq_true hb199))) (T rfl rfl)) ?_
               refine lw_v (.bool (decide ((sgnI (zd7 - zd35)) ≤ 0))) (dv_move (T rfl rfl)) ?_
               by_cases hb248 : (sgnI (zd7 - zd35)) ≤ 0
               · have H249 := (e246.blk (s241.blk (n236.ext.blk (e202.blk (s196.blk (n192.ext.blk (n187.ext.blk (s92.blk (n87.ext.blk (e83.blk H79)) (by omega)))) (by omega)))) (by omega)))
                 refine lw_vy (.agg #[.int .u64 (wv3 zd6), .int .u64 (wv2 zd6), .int .u64 (wv1 zd6), .int .u64 (wv0 zd6)]) (d := 77) rfl rfl (congrArg Value.bool (decide_eq_true hb248)) (dv_loads (l := [.int .u64 (wv3 zd6), .int .u64 (wv2 zd6), .int .u64 (wv1 zd6), .int .u64 (wv0 zd6)]) agt26 sz26 (T rfl rfl) H249 rfl) ?_
                 have H250 := (e246.blk H242)
                 refine lw_vy (.agg #[.int .u64 (wv3 zd35), .int .u64 (wv2 zd35), .int .u64 (wv1 zd35), .int .u64 (wv0 zd35)]) (d := 77) rfl rfl (congrArg Value.bool (decide_eq_true hb248)) (dv_loads (l := [.int .u64 (wv3 zd35), .int .u64 (wv2 zd35), .int .u64 (wv1 zd35), .int .u64 (wv0 zd35)]) agt26 sz26 (T rfl rfl) H250 rfl) ?_
                 refine lw_ey (d := 77) rfl rfl (congrArg Value.bool (decide_eq_true hb248)) (oe_callf (vs := [.agg #[.int .u64 (wv3 zd6), .int .u64 (wv2 zd6), .int .u64 (wv1 zd6), .int .u64 (wv0 zd6)], .agg #[.int .u64 (wv3 zd35), .int .u64 (wv2 zd35), .int .u64 (wv1 zd35), .int .u64 (wv0 zd35)]]) co14 (ar2 (T rfl rfl) (T rfl rfl)) (iWideCmp_ok (x := zd6) (y := zd35) hz8 hz37 ) ?_)
                 rintro _ w251 ⟨rfl, e252⟩
                 have E253 := below_ext E247 E247.size e252
                 have := sgnI_rg (zd6 - zd35)
                 refine lw_vy (.bool (decide (0 < (sgnI (zd6 - zd35))))) (d := 77) rfl rfl (congrArg Value.bool (decide_eq_true hb248)) (dv_gtr (a := sgnI (zd6 - zd35)) (b := 0) (T rfl rfl) C) ?_
                 refine lw_v (.bool (decide (0 < (sgnI (zd6 - zd35))))) (dv_pick_t (T rfl (congrArg Value.bool (decide_eq_true hb248))) (T rfl rfl)) ?_
                 refine lw_nil ?_
                 by_cases hb254 : 0 < (sgnI (zd6 - zd35))
                 · refine rk_ct (T rfl (congrArg Value.bool (decide_eq_true hb254))) ?_
                   refine rk_seq ?_
                   refine rk_reg ?_
                   refine lw_v (.bool false) (dv_assign C) ?_
                   refine lw_nil ?_
                   refine rk_ret Try.func3 (v := .bool false) (res1 Try.results3 (rv_tmp rfl rfl)) ⟨_, rfl, ?_⟩
                   skip
                   exact ⟨(by exfalso; first | (exact cB (by assumption)) | (exact absurd rfl (by assumption)) | (exact cO1 (by assumption)) | (exact cO2w hz8 hz9 (by assumption)) | (exact cO3 (by assumption) (by assumption)) | (exact cO4 (a := zd6) (b := zd7) (x := zd34) (by assumption) (by assumption) (by assumption)) | (exact cO4 (a := zd6) (b := zd7) (x := zd35) (by assumption) (by assumption) (by assumption)) | omega), E253⟩
                 · refine rk_cf (T rfl (congrArg Value.bool (decide_eq_false hb254))) ?_
                   refine rk_skip ?_
                   refine rk_inBlock ?_
                   refine rk_reg ?_
                   refine lw_v (.int .i64 2) (dv_add (a := 1) (b := 1) (z := 2) (T rfl rfl) C (by decide)) ?_
                   refine lw_v (.int .i64 2) (dv_move (T rfl rfl)) ?_
                   refine lw_nil ?_
                   refine rk_inLoop ?_
                   refine rk_seq ?_
                   refine rk_reg ?_
                   refine lw_v (.bool (decide (((2 : Int) < 2 : Prop)))) (dv_lss (a := 2) (b := 2) (T rfl rfl) (T rfl rfl)) ?_
                   refine lw_nil ?_
                   refine rk_seq ?_
                   refine rk_cf (T rfl (rfl)) ?_
                   refine rk_exit rfl ?_
                   refine rk_seq ?_
                   refine rk_reg ?_
                   refine lw_v (.bool true) (dv_assign C) ?_
                   refine lw_nil ?_
                   refine rk_ret Try.func3 (v := .bool true) (res1 Try.results3 (rv_tmp rfl rfl)) ⟨_, rfl, ?_⟩
                   exact ⟨rfl, E253⟩
               · refine lw_no (d := 77) rfl rfl (congrArg Value.bool (decide_eq_false hb248)) ?_
                 refine lw_no (d := 77) rfl rfl (congrArg Value.bool (decide_eq_false hb248)) ?_
                 refine lw_no (d := 77) rfl rfl (congrArg Value.bool (decide_eq_false hb248)) ?_
                 refine lw_no (d := 77) rfl rfl (congrArg Value.bool (decide_eq_false hb248)) ?_
                 refine lw_v (.bool false) (dv_pick_f (T rfl (congrArg Value.bool (decide_eq_false hb248))) C) ?_
                 refine lw_nil ?_
                 refine rk_cf (T rfl rfl) ?_
                 refine rk_skip ?_
                 refine rk_inBlock ?_
                 refine rk_reg ?_
                 refine lw_v (.int .i64 2) (dv_add (a := 1) (b := 1) (z := 2) (T rfl rfl) C (by decide)) ?_
                 refine lw_v (.int .i64 2) (dv_move (T rfl rfl)) ?_
                 refine lw_nil ?_
                 refine rk_inLoop ?_
                 refine rk_seq ?_
                 refine rk_reg ?_
                 refine lw_v (.bool (decide (((2 : Int) < 2 : Prop)))) (dv_lss (a := 2) (b := 2) (T rfl rfl) (T rfl rfl)) ?_
                 refine lw_nil ?_
                 refine rk_seq ?_
                 refine rk_cf (T rfl (rfl)) ?_
                 refine rk_exit rfl ?_
                 refine rk_seq ?_
                 refine rk_reg ?_
                 refine lw_v (.bool true) (dv_assign C) ?_
                 refine lw_nil ?_
                 refine rk_ret Try.func3 (v := .bool true) (res1 Try.results3 (rv_tmp rfl rfl)) ⟨_, rfl, ?_⟩
                 exact ⟨rfl, E247⟩
           · refine lw_no (d := 71) rfl rfl (congrArg Value.bool (decide_eq_false hb199)) ?_
             refine lw_no (d := 71) rfl rfl (congrArg Value.bool (decide_eq_false hb199)) ?_
             refine lw_no (d := 71) rfl rfl (congrArg Value.bool (decide_eq_false hb199)) ?_
             refine lw_no (d := 71) rfl rfl (congrArg Value.bool (decide_eq_false hb199)) ?_
             refine lw_v (.bool false) (dv_pick_f (T rfl (congrArg Value.bool (decide_eq_false hb199))) C) ?_
             refine lw_v (.bool false) (dv_move (T rfl rfl)) ?_
             refine lw_no (d := 77) rfl rfl (rfl) ?_
             refine lw_no (d := 77) rfl rfl (rfl) ?_
             refine lw_no (d := 77) rfl rfl (rfl) ?_
             refine lw_no (d := 77) rfl rfl (rfl) ?_
             refine lw_v (.bool false) (dv_pick_f (T rfl rfl) C) ?_
             refine lw_nil ?_
             refine rk_cf (T rfl rfl) ?_
             refine rk_skip ?_
             refine rk_inBlock ?_
             refine rk_reg ?_
             refine lw_v (.int .i64 1) (dv_add (a := 0) (b := 1) (z := 1) (T rfl rfl) C (by decide)) ?_
             refine lw_v (.int .i64 1) (dv_move (T rfl rfl)) ?_
             refine lw_nil ?_
             refine rk_inLoop ?_
             refine rk_seq ?_
             refine rk_reg ?_
             refine lw_v (.bool (decide (((1 : Int) < 2 : Prop)))) (dv_lss (a := 1) (b := 2) (T rfl rfl) (T rfl rfl)) ?_
             refine lw_nil ?_
             refine rk_seq ?_
             refine rk_ct (T rfl (rfl)) ?_
             refine rk_skip ?_
             refine rk_seq ?_
             refine rk_block ?_
             refine rk_seq ?_
             refine rk_reg ?_
             refine lw_v (.pointer (some ⟨b185, 4, none⟩)) (dv_indexAddr (a := ⟨b185, 0, none⟩) (a' := ⟨b185, 4, none⟩) (l := 2) (c := 2) (j := 1) us33 sz26 (T rfl rfl) (T rfl rfl) (by decide) (by decide) rfl) ?_
             have H255 := (s196.blk (n192.ext.blk n187.blk) (by omega))
             refine lw_v (.agg #[.int .u64 (wv3 zd35), .int .u64 (wv2 zd35), .int .u64 (wv1 zd35), .int .u64 (wv0 zd35)]) (dv_loads (l := [.int .u64 (wv3 zd35), .int .u64 (wv2 zd35), .int .u64 (wv1 zd35), .int .u64 (wv0 zd35)]) agt26 sz26 (T rfl rfl) H255 rfl) ?_
             refine lw_e (oe_alloc ze26 ?_)
             intro b256 w257 n258
             have N259 : w.heap.size ≤ b256 := n258.eq ▸ E198.size
             have : b190 < b256 := n258.eq ▸ lt_of_blk H197
             have E260 := below_ext E198 E198.size n258.ext
             refine lw_e (oe_store (v := .agg #[.int .u64 (wv3 zd35), .int .u64 (wv2 zd35), .int .u64 (wv1 zd35), .int .u64 (wv0 zd35)]) (vs := [.int .u64 (wv3 zd35), .int .u64 (wv2 zd35), .int .u64 (wv1 zd35), .int .u64 (wv0 zd35)]) (l := [.int .u64 (wv3 zd35), .int .u64 (wv2 zd35), .int .u64 (wv1 zd35), .int .u64 (wv0 zd35)]) (T rfl rfl) (T rfl rfl) sz26 rfl rfl rfl n258.blk rfl ?_)
             intro w261 s262 H263
             have E264 := below_st E260 N259 s262
             refine lw_nil ?_
             refine rk_seq ?_
             refine rk_reg ?_
             refine lw_v (.int .i64 (sgnI (zd6 - zd7))) (dv_move (T rfl rfl)) ?_
             refine lw_v (.bool (decide ((sgnI (zd6 - zd7)) ≤ 0))) (dv_leq (a := sgnI (zd6 - zd7)) (b := 0) (T rfl rfl) C) ?_
             refine lw_v (.bool (decide ((sgnI (zd6 - zd7)) ≤ 0))) (dv_move (T rfl rfl)) ?_
             refine lw_no (d := 71) rfl rfl (congrArg Value.bool (decide_eq_false hb199)) ?_
             refine lw_no (d := 71) rfl rfl (congrArg Value.bool (decide_eq_false hb199)) ?_
             refine lw_no (d := 71) rfl rfl (congrArg Value.bool (decide_eq_false hb199)) ?_
             refine lw_no (d := 71) rfl rfl (congrArg Value.bool (decide_eq_false hb199)) ?_
             refine lw_v (.bool false) (dv_pick_f (T rfl (congrArg Value.bool (decide_eq_false hb199))) C) ?_
             refine lw_v (.bool false) (dv_move (T rfl rfl)) ?_
             refine lw_no (d := 77) rfl rfl (rfl) ?_
             refine lw_no (d := 77) rfl rfl (rfl) ?_
             refine lw_no (d := 77) rfl rfl (rfl) ?_
             refine lw_no (d := 77) rfl rfl (rfl) ?_
             refine lw_v (.bool false) (dv_pick_f (T rfl rfl) C) ?_
             refine lw_nil ?_
             refine rk_cf (T rfl rfl) ?_
             refine rk_skip ?_
             refine rk_inBlock ?_
             refine rk_reg ?_
             refine lw_v (.int .i64 2) (dv_add (a := 1) (b := 1) (z := 2) (T rfl rfl) C (by decide)) ?_
             refine lw_v (.int .i64 2) (dv_move (T rfl rfl)) ?_
             refine lw_nil ?_
             refine rk_inLoop ?_
             refine rk_seq ?_
             refine rk_reg ?_
             refine lw_v (.bool (decide (((2 : Int) < 2 : Prop)))) (dv_lss (a := 2) (b := 2) (T rfl rfl) (T rfl rfl)) ?_
             refine lw_nil ?_
             refine rk_seq ?_
             refine rk_cf (T rfl (rfl)) ?_
             refine rk_exit rfl ?_
             refine rk_seq ?_
             refine rk_reg ?_
             refine lw_v (.bool true) (dv_assign C) ?_
             refine lw_nil ?_
             refine rk_ret Try.func3 (v := .bool true) (res1 Try.results3 (rv_tmp rfl rfl)) ⟨_, rfl, ?_⟩
             exact ⟨rfl, E264⟩
end Go.Proofs.Ytfmkadgjoechnaa.W
