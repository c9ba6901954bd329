/- Walks of one law, packed by a program of this session. -/
import Derived.Test.YtfmkadgjoechnaaPaf
set_option linter.unusedVariables false
set_option linter.unusedSimpArgs false
namespace Go.Proofs.Ytfmkadgjoechnaa.W
open Go Go.RowKit Go.Proofs.Ytfmkadgjoechnaa.Fw
attribute [local irreducible] RunK LW AW DV OE Ct
theorem co23 : callOk Try.prog 23 = true := by kernel_rfl
theorem co24 : callOk Try.prog 24 = true := by kernel_rfl
theorem co25 : callOk Try.prog 25 = true := by kernel_rfl
set_option maxHeartbeats 1000000 in
theorem lawReadWide_ok {w : World} {L : List Int} (hL : okW 256 L) : Ct Try.prog 5 [.string (bOf L)] w fun v w1 => v = .bool true ∧ Ext w w1 := by
 refine ct_run (n := 29) Try.func5 rfl Try.ntmps5 rfl ?_
 have E0 : Below w.heap.size w w := Below.refl _ _
 refine rk_seq ?_
 refine rk_reg ?_
 refine lw_v (.bool false) (dv_assign C) ?_
 refine lw_nil ?_
 refine rk_seq ?_
 refine rk_seq ?_
 refine rk_reg ?_
 refine lw_v (.string (bOf L)) (dv_move (T rfl rfl)) ?_
 refine lw_v (.int .i64 ((L.length : Int))) (dv_lenS (L := L) ut9 (T rfl rfl)) ?_
 refine lw_v (.bool (decide (1048576 < ((L.length : Int))))) (dv_gtr (a := (L.length : Int)) (b := 1048576) (T rfl rfl) C) ?_
 refine lw_nil ?_
 by_cases hb1 : 1048576 < ((L.length : Int))
 · refine rk_ct (T rfl (congrArg Value.bool (decide_eq_true hb1))) ?_
   refine rk_seq ?_
   refine rk_reg ?_
   refine lw_v (.bool true) (dv_assign C) ?_
   refine lw_nil ?_
   refine rk_ret Try.func5 (v := .bool true) (res1 Try.results5 (rv_tmp rfl rfl)) ⟨_, rfl, ?_⟩
   exact ⟨rfl, E0⟩
 · refine rk_cf (T rfl (congrArg Value.bool (decide_eq_false hb1))) ?_
   refine rk_skip ?_
   refine rk_seq ?_
   refine rk_reg ?_
   refine lw_v (.string (bOf L)) (dv_move (T rfl rfl)) ?_
   refine lw_e (oe_callf (vs := [.string (bOf L)]) co23 (ar1 (T rfl rfl)) (sReadWide_ok (hL) (by first | omega | (simp; done) | (simp; omega))) ?_)
   rintro _ w2 ⟨rfl, e3⟩
   have E4 := below_ext E0 E0.size e3
   refine lw_v (.tuple #[.agg #[.int .u64 (wv3 (rdZ L)), .int .u64 (wv2 (rdZ L)), .int .u64 (wv1 (rdZ L)), .int .u64 (wv0 (rdZ L))], .bool (decide (rdS L))]) (dv_move (T rfl rfl)) ?_
   refine lw_v (.agg #[.int .u64 (wv3 (rdZ L)), .int .u64 (wv2 (rdZ L)), .int .u64 (wv1 (rdZ L)), .int .u64 (wv0 (rdZ L))]) (dv_extract (vs := #[.agg #[.int .u64 (wv3 (rdZ L)), .int .u64 (wv2 (rdZ L)), .int .u64 (wv1 (rdZ L)), .int .u64 (wv0 (rdZ L))], .bool (decide (rdS L))]) (T rfl rfl) rfl) ?_
   refine lw_v (.bool (decide (rdS L))) (dv_extract (vs := #[.agg #[.int .u64 (wv3 (rdZ L)), .int .u64 (wv2 (rdZ L)), .int .u64 (wv1 (rdZ L)), .int .u64 (wv0 (rdZ L))], .bool (decide (rdS L))]) (T rfl rfl) rfl) ?_
   refine lw_e (oe_alloc ze26 ?_)
   intro b5 w6 n7
   have N8 : w.heap.size ≤ b5 := n7.eq ▸ E4.size
   have E9 := below_ext E4 E4.size n7.ext
   refine lw_e (oe_store (v := .agg #[.int .u64 (wv3 (rdZ L)), .int .u64 (wv2 (rdZ L)), .int .u64 (wv1 (rdZ L)), .int .u64 (wv0 (rdZ L))]) (vs := [.int .u64 (wv3 (rdZ L)), .int .u64 (wv2 (rdZ L)), .int .u64 (wv1 (rdZ L)), .int .u64 (wv0 (rdZ L))]) (l := [.int .u64 (wv3 (rdZ L)), .int .u64 (wv2 (rdZ L)), .int .u64 (wv1 (rdZ L)), .int .u64 (wv0 (rdZ L))]) (T rfl rfl) (T rfl rfl) sz26 rfl rfl rfl n7.blk rfl ?_)
   intro w10 s11 H12
   have E13 := below_st E9 N8 s11
   refine lw_v (.bool (decide (rdS L))) (dv_assign (T rfl rfl)) ?_
   refine lw_nil ?_
   refine rk_seq ?_
   refine rk_reg ?_
   refine lw_v (.string (bOf L)) (dv_move (T rfl rfl)) ?_
   refine lw_e (oe_callf (vs := [.string (bOf L)]) co24 (ar1 (T rfl rfl)) (iReadWide_ok (hL) (by first | omega | (simp; done) | (simp; omega))) ?_)
   rintro _ w14 ⟨rfl, e15⟩
   have E16 := below_ext E13 E13.size e15
   refine lw_v (.tuple #[.agg #[.int .u64 (wv3 (rdZ L)), .int .u64 (wv2 (rdZ L)), .int .u64 (wv1 (rdZ L)), .int .u64 (wv0 (rdZ L))], .bool (decide (rdS L))]) (dv_move (T rfl rfl)) ?_
   refine lw_v (.agg #[.int .u64 (wv3 (rdZ L)), .int .u64 (wv2 (rdZ L)), .int .u64 (wv1 (rdZ L)), .int .u64 (wv0 (rdZ L))]) (dv_extract (vs := #[.agg #[.int .u64 (wv3 (rdZ L)), .int .u64 (wv2 (rdZ L)), .int .u64 (wv1 (rdZ L)), .int .u64 (wv0 (rdZ L))], .bool (decide (rdS L))]) (T rfl rfl) rfl) ?_
   refine lw_v (.bool (decide (rdS L))) (dv_extract (vs := #[.agg #[.int .u64 (wv3 (rdZ L)), .int .u64 (wv2 (rdZ L)), .int .u64 (wv1 (rdZ L)), .int .u64 (wv0 (rdZ L))], .bool (decide (rdS L))]) (T rfl rfl) rfl) ?_
   refine lw_e (oe_alloc ze26 ?_)
   intro b17 w18 n19
   have N20 : w.heap.size ≤ b17 := n19.eq ▸ E16.size
   have H21 := (e15.blk H12)
   have : b5 < b17 := n19.eq ▸ lt_of_blk H21
   have E22 := below_ext E16 E16.size n19.ext
   refine lw_e (oe_store (v := .agg #[.int .u64 (wv3 (rdZ L)), .int .u64 (wv2 (rdZ L)), .int .u64 (wv1 (rdZ L)), .int .u64 (wv0 (rdZ L))]) (vs := [.int .u64 (wv3 (rdZ L)), .int .u64 (wv2 (rdZ L)), .int .u64 (wv1 (rdZ L)), .int .u64 (wv0 (rdZ L))]) (l := [.int .u64 (wv3 (rdZ L)), .int .u64 (wv2 (rdZ L)), .int .u64 (wv1 (rdZ L)), .int .u64 (wv0 (rdZ L))]) (T rfl rfl) (T rfl rfl) sz26 rfl rfl rfl n19.blk rfl ?_)
   intro w23 s24 H25
   have E26 := below_st E22 N20 s24
   refine lw_v (.bool (decide (rdS L))) (dv_assign (T rfl rfl)) ?_
   refine lw_nil ?_
   refine rk_seq ?_
   refine rk_seq ?_
   refine rk_reg ?_
   refine lw_v (.agg #[.int .u64 (wv3 (rdZ L)), .int .u64 (wv2 (rdZ L)), .int .u64 (wv1 (rdZ L)), .int .u64 (wv0 (rdZ L))]) (dv_loads (l := [.int .u64 (wv3 (rdZ L)), .int .u64 (wv2 (rdZ L)), .int .u64 (wv1 (rdZ L)), .int .u64 (wv0 (rdZ L))]) agt26 sz26 (T rfl rfl) H25 rfl) ?_
   have H27 := (s24.blk (n19.ext.blk H21) (by omega))
   refine lw_v (.agg #[.int .u64 (wv3 (rdZ L)), .int .u64 (wv2 (rdZ L)), .int .u64 (wv1 (rdZ L)), .int .u64 (wv0 (rdZ L))]) (dv_loads (l := [.int .u64 (wv3 (rdZ L)), .int .u64 (wv2 (rdZ L)), .int .u64 (wv1 (rdZ L)), .int .u64 (wv0 (rdZ L))]) agt26 sz26 (T rfl rfl) H27 rfl) ?_
   refine lw_e (oe_callf (vs := [.agg #[.int .u64 (wv3 (rdZ L)), .int .u64 (wv2 (rdZ L)), .int .u64 (wv1 (rdZ L)), .int .u64 (wv0 (rdZ L))], .agg #[.int .u64 (wv3 (rdZ L)), .int .u64 (wv2 (rdZ L)), .int .u64 (wv1 (rdZ L)), .int .u64 (wv0 (rdZ L))]]) co25 (ar2 (T rfl rfl) (T rfl rfl)) (eqWide_ok (x := rdZ L) (y := rdZ L) (rdZ_f _) (rdZ_f _) ) ?_)
   rintro _ w28 ⟨rfl, e29⟩
   have E30 := below_ext E26 E26.size e29
   refine lw_v (.bool (decide (¬ ((rdZ L) = (rdZ L))))) (dv_notd (p := (rdZ L) = (rdZ L)) (T rfl rfl)) ?_
   refine lw_v (.bool (decide (¬ ((rdZ L) = (rdZ L))))) (dv_move (T rfl rfl)) ?_
   by_cases hb31 : (rdZ L) = (rdZ L)
   · refine lw_vy (.bool (decide (rdS L))) (d := 24) rfl rfl (congrArg Value.bool (decide_eq_false (not_not_intro hb31))) (dv_move (T rfl rfl)) ?_
     refine lw_vy (.bool (decide (rdS L))) (d := 24) rfl rfl (congrArg Value.bool (decide_eq_false (not_not_intro hb31))) (dv_move (T rfl rfl)) ?_
     refine lw_vy (.bool ((decide (rdS L)) != (decide (rdS L)))) (d := 24) rfl rfl (congrArg Value.bool (decide_eq_false (not_not_intro hb31))) (dv_neqb (a := decide (rdS L)) (b := decide (rdS L)) ub4 (T rfl rfl) (T rfl rfl)) ?_
     refine lw_v (.bool ((decide (rdS L)) != (decide (rdS L)))) (dv_pick_f (T rfl (congrArg Value.bool (decide_eq_false (not_not_intro hb31)))) (T rfl rfl)) ?_
     refine lw_nil ?_
     rcases Bool.eq_false_or_eq_true ((decide (rdS L)) != (decide (rdS L))) with hb32 | hb32
     · refine rk_ct (T rfl (congrArg Value.bool hb32)) ?_
       refine rk_seq ?_
       refine rk_reg ?_
       refine lw_v (.bool false) (dv_assign C) ?_
       refine lw_nil ?_
       refine rk_ret Try.func5 (v := .bool false) (res1 Try.results5 (rv_tmp rfl rfl)) ⟨_, rfl, ?_⟩
       exact ⟨(by exfalso; first | contradiction | exact absurd rfl (by assumption) | (simp at *; done) | grind), E30⟩
     · refine rk_cf (T rfl (congrArg Value.bool hb32)) ?_
       refine rk_skip ?_
       refine rk_seq ?_
       refine rk_reg ?_
       refine lw_v (.bool true) (dv_assign C) ?_
       refine lw_nil ?_
       refine rk_ret Try.func5 (v := .bool true) (res1 Try.results5 (rv_tmp rfl rfl)) ⟨_, rfl, ?_⟩
       exact ⟨rfl, E30⟩
   · refine lw_no (d := 24) rfl rfl (congrArg Value.bool (decide_eq_true hb31)) ?_
     refine lw_no (d := 24) rfl rfl (congrArg Value.bool (decide_eq_true hb31)) ?_
     refine lw_no (d := 24) rfl rfl (congrArg Value.bool (decide_eq_true hb31)) ?_
     refine lw_v (.bool true) (dv_pick_t (T rfl (congrArg Value.bool (decide_eq_true hb31))) C) ?_
     refine lw_nil ?_
     refine rk_ct (T rfl rfl) ?_
     refine rk_seq ?_
     refine rk_reg ?_
     refine lw_v (.bool false) (dv_assign C) ?_
     refine lw_nil ?_
     refine rk_ret Try.func5 (v := .bool false) (res1 Try.results5 (rv_tmp rfl rfl)) ⟨_, rfl, ?_⟩
     exact ⟨(by exfalso; first | contradiction | exact absurd rfl (by assumption) | (simp at *; done) | grind), E30⟩
theorem lawReadWide_w {w : World} {s : ByteArray} : Ct Try.prog 5 [.string s] w fun v w1 => v = .bool true ∧ Ext w w1 := by
 obtain ⟨L, rfl, hL⟩ := bOf_all s
 exact lawReadWide_ok hL
end Go.Proofs.Ytfmkadgjoechnaa.W
