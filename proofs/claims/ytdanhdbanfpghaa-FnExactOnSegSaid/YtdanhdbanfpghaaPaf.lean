/- Walks and plain mathematics, packed by a program of this session: declarations that the rows reach. -/
import Derived.Test.YtdanhdbanfpghaaPae
set_option linter.unusedVariables false
set_option linter.unusedSimpArgs false
namespace Go.Proofs.Ytdanhdbanfpghaa.W
open Go Go.RowKit Go.Proofs.Ytdanhdbanfpghaa.Fw
attribute [local irreducible] RunK LW AW DV OE Ct
theorem agt2 : aggB Try.prog 2 = some false := by kernel_rfl
theorem agt41 : aggB Try.prog 41 = some true := by kernel_rfl
theorem agt45 : aggB Try.prog 45 = some true := by kernel_rfl
theorem agt47 : aggB Try.prog 47 = some true := by kernel_rfl
theorem co109 : callOk Try.prog 109 = true := by kernel_rfl
theorem co114 : callOk Try.prog 114 = true := by kernel_rfl
theorem co124 : callOk Try.prog 124 = true := by kernel_rfl
theorem co31 : callOk Try.prog 31 = true := by kernel_rfl
theorem co45 : callOk Try.prog 45 = true := by kernel_rfl
theorem co84 : callOk Try.prog 84 = true := by kernel_rfl
theorem co85 : callOk Try.prog 85 = true := by kernel_rfl
theorem eg45 : Try.prog.eqGuardType Try.prog.depth 45 = false := by kernel_rfl
theorem fl45 : flatB Try.prog 45 .i64 2 = true := by kernel_rfl
theorem fo41_0 : fieldOffB Try.prog 41 0 = some 0 := by kernel_rfl
theorem fo41_1 : fieldOffB Try.prog 41 1 = some 1 := by kernel_rfl
theorem fo43_0 : fieldOffB Try.prog 43 0 = some 0 := by kernel_rfl
theorem fo43_1 : fieldOffB Try.prog 43 1 = some 2 := by kernel_rfl
theorem fo45_0 : fieldOffB Try.prog 45 0 = some 0 := by kernel_rfl
theorem fo45_1 : fieldOffB Try.prog 45 1 = some 1 := by kernel_rfl
theorem fo47_0 : fieldOffB Try.prog 47 0 = some 0 := by kernel_rfl
theorem fo47_1 : fieldOffB Try.prog 47 1 = some 2 := by kernel_rfl
theorem sz2 : sizeB Try.prog 2 = some 1 := by kernel_rfl
theorem sz41 : sizeB Try.prog 41 = some 2 := by kernel_rfl
theorem sz45 : sizeB Try.prog 45 = some 2 := by kernel_rfl
theorem sz47 : sizeB Try.prog 47 = some 4 := by kernel_rfl
theorem ze45 : zeroB Try.prog 45 = some #[.int .i64 0, .int .i64 0] := by kernel_rfl
theorem ze47 : zeroB Try.prog 47 = some #[.int .i64 0, .int .i64 0, .int .i64 0, .int .i64 0] := by kernel_rfl
set_option maxHeartbeats 1000000 in
theorem l1In_ok {w : World} {n lo hi : Int}   : Ct Try.prog 114 [.int .i64 n, .int .i64 lo, .int .i64 hi] w fun v w1 => v = .bool (decide (lo ≤ n ∧ n ≤ hi)) ∧ Ext w w1 := by
 refine ct_run (n := 15) Try.func114 rfl Try.ntmps114 rfl ?_
 have E0 : Below w.heap.size w w := Below.refl _ _
 refine rk_seq ?_
 refine rk_reg ?_
 refine lw_v (.bool false) (dv_assign C) ?_
 refine lw_nil ?_
 refine rk_seq ?_
 refine rk_reg ?_
 refine lw_v (.int .i64 n) (dv_move (T rfl rfl)) ?_
 refine lw_v (.int .i64 lo) (dv_move (T rfl rfl)) ?_
 refine lw_v (.bool (decide (lo ≤ n))) (dv_geq (a := n) (b := lo) (T rfl rfl) (T rfl rfl)) ?_
 refine lw_v (.bool (decide (lo ≤ n))) (dv_move (T rfl rfl)) ?_
 by_cases hb1 : lo ≤ n
 · refine lw_vy (.int .i64 n) (d := 10) rfl rfl (congrArg Value.bool (decide_eq_true hb1)) (dv_move (T rfl rfl)) ?_
   refine lw_vy (.int .i64 hi) (d := 10) rfl rfl (congrArg Value.bool (decide_eq_true hb1)) (dv_move (T rfl rfl)) ?_
   refine lw_vy (.bool (decide (n ≤ hi))) (d := 10) rfl rfl (congrArg Value.bool (decide_eq_true hb1)) (dv_leq (a := n) (b := hi) (T rfl rfl) (T rfl rfl)) ?_
   refine lw_v (.bool (decide (n ≤ hi))) (dv_pick_t (T rfl (congrArg Value.bool (decide_eq_true hb1))) (T rfl rfl)) ?_
   refine lw_v (.bool (decide (n ≤ hi))) (dv_assign (T rfl rfl)) ?_
   refine lw_nil ?_
   refine rk_ret Try.func114 (v := .bool (decide (n ≤ hi))) (res1 Try.results114 (rv_tmp rfl rfl)) ⟨_, rfl, ?_⟩
   exact ⟨(vb (by grind)), E0⟩
 · refine lw_no (d := 10) rfl rfl (congrArg Value.bool (decide_eq_false hb1)) ?_
   refine lw_no (d := 10) rfl rfl (congrArg Value.bool (decide_eq_false hb1)) ?_
   refine lw_no (d := 10) rfl rfl (congrArg Value.bool (decide_eq_false hb1)) ?_
   refine lw_v (.bool false) (dv_pick_f (T rfl (congrArg Value.bool (decide_eq_false hb1))) C) ?_
   refine lw_v (.bool false) (dv_assign (T rfl rfl)) ?_
   refine lw_nil ?_
   refine rk_ret Try.func114 (v := .bool false) (res1 Try.results114 (rv_tmp rfl rfl)) ⟨_, rfl, ?_⟩
   exact ⟨(vf (by grind)), E0⟩
set_option maxHeartbeats 1000000 in
theorem within_ok {w : World} {n lo hi : Int}   : Ct Try.prog 85 [.int .i64 n, .int .i64 lo, .int .i64 hi] w fun v w1 => v = .bool (decide (lo ≤ n ∧ n ≤ hi)) ∧ Ext w w1 := by
 refine ct_run (n := 15) Try.func85 rfl Try.ntmps85 rfl ?_
 have E0 : Below w.heap.size w w := Below.refl _ _
 refine rk_seq ?_
 refine rk_reg ?_
 refine lw_v (.bool false) (dv_assign C) ?_
 refine lw_nil ?_
 refine rk_seq ?_
 refine rk_reg ?_
 refine lw_v (.int .i64 lo) (dv_move (T rfl rfl)) ?_
 refine lw_v (.int .i64 n) (dv_move (T rfl rfl)) ?_
 refine lw_v (.bool (decide (lo ≤ n))) (dv_leq (a := lo) (b := n) (T rfl rfl) (T rfl rfl)) ?_
 refine lw_v (.bool (decide (lo ≤ n))) (dv_move (T rfl rfl)) ?_
 by_cases hb1 : lo ≤ n
 · refine lw_vy (.int .i64 n) (d := 10) rfl rfl (congrArg Value.bool (decide_eq_true hb1)) (dv_move (T rfl rfl)) ?_
   refine lw_vy (.int .i64 hi) (d := 10) rfl rfl (congrArg Value.bool (decide_eq_true hb1)) (dv_move (T rfl rfl)) ?_
   refine lw_vy (.bool (decide (n ≤ hi))) (d := 10) rfl rfl (congrArg Value.bool (decide_eq_true hb1)) (dv_leq (a := n) (b := hi) (T rfl rfl) (T rfl rfl)) ?_
   refine lw_v (.bool (decide (n ≤ hi))) (dv_pick_t (T rfl (congrArg Value.bool (decide_eq_true hb1))) (T rfl rfl)) ?_
   refine lw_v (.bool (decide (n ≤ hi))) (dv_assign (T rfl rfl)) ?_
   refine lw_nil ?_
   refine rk_ret Try.func85 (v := .bool (decide (n ≤ hi))) (res1 Try.results85 (rv_tmp rfl rfl)) ⟨_, rfl, ?_⟩
   exact ⟨(vb (by grind)), E0⟩
 · refine lw_no (d := 10) rfl rfl (congrArg Value.bool (decide_eq_false hb1)) ?_
   refine lw_no (d := 10) rfl rfl (congrArg Value.bool (decide_eq_false hb1)) ?_
   refine lw_no (d := 10) rfl rfl (congrArg Value.bool (decide_eq_false hb1)) ?_
   refine lw_v (.bool false) (dv_pick_f (T rfl (congrArg Value.bool (decide_eq_false hb1))) C) ?_
   refine lw_v (.bool false) (dv_assign (T rfl rfl)) ?_
   refine lw_nil ?_
   refine rk_ret Try.func85 (v := .bool false) (res1 Try.results85 (rv_tmp rfl rfl)) ⟨_, rfl, ?_⟩
   exact ⟨(vf (by grind)), E0⟩
set_option maxHeartbeats 1000000 in
theorem sSpotOk_ok {w : World} {x y : Int}   : Ct Try.prog 109 [.agg #[.int .i64 x, .int .i64 y]] w fun v w1 => v = .bool (decide (spotOk x y)) ∧ Ext w w1 := by
 refine ct_run (n := 11) Try.func109 rfl Try.ntmps109 rfl ?_
 have E0 : Below w.heap.size w w := Below.refl _ _
 refine rk_seq ?_
 refine rk_reg ?_
 refine lw_e (oe_box (v := .agg #[.int .i64 x, .int .i64 y]) (cs := #[.int .i64 x, .int .i64 y]) (T rfl rfl) rfl ?_)
 intro b1 w2 n3
 have N4 : w.heap.size ≤ b1 := n3.eq ▸ E0.size
 have E5 := below_ext E0 E0.size n3.ext
 refine lw_v (.bool false) (dv_assign C) ?_
 refine lw_nil ?_
 refine rk_seq ?_
 refine rk_reg ?_
 refine lw_v (.pointer (some ⟨b1, 0, none⟩)) (dv_fieldAddr (a := ⟨b1, 0, none⟩) (a' := ⟨b1, 0, none⟩) fo45_0 (T rfl rfl) rfl) ?_
 refine lw_v (.int .i64 x) (dv_load1 (b := b1) (o := 0) agt2 (T rfl rfl) n3.blk rfl) ?_
 refine lw_e (oe_callf (vs := [.int .i64 x, .int .i64 (-1000000), .int .i64 1000000]) co114 (ar3 (T rfl rfl) C C) (l1In_ok (n := x) (lo := -1000000) (hi := 1000000)  ) ?_)
 rintro _ w6 ⟨rfl, e7⟩
 have E8 := below_ext E5 E5.size e7
 refine lw_v (.bool (decide ((-1000000 : Int) ≤ x ∧ x ≤ (1000000 : Int)))) (dv_move (T rfl rfl)) ?_
 by_cases hb9 : (-1000000 : Int) ≤ x ∧ x ≤ (1000000 : Int)
 · refine lw_vy (.pointer (some ⟨b1, 1, none⟩)) (d := 6) rfl rfl (congrArg Value.bool (decide_eq_true hb9)) (dv_fieldAddr (a := ⟨b1, 0, none⟩) (a' := ⟨b1, 1, none⟩) fo45_1 (T rfl rfl) rfl) ?_
   have H10 := (e7.blk n3.blk)
   refine lw_vy (.int .i64 y) (d := 6) rfl rfl (congrArg Value.bool (decide_eq_true hb9)) (dv_load1 (b := b1) (o := 1) agt2 (T rfl rfl) H10 rfl) ?_
   refine lw_ey (d := 6) rfl rfl (congrArg Value.bool (decide_eq_true hb9)) (oe_callf (vs := [.int .i64 y, .int .i64 (-1000000), .int .i64 1000000]) co114 (ar3 (T rfl rfl) C C) (l1In_ok (n := y) (lo := -1000000) (hi := 1000000)  ) ?_)
   rintro _ w11 ⟨rfl, e12⟩
   have E13 := below_ext E8 E8.size e12
   refine lw_v (.bool (decide ((-1000000 : Int) ≤ y ∧ y ≤ (1000000 : Int)))) (dv_pick_t (T rfl (congrArg Value.bool (decide_eq_true hb9))) (T rfl rfl)) ?_
   refine lw_v (.bool (decide ((-1000000 : Int) ≤ y ∧ y ≤ (1000000 : Int)))) (dv_assign (T rfl rfl)) ?_
   refine lw_nil ?_
   refine rk_ret Try.func109 (v := .bool (decide ((-1000000 : Int) ≤ y ∧ y ≤ (1000000 : Int)))) (res1 Try.results109 (rv_tmp rfl rfl)) ⟨_, rfl, ?_⟩
   exact ⟨(vb (by unfold spotOk; grind)), E13⟩
 · refine lw_no (d := 6) rfl rfl (congrArg Value.bool (decide_eq_false hb9)) ?_
   refine lw_no (d := 6) rfl rfl (congrArg Value.bool (decide_eq_false hb9)) ?_
   refine lw_no (d := 6) rfl rfl (congrArg Value.bool (decide_eq_false hb9)) ?_
   refine lw_v (.bool false) (dv_pick_f (T rfl (congrArg Value.bool (decide_eq_false hb9))) C) ?_
   refine lw_v (.bool false) (dv_assign (T rfl rfl)) ?_
   refine lw_nil ?_
   refine rk_ret Try.func109 (v := .bool false) (res1 Try.results109 (rv_tmp rfl rfl)) ⟨_, rfl, ?_⟩
   exact ⟨(vf (by unfold spotOk; grind)), E8⟩
set_option maxHeartbeats 1000000 in
theorem iSpotOk_ok {w : World} {x y : Int}   : Ct Try.prog 31 [.agg #[.int .i64 x, .int .i64 y]] w fun v w1 => v = .bool (decide (spotOk x y)) ∧ Ext w w1 := by
 refine ct_run (n := 11) Try.func31 rfl Try.ntmps31 rfl ?_
 have E0 : Below w.heap.size w w := Below.refl _ _
 refine rk_seq ?_
 refine rk_reg ?_
 refine lw_e (oe_box (v := .agg #[.int .i64 x, .int .i64 y]) (cs := #[.int .i64 x, .int .i64 y]) (T rfl rfl) rfl ?_)
 intro b1 w2 n3
 have N4 : w.heap.size ≤ b1 := n3.eq ▸ E0.size
 have E5 := below_ext E0 E0.size n3.ext
 refine lw_v (.bool false) (dv_assign C) ?_
 refine lw_nil ?_
 refine rk_seq ?_
 refine rk_reg ?_
 refine lw_v (.pointer (some ⟨b1, 0, none⟩)) (dv_fieldAddr (a := ⟨b1, 0, none⟩) (a' := ⟨b1, 0, none⟩) fo45_0 (T rfl rfl) rfl) ?_
 refine lw_v (.int .i64 x) (dv_load1 (b := b1) (o := 0) agt2 (T rfl rfl) n3.blk rfl) ?_
 refine lw_e (oe_callf (vs := [.int .i64 x, .int .i64 (-1000000), .int .i64 1000000]) co85 (ar3 (T rfl rfl) C C) (within_ok (n := x) (lo := -1000000) (hi := 1000000)  ) ?_)
 rintro _ w6 ⟨rfl, e7⟩
 have E8 := below_ext E5 E5.size e7
 refine lw_v (.bool (decide ((-1000000 : Int) ≤ x ∧ x ≤ (1000000 : Int)))) (dv_move (T rfl rfl)) ?_
 by_cases hb9 : (-1000000 : Int) ≤ x ∧ x ≤ (1000000 : Int)
 · refine lw_vy (.pointer (some ⟨b1, 1, none⟩)) (d := 6) rfl rfl (congrArg Value.bool (decide_eq_true hb9)) (dv_fieldAddr (a := ⟨b1, 0, none⟩) (a' := ⟨b1, 1, none⟩) fo45_1 (T rfl rfl) rfl) ?_
   have H10 := (e7.blk n3.blk)
   refine lw_vy (.int .i64 y) (d := 6) rfl rfl (congrArg Value.bool (decide_eq_true hb9)) (dv_load1 (b := b1) (o := 1) agt2 (T rfl rfl) H10 rfl) ?_
   refine lw_ey (d := 6) rfl rfl (congrArg Value.bool (decide_eq_true hb9)) (oe_callf (vs := [.int .i64 y, .int .i64 (-1000000), .int .i64 1000000]) co85 (ar3 (T rfl rfl) C C) (within_ok (n := y) (lo := -1000000) (hi := 1000000)  ) ?_)
   rintro _ w11 ⟨rfl, e12⟩
   have E13 := below_ext E8 E8.size e12
   refine lw_v (.bool (decide ((-1000000 : Int) ≤ y ∧ y ≤ (1000000 : Int)))) (dv_pick_t (T rfl (congrArg Value.bool (decide_eq_true hb9))) (T rfl rfl)) ?_
   refine lw_v (.bool (decide ((-1000000 : Int) ≤ y ∧ y ≤ (1000000 : Int)))) (dv_assign (T rfl rfl)) ?_
   refine lw_nil ?_
   refine rk_ret Try.func31 (v := .bool (decide ((-1000000 : Int) ≤ y ∧ y ≤ (1000000 : Int)))) (res1 Try.results31 (rv_tmp rfl rfl)) ⟨_, rfl, ?_⟩
   exact ⟨(vb (by unfold spotOk; grind)), E13⟩
 · refine lw_no (d := 6) rfl rfl (congrArg Value.bool (decide_eq_false hb9)) ?_
   refine lw_no (d := 6) rfl rfl (congrArg Value.bool (decide_eq_false hb9)) ?_
   refine lw_no (d := 6) rfl rfl (congrArg Value.bool (decide_eq_false hb9)) ?_
   refine lw_v (.bool false) (dv_pick_f (T rfl (congrArg Value.bool (decide_eq_false hb9))) C) ?_
   refine lw_v (.bool false) (dv_assign (T rfl rfl)) ?_
   refine lw_nil ?_
   refine rk_ret Try.func31 (v := .bool false) (res1 Try.results31 (rv_tmp rfl rfl)) ⟨_, rfl, ?_⟩
   exact ⟨(vf (by unfold spotOk; grind)), E8⟩
set_option maxHeartbeats 1000000 in
theorem toSpot_ok {w : World} {x y : Int}   : Ct Try.prog 45 [.agg #[.int .i64 x, .int .i64 y]] w fun v w1 => v = .agg #[.int .i64 x, .int .i64 y] ∧ Ext w w1 := by
 refine ct_run (n := 11) Try.func45 rfl Try.ntmps45 rfl ?_
 have E0 : Below w.heap.size w w := Below.refl _ _
 refine rk_seq ?_
 refine rk_reg ?_
 refine lw_e (oe_box (v := .agg #[.int .i64 x, .int .i64 y]) (cs := #[.int .i64 x, .int .i64 y]) (T rfl rfl) rfl ?_)
 intro b1 w2 n3
 have N4 : w.heap.size ≤ b1 := n3.eq ▸ E0.size
 have E5 := below_ext E0 E0.size n3.ext
 refine lw_e (oe_alloc ze45 ?_)
 intro b6 w7 n8
 have N9 : w.heap.size ≤ b6 := n8.eq ▸ E5.size
 have : b1 < b6 := n8.eq ▸ lt_of_blk n3.blk
 have E10 := below_ext E5 E5.size n8.ext
 refine lw_nil ?_
 refine rk_seq ?_
 refine rk_reg ?_
 refine lw_e (oe_alloc ze45 ?_)
 intro b11 w12 n13
 have N14 : w.heap.size ≤ b11 := n13.eq ▸ E10.size
 have : b6 < b11 := n13.eq ▸ lt_of_blk n8.blk
 have E15 := below_ext E10 E10.size n13.ext
 refine lw_nil ?_
 refine rk_seq ?_
 refine rk_reg ?_
 refine lw_v (.pointer (some ⟨b1, 0, none⟩)) (dv_fieldAddr (a := ⟨b1, 0, none⟩) (a' := ⟨b1, 0, none⟩) fo41_0 (T rfl rfl) rfl) ?_
 have H16 := (n13.ext.blk (n8.ext.blk n3.blk))
 refine lw_v (.int .i64 x) (dv_load1 (b := b1) (o := 0) agt2 (T rfl rfl) H16 rfl) ?_
 refine lw_v (.pointer (some ⟨b11, 0, none⟩)) (dv_fieldAddr (a := ⟨b11, 0, none⟩) (a' := ⟨b11, 0, none⟩) fo45_0 (T rfl rfl) rfl) ?_
 refine lw_e (oe_store (v := .int .i64 x) (vs := [.int .i64 x]) (l := [.int .i64 x, .int .i64 0]) (T rfl rfl) (T rfl rfl) sz2 rfl rfl rfl n13.blk rfl ?_)
 intro w17 s18 H19
 have E20 := below_st E15 N14 s18
 refine lw_nil ?_
 refine rk_seq ?_
 refine rk_reg ?_
 refine lw_v (.pointer (some ⟨b1, 1, none⟩)) (dv_fieldAddr (a := ⟨b1, 0, none⟩) (a' := ⟨b1, 1, none⟩) fo41_1 (T rfl rfl) rfl) ?_
 have H21 := (s18.blk H16 (by omega))
 refine lw_v (.int .i64 y) (dv_load1 (b := b1) (o := 1) agt2 (T rfl rfl) H21 rfl) ?_
 refine lw_v (.pointer (some ⟨b11, 1, none⟩)) (dv_fieldAddr (a := ⟨b11, 0, none⟩) (a' := ⟨b11, 1, none⟩) fo45_1 (T rfl rfl) rfl) ?_
 refine lw_e (oe_store (v := .int .i64 y) (vs := [.int .i64 y]) (l := [.int .i64 x, .int .i64 y]) (T rfl rfl) (T rfl rfl) sz2 rfl rfl rfl H19 rfl ?_)
 intro w22 s23 H24
 have E25 := below_st E20 N14 s23
 refine lw_nil ?_
 refine rk_seq ?_
 refine rk_reg ?_
 refine lw_v (.agg #[.int .i64 x, .int .i64 y]) (dv_loads (l := [.int .i64 x, .int .i64 y]) agt45 sz45 (T rfl rfl) H24 rfl) ?_
 have H26 := (s23.blk (s18.blk (n13.ext.blk n8.blk) (by omega)) (by omega))
 refine lw_e (oe_store (v := .agg #[.int .i64 x, .int .i64 y]) (vs := [.int .i64 x, .int .i64 y]) (l := [.int .i64 x, .int .i64 y]) (T rfl rfl) (T rfl rfl) sz45 rfl rfl rfl H26 rfl ?_)
 intro w27 s28 H29
 have E30 := below_st E25 N9 s28
 refine lw_nil ?_
 refine rk_ret Try.func45 (v := .agg #[.int .i64 x, .int .i64 y]) (res1 Try.results45 (rv_cells (l := [.int .i64 x, .int .i64 y]) agt45 sz45 rfl rfl H29 rfl)) ⟨_, rfl, ?_⟩
 exact ⟨rfl, E30⟩
set_option maxHeartbeats 1000000 in
theorem l4Less_ok {w : World} {ax ay bx b_y : Int}   : Ct Try.prog 124 [.agg #[.int .i64 ax, .int .i64 ay], .agg #[.int .i64 bx, .int .i64 b_y]] w fun v w1 => v = .bool (decide (spotLt ax ay bx b_y)) ∧ Ext w w1 := by
 refine ct_run (n := 24) Try.func124 rfl Try.ntmps124 rfl ?_
 have E0 : Below w.heap.size w w := Below.refl _ _
 refine rk_seq ?_
 refine rk_reg ?_
 refine lw_e (oe_box (v := .agg #[.int .i64 ax, .int .i64 ay]) (cs := #[.int .i64 ax, .int .i64 ay]) (T rfl rfl) rfl ?_)
 intro b1 w2 n3
 have N4 : w.heap.size ≤ b1 := n3.eq ▸ E0.size
 have E5 := below_ext E0 E0.size n3.ext
 refine lw_e (oe_box (v := .agg #[.int .i64 bx, .int .i64 b_y]) (cs := #[.int .i64 bx, .int .i64 b_y]) (T rfl rfl) rfl ?_)
 intro b6 w7 n8
 have N9 : w.heap.size ≤ b6 := n8.eq ▸ E5.size
 have : b1 < b6 := n8.eq ▸ lt_of_blk n3.blk
 have E10 := below_ext E5 E5.size n8.ext
 refine lw_v (.bool false) (dv_assign C) ?_
 refine lw_nil ?_
 refine rk_seq ?_
 refine rk_reg ?_
 refine lw_v (.pointer (some ⟨b1, 0, none⟩)) (dv_fieldAddr (a := ⟨b1, 0, none⟩) (a' := ⟨b1, 0, none⟩) fo45_0 (T rfl rfl) rfl) ?_
 have H11 := (n8.ext.blk n3.blk)
 refine lw_v (.int .i64 ax) (dv_load1 (b := b1) (o := 0) agt2 (T rfl rfl) H11 rfl) ?_
 refine lw_v (.pointer (some ⟨b6, 0, none⟩)) (dv_fieldAddr (a := ⟨b6, 0, none⟩) (a' := ⟨b6, 0, none⟩) fo45_0 (T rfl rfl) rfl) ?_
 refine lw_v (.int .i64 bx) (dv_load1 (b := b6) (o := 0) agt2 (T rfl rfl) n8.blk rfl) ?_
 refine lw_v (.bool (decide (ax < bx))) (dv_lss (a := ax) (b := bx) (T rfl rfl) (T rfl rfl)) ?_
 refine lw_v (.bool (decide (ax < bx))) (dv_move (T rfl rfl)) ?_
 by_cases hb12 : ax < bx
 · refine lw_no (d := 10) rfl rfl (congrArg Value.bool (decide_eq_true hb12)) ?_
   refine lw_no (d := 10) rfl rfl (congrArg Value.bool (decide_eq_true hb12)) ?_
   refine lw_no (d := 10) rfl rfl (congrArg Value.bool (decide_eq_true hb12)) ?_
   refine lw_no (d := 10) rfl rfl (congrArg Value.bool (decide_eq_true hb12)) ?_
   refine lw_no (d := 10) rfl rfl (congrArg Value.bool (decide_eq_true hb12)) ?_
   refine lw_no (d := 10) rfl rfl (congrArg Value.bool (decide_eq_true hb12)) ?_
   refine lw_nou (d := 16) rfl rfl ?_
   refine lw_nou (d := 16) rfl rfl ?_
   refine lw_nou (d := 16) rfl rfl ?_
   refine lw_nou (d := 16) rfl rfl ?_
   refine lw_nou (d := 16) rfl rfl ?_
   refine lw_no (d := 10) rfl rfl (congrArg Value.bool (decide_eq_true hb12)) ?_
   refine lw_v (.bool true) (dv_pick_t (T rfl (congrArg Value.bool (decide_eq_true hb12))) C) ?_
   refine lw_v (.bool true) (dv_assign (T rfl rfl)) ?_
   refine lw_nil ?_
   refine rk_ret Try.func124 (v := .bool true) (res1 Try.results124 (rv_tmp rfl rfl)) ⟨_, rfl, ?_⟩
   exact ⟨(vt (by unfold spotLt; grind)), E10⟩
 · refine lw_vy (.pointer (some ⟨b1, 0, none⟩)) (d := 10) rfl rfl (congrArg Value.bool (decide_eq_false hb12)) (dv_fieldAddr (a := ⟨b1, 0, none⟩) (a' := ⟨b1, 0, none⟩) fo45_0 (T rfl rfl) rfl) ?_
   refine lw_vy (.int .i64 ax) (d := 10) rfl rfl (congrArg Value.bool (decide_eq_false hb12)) (dv_load1 (b := b1) (o := 0) agt2 (T rfl rfl) H11 rfl) ?_
   refine lw_vy (.pointer (some ⟨b6, 0, none⟩)) (d := 10) rfl rfl (congrArg Value.bool (decide_eq_false hb12)) (dv_fieldAddr (a := ⟨b6, 0, none⟩) (a' := ⟨b6, 0, none⟩) fo45_0 (T rfl rfl) rfl) ?_
   refine lw_vy (.int .i64 bx) (d := 10) rfl rfl (congrArg Value.bool (decide_eq_false hb12)) (dv_load1 (b := b6) (o := 0) agt2 (T rfl rfl) n8.blk rfl) ?_
   refine lw_vy (.bool (decide (ax = bx))) (d := 10) rfl rfl (congrArg Value.bool (decide_eq_false hb12)) (dv_eql (a := ax) (b := bx) (T rfl rfl) (T rfl rfl)) ?_
   refine lw_vy (.bool (decide (ax = bx))) (d := 10) rfl rfl (congrArg Value.bool (decide_eq_false hb12)) (dv_move (T rfl rfl)) ?_
   by_cases hb13 : ax = bx
   · refine lw_vy (.pointer (some ⟨b1, 1, none⟩)) (d := 16) rfl rfl (congrArg Value.bool (decide_eq_true hb13)) (dv_fieldAddr (a := ⟨b1, 0, none⟩) (a' := ⟨b1, 1, none⟩) fo45_1 (T rfl rfl) rfl) ?_
     refine lw_vy (.int .i64 ay) (d := 16) rfl rfl (congrArg Value.bool (decide_eq_true hb13)) (dv_load1 (b := b1) (o := 1) agt2 (T rfl rfl) H11 rfl) ?_
     refine lw_vy (.pointer (some ⟨b6, 1, none⟩)) (d := 16) rfl rfl (congrArg Value.bool (decide_eq_true hb13)) (dv_fieldAddr (a := ⟨b6, 0, none⟩) (a' := ⟨b6, 1, none⟩) fo45_1 (T rfl rfl) rfl) ?_
     refine lw_vy (.int .i64 b_y) (d := 16) rfl rfl (congrArg Value.bool (decide_eq_true hb13)) (dv_load1 (b := b6) (o := 1) agt2 (T rfl rfl) n8.blk rfl) ?_
     refine lw_vy (.bool (decide (ay < b_y))) (d := 16) rfl rfl (congrArg Value.bool (decide_eq_true hb13)) (dv_lss (a := ay) (b := b_y) (T rfl rfl) (T rfl rfl)) ?_
     refine lw_vy (.bool (decide (ay < b_y))) (d := 10) rfl rfl (congrArg Value.bool (decide_eq_false hb12)) (dv_pick_t (T rfl (congrArg Value.bool (decide_eq_true hb13))) (T rfl rfl)) ?_
     refine lw_v (.bool (decide (ay < b_y))) (dv_pick_f (T rfl (congrArg Value.bool (decide_eq_false hb12))) (T rfl rfl)) ?_
     refine lw_v (.bool (decide (ay < b_y))) (dv_assign (T rfl rfl)) ?_
     refine lw_nil ?_
     refine rk_ret Try.func124 (v := .bool (decide (ay < b_y))) (res1 Try.results124 (rv_tmp rfl rfl)) ⟨_, rfl, ?_⟩
     exact ⟨(vb (by unfold spotLt; grind)), E10⟩
   · refine lw_no (d := 16) rfl rfl (congrArg Value.bool (decide_eq_false hb13)) ?_
     refine lw_no (d := 16) rfl rfl (congrArg Value.bool (decide_eq_false hb13)) ?_
     refine lw_no (d := 16) rfl rfl (congrArg Value.bool (decide_eq_false hb13)) ?_
     refine lw_no (d := 16) rfl rfl (congrArg Value.bool (decide_eq_false hb13)) ?_
     refine lw_no (d := 16) rfl rfl (congrArg Value.bool (decide_eq_false hb13)) ?_
     refine lw_vy (.bool false) (d := 10) rfl rfl (congrArg Value.bool (decide_eq_false hb12)) (dv_pick_f (T rfl (congrArg Value.bool (decide_eq_false hb13))) C) ?_
     refine lw_v (.bool false) (dv_pick_f (T rfl (congrArg Value.bool (decide_eq_false hb12))) (T rfl rfl)) ?_
     refine lw_v (.bool false) (dv_assign (T rfl rfl)) ?_
     refine lw_nil ?_
     refine rk_ret Try.func124 (v := .bool false) (res1 Try.results124 (rv_tmp rfl rfl)) ⟨_, rfl, ?_⟩
     exact ⟨(vf (by unfold spotLt; grind)), E10⟩
set_option maxHeartbeats 1000000 in
theorem cmpSpots_ok {w : World} {ax ay bx b_y : Int}   : Ct Try.prog 84 [.agg #[.int .i64 ax, .int .i64 ay], .agg #[.int .i64 bx, .int .i64 b_y]] w fun v w1 => v = .int .i64 (cmpS ax ay bx b_y) ∧ Ext w w1 := by
 refine ct_run (n := 29) Try.func84 rfl Try.ntmps84 rfl ?_
 have E0 : Below w.heap.size w w := Below.refl _ _
 refine rk_seq ?_
 refine rk_reg ?_
 refine lw_e (oe_box (v := .agg #[.int .i64 ax, .int .i64 ay]) (cs := #[.int .i64 ax, .int .i64 ay]) (T rfl rfl) rfl ?_)
 intro b1 w2 n3
 have N4 : w.heap.size ≤ b1 := n3.eq ▸ E0.size
 have E5 := below_ext E0 E0.size n3.ext
 refine lw_e (oe_box (v := .agg #[.int .i64 bx, .int .i64 b_y]) (cs := #[.int .i64 bx, .int .i64 b_y]) (T rfl rfl) rfl ?_)
 intro b6 w7 n8
 have N9 : w.heap.size ≤ b6 := n8.eq ▸ E5.size
 have : b1 < b6 := n8.eq ▸ lt_of_blk n3.blk
 have E10 := below_ext E5 E5.size n8.ext
 refine lw_v (.int .i64 0) (dv_assign C) ?_
 refine lw_nil ?_
 refine rk_seq ?_
 refine rk_block ?_
 refine rk_seq ?_
 refine rk_reg ?_
 have H11 := (n8.ext.blk n3.blk)
 refine lw_v (.agg #[.int .i64 ax, .int .i64 ay]) (dv_loads (l := [.int .i64 ax, .int .i64 ay]) agt45 sz45 (T rfl rfl) H11 rfl) ?_
 refine lw_v (.agg #[.int .i64 bx, .int .i64 b_y]) (dv_loads (l := [.int .i64 bx, .int .i64 b_y]) agt45 sz45 (T rfl rfl) n8.blk rfl) ?_
 refine lw_v (.bool (decide (([ax, ay] : List Int) = [bx, b_y]))) (dv_eqls (k := .i64) (la := [ax, ay]) (lb := [bx, b_y]) fl45 eg45 (T rfl rfl) (T rfl rfl) rfl rfl) ?_
 refine lw_v (.bool (decide (([ax, ay] : List Int) = [bx, b_y]))) (dv_assign (T rfl rfl)) ?_
 refine lw_nil ?_
 by_cases hb12 : ([ax, ay] : List Int) = [bx, b_y]
 · refine rk_ct (T rfl (congrArg Value.bool (decide_eq_true hb12))) ?_
   refine rk_seq ?_
   refine rk_reg ?_
   refine lw_v (.int .i64 0) (dv_assign C) ?_
   refine lw_nil ?_
   refine rk_ret Try.func84 (v := .int .i64 0) (res1 Try.results84 (rv_tmp rfl rfl)) ⟨_, rfl, ?_⟩
   exact ⟨(vi (by unfold cmpS spotLt; grind)), E10⟩
 · refine rk_cf (T rfl (congrArg Value.bool (decide_eq_false hb12))) ?_
   refine rk_seq ?_
   refine rk_reg ?_
   refine lw_v (.pointer (some ⟨b1, 0, none⟩)) (dv_fieldAddr (a := ⟨b1, 0, none⟩) (a' := ⟨b1, 0, none⟩) fo45_0 (T rfl rfl) rfl) ?_
   refine lw_v (.int .i64 ax) (dv_load1 (b := b1) (o := 0) agt2 (T rfl rfl) H11 rfl) ?_
   refine lw_v (.pointer (some ⟨b6, 0, none⟩)) (dv_fieldAddr (a := ⟨b6, 0, none⟩) (a' := ⟨b6, 0, none⟩) fo45_0 (T rfl rfl) rfl) ?_
   refine lw_v (.int .i64 bx) (dv_load1 (b := b6) (o := 0) agt2 (T rfl rfl) n8.blk rfl) ?_
   refine lw_v (.bool (decide (ax < bx))) (dv_lss (a := ax) (b := bx) (T rfl rfl) (T rfl rfl)) ?_
   refine lw_v (.bool (decide (ax < bx))) (dv_move (T rfl rfl)) ?_
   by_cases hb13 : ax < bx
   · refine lw_no (d := 15) rfl rfl (congrArg Value.bool (decide_eq_true hb13)) ?_
     refine lw_no (d := 15) rfl rfl (congrArg Value.bool (decide_eq_true hb13)) ?_
     refine lw_no (d := 15) rfl rfl (congrArg Value.bool (decide_eq_true hb13)) ?_
     refine lw_no (d := 15) rfl rfl (congrArg Value.bool (decide_eq_true hb13)) ?_
     refine lw_no (d := 15) rfl rfl (congrArg Value.bool (decide_eq_true hb13)) ?_
     refine lw_no (d := 15) rfl rfl (congrArg Value.bool (decide_eq_true hb13)) ?_
     refine lw_nou (d := 21) rfl rfl ?_
     refine lw_nou (d := 21) rfl rfl ?_
     refine lw_nou (d := 21) rfl rfl ?_
     refine lw_nou (d := 21) rfl rfl ?_
     refine lw_nou (d := 21) rfl rfl ?_
     refine lw_no (d := 15) rfl rfl (congrArg Value.bool (decide_eq_true hb13)) ?_
     refine lw_v (.bool true) (dv_pick_t (T rfl (congrArg Value.bool (decide_eq_true hb13))) C) ?_
     refine lw_v (.bool true) (dv_assign (T rfl rfl)) ?_
     refine lw_nil ?_
     refine rk_ct (T rfl rfl) ?_
     refine rk_seq ?_
     refine rk_reg ?_
     refine lw_v (.int .i64 (-1)) (dv_assign C) ?_
     refine lw_nil ?_
     refine rk_ret Try.func84 (v := .int .i64 (-1)) (res1 Try.results84 (rv_tmp rfl rfl)) ⟨_, rfl, ?_⟩
     exact ⟨(vi (by unfold cmpS spotLt; grind)), E10⟩
   · refine lw_vy (.pointer (some ⟨b1, 0, none⟩)) (d := 15) rfl rfl (congrArg Value.bool (decide_eq_false hb13)) (dv_fieldAddr (a := ⟨b1, 0, none⟩) (a' := ⟨b1, 0, none⟩) fo45_0 (T rfl rfl) rfl) ?_
     refine lw_vy (.int .i64 ax) (d := 15) rfl rfl (congrArg Value.bool (decide_eq_false hb13)) (dv_load1 (b := b1) (o := 0) agt2 (T rfl rfl) H11 rfl) ?_
     refine lw_vy (.pointer (some ⟨b6, 0, none⟩)) (d := 15) rfl rfl (congrArg Value.bool (decide_eq_false hb13)) (dv_fieldAddr (a := ⟨b6, 0, none⟩) (a' := ⟨b6, 0, none⟩) fo45_0 (T rfl rfl) rfl) ?_
     refine lw_vy (.int .i64 bx) (d := 15) rfl rfl (congrArg Value.bool (decide_eq_false hb13)) (dv_load1 (b := b6) (o := 0) agt2 (T rfl rfl) n8.blk rfl) ?_
     refine lw_vy (.bool (decide (ax = bx))) (d := 15) rfl rfl (congrArg Value.bool (decide_eq_false hb13)) (dv_eql (a := ax) (b := bx) (T rfl rfl) (T rfl rfl)) ?_
     refine lw_vy (.bool (decide (ax = bx))) (d := 15) rfl rfl (congrArg Value.bool (decide_eq_false hb13)) (dv_move (T rfl rfl)) ?_
     by_cases hb14 : ax = bx
     · refine lw_vy (.pointer (some ⟨b1, 1, none⟩)) (d := 21) rfl rfl (congrArg Value.bool (decide_eq_true hb14)) (dv_fieldAddr (a := ⟨b1, 0, none⟩) (a' := ⟨b1, 1, none⟩) fo45_1 (T rfl rfl) rfl) ?_
       refine lw_vy (.int .i64 ay) (d := 21) rfl rfl (congrArg Value.bool (decide_eq_true hb14)) (dv_load1 (b := b1) (o := 1) agt2 (T rfl rfl) H11 rfl) ?_
       refine lw_vy (.pointer (some ⟨b6, 1, none⟩)) (d := 21) rfl rfl (congrArg Value.bool (decide_eq_true hb14)) (dv_fieldAddr (a := ⟨b6, 0, none⟩) (a' := ⟨b6, 1, none⟩) fo45_1 (T rfl rfl) rfl) ?_
       refine lw_vy (.int .i64 b_y) (d := 21) rfl rfl (congrArg Value.bool (decide_eq_true hb14)) (dv_load1 (b := b6) (o := 1) agt2 (T rfl rfl) n8.blk rfl) ?_
       refine lw_vy (.bool (decide (ay < b_y))) (d := 21) rfl rfl (congrArg Value.bool (decide_eq_true hb14)) (dv_lss (a := ay) (b := b_y) (T rfl rfl) (T rfl rfl)) ?_
       refine lw_vy (.bool (decide (ay < b_y))) (d := 15) rfl rfl (congrArg Value.bool (decide_eq_false hb13)) (dv_pick_t (T rfl (congrArg Value.bool (decide_eq_true hb14))) (T rfl rfl)) ?_
       refine lw_v (.bool (decide (ay < b_y))) (dv_pick_f (T rfl (congrArg Value.bool (decide_eq_false hb13))) (T rfl rfl)) ?_
       refine lw_v (.bool (decide (ay < b_y))) (dv_assign (T rfl rfl)) ?_
       refine lw_nil ?_
       by_cases hb15 : ay < b_y
       · refine rk_ct (T rfl (congrArg Value.bool (decide_eq_true hb15))) ?_
         refine rk_seq ?_
         refine rk_reg ?_
         refine lw_v (.int .i64 (-1)) (dv_assign C) ?_
         refine lw_nil ?_
         refine rk_ret Try.func84 (v := .int .i64 (-1)) (res1 Try.results84 (rv_tmp rfl rfl)) ⟨_, rfl, ?_⟩
         exact ⟨(vi (by unfold cmpS spotLt; grind)), E10⟩
       · refine rk_cf (T rfl (congrArg Value.bool (decide_eq_false hb15))) ?_
         refine rk_skip ?_
         refine rk_inBlock ?_
         refine rk_seq ?_
         refine rk_reg ?_
         refine lw_v (.int .i64 1) (dv_assign C) ?_
         refine lw_nil ?_
         refine rk_ret Try.func84 (v := .int .i64 1) (res1 Try.results84 (rv_tmp rfl rfl)) ⟨_, rfl, ?_⟩
         exact ⟨(vi (by unfold cmpS spotLt; grind)), E10⟩
     · refine lw_no (d := 21) rfl rfl (congrArg Value.bool (decide_eq_false hb14)) ?_
       refine lw_no (d := 21) rfl rfl (congrArg Value.bool (decide_eq_false hb14)) ?_
       refine lw_no (d := 21) rfl rfl (congrArg Value.bool (decide_eq_false hb14)) ?_
       refine lw_no (d := 21) rfl rfl (congrArg Value.bool (decide_eq_false hb14)) ?_
       refine lw_no (d := 21) rfl rfl (congrArg Value.bool (decide_eq_false hb14)) ?_
       refine lw_vy (.bool false) (d := 15) rfl rfl (congrArg Value.bool (decide_eq_false hb13)) (dv_pick_f (T rfl (congrArg Value.bool (decide_eq_false hb14))) C) ?_
       refine lw_v (.bool false) (dv_pick_f (T rfl (congrArg Value.bool (decide_eq_false hb13))) (T rfl rfl)) ?_
       refine lw_v (.bool false) (dv_assign (T rfl rfl)) ?_
       refine lw_nil ?_
       refine rk_cf (T rfl rfl) ?_
       refine rk_skip ?_
       refine rk_inBlock ?_
       refine rk_seq ?_
       refine rk_reg ?_
       refine lw_v (.int .i64 1) (dv_assign C) ?_
       refine lw_nil ?_
       refine rk_ret Try.func84 (v := .int .i64 1) (res1 Try.results84 (rv_tmp rfl rfl)) ⟨_, rfl, ?_⟩
       exact ⟨(vi (by unfold cmpS spotLt; grind)), E10⟩
set_option maxHeartbeats 1000000 in
theorem sSegOk_ok {w : World} {ax ay bx b_y : Int}   : Ct Try.prog 65 [.agg #[.int .i64 ax, .int .i64 ay, .int .i64 bx, .int .i64 b_y]] w fun v w1 => v = .bool (decide (segOk ax ay bx b_y)) ∧ Ext w w1 := by
 refine ct_run (n := 18) Try.func65 rfl Try.ntmps65 rfl ?_
 have E0 : Below w.heap.size w w := Below.refl _ _
 refine rk_seq ?_
 refine rk_reg ?_
 refine lw_e (oe_box (v := .agg #[.int .i64 ax, .int .i64 ay, .int .i64 bx, .int .i64 b_y]) (cs := #[.int .i64 ax, .int .i64 ay, .int .i64 bx, .int .i64 b_y]) (T rfl rfl) rfl ?_)
 intro b1 w2 n3
 have N4 : w.heap.size ≤ b1 := n3.eq ▸ E0.size
 have E5 := below_ext E0 E0.size n3.ext
 refine lw_v (.bool false) (dv_assign C) ?_
 refine lw_nil ?_
 refine rk_seq ?_
 refine rk_reg ?_
 refine lw_v (.pointer (some ⟨b1, 0, none⟩)) (dv_fieldAddr (a := ⟨b1, 0, none⟩) (a' := ⟨b1, 0, none⟩) fo47_0 (T rfl rfl) rfl) ?_
 refine lw_v (.agg #[.int .i64 ax, .int .i64 ay]) (dv_loads (l := [.int .i64 ax, .int .i64 ay]) agt45 sz45 (T rfl rfl) n3.blk rfl) ?_
 refine lw_e (oe_callf (vs := [.agg #[.int .i64 ax, .int .i64 ay]]) co109 (ar1 (T rfl rfl)) (sSpotOk_ok (x := ax) (y := ay)  ) ?_)
 rintro _ w6 ⟨rfl, e7⟩
 have E8 := below_ext E5 E5.size e7
 refine lw_v (.bool (decide (spotOk ax ay))) (dv_move (T rfl rfl)) ?_
 by_cases hb9 : spotOk ax ay
 · refine lw_vy (.pointer (some ⟨b1, 2, none⟩)) (d := 6) rfl rfl (congrArg Value.bool (decide_eq_true hb9)) (dv_fieldAddr (a := ⟨b1, 0, none⟩) (a' := ⟨b1, 2, none⟩) fo47_1 (T rfl rfl) rfl) ?_
   have H10 := (e7.blk n3.blk)
   refine lw_vy (.agg #[.int .i64 bx, .int .i64 b_y]) (d := 6) rfl rfl (congrArg Value.bool (decide_eq_true hb9)) (dv_loads (l := [.int .i64 bx, .int .i64 b_y]) agt45 sz45 (T rfl rfl) H10 rfl) ?_
   refine lw_ey (d := 6) rfl rfl (congrArg Value.bool (decide_eq_true hb9)) (oe_callf (vs := [.agg #[.int .i64 bx, .int .i64 b_y]]) co109 (ar1 (T rfl rfl)) (sSpotOk_ok (x := bx) (y := b_y)  ) ?_)
   rintro _ w11 ⟨rfl, e12⟩
   have E13 := below_ext E8 E8.size e12
   refine lw_v (.bool (decide (spotOk bx b_y))) (dv_pick_t (T rfl (congrArg Value.bool (decide_eq_true hb9))) (T rfl rfl)) ?_
   refine lw_v (.bool (decide (spotOk bx b_y))) (dv_move (T rfl rfl)) ?_
   by_cases hb14 : spotOk bx b_y
   · refine lw_vy (.pointer (some ⟨b1, 0, none⟩)) (d := 11) rfl rfl (congrArg Value.bool (decide_eq_true hb14)) (dv_fieldAddr (a := ⟨b1, 0, none⟩) (a' := ⟨b1, 0, none⟩) fo47_0 (T rfl rfl) rfl) ?_
     have H15 := (e12.blk H10)
     refine lw_vy (.agg #[.int .i64 ax, .int .i64 ay]) (d := 11) rfl rfl (congrArg Value.bool (decide_eq_true hb14)) (dv_loads (l := [.int .i64 ax, .int .i64 ay]) agt45 sz45 (T rfl rfl) H15 rfl) ?_
     refine lw_vy (.pointer (some ⟨b1, 2, none⟩)) (d := 11) rfl rfl (congrArg Value.bool (decide_eq_true hb14)) (dv_fieldAddr (a := ⟨b1, 0, none⟩) (a' := ⟨b1, 2, none⟩) fo47_1 (T rfl rfl) rfl) ?_
     refine lw_vy (.agg #[.int .i64 bx, .int .i64 b_y]) (d := 11) rfl rfl (congrArg Value.bool (decide_eq_true hb14)) (dv_loads (l := [.int .i64 bx, .int .i64 b_y]) agt45 sz45 (T rfl rfl) H15 rfl) ?_
     refine lw_ey (d := 11) rfl rfl (congrArg Value.bool (decide_eq_true hb14)) (oe_callf (vs := [.agg #[.int .i64 ax, .int .i64 ay], .agg #[.int .i64 bx, .int .i64 b_y]]) co124 (ar2 (T rfl rfl) (T rfl rfl)) (l4Less_ok (ax := ax) (ay := ay) (bx := bx) (b_y := b_y)  ) ?_)
     rintro _ w16 ⟨rfl, e17⟩
     have E18 := below_ext E13 E13.size e17
     refine lw_v (.bool (decide (spotLt ax ay bx b_y))) (dv_pick_t (T rfl (congrArg Value.bool (decide_eq_true hb14))) (T rfl rfl)) ?_
     refine lw_v (.bool (decide (spotLt ax ay bx b_y))) (dv_assign (T rfl rfl)) ?_
     refine lw_nil ?_
     refine rk_ret Try.func65 (v := .bool (decide (spotLt ax ay bx b_y))) (res1 Try.results65 (rv_tmp rfl rfl)) ⟨_, rfl, ?_⟩
     exact ⟨(vb (by grind [segOk, cmpS_neg])), E18⟩
   · refine lw_no (d := 11) rfl rfl (congrArg Value.bool (decide_eq_false hb14)) ?_
     refine lw_no (d := 11) rfl rfl (congrArg Value.bool (decide_eq_false hb14)) ?_
     refine lw_no (d := 11) rfl rfl (congrArg Value.bool (decide_eq_false hb14)) ?_
     refine lw_no (d := 11) rfl rfl (congrArg Value.bool (decide_eq_false hb14)) ?_
     refine lw_no (d := 11) rfl rfl (congrArg Value.bool (decide_eq_false hb14)) ?_
     refine lw_v (.bool false) (dv_pick_f (T rfl (congrArg Value.bool (decide_eq_false hb14))) C) ?_
     refine lw_v (.bool false) (dv_assign (T rfl rfl)) ?_
     refine lw_nil ?_
     refine rk_ret Try.func65 (v := .bool false) (res1 Try.results65 (rv_tmp rfl rfl)) ⟨_, rfl, ?_⟩
     exact ⟨(vf (by grind [segOk, cmpS_neg])), E13⟩
 · refine lw_no (d := 6) rfl rfl (congrArg Value.bool (decide_eq_false hb9)) ?_
   refine lw_no (d := 6) rfl rfl (congrArg Value.bool (decide_eq_false hb9)) ?_
   refine lw_no (d := 6) rfl rfl (congrArg Value.bool (decide_eq_false hb9)) ?_
   refine lw_v (.bool false) (dv_pick_f (T rfl (congrArg Value.bool (decide_eq_false hb9))) C) ?_
   refine lw_v (.bool false) (dv_move (T rfl rfl)) ?_
   refine lw_no (d := 11) rfl rfl (rfl) ?_
   refine lw_no (d := 11) rfl rfl (rfl) ?_
   refine lw_no (d := 11) rfl rfl (rfl) ?_
   refine lw_no (d := 11) rfl rfl (rfl) ?_
   refine lw_no (d := 11) rfl rfl (rfl) ?_
   refine lw_v (.bool false) (dv_pick_f (T rfl rfl) C) ?_
   refine lw_v (.bool false) (dv_assign (T rfl rfl)) ?_
   refine lw_nil ?_
   refine rk_ret Try.func65 (v := .bool false) (res1 Try.results65 (rv_tmp rfl rfl)) ⟨_, rfl, ?_⟩
   exact ⟨(vf (by grind [segOk, cmpS_neg])), E8⟩
set_option maxHeartbeats 1000000 in
theorem iSegOk_ok {w : World} {ax ay bx b_y : Int}   : Ct Try.prog 30 [.agg #[.int .i64 ax, .int .i64 ay, .int .i64 bx, .int .i64 b_y]] w fun v w1 => v = .bool (decide (segOk ax ay bx b_y)) ∧ Ext w w1 := by
 refine ct_run (n := 19) Try.func30 rfl Try.ntmps30 rfl ?_
 have E0 : Below w.heap.size w w := Below.refl _ _
 refine rk_seq ?_
 refine rk_reg ?_
 refine lw_e (oe_box (v := .agg #[.int .i64 ax, .int .i64 ay, .int .i64 bx, .int .i64 b_y]) (cs := #[.int .i64 ax, .int .i64 ay, .int .i64 bx, .int .i64 b_y]) (T rfl rfl) rfl ?_)
 intro b1 w2 n3
 have N4 : w.heap.size ≤ b1 := n3.eq ▸ E0.size
 have E5 := below_ext E0 E0.size n3.ext
 refine lw_v (.bool false) (dv_assign C) ?_
 refine lw_nil ?_
 refine rk_seq ?_
 refine rk_reg ?_
 refine lw_v (.pointer (some ⟨b1, 0, none⟩)) (dv_fieldAddr (a := ⟨b1, 0, none⟩) (a' := ⟨b1, 0, none⟩) fo47_0 (T rfl rfl) rfl) ?_
 refine lw_v (.agg #[.int .i64 ax, .int .i64 ay]) (dv_loads (l := [.int .i64 ax, .int .i64 ay]) agt45 sz45 (T rfl rfl) n3.blk rfl) ?_
 refine lw_e (oe_callf (vs := [.agg #[.int .i64 ax, .int .i64 ay]]) co31 (ar1 (T rfl rfl)) (iSpotOk_ok (x := ax) (y := ay)  ) ?_)
 rintro _ w6 ⟨rfl, e7⟩
 have E8 := below_ext E5 E5.size e7
 refine lw_v (.bool (decide (spotOk ax ay))) (dv_move (T rfl rfl)) ?_
 by_cases hb9 : spotOk ax ay
 · refine lw_vy (.pointer (some ⟨b1, 2, none⟩)) (d := 6) rfl rfl (congrArg Value.bool (decide_eq_true hb9)) (dv_fieldAddr (a := ⟨b1, 0, none⟩) (a' := ⟨b1, 2, none⟩) fo47_1 (T rfl rfl) rfl) ?_
   have H10 := (e7.blk n3.blk)
   refine lw_vy (.agg #[.int .i64 bx, .int .i64 b_y]) (d := 6) rfl rfl (congrArg Value.bool (decide_eq_true hb9)) (dv_loads (l := [.int .i64 bx, .int .i64 b_y]) agt45 sz45 (T rfl rfl) H10 rfl) ?_
   refine lw_ey (d := 6) rfl rfl (congrArg Value.bool (decide_eq_true hb9)) (oe_callf (vs := [.agg #[.int .i64 bx, .int .i64 b_y]]) co31 (ar1 (T rfl rfl)) (iSpotOk_ok (x := bx) (y := b_y)  ) ?_)
   rintro _ w11 ⟨rfl, e12⟩
   have E13 := below_ext E8 E8.size e12
   refine lw_v (.bool (decide (spotOk bx b_y))) (dv_pick_t (T rfl (congrArg Value.bool (decide_eq_true hb9))) (T rfl rfl)) ?_
   refine lw_v (.bool (decide (spotOk bx b_y))) (dv_move (T rfl rfl)) ?_
   by_cases hb14 : spotOk bx b_y
   · refine lw_vy (.pointer (some ⟨b1, 0, none⟩)) (d := 11) rfl rfl (congrArg Value.bool (decide_eq_true hb14)) (dv_fieldAddr (a := ⟨b1, 0, none⟩) (a' := ⟨b1, 0, none⟩) fo47_0 (T rfl rfl) rfl) ?_
     have H15 := (e12.blk H10)
     refine lw_vy (.agg #[.int .i64 ax, .int .i64 ay]) (d := 11) rfl rfl (congrArg Value.bool (decide_eq_true hb14)) (dv_loads (l := [.int .i64 ax, .int .i64 ay]) agt45 sz45 (T rfl rfl) H15 rfl) ?_
     refine lw_vy (.pointer (some ⟨b1, 2, none⟩)) (d := 11) rfl rfl (congrArg Value.bool (decide_eq_true hb14)) (dv_fieldAddr (a := ⟨b1, 0, none⟩) (a' := ⟨b1, 2, none⟩) fo47_1 (T rfl rfl) rfl) ?_
     refine lw_vy (.agg #[.int .i64 bx, .int .i64 b_y]) (d := 11) rfl rfl (congrArg Value.bool (decide_eq_true hb14)) (dv_loads (l := [.int .i64 bx, .int .i64 b_y]) agt45 sz45 (T rfl rfl) H15 rfl) ?_
     refine lw_ey (d := 11) rfl rfl (congrArg Value.bool (decide_eq_true hb14)) (oe_callf (vs := [.agg #[.int .i64 ax, .int .i64 ay], .agg #[.int .i64 bx, .int .i64 b_y]]) co84 (ar2 (T rfl rfl) (T rfl rfl)) (cmpSpots_ok (ax := ax) (ay := ay) (bx := bx) (b_y := b_y)  ) ?_)
     rintro _ w16 ⟨rfl, e17⟩
     have E18 := below_ext E13 E13.size e17
     refine lw_vy (.bool (decide ((cmpS ax ay bx b_y) < 0))) (d := 11) rfl rfl (congrArg Value.bool (decide_eq_true hb14)) (dv_lss (a := cmpS ax ay bx b_y) (b := 0) (T rfl rfl) C) ?_
     refine lw_v (.bool (decide ((cmpS ax ay bx b_y) < 0))) (dv_pick_t (T rfl (congrArg Value.bool (decide_eq_true hb14))) (T rfl rfl)) ?_
     refine lw_v (.bool (decide ((cmpS ax ay bx b_y) < 0))) (dv_assign (T rfl rfl)) ?_
     refine lw_nil ?_
     refine rk_ret Try.func30 (v := .bool (decide ((cmpS ax ay bx b_y) < 0))) (res1 Try.results30 (rv_tmp rfl rfl)) ⟨_, rfl, ?_⟩
     exact ⟨(vb (by grind [segOk, cmpS_neg])), E18⟩
   · refine lw_no (d := 11) rfl rfl (congrArg Value.bool (decide_eq_false hb14)) ?_
     refine lw_no (d := 11) rfl rfl (congrArg Value.bool (decide_eq_false hb14)) ?_
     refine lw_no (d := 11) rfl rfl (congrArg Value.bool (decide_eq_false hb14)) ?_
     refine lw_no (d := 11) rfl rfl (congrArg Value.bool (decide_eq_false hb14)) ?_
     refine lw_no (d := 11) rfl rfl (congrArg Value.bool (decide_eq_false hb14)) ?_
     refine lw_no (d := 11) rfl rfl (congrArg Value.bool (decide_eq_false hb14)) ?_
     refine lw_v (.bool false) (dv_pick_f (T rfl (congrArg Value.bool (decide_eq_false hb14))) C) ?_
     refine lw_v (.bool false) (dv_assign (T rfl rfl)) ?_
     refine lw_nil ?_
     refine rk_ret Try.func30 (v := .bool false) (res1 Try.results30 (rv_tmp rfl rfl)) ⟨_, rfl, ?_⟩
     exact ⟨(vf (by grind [segOk, cmpS_neg])), E13⟩
 · refine lw_no (d := 6) rfl rfl (congrArg Value.bool (decide_eq_false hb9)) ?_
   refine lw_no (d := 6) rfl rfl (congrArg Value.bool (decide_eq_false hb9)) ?_
   refine lw_no (d := 6) rfl rfl (congrArg Value.bool (decide_eq_false hb9)) ?_
   refine lw_v (.bool false) (dv_pick_f (T rfl (congrArg Value.bool (decide_eq_false hb9))) C) ?_
   refine lw_v (.bool false) (dv_move (T rfl rfl)) ?_
   refine lw_no (d := 11) rfl rfl (rfl) ?_
   refine lw_no (d := 11) rfl rfl (rfl) ?_
   refine lw_no (d := 11) rfl rfl (rfl) ?_
   refine lw_no (d := 11) rfl rfl (rfl) ?_
   refine lw_no (d := 11) rfl rfl (rfl) ?_
   refine lw_no (d := 11) rfl rfl (rfl) ?_
   refine lw_v (.bool false) (dv_pick_f (T rfl rfl) C) ?_
   refine lw_v (.bool false) (dv_assign (T rfl rfl)) ?_
   refine lw_nil ?_
   refine rk_ret Try.func30 (v := .bool false) (res1 Try.results30 (rv_tmp rfl rfl)) ⟨_, rfl, ?_⟩
   exact ⟨(vf (by grind [segOk, cmpS_neg])), E8⟩
set_option maxHeartbeats 1000000 in
theorem toSeg_ok {w : World} {ax ay bx b_y : Int}   : Ct Try.prog 24 [.agg #[.int .i64 ax, .int .i64 ay, .int .i64 bx, .int .i64 b_y]] w fun v w1 => v = .agg #[.int .i64 ax, .int .i64 ay, .int .i64 bx, .int .i64 b_y] ∧ Ext w w1 := by
 refine ct_run (n := 13) Try.func24 rfl Try.ntmps24 rfl ?_
 have E0 : Below w.heap.size w w := Below.refl _ _
 refine rk_seq ?_
 refine rk_reg ?_
 refine lw_e (oe_box (v := .agg #[.int .i64 ax, .int .i64 ay, .int .i64 bx, .int .i64 b_y]) (cs := #[.int .i64 ax, .int .i64 ay, .int .i64 bx, .int .i64 b_y]) (T rfl rfl) rfl ?_)
 intro b1 w2 n3
 have N4 : w.heap.size ≤ b1 := n3.eq ▸ E0.size
 have E5 := below_ext E0 E0.size n3.ext
 refine lw_e (oe_alloc ze47 ?_)
 intro b6 w7 n8
 have N9 : w.heap.size ≤ b6 := n8.eq ▸ E5.size
 have : b1 < b6 := n8.eq ▸ lt_of_blk n3.blk
 have E10 := below_ext E5 E5.size n8.ext
 refine lw_nil ?_
 refine rk_seq ?_
 refine rk_reg ?_
 refine lw_e (oe_alloc ze47 ?_)
 intro b11 w12 n13
 have N14 : w.heap.size ≤ b11 := n13.eq ▸ E10.size
 have : b6 < b11 := n13.eq ▸ lt_of_blk n8.blk
 have E15 := below_ext E10 E10.size n13.ext
 refine lw_nil ?_
 refine rk_seq ?_
 refine rk_reg ?_
 refine lw_v (.pointer (some ⟨b1, 0, none⟩)) (dv_fieldAddr (a := ⟨b1, 0, none⟩) (a' := ⟨b1, 0, none⟩) fo43_0 (T rfl rfl) rfl) ?_
 have H16 := (n13.ext.blk (n8.ext.blk n3.blk))
 refine lw_v (.agg #[.int .i64 ax, .int .i64 ay]) (dv_loads (l := [.int .i64 ax, .int .i64 ay]) agt41 sz41 (T rfl rfl) H16 rfl) ?_
 refine lw_e (oe_callf (vs := [.agg #[.int .i64 ax, .int .i64 ay]]) co45 (ar1 (T rfl rfl)) (toSpot_ok (x := ax) (y := ay)  ) ?_)
 rintro _ w17 ⟨rfl, e18⟩
 have E19 := below_ext E15 E15.size e18
 refine lw_v (.pointer (some ⟨b11, 0, none⟩)) (dv_fieldAddr (a := ⟨b11, 0, none⟩) (a' := ⟨b11, 0, none⟩) fo47_0 (T rfl rfl) rfl) ?_
 have H20 := (e18.blk n13.blk)
 refine lw_e (oe_store (v := .agg #[.int .i64 ax, .int .i64 ay]) (vs := [.int .i64 ax, .int .i64 ay]) (l := [.int .i64 ax, .int .i64 ay, .int .i64 0, .int .i64 0]) (T rfl rfl) (T rfl rfl) sz45 rfl rfl rfl H20 rfl ?_)
 intro w21 s22 H23
 have E24 := below_st E19 N14 s22
 refine lw_nil ?_
 refine rk_seq ?_
 refine rk_reg ?_
 refine lw_v (.pointer (some ⟨b1, 2, none⟩)) (dv_fieldAddr (a := ⟨b1, 0, none⟩) (a' := ⟨b1, 2, none⟩) fo43_1 (T rfl rfl) rfl) ?_
 have H25 := (s22.blk (e18.blk H16) (by omega))
 refine lw_v (.agg #[.int .i64 bx, .int .i64 b_y]) (dv_loads (l := [.int .i64 bx, .int .i64 b_y]) agt41 sz41 (T rfl rfl) H25 rfl) ?_
 refine lw_e (oe_callf (vs := [.agg #[.int .i64 bx, .int .i64 b_y]]) co45 (ar1 (T rfl rfl)) (toSpot_ok (x := bx) (y := b_y)  ) ?_)
 rintro _ w26 ⟨rfl, e27⟩
 have E28 := below_ext E24 E24.size e27
 refine lw_v (.pointer (some ⟨b11, 2, none⟩)) (dv_fieldAddr (a := ⟨b11, 0, none⟩) (a' := ⟨b11, 2, none⟩) fo47_1 (T rfl rfl) rfl) ?_
 have H29 := (e27.blk H23)
 refine lw_e (oe_store (v := .agg #[.int .i64 bx, .int .i64 b_y]) (vs := [.int .i64 bx, .int .i64 b_y]) (l := [.int .i64 ax, .int .i64 ay, .int .i64 bx, .int .i64 b_y]) (T rfl rfl) (T rfl rfl) sz45 rfl rfl rfl H29 rfl ?_)
 intro w30 s31 H32
 have E33 := below_st E28 N14 s31
 refine lw_nil ?_
 refine rk_seq ?_
 refine rk_reg ?_
 refine lw_v (.agg #[.int .i64 ax, .int .i64 ay, .int .i64 bx, .int .i64 b_y]) (dv_loads (l := [.int .i64 ax, .int .i64 ay, .int .i64 bx, .int .i64 b_y]) agt47 sz47 (T rfl rfl) H32 rfl) ?_
 have H34 := (s31.blk (e27.blk (s22.blk (e18.blk (n13.ext.blk n8.blk)) (by omega))) (by omega))
 refine lw_e (oe_store (v := .agg #[.int .i64 ax, .int .i64 ay, .int .i64 bx, .int .i64 b_y]) (vs := [.int .i64 ax, .int .i64 ay, .int .i64 bx, .int .i64 b_y]) (l := [.int .i64 ax, .int .i64 ay, .int .i64 bx, .int .i64 b_y]) (T rfl rfl) (T rfl rfl) sz47 rfl rfl rfl H34 rfl ?_)
 intro w35 s36 H37
 have E38 := below_st E33 N9 s36
 refine lw_nil ?_
 refine rk_ret Try.func24 (v := .agg #[.int .i64 ax, .int .i64 ay, .int .i64 bx, .int .i64 b_y]) (res1 Try.results24 (rv_cells (l := [.int .i64 ax, .int .i64 ay, .int .i64 bx, .int .i64 b_y]) agt47 sz47 rfl rfl H37 rfl)) ⟨_, rfl, ?_⟩
 exact ⟨rfl, E38⟩
set_option maxHeartbeats 1000000 in
theorem l3Spot_ok {w : World}  {x y : Int}  (hx : -9223372036854775808 ≤ x ∧ x ≤ 9223372036854775807) (hy : -9223372036854775808 ≤ y ∧ y ≤ 9223372036854775807) : Ct Try.prog 74 [.agg #[.int .i64 x, .int .i64 y]] w fun v w1 => ∃ nr0_ A0_ l0_ c0_ nr1_ A1_ l1_ c1_ nr2_ A2_ l2_ c2_, v = .agg #[.bool nr0_, .slice A0_ l0_ c0_, .bool nr1_, .slice A1_ l1_ c1_, .bool nr2_, .slice A2_ l2_ c2_] ∧ Ext w w1 ∧ Num 32 183 .u32 w1 nr0_ A0_ l0_ c0_ (x) (64) ∧ Num 32 183 .u32 w1 nr1_ A1_ l1_ c1_ (y) (64) ∧ Num 32 183 .u32 w1 nr2_ A2_ l2_ c2_ (1) (64) := by
 refine ct_run (n := 11) Try.func74 rfl Try.ntmps74 rfl ?_
 have E0 : Below w.heap.size w w := Below.refl _ _
 refine rk_seq ?_
 refine rk_reg ?_
 refine lw_e (oe_box (v := .agg #[.int .i64 x, .int .i64 y]) (cs := #[.int .i64 x, .int .i64 y]) (T rfl rfl) rfl ?_)
 intro b1 w2 n3
 have N4 : w.heap.size ≤ b1 := n3.eq ▸ E0.size
 have E5 := below_ext E0 E0.size n3.ext
 refine lw_e (oe_alloc ze102 ?_)
 intro b6 w7 n8
 have N9 : w.heap.size ≤ b6 := n8.eq ▸ E5.size
 have : b1 < b6 := n8.eq ▸ lt_of_blk n3.blk
 have E10 := below_ext E5 E5.size n8.ext
 refine lw_nil ?_
 refine rk_seq ?_
 refine rk_any (fun w => w.heap[b1]? = some (.cells #[.int .i64 x, .int .i64 y] 45)) [8] mo ?_
 intro w11 d12
 have E13 := below_ext E10 E10.size d12.ext
 have H14 := (d12.ext.blk (n8.ext.blk n3.blk))
 refine aw_pure 0 (.pointer (some ⟨b1, 0, none⟩)) rfl (by kernel_rfl) .none H14 (fun _ => dv_fieldAddr (a := ⟨b1, 0, none⟩) (a' := ⟨b1, 0, none⟩) fo45_0 (T rfl rfl) rfl) ?_
 refine aw_load 1 (.int .i64 x) rfl (by kernel_rfl) .none H14 (fun _ s => dv_load1 (b := b1) (o := 0) agt2 (T rfl rfl) s rfl) ?_
 refine aw_pure 3 (.pointer (some ⟨b1, 1, none⟩)) rfl (by kernel_rfl) .none H14 (fun _ => dv_fieldAddr (a := ⟨b1, 0, none⟩) (a' := ⟨b1, 1, none⟩) fo45_1 (T rfl rfl) rfl) ?_
 refine aw_load 4 (.int .i64 y) rfl (by kernel_rfl) .none H14 (fun _ s => dv_load1 (b := b1) (o := 1) agt2 (T rfl rfl) s rfl) ?_
 refine aw_one 2 rfl (by kernel_rfl) .none (oe_callf (vs := [.int .i64 x]) co100 (ar1 (T rfl rfl)) (l1Int_ok  (by omega)) ?_)
 rintro _ w20 ⟨nr15, A16, n17, c18, rfl, e21, h19⟩
 have E22 := below_ext E13 E13.size e21
 have lh19 := Num.len (by decide) h19
 have H23 := (e21.blk H14)
 refine ⟨.inr H23, ?_⟩
 refine aw_one 5 rfl (by kernel_rfl) .none (oe_callf (vs := [.int .i64 y]) co100 (ar1 (T rfl rfl)) (l1Int_ok  (by omega)) ?_)
 rintro _ w29 ⟨nr24, A25, n26, c27, rfl, e30, h28⟩
 have E31 := below_ext E22 E22.size e30
 have lh28 := Num.len (by decide) h28
 have H32 := (e30.blk H23)
 refine ⟨.inr H32, ?_⟩
 refine aw_one 6 rfl (by kernel_rfl) .none (oe_callf (vs := [.int .i64 1]) co100 (ar1 C) (l1Int_ok  (by omega)) ?_)
 rintro _ w38 ⟨nr33, A34, n35, c36, rfl, e39, h37⟩
 have E40 := below_ext E31 E31.size e39
 have lh37 := Num.len (by decide) h37
 have H41 := (e39.blk H32)
 refine ⟨.inr H41, ?_⟩
 refine aw_pure 7 (.agg #[.bool nr15, .slice A16 n17 c18, .bool nr24, .slice A25 n26 c27, .bool nr33, .slice A34 n35 c36]) rfl (by kernel_rfl) .none H41 (fun _ => dv_build (pv := [(0, .agg #[.bool nr15, .slice A16 n17 c18]), (1, .agg #[.bool nr24, .slice A25 n26 c27]), (2, .agg #[.bool nr33, .slice A34 n35 c36])]) (l := [.bool nr15, .slice A16 n17 c18, .bool nr24, .slice A25 n26 c27, .bool nr33, .slice A34 n35 c36]) zc102 pl102 ⟨rfl, (T rfl rfl), ⟨rfl, (T rfl rfl), ⟨rfl, (T rfl rfl), trivial⟩⟩⟩ rfl) ?_
 have H42 := (e39.blk (e30.blk (e21.blk (d12.ext.blk n8.blk))))
 refine aw_one 8 rfl (by kernel_rfl) .none (oe_store (v := .agg #[.bool nr15, .slice A16 n17 c18, .bool nr24, .slice A25 n26 c27, .bool nr33, .slice A34 n35 c36]) (vs := [.bool nr15, .slice A16 n17 c18, .bool nr24, .slice A25 n26 c27, .bool nr33, .slice A34 n35 c36]) (l := [.bool nr15, .slice A16 n17 c18, .bool nr24, .slice A25 n26 c27, .bool nr33, .slice A34 n35 c36]) (T rfl rfl) (T rfl rfl) sz102 rfl rfl rfl H42 rfl ?_)
 intro w43 s44 H45
 have E46 := below_st E40 N9 s44
 refine ⟨.inl rfl, ?_⟩
 refine aw_done (by kernel_rfl) ?_
 refine rk_ret Try.func74 (v := .agg #[.bool nr15, .slice A16 n17 c18, .bool nr24, .slice A25 n26 c27, .bool nr33, .slice A34 n35 c36]) (res1 Try.results74 (rv_cells (l := [.bool nr15, .slice A16 n17 c18, .bool nr24, .slice A25 n26 c27, .bool nr33, .slice A34 n35 c36]) agt102 sz102 rfl rfl H45 rfl)) ⟨_, rfl, ?_⟩
 have h47 := (((h19.ext e30).ext e39).st s44 H42 (by decide))
 have h48 := ((h28.ext e39).st s44 H42 (by decide))
 have h49 := (h37.st s44 H42 (by decide))
 exact ⟨_, _, _, _, _, _, _, _, _, _, _, _, rfl, E46, h47.to rfl (Nat.le_refl _), h48.to rfl (Nat.le_refl _), h49.to rfl (Nat.le_refl _)⟩
end Go.Proofs.Ytdanhdbanfpghaa.W
set_option linter.unusedVariables false
set_option linter.unusedSimpArgs false
namespace Go.Proofs.Ytdanhdbanfpghaa.W
open Go Go.RowKit Go.Proofs.Ytdanhdbanfpghaa.Fw
attribute [local irreducible] RunK LW AW DV OE Ct
theorem co113 : callOk Try.prog 113 = true := by kernel_rfl
theorem co117 : callOk Try.prog 117 = true := by kernel_rfl
theorem co131 : callOk Try.prog 131 = true := by kernel_rfl
theorem co67 : callOk Try.prog 67 = true := by kernel_rfl
theorem co68 : callOk Try.prog 68 = true := by kernel_rfl
theorem co71 : callOk Try.prog 71 = true := by kernel_rfl
theorem co72 : callOk Try.prog 72 = true := by kernel_rfl
theorem co73 : callOk Try.prog 73 = true := by kernel_rfl
theorem zc37 : zcB Try.prog 37 = some [.int .u64 0, .int .u64 0, .int .u64 0, .int .u64 0, .int .u64 0, .int .u64 0, .int .u64 0, .int .u64 0, .int .u64 0, .int .u64 0, .int .u64 0, .int .u64 0] := by kernel_rfl
set_option maxHeartbeats 1000000 in
theorem l3Between_ok {w : World}  {na : Bool} {Aa : Option Addr} {la ca : Nat} {x : Int} {sx : Nat} (ha : Num 32 183 .u32 w na Aa la ca x sx) {nb : Bool} {Ab : Option Addr} {lb cb : Nat} {y : Int} {sy : Nat} (hb : Num 32 183 .u32 w nb Ab lb cb y sy) {nm : Bool} {Am : Option Addr} {lm cm : Nat} {u : Int} {su : Nat} (hm : Num 32 183 .u32 w nm Am lm cm u su) {ne : Bool} {Ae : Option Addr} {le ce : Nat} {p : Int} {sp : Nat} (he : Num 32 183 .u32 w ne Ae le ce p sp) {nf : Bool} {Af : Option Addr} {lf cf : Nat} {q : Int} {sq : Nat} (hf : Num 32 183 .u32 w nf Af lf cf q sq) {ng : Bool} {Ag : Option Addr} {lg cg : Nat} {r : Int} {sr : Nat} (hg : Num 32 183 .u32 w ng Ag lg cg r sr) {ni : Bool} {Ai : Option Addr} {li ci : Nat} {xt : Int} {sd : Nat} (hi : Num 32 183 .u32 w ni Ai li ci xt sd) {nj : Bool} {Aj : Option Addr} {lj cj : Nat} {yt : Int} {se : Nat} (hj : Num 32 183 .u32 w nj Aj lj cj yt se) {nk : Bool} {Ak : Option Addr} {lk ck : Nat} {ut : Int} {st : Nat} (hk : Num 32 183 .u32 w nk Ak lk ck ut st) (hbsx : sx ≤ 10000) (hbsy : sy ≤ 10000) (hbsu : su ≤ 10000) (hbsp : sp ≤ 10000) (hbsq : sq ≤ 10000) (hbsr : sr ≤ 10000) (hbsd : sd ≤ 10000) (hbse : se ≤ 10000) (hbst : st ≤ 10000)  : Ct Try.prog 68 [.agg #[.bool na, .slice Aa la ca, .bool nb, .slice Ab lb cb, .bool nm, .slice Am lm cm], .agg #[.bool ne, .slice Ae le ce, .bool nf, .slice Af lf cf, .bool ng, .slice Ag lg cg], .agg #[.bool ni, .slice Ai li ci, .bool nj, .slice Aj lj cj, .bool nk, .slice Ak lk ck]] w fun v w1 => v = .bool (decide (btw x y u p q r xt yt ut)) ∧ Ext w w1 := by
 refine ct_run (n := 30) Try.func68 rfl Try.ntmps68 rfl ?_
 have E0 : Below w.heap.size w w := Below.refl _ _
 have lha := Num.len (by decide) ha
 have lhb := Num.len (by decide) hb
 have lhm := Num.len (by decide) hm
 have lhe := Num.len (by decide) he
 have lhf := Num.len (by decide) hf
 have lhg := Num.len (by decide) hg
 have lhi := Num.len (by decide) hi
 have lhj := Num.len (by decide) hj
 have lhk := Num.len (by decide) hk
 refine rk_seq ?_
 refine rk_reg ?_
 refine lw_e (oe_box (v := .agg #[.bool na, .slice Aa la ca, .bool nb, .slice Ab lb cb, .bool nm, .slice Am lm cm]) (cs := #[.bool na, .slice Aa la ca, .bool nb, .slice Ab lb cb, .bool nm, .slice Am lm cm]) (T rfl rfl) rfl ?_)
 intro b1 w2 n3
 have N4 : w.heap.size ≤ b1 := n3.eq ▸ E0.size
 have E5 := below_ext E0 E0.size n3.ext
 refine lw_e (oe_box (v := .agg #[.bool ne, .slice Ae le ce, .bool nf, .slice Af lf cf, .bool ng, .slice Ag lg cg]) (cs := #[.bool ne, .slice Ae le ce, .bool nf, .slice Af lf cf, .bool ng, .slice Ag lg cg]) (T rfl rfl) rfl ?_)
 intro b6 w7 n8
 have N9 : w.heap.size ≤ b6 := n8.eq ▸ E5.size
 have : b1 < b6 := n8.eq ▸ lt_of_blk n3.blk
 have E10 := below_ext E5 E5.size n8.ext
 refine lw_e (oe_box (v := .agg #[.bool ni, .slice Ai li ci, .bool nj, .slice Aj lj cj, .bool nk, .slice Ak lk ck]) (cs := #[.bool ni, .slice Ai li ci, .bool nj, .slice Aj lj cj, .bool nk, .slice Ak lk ck]) (T rfl rfl) rfl ?_)
 intro b11 w12 n13
 have N14 : w.heap.size ≤ b11 := n13.eq ▸ E10.size
 have : b6 < b11 := n13.eq ▸ lt_of_blk n8.blk
 have E15 := below_ext E10 E10.size n13.ext
 refine lw_v (.bool false) (dv_assign C) ?_
 refine lw_nil ?_
 refine rk_seq ?_
 refine rk_seq ?_
 refine rk_reg ?_
 have H16 := (n13.ext.blk (n8.ext.blk n3.blk))
 refine lw_v (.agg #[.bool na, .slice Aa la ca, .bool nb, .slice Ab lb cb, .bool nm, .slice Am lm cm]) (dv_loads (l := [.bool na, .slice Aa la ca, .bool nb, .slice Ab lb cb, .bool nm, .slice Am lm cm]) agt102 sz102 (T rfl rfl) H16 rfl) ?_
 have H17 := (n13.ext.blk n8.blk)
 refine lw_v (.agg #[.bool ne, .slice Ae le ce, .bool nf, .slice Af lf cf, .bool ng, .slice Ag lg cg]) (dv_loads (l := [.bool ne, .slice Ae le ce, .bool nf, .slice Af lf cf, .bool ng, .slice Ag lg cg]) agt102 sz102 (T rfl rfl) H17 rfl) ?_
 have h18 := (((ha.ext n3.ext).ext n8.ext).ext n13.ext)
 have h19 := (((hb.ext n3.ext).ext n8.ext).ext n13.ext)
 have h20 := (((hm.ext n3.ext).ext n8.ext).ext n13.ext)
 have h21 := (((he.ext n3.ext).ext n8.ext).ext n13.ext)
 have h22 := (((hf.ext n3.ext).ext n8.ext).ext n13.ext)
 have h23 := (((hg.ext n3.ext).ext n8.ext).ext n13.ext)
 refine lw_e (oe_callf (vs := [.agg #[.bool na, .slice Aa la ca, .bool nb, .slice Ab lb cb, .bool nm, .slice Am lm cm], .agg #[.bool ne, .slice Ae le ce, .bool nf, .slice Af lf cf, .bool ng, .slice Ag lg cg]]) co113 (ar2 (T rfl rfl) (T rfl rfl)) (l3Cmp_ok h18 h19 h20 h21 h22 h23 (by first | decide | omega) (by first | decide | omega) (by first | decide | omega) (by first | decide | omega) (by first | decide | omega) (by first | decide | omega) ) ?_)
 rintro _ w24 ⟨rfl, e25⟩
 have E26 := below_ext E15 E15.size e25
 refine lw_v (.bool (decide (0 < (pc x y u p q r)))) (dv_gtr (a := pc x y u p q r) (b := 0) (T rfl rfl) C) ?_
 refine lw_nil ?_
 by_cases hb27 : 0 < (pc x y u p q r)
 · refine rk_ct (T rfl (congrArg Value.bool (decide_eq_true hb27))) ?_
   refine rk_reg ?_
   have H28 := (e25.blk H17)
   refine lw_v (.agg #[.bool ne, .slice Ae le ce, .bool nf, .slice Af lf cf, .bool ng, .slice Ag lg cg]) (dv_loads (l := [.bool ne, .slice Ae le ce, .bool nf, .slice Af lf cf, .bool ng, .slice Ag lg cg]) agt102 sz102 (T rfl rfl) H28 rfl) ?_
   have H29 := (e25.blk H16)
   refine lw_v (.agg #[.bool na, .slice Aa la ca, .bool nb, .slice Ab lb cb, .bool nm, .slice Am lm cm]) (dv_loads (l := [.bool na, .slice Aa la ca, .bool nb, .slice Ab lb cb, .bool nm, .slice Am lm cm]) agt102 sz102 (T rfl rfl) H29 rfl) ?_
   refine lw_e (oe_store (v := .agg #[.bool ne, .slice Ae le ce, .bool nf, .slice Af lf cf, .bool ng, .slice Ag lg cg]) (vs := [.bool ne, .slice Ae le ce, .bool nf, .slice Af lf cf, .bool ng, .slice Ag lg cg]) (l := [.bool ne, .slice Ae le ce, .bool nf, .slice Af lf cf, .bool ng, .slice Ag lg cg]) (T rfl rfl) (T rfl rfl) sz102 rfl rfl rfl H29 rfl ?_)
   intro w30 s31 H32
   have E33 := below_st E26 N4 s31
   have H34 := (s31.blk H28 (by omega))
   refine lw_e (oe_store (v := .agg #[.bool na, .slice Aa la ca, .bool nb, .slice Ab lb cb, .bool nm, .slice Am lm cm]) (vs := [.bool na, .slice Aa la ca, .bool nb, .slice Ab lb cb, .bool nm, .slice Am lm cm]) (l := [.bool na, .slice Aa la ca, .bool nb, .slice Ab lb cb, .bool nm, .slice Am lm cm]) (T rfl rfl) (T rfl rfl) sz102 rfl rfl rfl H34 rfl ?_)
   intro w35 s36 H37
   have E38 := below_st E33 N9 s36
   refine lw_nil ?_
   refine rk_seq ?_
   refine rk_reg ?_
   have H39 := (s36.blk H32 (by omega))
   refine lw_v (.agg #[.bool ne, .slice Ae le ce, .bool nf, .slice Af lf cf, .bool ng, .slice Ag lg cg]) (dv_loads (l := [.bool ne, .slice Ae le ce, .bool nf, .slice Af lf cf, .bool ng, .slice Ag lg cg]) agt102 sz102 (T rfl rfl) H39 rfl) ?_
   have H40 := (s36.blk (s31.blk (e25.blk n13.blk) (by omega)) (by omega))
   refine lw_v (.agg #[.bool ni, .slice Ai li ci, .bool nj, .slice Aj lj cj, .bool nk, .slice Ak lk ck]) (dv_loads (l := [.bool ni, .slice Ai li ci, .bool nj, .slice Aj lj cj, .bool nk, .slice Ak lk ck]) agt102 sz102 (T rfl rfl) H40 rfl) ?_
   have h41 := he.ext E38
   have h42 := hf.ext E38
   have h43 := hg.ext E38
   have h44 := hi.ext E38
   have h45 := hj.ext E38
   have h46 := hk.ext E38
   refine lw_e (oe_callf (vs := [.agg #[.bool ne, .slice Ae le ce, .bool nf, .slice Af lf cf, .bool ng, .slice Ag lg cg], .agg #[.bool ni, .slice Ai li ci, .bool nj, .slice Aj lj cj, .bool nk, .slice Ak lk ck]]) co113 (ar2 (T rfl rfl) (T rfl rfl)) (l3Cmp_ok h41 h42 h43 h44 h45 h46 (by first | decide | omega) (by first | decide | omega) (by first | decide | omega) (by first | decide | omega) (by first | decide | omega) (by first | decide | omega) ) ?_)
   rintro _ w47 ⟨rfl, e48⟩
   have E49 := below_ext E38 E38.size e48
   refine lw_v (.bool (decide ((pc p q r xt yt ut) ≤ 0))) (dv_leq (a := pc p q r xt yt ut) (b := 0) (T rfl rfl) C) ?_
   refine lw_v (.bool (decide ((pc p q r xt yt ut) ≤ 0))) (dv_move (T rfl rfl)) ?_
   by_cases hb50 : (pc p q r xt yt ut) ≤ 0
   · have H51 := (e48.blk H40)
     refine lw_vy (.agg #[.bool ni, .slice Ai li ci, .bool nj, .slice Aj lj cj, .bool nk, .slice Ak lk ck]) (d := 17) rfl rfl (congrArg Value.bool (decide_eq_true hb50)) (dv_loads (l := [.bool ni, .slice Ai li ci, .bool nj, .slice Aj lj cj, .bool nk, .slice Ak lk ck]) agt102 sz102 (T rfl rfl) H51 rfl) ?_
     have H52 := (e48.blk H37)
     refine lw_vy (.agg #[.bool na, .slice Aa la ca, .bool nb, .slice Ab lb cb, .bool nm, .slice Am lm cm]) (d := 17) rfl rfl (congrArg Value.bool (decide_eq_true hb50)) (dv_loads (l := [.bool na, .slice Aa la ca, .bool nb, .slice Ab lb cb, .bool nm, .slice Am lm cm]) agt102 sz102 (T rfl rfl) H52 rfl) ?_
     have h53 := (h44.ext e48)
     have h54 := (h45.ext e48)
     have h55 := (h46.ext e48)
     have h56 := ha.ext E49
     have h57 := hb.ext E49
     have h58 := hm.ext E49
     refine lw_ey (d := 17) rfl rfl (congrArg Value.bool (decide_eq_true hb50)) (oe_callf (vs := [.agg #[.bool ni, .slice Ai li ci, .bool nj, .slice Aj lj cj, .bool nk, .slice Ak lk ck], .agg #[.bool na, .slice Aa la ca, .bool nb, .slice Ab lb cb, .bool nm, .slice Am lm cm]]) co113 (ar2 (T rfl rfl) (T rfl rfl)) (l3Cmp_ok h53 h54 h55 h56 h57 h58 (by first | decide | omega) (by first | decide | omega) (by first | decide | omega) (by first | decide | omega) (by first | decide | omega) (by first | decide | omega) ) ?_)
     rintro _ w59 ⟨rfl, e60⟩
     have E61 := below_ext E49 E49.size e60
     refine lw_vy (.bool (decide ((pc xt yt ut x y u) ≤ 0))) (d := 17) rfl rfl (congrArg Value.bool (decide_eq_true hb50)) (dv_leq (a := pc xt yt ut x y u) (b := 0) (T rfl rfl) C) ?_
     refine lw_v (.bool (decide ((pc xt yt ut x y u) ≤ 0))) (dv_pick_t (T rfl (congrArg Value.bool (decide_eq_true hb50))) (T rfl rfl)) ?_
     refine lw_v (.bool (decide ((pc xt yt ut x y u) ≤ 0))) (dv_move (T rfl rfl)) ?_
     by_cases hb62 : (pc xt yt ut x y u) ≤ 0
     · have H63 := (e60.blk (e48.blk H39))
       refine lw_vy (.agg #[.bool ne, .slice Ae le ce, .bool nf, .slice Af lf cf, .bool ng, .slice Ag lg cg]) (d := 23) rfl rfl (congrArg Value.bool (decide_eq_true hb62)) (dv_loads (l := [.bool ne, .slice Ae le ce, .bool nf, .slice Af lf cf, .bool ng, .slice Ag lg cg]) agt102 sz102 (T rfl rfl) H63 rfl) ?_
       have H64 := (e60.blk H52)
       refine lw_vy (.agg #[.bool na, .slice Aa la ca, .bool nb, .slice Ab lb cb, .bool nm, .slice Am lm cm]) (d := 23) rfl rfl (congrArg Value.bool (decide_eq_true hb62)) (dv_loads (l := [.bool na, .slice Aa la ca, .bool nb, .slice Ab lb cb, .bool nm, .slice Am lm cm]) agt102 sz102 (T rfl rfl) H64 rfl) ?_
       have H65 := (e60.blk H51)
       refine lw_vy (.agg #[.bool ni, .slice Ai li ci, .bool nj, .slice Aj lj cj, .bool nk, .slice Ak lk ck]) (d := 23) rfl rfl (congrArg Value.bool (decide_eq_true hb62)) (dv_loads (l := [.bool ni, .slice Ai li ci, .bool nj, .slice Aj lj cj, .bool nk, .slice Ak lk ck]) agt102 sz102 (T rfl rfl) H65 rfl) ?_
       have h66 := ((h41.ext e48).ext e60)
       have h67 := ((h42.ext e48).ext e60)
       have h68 := ((h43.ext e48).ext e60)
       have h69 := (h56.ext e60)
       have h70 := (h57.ext e60)
       have h71 := (h58.ext e60)
       have h72 := (h53.ext e60)
       have h73 := (h54.ext e60)
       have h74 := (h55.ext e60)
       refine lw_ey (d := 23) rfl rfl (congrArg Value.bool (decide_eq_true hb62)) (oe_callf (vs := [.agg #[.bool ne, .slice Ae le ce, .bool nf, .slice Af lf cf, .bool ng, .slice Ag lg cg], .agg #[.bool na, .slice Aa la ca, .bool nb, .slice Ab lb cb, .bool nm, .slice Am lm cm], .agg #[.bool ni, .slice Ai li ci, .bool nj, .slice Aj lj cj, .bool nk, .slice Ak lk ck]]) co73 (ar3 (T rfl rfl) (T rfl rfl) (T rfl rfl)) (l3Orient_ok h66 h67 h68 h69 h70 h71 h72 h73 h74 (by first | decide | omega) (by first | decide | omega) (by first | decide | omega) (by first | decide | omega) (by first | decide | omega) (by first | decide | omega) (by first | decide | omega) (by first | decide | omega) (by first | decide | omega) ) ?_)
       rintro _ w75 ⟨rfl, e76⟩
       have E77 := below_ext E61 E61.size e76
       have := ori_rg p q r x y u xt yt ut
       refine lw_vy (.bool (decide ((ori p q r x y u xt yt ut) = 0))) (d := 23) rfl rfl (congrArg Value.bool (decide_eq_true hb62)) (dv_eql (a := ori p q r x y u xt yt ut) (b := 0) (T rfl rfl) C) ?_
       refine lw_v (.bool (decide ((ori p q r x y u xt yt ut) = 0))) (dv_pick_t (T rfl (congrArg Value.bool (decide_eq_true hb62))) (T rfl rfl)) ?_
       refine lw_v (.bool (decide ((ori p q r x y u xt yt ut) = 0))) (dv_assign (T rfl rfl)) ?_
       refine lw_nil ?_
       refine rk_ret Try.func68 (v := .bool (decide ((ori p q r x y u xt yt ut) = 0))) (res1 Try.results68 (rv_tmp rfl rfl)) ⟨_, rfl, ?_⟩
       exact ⟨(vb (by unfold btw; omega)), E77⟩
     · refine lw_no (d := 23) rfl rfl (congrArg Value.bool (decide_eq_false hb62)) ?_
       refine lw_no (d := 23) rfl rfl (congrArg Value.bool (decide_eq_false hb62)) ?_
       refine lw_no (d := 23) rfl rfl (congrArg Value.bool (decide_eq_false hb62)) ?_
       refine lw_no (d := 23) rfl rfl (congrArg Value.bool (decide_eq_false hb62)) ?_
       refine lw_no (d := 23) rfl rfl (congrArg Value.bool (decide_eq_false hb62)) ?_
       refine lw_v (.bool false) (dv_pick_f (T rfl (congrArg Value.bool (decide_eq_false hb62))) C) ?_
       refine lw_v (.bool false) (dv_assign (T rfl rfl)) ?_
       refine lw_nil ?_
       refine rk_ret Try.func68 (v := .bool false) (res1 Try.results68 (rv_tmp rfl rfl)) ⟨_, rfl, ?_⟩
       exact ⟨(vf (by unfold btw; omega)), E61⟩
   · refine lw_no (d := 17) rfl rfl (congrArg Value.bool (decide_eq_false hb50)) ?_
     refine lw_no (d := 17) rfl rfl (congrArg Value.bool (decide_eq_false hb50)) ?_
     refine lw_no (d := 17) rfl rfl (congrArg Value.bool (decide_eq_false hb50)) ?_
     refine lw_no (d := 17) rfl rfl (congrArg Value.bool (decide_eq_false hb50)) ?_
     refine lw_v (.bool false) (dv_pick_f (T rfl (congrArg Value.bool (decide_eq_false hb50))) C) ?_
     refine lw_v (.bool false) (dv_move (T rfl rfl)) ?_
     refine lw_no (d := 23) rfl rfl (rfl) ?_
     refine lw_no (d := 23) rfl rfl (rfl) ?_
     refine lw_no (d := 23) rfl rfl (rfl) ?_
     refine lw_no (d := 23) rfl rfl (rfl) ?_
     refine lw_no (d := 23) rfl rfl (rfl) ?_
     refine lw_v (.bool false) (dv_pick_f (T rfl rfl) C) ?_
     refine lw_v (.bool false) (dv_assign (T rfl rfl)) ?_
     refine lw_nil ?_
     refine rk_ret Try.func68 (v := .bool false) (res1 Try.results68 (rv_tmp rfl rfl)) ⟨_, rfl, ?_⟩
     exact ⟨(vf (by unfold btw; omega)), E49⟩
 · refine rk_cf (T rfl (congrArg Value.bool (decide_eq_false hb27))) ?_
   refine rk_skip ?_
   refine rk_seq ?_
   refine rk_reg ?_
   have H78 := (e25.blk H16)
   refine lw_v (.agg #[.bool na, .slice Aa la ca, .bool nb, .slice Ab lb cb, .bool nm, .slice Am lm cm]) (dv_loads (l := [.bool na, .slice Aa la ca, .bool nb, .slice Ab lb cb, .bool nm, .slice Am lm cm]) agt102 sz102 (T rfl rfl) H78 rfl) ?_
   have H79 := (e25.blk n13.blk)
   refine lw_v (.agg #[.bool ni, .slice Ai li ci, .bool nj, .slice Aj lj cj, .bool nk, .slice Ak lk ck]) (dv_loads (l := [.bool ni, .slice Ai li ci, .bool nj, .slice Aj lj cj, .bool nk, .slice Ak lk ck]) agt102 sz102 (T rfl rfl) H79 rfl) ?_
   have h80 := (h18.ext e25)
   have h81 := (h19.ext e25)
   have h82 := (h20.ext e25)
   have h83 := ((((hi.ext n3.ext).ext n8.ext).ext n13.ext).ext e25)
   have h84 := ((((hj.ext n3.ext).ext n8.ext).ext n13.ext).ext e25)
   have h85 := ((((hk.ext n3.ext).ext n8.ext).ext n13.ext).ext e25)
   refine lw_e (oe_callf (vs := [.agg #[.bool na, .slice Aa la ca, .bool nb, .slice Ab lb cb, .bool nm, .slice Am lm cm], .agg #[.bool ni, .slice Ai li ci, .bool nj, .slice Aj lj cj, .bool nk, .slice Ak lk ck]]) co113 (ar2 (T rfl rfl) (T rfl rfl)) (l3Cmp_ok h80 h81 h82 h83 h84 h85 (by first | decide | omega) (by first | decide | omega) (by first | decide | omega) (by first | decide | omega) (by first | decide | omega) (by first | decide | omega) ) ?_)
   rintro _ w86 ⟨rfl, e87⟩
   have E88 := below_ext E26 E26.size e87
   refine lw_v (.bool (decide ((pc x y u xt yt ut) ≤ 0))) (dv_leq (a := pc x y u xt yt ut) (b := 0) (T rfl rfl) C) ?_
   refine lw_v (.bool (decide ((pc x y u xt yt ut) ≤ 0))) (dv_move (T rfl rfl)) ?_
   by_cases hb89 : (pc x y u xt yt ut) ≤ 0
   · have H90 := (e87.blk H79)
     refine lw_vy (.agg #[.bool ni, .slice Ai li ci, .bool nj, .slice Aj lj cj, .bool nk, .slice Ak lk ck]) (d := 17) rfl rfl (congrArg Value.bool (decide_eq_true hb89)) (dv_loads (l := [.bool ni, .slice Ai li ci, .bool nj, .slice Aj lj cj, .bool nk, .slice Ak lk ck]) agt102 sz102 (T rfl rfl) H90 rfl) ?_
     have H91 := (e87.blk (e25.blk H17))
     refine lw_vy (.agg #[.bool ne, .slice Ae le ce, .bool nf, .slice Af lf cf, .bool ng, .slice Ag lg cg]) (d := 17) rfl rfl (congrArg Value.bool (decide_eq_true hb89)) (dv_loads (l := [.bool ne, .slice Ae le ce, .bool nf, .slice Af lf cf, .bool ng, .slice Ag lg cg]) agt102 sz102 (T rfl rfl) H91 rfl) ?_
     have h92 := (h83.ext e87)
     have h93 := (h84.ext e87)
     have h94 := (h85.ext e87)
     have h95 := ((h21.ext e25).ext e87)
     have h96 := ((h22.ext e25).ext e87)
     have h97 := ((h23.ext e25).ext e87)
     refine lw_ey (d := 17) rfl rfl (congrArg Value.bool (decide_eq_true hb89)) (oe_callf (vs := [.agg #[.bool ni, .slice Ai li ci, .bool nj, .slice Aj lj cj, .bool nk, .slice Ak lk ck], .agg #[.bool ne, .slice Ae le ce, .bool nf, .slice Af lf cf, .bool ng, .slice Ag lg cg]]) co113 (ar2 (T rfl rfl) (T rfl rfl)) (l3Cmp_ok h92 h93 h94 h95 h96 h97 (by first | decide | omega) (by first | decide | omega) (by first | decide | omega) (by first | decide | omega) (by first | decide | omega) (by first | decide | omega) ) ?_)
     rintro _ w98 ⟨rfl, e99⟩
     have E100 := below_ext E88 E88.size e99
     refine lw_vy (.bool (decide ((pc xt yt ut p q r) ≤ 0))) (d := 17) rfl rfl (congrArg Value.bool (decide_eq_true hb89)) (dv_leq (a := pc xt yt ut p q r) (b := 0) (T rfl rfl) C) ?_
     refine lw_v (.bool (decide ((pc xt yt ut p q r) ≤ 0))) (dv_pick_t (T rfl (congrArg Value.bool (decide_eq_true hb89))) (T rfl rfl)) ?_
     refine lw_v (.bool (decide ((pc xt yt ut p q r) ≤ 0))) (dv_move (T rfl rfl)) ?_
     by_cases hb101 : (pc xt yt ut p q r) ≤ 0
     · have H102 := (e99.blk (e87.blk H78))
       refine lw_vy (.agg #[.bool na, .slice Aa la ca, .bool nb, .slice Ab lb cb, .bool nm, .slice Am lm cm]) (d := 23) rfl rfl (congrArg Value.bool (decide_eq_true hb101)) (dv_loads (l := [.bool na, .slice Aa la ca, .bool nb, .slice Ab lb cb, .bool nm, .slice Am lm cm]) agt102 sz102 (T rfl rfl) H102 rfl) ?_
       have H103 := (e99.blk H91)
       refine lw_vy (.agg #[.bool ne, .slice Ae le ce, .bool nf, .slice Af lf cf, .bool ng, .slice Ag lg cg]) (d := 23) rfl rfl (congrArg Value.bool (decide_eq_true hb101)) (dv_loads (l := [.bool ne, .slice Ae le ce, .bool nf, .slice Af lf cf, .bool ng, .slice Ag lg cg]) agt102 sz102 (T rfl rfl) H103 rfl) ?_
       have H104 := (e99.blk H90)
       refine lw_vy (.agg #[.bool ni, .slice Ai li ci, .bool nj, .slice Aj lj cj, .bool nk, .slice Ak lk ck]) (d := 23) rfl rfl (congrArg Value.bool (decide_eq_true hb101)) (dv_loads (l := [.bool ni, .slice Ai li ci, .bool nj, .slice Aj lj cj, .bool nk, .slice Ak lk ck]) agt102 sz102 (T rfl rfl) H104 rfl) ?_
       have h105 := ((h80.ext e87).ext e99)
       have h106 := ((h81.ext e87).ext e99)
       have h107 := ((h82.ext e87).ext e99)
       have h108 := (h95.ext e99)
       have h109 := (h96.ext e99)
       have h110 := (h97.ext e99)
       have h111 := (h92.ext e99)
       have h112 := (h93.ext e99)
       have h113 := (h94.ext e99)
       refine lw_ey (d := 23) rfl rfl (congrArg Value.bool (decide_eq_true hb101)) (oe_callf (vs := [.agg #[.bool na, .slice Aa la ca, .bool nb, .slice Ab lb cb, .bool nm, .slice Am lm cm], .agg #[.bool ne, .slice Ae le ce, .bool nf, .slice Af lf cf, .bool ng, .slice Ag lg cg], .agg #[.bool ni, .slice Ai li ci, .bool nj, .slice Aj lj cj, .bool nk, .slice Ak lk ck]]) co73 (ar3 (T rfl rfl) (T rfl rfl) (T rfl rfl)) (l3Orient_ok h105 h106 h107 h108 h109 h110 h111 h112 h113 (by first | decide | omega) (by first | decide | omega) (by first | decide | omega) (by first | decide | omega) (by first | decide | omega) (by first | decide | omega) (by first | decide | omega) (by first | decide | omega) (by first | decide | omega) ) ?_)
       rintro _ w114 ⟨rfl, e115⟩
       have E116 := below_ext E100 E100.size e115
       have := ori_rg x y u p q r xt yt ut
       refine lw_vy (.bool (decide ((ori x y u p q r xt yt ut) = 0))) (d := 23) rfl rfl (congrArg Value.bool (decide_eq_true hb101)) (dv_eql (a := ori x y u p q r xt yt ut) (b := 0) (T rfl rfl) C) ?_
       refine lw_v (.bool (decide ((ori x y u p q r xt yt ut) = 0))) (dv_pick_t (T rfl (congrArg Value.bool (decide_eq_true hb101))) (T rfl rfl)) ?_
       refine lw_v (.bool (decide ((ori x y u p q r xt yt ut) = 0))) (dv_assign (T rfl rfl)) ?_
       refine lw_nil ?_
       refine rk_ret Try.func68 (v := .bool (decide ((ori x y u p q r xt yt ut) = 0))) (res1 Try.results68 (rv_tmp rfl rfl)) ⟨_, rfl, ?_⟩
       exact ⟨(vb (by unfold btw; omega)), E116⟩
     · refine lw_no (d := 23) rfl rfl (congrArg Value.bool (decide_eq_false hb101)) ?_
       refine lw_no (d := 23) rfl rfl (congrArg Value.bool (decide_eq_false hb101)) ?_
       refine lw_no (d := 23) rfl rfl (congrArg Value.bool (decide_eq_false hb101)) ?_
       refine lw_no (d := 23) rfl rfl (congrArg Value.bool (decide_eq_false hb101)) ?_
       refine lw_no (d := 23) rfl rfl (congrArg Value.bool (decide_eq_false hb101)) ?_
       refine lw_v (.bool false) (dv_pick_f (T rfl (congrArg Value.bool (decide_eq_false hb101))) C) ?_
       refine lw_v (.bool false) (dv_assign (T rfl rfl)) ?_
       refine lw_nil ?_
       refine rk_ret Try.func68 (v := .bool false) (res1 Try.results68 (rv_tmp rfl rfl)) ⟨_, rfl, ?_⟩
       exact ⟨(vf (by unfold btw; omega)), E100⟩
   · refine lw_no (d := 17) rfl rfl (congrArg Value.bool (decide_eq_false hb89)) ?_
     refine lw_no (d := 17) rfl rfl (congrArg Value.bool (decide_eq_false hb89)) ?_
     refine lw_no (d := 17) rfl rfl (congrArg Value.bool (decide_eq_false hb89)) ?_
     refine lw_no (d := 17) rfl rfl (congrArg Value.bool (decide_eq_false hb89)) ?_
     refine lw_v (.bool false) (dv_pick_f (T rfl (congrArg Value.bool (decide_eq_false hb89))) C) ?_
     refine lw_v (.bool false) (dv_move (T rfl rfl)) ?_
     refine lw_no (d := 23) rfl rfl (rfl) ?_
     refine lw_no (d := 23) rfl rfl (rfl) ?_
     refine lw_no (d := 23) rfl rfl (rfl) ?_
     refine lw_no (d := 23) rfl rfl (rfl) ?_
     refine lw_no (d := 23) rfl rfl (rfl) ?_
     refine lw_v (.bool false) (dv_pick_f (T rfl rfl) C) ?_
     refine lw_v (.bool false) (dv_assign (T rfl rfl)) ?_
     refine lw_nil ?_
     refine rk_ret Try.func68 (v := .bool false) (res1 Try.results68 (rv_tmp rfl rfl)) ⟨_, rfl, ?_⟩
     exact ⟨(vf (by unfold btw; omega)), E88⟩
set_option maxHeartbeats 1000000 in
theorem between_ok {w : World} {x y u p q r xt yt ut : Int} (fx_ : fits x) (fy_ : fits y) (fu_ : fits u) (fp_ : fits p) (fq_ : fits q) (fr_ : fits r) (fxt_ : fits xt) (fyt_ : fits yt) (fut_ : fits ut) (h3_ : pOk x y u ∧ pOk p q r ∧ pOk xt yt ut) : Ct Try.prog 72 [.agg #[.int .u64 (wv3 x), .int .u64 (wv2 x), .int .u64 (wv1 x), .int .u64 (wv0 x), .int .u64 (wv3 y), .int .u64 (wv2 y), .int .u64 (wv1 y), .int .u64 (wv0 y), .int .u64 (wv3 u), .int .u64 (wv2 u), .int .u64 (wv1 u), .int .u64 (wv0 u)], .agg #[.int .u64 (wv3 p), .int .u64 (wv2 p), .int .u64 (wv1 p), .int .u64 (wv0 p), .int .u64 (wv3 q), .int .u64 (wv2 q), .int .u64 (wv1 q), .int .u64 (wv0 q), .int .u64 (wv3 r), .int .u64 (wv2 r), .int .u64 (wv1 r), .int .u64 (wv0 r)], .agg #[.int .u64 (wv3 xt), .int .u64 (wv2 xt), .int .u64 (wv1 xt), .int .u64 (wv0 xt), .int .u64 (wv3 yt), .int .u64 (wv2 yt), .int .u64 (wv1 yt), .int .u64 (wv0 yt), .int .u64 (wv3 ut), .int .u64 (wv2 ut), .int .u64 (wv1 ut), .int .u64 (wv0 ut)]] w fun v w1 => v = .bool (decide (btw x y u p q r xt yt ut)) ∧ Ext w w1 := by
 refine ct_run (n := 30) Try.func72 rfl Try.ntmps72 rfl ?_
 have E0 : Below w.heap.size w w := Below.refl _ _
 refine rk_seq ?_
 refine rk_reg ?_
 refine lw_e (oe_box (v := .agg #[.int .u64 (wv3 x), .int .u64 (wv2 x), .int .u64 (wv1 x), .int .u64 (wv0 x), .int .u64 (wv3 y), .int .u64 (wv2 y), .int .u64 (wv1 y), .int .u64 (wv0 y), .int .u64 (wv3 u), .int .u64 (wv2 u), .int .u64 (wv1 u), .int .u64 (wv0 u)]) (cs := #[.int .u64 (wv3 x), .int .u64 (wv2 x), .int .u64 (wv1 x), .int .u64 (wv0 x), .int .u64 (wv3 y), .int .u64 (wv2 y), .int .u64 (wv1 y), .int .u64 (wv0 y), .int .u64 (wv3 u), .int .u64 (wv2 u), .int .u64 (wv1 u), .int .u64 (wv0 u)]) (T rfl rfl) rfl ?_)
 intro b1 w2 n3
 have N4 : w.heap.size ≤ b1 := n3.eq ▸ E0.size
 have E5 := below_ext E0 E0.size n3.ext
 refine lw_e (oe_box (v := .agg #[.int .u64 (wv3 p), .int .u64 (wv2 p), .int .u64 (wv1 p), .int .u64 (wv0 p), .int .u64 (wv3 q), .int .u64 (wv2 q), .int .u64 (wv1 q), .int .u64 (wv0 q), .int .u64 (wv3 r), .int .u64 (wv2 r), .int .u64 (wv1 r), .int .u64 (wv0 r)]) (cs := #[.int .u64 (wv3 p), .int .u64 (wv2 p), .int .u64 (wv1 p), .int .u64 (wv0 p), .int .u64 (wv3 q), .int .u64 (wv2 q), .int .u64 (wv1 q), .int .u64 (wv0 q), .int .u64 (wv3 r), .int .u64 (wv2 r), .int .u64 (wv1 r), .int .u64 (wv0 r)]) (T rfl rfl) rfl ?_)
 intro b6 w7 n8
 have N9 : w.heap.size ≤ b6 := n8.eq ▸ E5.size
 have : b1 < b6 := n8.eq ▸ lt_of_blk n3.blk
 have E10 := below_ext E5 E5.size n8.ext
 refine lw_e (oe_box (v := .agg #[.int .u64 (wv3 xt), .int .u64 (wv2 xt), .int .u64 (wv1 xt), .int .u64 (wv0 xt), .int .u64 (wv3 yt), .int .u64 (wv2 yt), .int .u64 (wv1 yt), .int .u64 (wv0 yt), .int .u64 (wv3 ut), .int .u64 (wv2 ut), .int .u64 (wv1 ut), .int .u64 (wv0 ut)]) (cs := #[.int .u64 (wv3 xt), .int .u64 (wv2 xt), .int .u64 (wv1 xt), .int .u64 (wv0 xt), .int .u64 (wv3 yt), .int .u64 (wv2 yt), .int .u64 (wv1 yt), .int .u64 (wv0 yt), .int .u64 (wv3 ut), .int .u64 (wv2 ut), .int .u64 (wv1 ut), .int .u64 (wv0 ut)]) (T rfl rfl) rfl ?_)
 intro b11 w12 n13
 have N14 : w.heap.size ≤ b11 := n13.eq ▸ E10.size
 have : b6 < b11 := n13.eq ▸ lt_of_blk n8.blk
 have E15 := below_ext E10 E10.size n13.ext
 refine lw_v (.bool false) (dv_assign C) ?_
 refine lw_nil ?_
 refine rk_seq ?_
 refine rk_seq ?_
 refine rk_reg ?_
 have H16 := (n13.ext.blk (n8.ext.blk n3.blk))
 refine lw_v (.agg #[.int .u64 (wv3 x), .int .u64 (wv2 x), .int .u64 (wv1 x), .int .u64 (wv0 x), .int .u64 (wv3 y), .int .u64 (wv2 y), .int .u64 (wv1 y), .int .u64 (wv0 y), .int .u64 (wv3 u), .int .u64 (wv2 u), .int .u64 (wv1 u), .int .u64 (wv0 u)]) (dv_loads (l := [.int .u64 (wv3 x), .int .u64 (wv2 x), .int .u64 (wv1 x), .int .u64 (wv0 x), .int .u64 (wv3 y), .int .u64 (wv2 y), .int .u64 (wv1 y), .int .u64 (wv0 y), .int .u64 (wv3 u), .int .u64 (wv2 u), .int .u64 (wv1 u), .int .u64 (wv0 u)]) agt37 sz37 (T rfl rfl) H16 rfl) ?_
 refine lw_v (.agg #[.int .u64 (wv3 xt), .int .u64 (wv2 xt), .int .u64 (wv1 xt), .int .u64 (wv0 xt), .int .u64 (wv3 yt), .int .u64 (wv2 yt), .int .u64 (wv1 yt), .int .u64 (wv0 yt), .int .u64 (wv3 ut), .int .u64 (wv2 ut), .int .u64 (wv1 ut), .int .u64 (wv0 ut)]) (dv_loads (l := [.int .u64 (wv3 xt), .int .u64 (wv2 xt), .int .u64 (wv1 xt), .int .u64 (wv0 xt), .int .u64 (wv3 yt), .int .u64 (wv2 yt), .int .u64 (wv1 yt), .int .u64 (wv0 yt), .int .u64 (wv3 ut), .int .u64 (wv2 ut), .int .u64 (wv1 ut), .int .u64 (wv0 ut)]) agt37 sz37 (T rfl rfl) n13.blk rfl) ?_
 refine lw_v (.bool (decide (([wv3 x, wv2 x, wv1 x, wv0 x, wv3 y, wv2 y, wv1 y, wv0 y, wv3 u, wv2 u, wv1 u, wv0 u] : List Int) = [wv3 xt, wv2 xt, wv1 xt, wv0 xt, wv3 yt, wv2 yt, wv1 yt, wv0 yt, wv3 ut, wv2 ut, wv1 ut, wv0 ut]))) (dv_eqln (k := .u64) (la := [wv3 x, wv2 x, wv1 x, wv0 x, wv3 y, wv2 y, wv1 y, wv0 y, wv3 u, wv2 u, wv1 u, wv0 u]) (lb := [wv3 xt, wv2 xt, wv1 xt, wv0 xt, wv3 yt, wv2 yt, wv1 yt, wv0 yt, wv3 ut, wv2 ut, wv1 ut, wv0 ut]) fl37 eg37 (T rfl rfl) (T rfl rfl) rfl rfl) ?_
 refine lw_v (.bool (decide (([wv3 x, wv2 x, wv1 x, wv0 x, wv3 y, wv2 y, wv1 y, wv0 y, wv3 u, wv2 u, wv1 u, wv0 u] : List Int) = [wv3 xt, wv2 xt, wv1 xt, wv0 xt, wv3 yt, wv2 yt, wv1 yt, wv0 yt, wv3 ut, wv2 ut, wv1 ut, wv0 ut]))) (dv_move (T rfl rfl)) ?_
 by_cases hb17 : ([wv3 x, wv2 x, wv1 x, wv0 x, wv3 y, wv2 y, wv1 y, wv0 y, wv3 u, wv2 u, wv1 u, wv0 u] : List Int) = [wv3 xt, wv2 xt, wv1 xt, wv0 xt, wv3 yt, wv2 yt, wv1 yt, wv0 yt, wv3 ut, wv2 ut, wv1 ut, wv0 ut]
 · have hz18 := (wl3_eq fx_ fy_ fu_ fxt_ fyt_ fut_).1 hb17
   refine lw_no (d := 10) rfl rfl (congrArg Value.bool (decide_eq_true hb17)) ?_
   refine lw_no (d := 10) rfl rfl (congrArg Value.bool (decide_eq_true hb17)) ?_
   refine lw_no (d := 10) rfl rfl (congrArg Value.bool (decide_eq_true hb17)) ?_
   refine lw_v (.bool true) (dv_pick_t (T rfl (congrArg Value.bool (decide_eq_true hb17))) C) ?_
   refine lw_nil ?_
   refine rk_ct (T rfl rfl) ?_
   refine rk_seq ?_
   refine rk_reg ?_
   refine lw_v (.bool true) (dv_assign C) ?_
   refine lw_nil ?_
   refine rk_ret Try.func72 (v := .bool true) (res1 Try.results72 (rv_tmp rfl rfl)) ⟨_, rfl, ?_⟩
   exact ⟨(vt (by obtain ⟨rfl, rfl, rfl⟩ : x = xt ∧ y = yt ∧ u = ut := ‹_›; exact btw_p)), E15⟩
 · have hz19 := mt (wl3_eq fx_ fy_ fu_ fxt_ fyt_ fut_).2 hb17
   have H20 := (n13.ext.blk n8.blk)
   refine lw_vy (.agg #[.int .u64 (wv3 p), .int .u64 (wv2 p), .int .u64 (wv1 p), .int .u64 (wv0 p), .int .u64 (wv3 q), .int .u64 (wv2 q), .int .u64 (wv1 q), .int .u64 (wv0 q), .int .u64 (wv3 r), .int .u64 (wv2 r), .int .u64 (wv1 r), .int .u64 (wv0 r)]) (d := 10) rfl rfl (congrArg Value.bool (decide_eq_false hb17)) (dv_loads (l := [.int .u64 (wv3 p), .int .u64 (wv2 p), .int .u64 (wv1 p), .int .u64 (wv0 p), .int .u64 (wv3 q), .int .u64 (wv2 q), .int .u64 (wv1 q), .int .u64 (wv0 q), .int .u64 (wv3 r), .int .u64 (wv2 r), .int .u64 (wv1 r), .int .u64 (wv0 r)]) agt37 sz37 (T rfl rfl) H20 rfl) ?_
   refine lw_vy (.agg #[.int .u64 (wv3 xt), .int .u64 (wv2 xt), .int .u64 (wv1 xt), .int .u64 (wv0 xt), .int .u64 (wv3 yt), .int .u64 (wv2 yt), .int .u64 (wv1 yt), .int .u64 (wv0 yt), .int .u64 (wv3 ut), .int .u64 (wv2 ut), .int .u64 (wv1 ut), .int .u64 (wv0 ut)]) (d := 10) rfl rfl (congrArg Value.bool (decide_eq_false hb17)) (dv_loads (l := [.int .u64 (wv3 xt), .int .u64 (wv2 xt), .int .u64 (wv1 xt), .int .u64 (wv0 xt), .int .u64 (wv3 yt), .int .u64 (wv2 yt), .int .u64 (wv1 yt), .int .u64 (wv0 yt), .int .u64 (wv3 ut), .int .u64 (wv2 ut), .int .u64 (wv1 ut), .int .u64 (wv0 ut)]) agt37 sz37 (T rfl rfl) n13.blk rfl) ?_
   refine lw_vy (.bool (decide (([wv3 p, wv2 p, wv1 p, wv0 p, wv3 q, wv2 q, wv1 q, wv0 q, wv3 r, wv2 r, wv1 r, wv0 r] : List Int) = [wv3 xt, wv2 xt, wv1 xt, wv0 xt, wv3 yt, wv2 yt, wv1 yt, wv0 yt, wv3 ut, wv2 ut, wv1 ut, wv0 ut]))) (d := 10) rfl rfl (congrArg Value.bool (decide_eq_false hb17)) (dv_eqln (k := .u64) (la := [wv3 p, wv2 p, wv1 p, wv0 p, wv3 q, wv2 q, wv1 q, wv0 q, wv3 r, wv2 r, wv1 r, wv0 r]) (lb := [wv3 xt, wv2 xt, wv1 xt, wv0 xt, wv3 yt, wv2 yt, wv1 yt, wv0 yt, wv3 ut, wv2 ut, wv1 ut, wv0 ut]) fl37 eg37 (T rfl rfl) (T rfl rfl) rfl rfl) ?_
   refine lw_v (.bool (decide (([wv3 p, wv2 p, wv1 p, wv0 p, wv3 q, wv2 q, wv1 q, wv0 q, wv3 r, wv2 r, wv1 r, wv0 r] : List Int) = [wv3 xt, wv2 xt, wv1 xt, wv0 xt, wv3 yt, wv2 yt, wv1 yt, wv0 yt, wv3 ut, wv2 ut, wv1 ut, wv0 ut]))) (dv_pick_f (T rfl (congrArg Value.bool (decide_eq_false hb17))) (T rfl rfl)) ?_
   refine lw_nil ?_
   by_cases hb21 : ([wv3 p, wv2 p, wv1 p, wv0 p, wv3 q, wv2 q, wv1 q, wv0 q, wv3 r, wv2 r, wv1 r, wv0 r] : List Int) = [wv3 xt, wv2 xt, wv1 xt, wv0 xt, wv3 yt, wv2 yt, wv1 yt, wv0 yt, wv3 ut, wv2 ut, wv1 ut, wv0 ut]
   · have hz22 := (wl3_eq fp_ fq_ fr_ fxt_ fyt_ fut_).1 hb21
     refine rk_ct (T rfl (congrArg Value.bool (decide_eq_true hb21))) ?_
     refine rk_seq ?_
     refine rk_reg ?_
     refine lw_v (.bool true) (dv_assign C) ?_
     refine lw_nil ?_
     refine rk_ret Try.func72 (v := .bool true) (res1 Try.results72 (rv_tmp rfl rfl)) ⟨_, rfl, ?_⟩
     exact ⟨(vt (by obtain ⟨rfl, rfl, rfl⟩ : p = xt ∧ q = yt ∧ r = ut := ‹_›; exact btw_q)), E15⟩
   · have hz23 := mt (wl3_eq fp_ fq_ fr_ fxt_ fyt_ fut_).2 hb21
     refine rk_cf (T rfl (congrArg Value.bool (decide_eq_false hb21))) ?_
     refine rk_skip ?_
     refine rk_seq ?_
     refine rk_any (fun w => w.heap[b1]? = some (.cells #[.int .u64 (wv3 x), .int .u64 (wv2 x), .int .u64 (wv1 x), .int .u64 (wv0 x), .int .u64 (wv3 y), .int .u64 (wv2 y), .int .u64 (wv1 y), .int .u64 (wv0 y), .int .u64 (wv3 u), .int .u64 (wv2 u), .int .u64 (wv1 u), .int .u64 (wv0 u)] 37) ∧ w.heap[b11]? = some (.cells #[.int .u64 (wv3 xt), .int .u64 (wv2 xt), .int .u64 (wv1 xt), .int .u64 (wv0 xt), .int .u64 (wv3 yt), .int .u64 (wv2 yt), .int .u64 (wv1 yt), .int .u64 (wv0 yt), .int .u64 (wv3 ut), .int .u64 (wv2 ut), .int .u64 (wv1 ut), .int .u64 (wv0 ut)] 37) ∧ w.heap[b6]? = some (.cells #[.int .u64 (wv3 p), .int .u64 (wv2 p), .int .u64 (wv1 p), .int .u64 (wv0 p), .int .u64 (wv3 q), .int .u64 (wv2 q), .int .u64 (wv1 q), .int .u64 (wv0 q), .int .u64 (wv3 r), .int .u64 (wv2 r), .int .u64 (wv1 r), .int .u64 (wv0 r)] 37)) [15] mo ?_
     intro w24 d25
     have E26 := below_ext E15 E15.size d25.ext
     have H27 := (d25.ext.blk H16)
     have H28 := (d25.ext.blk n13.blk)
     have H29 := (d25.ext.blk H20)
     refine aw_load 0 (.agg #[.int .u64 (wv3 x), .int .u64 (wv2 x), .int .u64 (wv1 x), .int .u64 (wv0 x), .int .u64 (wv3 y), .int .u64 (wv2 y), .int .u64 (wv1 y), .int .u64 (wv0 y), .int .u64 (wv3 u), .int .u64 (wv2 u), .int .u64 (wv1 u), .int .u64 (wv0 u)]) rfl (by kernel_rfl) .none ⟨H27, H28, H29⟩ (fun _ s => dv_loads (l := [.int .u64 (wv3 x), .int .u64 (wv2 x), .int .u64 (wv1 x), .int .u64 (wv0 x), .int .u64 (wv3 y), .int .u64 (wv2 y), .int .u64 (wv1 y), .int .u64 (wv0 y), .int .u64 (wv3 u), .int .u64 (wv2 u), .int .u64 (wv1 u), .int .u64 (wv0 u)]) agt37 sz37 (T rfl rfl) s.1 rfl) ?_
     refine aw_load 1 (.agg #[.int .u64 (wv3 xt), .int .u64 (wv2 xt), .int .u64 (wv1 xt), .int .u64 (wv0 xt), .int .u64 (wv3 yt), .int .u64 (wv2 yt), .int .u64 (wv1 yt), .int .u64 (wv0 yt), .int .u64 (wv3 ut), .int .u64 (wv2 ut), .int .u64 (wv1 ut), .int .u64 (wv0 ut)]) rfl (by kernel_rfl) .none ⟨H27, H28, H29⟩ (fun _ s => dv_loads (l := [.int .u64 (wv3 xt), .int .u64 (wv2 xt), .int .u64 (wv1 xt), .int .u64 (wv0 xt), .int .u64 (wv3 yt), .int .u64 (wv2 yt), .int .u64 (wv1 yt), .int .u64 (wv0 yt), .int .u64 (wv3 ut), .int .u64 (wv2 ut), .int .u64 (wv1 ut), .int .u64 (wv0 ut)]) agt37 sz37 (T rfl rfl) s.2.1 rfl) ?_
     refine aw_load 3 (.agg #[.int .u64 (wv3 xt), .int .u64 (wv2 xt), .int .u64 (wv1 xt), .int .u64 (wv0 xt), .int .u64 (wv3 yt), .int .u64 (wv2 yt), .int .u64 (wv1 yt), .int .u64 (wv0 yt), .int .u64 (wv3 ut), .int .u64 (wv2 ut), .int .u64 (wv1 ut), .int .u64 (wv0 ut)]) rfl (by kernel_rfl) .none ⟨H27, H28, H29⟩ (fun _ s => dv_loads (l := [.int .u64 (wv3 xt), .int .u64 (wv2 xt), .int .u64 (wv1 xt), .int .u64 (wv0 xt), .int .u64 (wv3 yt), .int .u64 (wv2 yt), .int .u64 (wv1 yt), .int .u64 (wv0 yt), .int .u64 (wv3 ut), .int .u64 (wv2 ut), .int .u64 (wv1 ut), .int .u64 (wv0 ut)]) agt37 sz37 (T rfl rfl) s.2.1 rfl) ?_
     refine aw_load 4 (.agg #[.int .u64 (wv3 p), .int .u64 (wv2 p), .int .u64 (wv1 p), .int .u64 (wv0 p), .int .u64 (wv3 q), .int .u64 (wv2 q), .int .u64 (wv1 q), .int .u64 (wv0 q), .int .u64 (wv3 r), .int .u64 (wv2 r), .int .u64 (wv1 r), .int .u64 (wv0 r)]) rfl (by kernel_rfl) .none ⟨H27, H28, H29⟩ (fun _ s => dv_loads (l := [.int .u64 (wv3 p), .int .u64 (wv2 p), .int .u64 (wv1 p), .int .u64 (wv0 p), .int .u64 (wv3 q), .int .u64 (wv2 q), .int .u64 (wv1 q), .int .u64 (wv0 q), .int .u64 (wv3 r), .int .u64 (wv2 r), .int .u64 (wv1 r), .int .u64 (wv0 r)]) agt37 sz37 (T rfl rfl) s.2.2 rfl) ?_
     refine aw_one 2 rfl (by kernel_rfl) .none (oe_callf (vs := [.agg #[.int .u64 (wv3 x), .int .u64 (wv2 x), .int .u64 (wv1 x), .int .u64 (wv0 x), .int .u64 (wv3 y), .int .u64 (wv2 y), .int .u64 (wv1 y), .int .u64 (wv0 y), .int .u64 (wv3 u), .int .u64 (wv2 u), .int .u64 (wv1 u), .int .u64 (wv0 u)], .agg #[.int .u64 (wv3 xt), .int .u64 (wv2 xt), .int .u64 (wv1 xt), .int .u64 (wv0 xt), .int .u64 (wv3 yt), .int .u64 (wv2 yt), .int .u64 (wv1 yt), .int .u64 (wv0 yt), .int .u64 (wv3 ut), .int .u64 (wv2 ut), .int .u64 (wv1 ut), .int .u64 (wv0 ut)]]) co117 (ar2 (T rfl rfl) (T rfl rfl)) (cmpPoints_ok (x := x) (y := y) (u := u) (p := xt) (q := yt) (r := ut) fx_ fy_ fu_ fxt_ fyt_ fut_ ) ?_)
     rintro _ w30 ⟨rfl, e31⟩
     have E32 := below_ext E26 E26.size e31
     have := pc_rg x y u xt yt ut
     have H33 := (e31.blk H27)
     have H34 := (e31.blk H28)
     have H35 := (e31.blk H29)
     refine ⟨.inr ⟨H33, H34, H35⟩, ?_⟩
     refine aw_one 5 rfl (by kernel_rfl) .none (oe_callf (vs := [.agg #[.int .u64 (wv3 xt), .int .u64 (wv2 xt), .int .u64 (wv1 xt), .int .u64 (wv0 xt), .int .u64 (wv3 yt), .int .u64 (wv2 yt), .int .u64 (wv1 yt), .int .u64 (wv0 yt), .int .u64 (wv3 ut), .int .u64 (wv2 ut), .int .u64 (wv1 ut), .int .u64 (wv0 ut)], .agg #[.int .u64 (wv3 p), .int .u64 (wv2 p), .int .u64 (wv1 p), .int .u64 (wv0 p), .int .u64 (wv3 q), .int .u64 (wv2 q), .int .u64 (wv1 q), .int .u64 (wv0 q), .int .u64 (wv3 r), .int .u64 (wv2 r), .int .u64 (wv1 r), .int .u64 (wv0 r)]]) co117 (ar2 (T rfl rfl) (T rfl rfl)) (cmpPoints_ok (x := xt) (y := yt) (u := ut) (p := p) (q := q) (r := r) fxt_ fyt_ fut_ fp_ fq_ fr_ ) ?_)
     rintro _ w36 ⟨rfl, e37⟩
     have E38 := below_ext E32 E32.size e37
     have := pc_rg xt yt ut p q r
     have H39 := (e37.blk H33)
     have H40 := (e37.blk H34)
     have H41 := (e37.blk H35)
     refine ⟨.inr ⟨H39, H40, H41⟩, ?_⟩
     have hm42 := mul_bd (A := 1) (B := 1) (show -1 ≤ (pc x y u xt yt ut) by omega) (by omega) (show -1 ≤ (pc xt yt ut p q r) by omega) (by omega)
     refine aw_pure 6 (.int .i64 ((pc x y u xt yt ut) * (pc xt yt ut p q r))) rfl (by kernel_rfl) .none ⟨H39, H40, H41⟩ (fun _ => dv_mul (a := pc x y u xt yt ut) (b := pc xt yt ut p q r) (z := (pc x y u xt yt ut) * (pc xt yt ut p q r)) (T rfl rfl) (T rfl rfl) (wr_i64 (by omega) (by omega))) ?_
     refine aw_pure 7 (.bool (decide (0 < ((pc x y u xt yt ut) * (pc xt yt ut p q r))))) rfl (by kernel_rfl) .none ⟨H39, H40, H41⟩ (fun _ => dv_gtr (a := (pc x y u xt yt ut) * (pc xt yt ut p q r)) (b := 0) (T rfl rfl) C) ?_
     refine aw_pure 8 (.bool (decide (0 < ((pc x y u xt yt ut) * (pc xt yt ut p q r))))) rfl (by kernel_rfl) .none ⟨H39, H40, H41⟩ (fun _ => dv_move (T rfl rfl)) ?_
     by_cases hb43 : 0 < ((pc x y u xt yt ut) * (pc xt yt ut p q r))
     · refine aw_load 9 (.agg #[.int .u64 (wv3 x), .int .u64 (wv2 x), .int .u64 (wv1 x), .int .u64 (wv0 x), .int .u64 (wv3 y), .int .u64 (wv2 y), .int .u64 (wv1 y), .int .u64 (wv0 y), .int .u64 (wv3 u), .int .u64 (wv2 u), .int .u64 (wv1 u), .int .u64 (wv0 u)]) rfl (by kernel_rfl) (.yes (d := 23) rfl rfl (congrArg Value.bool (decide_eq_true hb43))) ⟨H39, H40, H41⟩ (fun _ s => dv_loads (l := [.int .u64 (wv3 x), .int .u64 (wv2 x), .int .u64 (wv1 x), .int .u64 (wv0 x), .int .u64 (wv3 y), .int .u64 (wv2 y), .int .u64 (wv1 y), .int .u64 (wv0 y), .int .u64 (wv3 u), .int .u64 (wv2 u), .int .u64 (wv1 u), .int .u64 (wv0 u)]) agt37 sz37 (T rfl rfl) s.1 rfl) ?_
       refine aw_load 10 (.agg #[.int .u64 (wv3 p), .int .u64 (wv2 p), .int .u64 (wv1 p), .int .u64 (wv0 p), .int .u64 (wv3 q), .int .u64 (wv2 q), .int .u64 (wv1 q), .int .u64 (wv0 q), .int .u64 (wv3 r), .int .u64 (wv2 r), .int .u64 (wv1 r), .int .u64 (wv0 r)]) rfl (by kernel_rfl) (.yes (d := 23) rfl rfl (congrArg Value.bool (decide_eq_true hb43))) ⟨H39, H40, H41⟩ (fun _ s => dv_loads (l := [.int .u64 (wv3 p), .int .u64 (wv2 p), .int .u64 (wv1 p), .int .u64 (wv0 p), .int .u64 (wv3 q), .int .u64 (wv2 q), .int .u64 (wv1 q), .int .u64 (wv0 q), .int .u64 (wv3 r), .int .u64 (wv2 r), .int .u64 (wv1 r), .int .u64 (wv0 r)]) agt37 sz37 (T rfl rfl) s.2.2 rfl) ?_
       refine aw_load 11 (.agg #[.int .u64 (wv3 xt), .int .u64 (wv2 xt), .int .u64 (wv1 xt), .int .u64 (wv0 xt), .int .u64 (wv3 yt), .int .u64 (wv2 yt), .int .u64 (wv1 yt), .int .u64 (wv0 yt), .int .u64 (wv3 ut), .int .u64 (wv2 ut), .int .u64 (wv1 ut), .int .u64 (wv0 ut)]) rfl (by kernel_rfl) (.yes (d := 23) rfl rfl (congrArg Value.bool (decide_eq_true hb43))) ⟨H39, H40, H41⟩ (fun _ s => dv_loads (l := [.int .u64 (wv3 xt), .int .u64 (wv2 xt), .int .u64 (wv1 xt), .int .u64 (wv0 xt), .int .u64 (wv3 yt), .int .u64 (wv2 yt), .int .u64 (wv1 yt), .int .u64 (wv0 yt), .int .u64 (wv3 ut), .int .u64 (wv2 ut), .int .u64 (wv1 ut), .int .u64 (wv0 ut)]) agt37 sz37 (T rfl rfl) s.2.1 rfl) ?_
       refine aw_one 12 rfl (by kernel_rfl) (.yes (d := 23) rfl rfl (congrArg Value.bool (decide_eq_true hb43))) (oe_callf (vs := [.agg #[.int .u64 (wv3 x), .int .u64 (wv2 x), .int .u64 (wv1 x), .int .u64 (wv0 x), .int .u64 (wv3 y), .int .u64 (wv2 y), .int .u64 (wv1 y), .int .u64 (wv0 y), .int .u64 (wv3 u), .int .u64 (wv2 u), .int .u64 (wv1 u), .int .u64 (wv0 u)], .agg #[.int .u64 (wv3 p), .int .u64 (wv2 p), .int .u64 (wv1 p), .int .u64 (wv0 p), .int .u64 (wv3 q), .int .u64 (wv2 q), .int .u64 (wv1 q), .int .u64 (wv0 q), .int .u64 (wv3 r), .int .u64 (wv2 r), .int .u64 (wv1 r), .int .u64 (wv0 r)], .agg #[.int .u64 (wv3 xt), .int .u64 (wv2 xt), .int .u64 (wv1 xt), .int .u64 (wv0 xt), .int .u64 (wv3 yt), .int .u64 (wv2 yt), .int .u64 (wv1 yt), .int .u64 (wv0 yt), .int .u64 (wv3 ut), .int .u64 (wv2 ut), .int .u64 (wv1 ut), .int .u64 (wv0 ut)]]) co131 (ar3 (T rfl rfl) (T rfl rfl) (T rfl rfl)) (turn_ok (x := x) (y := y) (u := u) (p := p) (q := q) (r := r) (xt := xt) (yt := yt) (ut := ut) fx_ fy_ fu_ fp_ fq_ fr_ fxt_ fyt_ fut_ ) ?_)
       rintro _ w44 ⟨rfl, e45⟩
       have E46 := below_ext E38 E38.size e45
       have H47 := (e45.blk H39)
       have H48 := (e45.blk H40)
       have H49 := (e45.blk H41)
       refine ⟨.inr ⟨H47, H48, H49⟩, ?_⟩
       refine aw_pure 13 (.bool (decide ((ori x y u p q r xt yt ut) = 0))) rfl (by kernel_rfl) (.yes (d := 23) rfl rfl (congrArg Value.bool (decide_eq_true hb43))) ⟨H47, H48, H49⟩ (fun _ => dv_eql (a := ori x y u p q r xt yt ut) (b := 0) (T rfl rfl) C) ?_
       refine aw_pure 14 (.bool (decide ((ori x y u p q r xt yt ut) = 0))) rfl (by kernel_rfl) .none ⟨H47, H48, H49⟩ (fun _ => dv_pick_t (T rfl (congrArg Value.bool (decide_eq_true hb43))) (T rfl rfl)) ?_
       refine aw_last 15 (.bool (decide ((ori x y u p q r xt yt ut) = 0))) rfl (by kernel_rfl) .none (fun _ => dv_assign (T rfl rfl)) ?_
       refine aw_done (by kernel_rfl) ?_
       refine rk_ret Try.func72 (v := .bool (decide ((ori x y u p q r xt yt ut) = 0))) (res1 Try.results72 (rv_tmp rfl rfl)) ⟨_, rfl, ?_⟩
       have hbi := btw_iff h3_.1 h3_.2.1 h3_.2.2 (by assumption) (by assumption)
       exact ⟨(vb (by rw [hbi]; exact ⟨fun hh => ⟨by assumption, hh⟩, fun hh => hh.2⟩)), E46⟩
     · refine aw_no 9 rfl (by kernel_rfl) (d := 23) rfl rfl (congrArg Value.bool (decide_eq_false hb43)) ⟨H39, H40, H41⟩ ?_
       refine aw_no 10 rfl (by kernel_rfl) (d := 23) rfl rfl (congrArg Value.bool (decide_eq_false hb43)) ⟨H39, H40, H41⟩ ?_
       refine aw_no 11 rfl (by kernel_rfl) (d := 23) rfl rfl (congrArg Value.bool (decide_eq_false hb43)) ⟨H39, H40, H41⟩ ?_
       refine aw_no 12 rfl (by kernel_rfl) (d := 23) rfl rfl (congrArg Value.bool (decide_eq_false hb43)) ⟨H39, H40, H41⟩ ?_
       refine aw_no 13 rfl (by kernel_rfl) (d := 23) rfl rfl (congrArg Value.bool (decide_eq_false hb43)) ⟨H39, H40, H41⟩ ?_
       refine aw_pure 14 (.bool false) rfl (by kernel_rfl) .none ⟨H39, H40, H41⟩ (fun _ => dv_pick_f (T rfl (congrArg Value.bool (decide_eq_false hb43))) C) ?_
       refine aw_last 15 (.bool false) rfl (by kernel_rfl) .none (fun _ => dv_assign (T rfl rfl)) ?_
       refine aw_done (by kernel_rfl) ?_
       refine rk_ret Try.func72 (v := .bool false) (res1 Try.results72 (rv_tmp rfl rfl)) ⟨_, rfl, ?_⟩
       have hbi := btw_iff h3_.1 h3_.2.1 h3_.2.2 (by assumption) (by assumption)
       exact ⟨(vf (by rw [hbi]; intro hh; exact absurd hh.1 (by assumption))), E38⟩
set_option maxHeartbeats 1000000 in
theorem sBetween_ok {w : World} {x y u p q r xt yt ut : Int} (fx_ : fits x) (fy_ : fits y) (fu_ : fits u) (fp_ : fits p) (fq_ : fits q) (fr_ : fits r) (fxt_ : fits xt) (fyt_ : fits yt) (fut_ : fits ut)  : Ct Try.prog 20 [.agg #[.int .u64 (wv3 x), .int .u64 (wv2 x), .int .u64 (wv1 x), .int .u64 (wv0 x), .int .u64 (wv3 y), .int .u64 (wv2 y), .int .u64 (wv1 y), .int .u64 (wv0 y), .int .u64 (wv3 u), .int .u64 (wv2 u), .int .u64 (wv1 u), .int .u64 (wv0 u)], .agg #[.int .u64 (wv3 p), .int .u64 (wv2 p), .int .u64 (wv1 p), .int .u64 (wv0 p), .int .u64 (wv3 q), .int .u64 (wv2 q), .int .u64 (wv1 q), .int .u64 (wv0 q), .int .u64 (wv3 r), .int .u64 (wv2 r), .int .u64 (wv1 r), .int .u64 (wv0 r)], .agg #[.int .u64 (wv3 xt), .int .u64 (wv2 xt), .int .u64 (wv1 xt), .int .u64 (wv0 xt), .int .u64 (wv3 yt), .int .u64 (wv2 yt), .int .u64 (wv1 yt), .int .u64 (wv0 yt), .int .u64 (wv3 ut), .int .u64 (wv2 ut), .int .u64 (wv1 ut), .int .u64 (wv0 ut)]] w fun v w1 => v = .bool (decide ((pOk x y u ∧ pOk p q r ∧ pOk xt yt ut) ∧ btw x y u p q r xt yt ut)) ∧ Ext w w1 := by
 refine ct_run (n := 26) Try.func20 rfl Try.ntmps20 rfl ?_
 have E0 : Below w.heap.size w w := Below.refl _ _
 refine rk_seq ?_
 refine rk_reg ?_
 refine lw_e (oe_box (v := .agg #[.int .u64 (wv3 x), .int .u64 (wv2 x), .int .u64 (wv1 x), .int .u64 (wv0 x), .int .u64 (wv3 y), .int .u64 (wv2 y), .int .u64 (wv1 y), .int .u64 (wv0 y), .int .u64 (wv3 u), .int .u64 (wv2 u), .int .u64 (wv1 u), .int .u64 (wv0 u)]) (cs := #[.int .u64 (wv3 x), .int .u64 (wv2 x), .int .u64 (wv1 x), .int .u64 (wv0 x), .int .u64 (wv3 y), .int .u64 (wv2 y), .int .u64 (wv1 y), .int .u64 (wv0 y), .int .u64 (wv3 u), .int .u64 (wv2 u), .int .u64 (wv1 u), .int .u64 (wv0 u)]) (T rfl rfl) rfl ?_)
 intro b1 w2 n3
 have N4 : w.heap.size ≤ b1 := n3.eq ▸ E0.size
 have E5 := below_ext E0 E0.size n3.ext
 refine lw_e (oe_box (v := .agg #[.int .u64 (wv3 p), .int .u64 (wv2 p), .int .u64 (wv1 p), .int .u64 (wv0 p), .int .u64 (wv3 q), .int .u64 (wv2 q), .int .u64 (wv1 q), .int .u64 (wv0 q), .int .u64 (wv3 r), .int .u64 (wv2 r), .int .u64 (wv1 r), .int .u64 (wv0 r)]) (cs := #[.int .u64 (wv3 p), .int .u64 (wv2 p), .int .u64 (wv1 p), .int .u64 (wv0 p), .int .u64 (wv3 q), .int .u64 (wv2 q), .int .u64 (wv1 q), .int .u64 (wv0 q), .int .u64 (wv3 r), .int .u64 (wv2 r), .int .u64 (wv1 r), .int .u64 (wv0 r)]) (T rfl rfl) rfl ?_)
 intro b6 w7 n8
 have N9 : w.heap.size ≤ b6 := n8.eq ▸ E5.size
 have : b1 < b6 := n8.eq ▸ lt_of_blk n3.blk
 have E10 := below_ext E5 E5.size n8.ext
 refine lw_e (oe_box (v := .agg #[.int .u64 (wv3 xt), .int .u64 (wv2 xt), .int .u64 (wv1 xt), .int .u64 (wv0 xt), .int .u64 (wv3 yt), .int .u64 (wv2 yt), .int .u64 (wv1 yt), .int .u64 (wv0 yt), .int .u64 (wv3 ut), .int .u64 (wv2 ut), .int .u64 (wv1 ut), .int .u64 (wv0 ut)]) (cs := #[.int .u64 (wv3 xt), .int .u64 (wv2 xt), .int .u64 (wv1 xt), .int .u64 (wv0 xt), .int .u64 (wv3 yt), .int .u64 (wv2 yt), .int .u64 (wv1 yt), .int .u64 (wv0 yt), .int .u64 (wv3 ut), .int .u64 (wv2 ut), .int .u64 (wv1 ut), .int .u64 (wv0 ut)]) (T rfl rfl) rfl ?_)
 intro b11 w12 n13
 have N14 : w.heap.size ≤ b11 := n13.eq ▸ E10.size
 have : b6 < b11 := n13.eq ▸ lt_of_blk n8.blk
 have E15 := below_ext E10 E10.size n13.ext
 refine lw_v (.bool false) (dv_assign C) ?_
 refine lw_nil ?_
 refine rk_seq ?_
 refine rk_any (fun w => w.heap[b1]? = some (.cells #[.int .u64 (wv3 x), .int .u64 (wv2 x), .int .u64 (wv1 x), .int .u64 (wv0 x), .int .u64 (wv3 y), .int .u64 (wv2 y), .int .u64 (wv1 y), .int .u64 (wv0 y), .int .u64 (wv3 u), .int .u64 (wv2 u), .int .u64 (wv1 u), .int .u64 (wv0 u)] 37) ∧ w.heap[b6]? = some (.cells #[.int .u64 (wv3 p), .int .u64 (wv2 p), .int .u64 (wv1 p), .int .u64 (wv0 p), .int .u64 (wv3 q), .int .u64 (wv2 q), .int .u64 (wv1 q), .int .u64 (wv0 q), .int .u64 (wv3 r), .int .u64 (wv2 r), .int .u64 (wv1 r), .int .u64 (wv0 r)] 37) ∧ w.heap[b11]? = some (.cells #[.int .u64 (wv3 xt), .int .u64 (wv2 xt), .int .u64 (wv1 xt), .int .u64 (wv0 xt), .int .u64 (wv3 yt), .int .u64 (wv2 yt), .int .u64 (wv1 yt), .int .u64 (wv0 yt), .int .u64 (wv3 ut), .int .u64 (wv2 ut), .int .u64 (wv1 ut), .int .u64 (wv0 ut)] 37)) [19] mo ?_
 intro w16 d17
 have E18 := below_ext E15 E15.size d17.ext
 have H19 := (d17.ext.blk (n13.ext.blk (n8.ext.blk n3.blk)))
 have H20 := (d17.ext.blk (n13.ext.blk n8.blk))
 have H21 := (d17.ext.blk n13.blk)
 refine aw_load 0 (.agg #[.int .u64 (wv3 x), .int .u64 (wv2 x), .int .u64 (wv1 x), .int .u64 (wv0 x), .int .u64 (wv3 y), .int .u64 (wv2 y), .int .u64 (wv1 y), .int .u64 (wv0 y), .int .u64 (wv3 u), .int .u64 (wv2 u), .int .u64 (wv1 u), .int .u64 (wv0 u)]) rfl (by kernel_rfl) .none ⟨H19, H20, H21⟩ (fun _ s => dv_loads (l := [.int .u64 (wv3 x), .int .u64 (wv2 x), .int .u64 (wv1 x), .int .u64 (wv0 x), .int .u64 (wv3 y), .int .u64 (wv2 y), .int .u64 (wv1 y), .int .u64 (wv0 y), .int .u64 (wv3 u), .int .u64 (wv2 u), .int .u64 (wv1 u), .int .u64 (wv0 u)]) agt37 sz37 (T rfl rfl) s.1 rfl) ?_
 refine aw_one 1 rfl (by kernel_rfl) .none (oe_callf (vs := [.agg #[.int .u64 (wv3 x), .int .u64 (wv2 x), .int .u64 (wv1 x), .int .u64 (wv0 x), .int .u64 (wv3 y), .int .u64 (wv2 y), .int .u64 (wv1 y), .int .u64 (wv0 y), .int .u64 (wv3 u), .int .u64 (wv2 u), .int .u64 (wv1 u), .int .u64 (wv0 u)]]) co67 (ar1 (T rfl rfl)) (sPointOk_ok (x := x) (y := y) (u := u) fx_ fy_ fu_ ) ?_)
 rintro _ w22 ⟨rfl, e23⟩
 have E24 := below_ext E18 E18.size e23
 have H25 := (e23.blk H19)
 have H26 := (e23.blk H20)
 have H27 := (e23.blk H21)
 refine ⟨.inr ⟨H25, H26, H27⟩, ?_⟩
 refine aw_pure 2 (.bool (decide (pOk x y u))) rfl (by kernel_rfl) .none ⟨H25, H26, H27⟩ (fun _ => dv_move (T rfl rfl)) ?_
 by_cases hb28 : pOk x y u
 · refine aw_load 3 (.agg #[.int .u64 (wv3 p), .int .u64 (wv2 p), .int .u64 (wv1 p), .int .u64 (wv0 p), .int .u64 (wv3 q), .int .u64 (wv2 q), .int .u64 (wv1 q), .int .u64 (wv0 q), .int .u64 (wv3 r), .int .u64 (wv2 r), .int .u64 (wv1 r), .int .u64 (wv0 r)]) rfl (by kernel_rfl) (.yes (d := 9) rfl rfl (congrArg Value.bool (decide_eq_true hb28))) ⟨H25, H26, H27⟩ (fun _ s => dv_loads (l := [.int .u64 (wv3 p), .int .u64 (wv2 p), .int .u64 (wv1 p), .int .u64 (wv0 p), .int .u64 (wv3 q), .int .u64 (wv2 q), .int .u64 (wv1 q), .int .u64 (wv0 q), .int .u64 (wv3 r), .int .u64 (wv2 r), .int .u64 (wv1 r), .int .u64 (wv0 r)]) agt37 sz37 (T rfl rfl) s.2.1 rfl) ?_
   refine aw_one 4 rfl (by kernel_rfl) (.yes (d := 9) rfl rfl (congrArg Value.bool (decide_eq_true hb28))) (oe_callf (vs := [.agg #[.int .u64 (wv3 p), .int .u64 (wv2 p), .int .u64 (wv1 p), .int .u64 (wv0 p), .int .u64 (wv3 q), .int .u64 (wv2 q), .int .u64 (wv1 q), .int .u64 (wv0 q), .int .u64 (wv3 r), .int .u64 (wv2 r), .int .u64 (wv1 r), .int .u64 (wv0 r)]]) co67 (ar1 (T rfl rfl)) (sPointOk_ok (x := p) (y := q) (u := r) fp_ fq_ fr_ ) ?_)
   rintro _ w29 ⟨rfl, e30⟩
   have E31 := below_ext E24 E24.size e30
   have H32 := (e30.blk H25)
   have H33 := (e30.blk H26)
   have H34 := (e30.blk H27)
   refine ⟨.inr ⟨H32, H33, H34⟩, ?_⟩
   refine aw_pure 5 (.bool (decide (pOk p q r))) rfl (by kernel_rfl) .none ⟨H32, H33, H34⟩ (fun _ => dv_pick_t (T rfl (congrArg Value.bool (decide_eq_true hb28))) (T rfl rfl)) ?_
   refine aw_pure 6 (.bool (decide (pOk p q r))) rfl (by kernel_rfl) .none ⟨H32, H33, H34⟩ (fun _ => dv_move (T rfl rfl)) ?_
   by_cases hb35 : pOk p q r
   · refine aw_load 7 (.agg #[.int .u64 (wv3 xt), .int .u64 (wv2 xt), .int .u64 (wv1 xt), .int .u64 (wv0 xt), .int .u64 (wv3 yt), .int .u64 (wv2 yt), .int .u64 (wv1 yt), .int .u64 (wv0 yt), .int .u64 (wv3 ut), .int .u64 (wv2 ut), .int .u64 (wv1 ut), .int .u64 (wv0 ut)]) rfl (by kernel_rfl) (.yes (d := 13) rfl rfl (congrArg Value.bool (decide_eq_true hb35))) ⟨H32, H33, H34⟩ (fun _ s => dv_loads (l := [.int .u64 (wv3 xt), .int .u64 (wv2 xt), .int .u64 (wv1 xt), .int .u64 (wv0 xt), .int .u64 (wv3 yt), .int .u64 (wv2 yt), .int .u64 (wv1 yt), .int .u64 (wv0 yt), .int .u64 (wv3 ut), .int .u64 (wv2 ut), .int .u64 (wv1 ut), .int .u64 (wv0 ut)]) agt37 sz37 (T rfl rfl) s.2.2 rfl) ?_
     refine aw_one 8 rfl (by kernel_rfl) (.yes (d := 13) rfl rfl (congrArg Value.bool (decide_eq_true hb35))) (oe_callf (vs := [.agg #[.int .u64 (wv3 xt), .int .u64 (wv2 xt), .int .u64 (wv1 xt), .int .u64 (wv0 xt), .int .u64 (wv3 yt), .int .u64 (wv2 yt), .int .u64 (wv1 yt), .int .u64 (wv0 yt), .int .u64 (wv3 ut), .int .u64 (wv2 ut), .int .u64 (wv1 ut), .int .u64 (wv0 ut)]]) co67 (ar1 (T rfl rfl)) (sPointOk_ok (x := xt) (y := yt) (u := ut) fxt_ fyt_ fut_ ) ?_)
     rintro _ w36 ⟨rfl, e37⟩
     have E38 := below_ext E31 E31.size e37
     have H39 := (e37.blk H32)
     have H40 := (e37.blk H33)
     have H41 := (e37.blk H34)
     refine ⟨.inr ⟨H39, H40, H41⟩, ?_⟩
     refine aw_pure 9 (.bool (decide (pOk xt yt ut))) rfl (by kernel_rfl) .none ⟨H39, H40, H41⟩ (fun _ => dv_pick_t (T rfl (congrArg Value.bool (decide_eq_true hb35))) (T rfl rfl)) ?_
     refine aw_pure 10 (.bool (decide (pOk xt yt ut))) rfl (by kernel_rfl) .none ⟨H39, H40, H41⟩ (fun _ => dv_move (T rfl rfl)) ?_
     by_cases hb42 : pOk xt yt ut
     · refine aw_load 11 (.agg #[.int .u64 (wv3 x), .int .u64 (wv2 x), .int .u64 (wv1 x), .int .u64 (wv0 x), .int .u64 (wv3 y), .int .u64 (wv2 y), .int .u64 (wv1 y), .int .u64 (wv0 y), .int .u64 (wv3 u), .int .u64 (wv2 u), .int .u64 (wv1 u), .int .u64 (wv0 u)]) rfl (by kernel_rfl) (.yes (d := 17) rfl rfl (congrArg Value.bool (decide_eq_true hb42))) ⟨H39, H40, H41⟩ (fun _ s => dv_loads (l := [.int .u64 (wv3 x), .int .u64 (wv2 x), .int .u64 (wv1 x), .int .u64 (wv0 x), .int .u64 (wv3 y), .int .u64 (wv2 y), .int .u64 (wv1 y), .int .u64 (wv0 y), .int .u64 (wv3 u), .int .u64 (wv2 u), .int .u64 (wv1 u), .int .u64 (wv0 u)]) agt37 sz37 (T rfl rfl) s.1 rfl) ?_
       refine aw_load 13 (.agg #[.int .u64 (wv3 p), .int .u64 (wv2 p), .int .u64 (wv1 p), .int .u64 (wv0 p), .int .u64 (wv3 q), .int .u64 (wv2 q), .int .u64 (wv1 q), .int .u64 (wv0 q), .int .u64 (wv3 r), .int .u64 (wv2 r), .int .u64 (wv1 r), .int .u64 (wv0 r)]) rfl (by kernel_rfl) (.yes (d := 17) rfl rfl (congrArg Value.bool (decide_eq_true hb42))) ⟨H39, H40, H41⟩ (fun _ s => dv_loads (l := [.int .u64 (wv3 p), .int .u64 (wv2 p), .int .u64 (wv1 p), .int .u64 (wv0 p), .int .u64 (wv3 q), .int .u64 (wv2 q), .int .u64 (wv1 q), .int .u64 (wv0 q), .int .u64 (wv3 r), .int .u64 (wv2 r), .int .u64 (wv1 r), .int .u64 (wv0 r)]) agt37 sz37 (T rfl rfl) s.2.1 rfl) ?_
       refine aw_load 15 (.agg #[.int .u64 (wv3 xt), .int .u64 (wv2 xt), .int .u64 (wv1 xt), .int .u64 (wv0 xt), .int .u64 (wv3 yt), .int .u64 (wv2 yt), .int .u64 (wv1 yt), .int .u64 (wv0 yt), .int .u64 (wv3 ut), .int .u64 (wv2 ut), .int .u64 (wv1 ut), .int .u64 (wv0 ut)]) rfl (by kernel_rfl) (.yes (d := 17) rfl rfl (congrArg Value.bool (decide_eq_true hb42))) ⟨H39, H40, H41⟩ (fun _ s => dv_loads (l := [.int .u64 (wv3 xt), .int .u64 (wv2 xt), .int .u64 (wv1 xt), .int .u64 (wv0 xt), .int .u64 (wv3 yt), .int .u64 (wv2 yt), .int .u64 (wv1 yt), .int .u64 (wv0 yt), .int .u64 (wv3 ut), .int .u64 (wv2 ut), .int .u64 (wv1 ut), .int .u64 (wv0 ut)]) agt37 sz37 (T rfl rfl) s.2.2 rfl) ?_
       refine aw_one 12 rfl (by kernel_rfl) (.yes (d := 17) rfl rfl (congrArg Value.bool (decide_eq_true hb42))) (oe_callf (vs := [.agg #[.int .u64 (wv3 x), .int .u64 (wv2 x), .int .u64 (wv1 x), .int .u64 (wv0 x), .int .u64 (wv3 y), .int .u64 (wv2 y), .int .u64 (wv1 y), .int .u64 (wv0 y), .int .u64 (wv3 u), .int .u64 (wv2 u), .int .u64 (wv1 u), .int .u64 (wv0 u)]]) co69 (ar1 (T rfl rfl)) (l3Of_ok fx_ fy_ fu_  ) ?_)
       rintro _ w58 ⟨nr43, A44, n45, c46, nr47, A48, n49, c50, nr51, A52, n53, c54, rfl, e59, h55, h56, h57⟩
       have E60 := below_ext E38 E38.size e59
       have lh55 := Num.len (by decide) h55
       have lh56 := Num.len (by decide) h56
       have lh57 := Num.len (by decide) h57
       have H61 := (e59.blk H39)
       have H62 := (e59.blk H40)
       have H63 := (e59.blk H41)
       refine ⟨.inr ⟨H61, H62, H63⟩, ?_⟩
       refine aw_one 14 rfl (by kernel_rfl) (.yes (d := 17) rfl rfl (congrArg Value.bool (decide_eq_true hb42))) (oe_callf (vs := [.agg #[.int .u64 (wv3 p), .int .u64 (wv2 p), .int .u64 (wv1 p), .int .u64 (wv0 p), .int .u64 (wv3 q), .int .u64 (wv2 q), .int .u64 (wv1 q), .int .u64 (wv0 q), .int .u64 (wv3 r), .int .u64 (wv2 r), .int .u64 (wv1 r), .int .u64 (wv0 r)]]) co69 (ar1 (T rfl rfl)) (l3Of_ok fp_ fq_ fr_  ) ?_)
       rintro _ w79 ⟨nr64, A65, n66, c67, nr68, A69, n70, c71, nr72, A73, n74, c75, rfl, e80, h76, h77, h78⟩
       have E81 := below_ext E60 E60.size e80
       have lh76 := Num.len (by decide) h76
       have lh77 := Num.len (by decide) h77
       have lh78 := Num.len (by decide) h78
       have H82 := (e80.blk H61)
       have H83 := (e80.blk H62)
       have H84 := (e80.blk H63)
       refine ⟨.inr ⟨H82, H83, H84⟩, ?_⟩
       refine aw_one 16 rfl (by kernel_rfl) (.yes (d := 17) rfl rfl (congrArg Value.bool (decide_eq_true hb42))) (oe_callf (vs := [.agg #[.int .u64 (wv3 xt), .int .u64 (wv2 xt), .int .u64 (wv1 xt), .int .u64 (wv0 xt), .int .u64 (wv3 yt), .int .u64 (wv2 yt), .int .u64 (wv1 yt), .int .u64 (wv0 yt), .int .u64 (wv3 ut), .int .u64 (wv2 ut), .int .u64 (wv1 ut), .int .u64 (wv0 ut)]]) co69 (ar1 (T rfl rfl)) (l3Of_ok fxt_ fyt_ fut_  ) ?_)
       rintro _ w100 ⟨nr85, A86, n87, c88, nr89, A90, n91, c92, nr93, A94, n95, c96, rfl, e101, h97, h98, h99⟩
       have E102 := below_ext E81 E81.size e101
       have lh97 := Num.len (by decide) h97
       have lh98 := Num.len (by decide) h98
       have lh99 := Num.len (by decide) h99
       have H103 := (e101.blk H82)
       have H104 := (e101.blk H83)
       have H105 := (e101.blk H84)
       refine ⟨.inr ⟨H103, H104, H105⟩, ?_⟩
       have h106 := ((h55.ext e80).ext e101)
       have h107 := ((h56.ext e80).ext e101)
       have h108 := ((h57.ext e80).ext e101)
       have h109 := (h76.ext e101)
       have h110 := (h77.ext e101)
       have h111 := (h78.ext e101)
       refine aw_one 17 rfl (by kernel_rfl) (.yes (d := 17) rfl rfl (congrArg Value.bool (decide_eq_true hb42))) (oe_callf (vs := [.agg #[.bool nr43, .slice A44 n45 c46, .bool nr47, .slice A48 n49 c50, .bool nr51, .slice A52 n53 c54], .agg #[.bool nr64, .slice A65 n66 c67, .bool nr68, .slice A69 n70 c71, .bool nr72, .slice A73 n74 c75], .agg #[.bool nr85, .slice A86 n87 c88, .bool nr89, .slice A90 n91 c92, .bool nr93, .slice A94 n95 c96]]) co68 (ar3 (T rfl rfl) (T rfl rfl) (T rfl rfl)) (l3Between_ok h106 h107 h108 h109 h110 h111 h97 h98 h99 (by first | decide | omega) (by first | decide | omega) (by first | decide | omega) (by first | decide | omega) (by first | decide | omega) (by first | decide | omega) (by first | decide | omega) (by first | decide | omega) (by first | decide | omega) ) ?_)
       rintro _ w112 ⟨rfl, e113⟩
       have E114 := below_ext E102 E102.size e113
       have H115 := (e113.blk H103)
       have H116 := (e113.blk H104)
       have H117 := (e113.blk H105)
       refine ⟨.inr ⟨H115, H116, H117⟩, ?_⟩
       refine aw_pure 18 (.bool (decide (btw x y u p q r xt yt ut))) rfl (by kernel_rfl) .none ⟨H115, H116, H117⟩ (fun _ => dv_pick_t (T rfl (congrArg Value.bool (decide_eq_true hb42))) (T rfl rfl)) ?_
       refine aw_last 19 (.bool (decide (btw x y u p q r xt yt ut))) rfl (by kernel_rfl) .none (fun _ => dv_assign (T rfl rfl)) ?_
       refine aw_done (by kernel_rfl) ?_
       refine rk_ret Try.func20 (v := .bool (decide (btw x y u p q r xt yt ut))) (res1 Try.results20 (rv_tmp rfl rfl)) ⟨_, rfl, ?_⟩
       exact ⟨(vb ⟨fun hh => ⟨by first | assumption | exact ⟨by assumption, by assumption, by assumption⟩, hh⟩, fun hh => hh.2⟩), E114⟩
     · refine aw_no 11 rfl (by kernel_rfl) (d := 17) rfl rfl (congrArg Value.bool (decide_eq_false hb42)) ⟨H39, H40, H41⟩ ?_
       refine aw_no 12 rfl (by kernel_rfl) (d := 17) rfl rfl (congrArg Value.bool (decide_eq_false hb42)) ⟨H39, H40, H41⟩ ?_
       refine aw_no 13 rfl (by kernel_rfl) (d := 17) rfl rfl (congrArg Value.bool (decide_eq_false hb42)) ⟨H39, H40, H41⟩ ?_
       refine aw_no 14 rfl (by kernel_rfl) (d := 17) rfl rfl (congrArg Value.bool (decide_eq_false hb42)) ⟨H39, H40, H41⟩ ?_
       refine aw_no 15 rfl (by kernel_rfl) (d := 17) rfl rfl (congrArg Value.bool (decide_eq_false hb42)) ⟨H39, H40, H41⟩ ?_
       refine aw_no 16 rfl (by kernel_rfl) (d := 17) rfl rfl (congrArg Value.bool (decide_eq_false hb42)) ⟨H39, H40, H41⟩ ?_
       refine aw_no 17 rfl (by kernel_rfl) (d := 17) rfl rfl (congrArg Value.bool (decide_eq_false hb42)) ⟨H39, H40, H41⟩ ?_
       refine aw_pure 18 (.bool false) rfl (by kernel_rfl) .none ⟨H39, H40, H41⟩ (fun _ => dv_pick_f (T rfl (congrArg Value.bool (decide_eq_false hb42))) C) ?_
       refine aw_last 19 (.bool false) rfl (by kernel_rfl) .none (fun _ => dv_assign (T rfl rfl)) ?_
       refine aw_done (by kernel_rfl) ?_
       refine rk_ret Try.func20 (v := .bool false) (res1 Try.results20 (rv_tmp rfl rfl)) ⟨_, rfl, ?_⟩
       exact ⟨(vf (by first | assumption | (intro hh; first | exact absurd hh (by assumption) | exact absurd hh.1 (by assumption) | exact absurd hh.2 (by assumption) | exact absurd hh.2.1 (by assumption) | exact absurd hh.2.2 (by assumption) | exact absurd hh.1.1 (by assumption) | exact absurd hh.1.2.1 (by assumption) | exact absurd hh.1.2.2 (by assumption)))), E38⟩
   · refine aw_no 7 rfl (by kernel_rfl) (d := 13) rfl rfl (congrArg Value.bool (decide_eq_false hb35)) ⟨H32, H33, H34⟩ ?_
     refine aw_no 8 rfl (by kernel_rfl) (d := 13) rfl rfl (congrArg Value.bool (decide_eq_false hb35)) ⟨H32, H33, H34⟩ ?_
     refine aw_pure 9 (.bool false) rfl (by kernel_rfl) .none ⟨H32, H33, H34⟩ (fun _ => dv_pick_f (T rfl (congrArg Value.bool (decide_eq_false hb35))) C) ?_
     refine aw_pure 10 (.bool false) rfl (by kernel_rfl) .none ⟨H32, H33, H34⟩ (fun _ => dv_move (T rfl rfl)) ?_
     refine aw_no 11 rfl (by kernel_rfl) (d := 17) rfl rfl (rfl) ⟨H32, H33, H34⟩ ?_
     refine aw_no 12 rfl (by kernel_rfl) (d := 17) rfl rfl (rfl) ⟨H32, H33, H34⟩ ?_
     refine aw_no 13 rfl (by kernel_rfl) (d := 17) rfl rfl (rfl) ⟨H32, H33, H34⟩ ?_
     refine aw_no 14 rfl (by kernel_rfl) (d := 17) rfl rfl (rfl) ⟨H32, H33, H34⟩ ?_
     refine aw_no 15 rfl (by kernel_rfl) (d := 17) rfl rfl (rfl) ⟨H32, H33, H34⟩ ?_
     refine aw_no 16 rfl (by kernel_rfl) (d := 17) rfl rfl (rfl) ⟨H32, H33, H34⟩ ?_
     refine aw_no 17 rfl (by kernel_rfl) (d := 17) rfl rfl (rfl) ⟨H32, H33, H34⟩ ?_
     refine aw_pure 18 (.bool false) rfl (by kernel_rfl) .none ⟨H32, H33, H34⟩ (fun _ => dv_pick_f (T rfl rfl) C) ?_
     refine aw_last 19 (.bool false) rfl (by kernel_rfl) .none (fun _ => dv_assign (T rfl rfl)) ?_
     refine aw_done (by kernel_rfl) ?_
     refine rk_ret Try.func20 (v := .bool false) (res1 Try.results20 (rv_tmp rfl rfl)) ⟨_, rfl, ?_⟩
     exact ⟨(vf (by first | assumption | (intro hh; first | exact absurd hh (by assumption) | exact absurd hh.1 (by assumption) | exact absurd hh.2 (by assumption) | exact absurd hh.2.1 (by assumption) | exact absurd hh.2.2 (by assumption) | exact absurd hh.1.1 (by assumption) | exact absurd hh.1.2.1 (by assumption) | exact absurd hh.1.2.2 (by assumption)))), E31⟩
 · refine aw_no 3 rfl (by kernel_rfl) (d := 9) rfl rfl (congrArg Value.bool (decide_eq_false hb28)) ⟨H25, H26, H27⟩ ?_
   refine aw_no 4 rfl (by kernel_rfl) (d := 9) rfl rfl (congrArg Value.bool (decide_eq_false hb28)) ⟨H25, H26, H27⟩ ?_
   refine aw_pure 5 (.bool false) rfl (by kernel_rfl) .none ⟨H25, H26, H27⟩ (fun _ => dv_pick_f (T rfl (congrArg Value.bool (decide_eq_false hb28))) C) ?_
   refine aw_pure 6 (.bool false) rfl (by kernel_rfl) .none ⟨H25, H26, H27⟩ (fun _ => dv_move (T rfl rfl)) ?_
   refine aw_no 7 rfl (by kernel_rfl) (d := 13) rfl rfl (rfl) ⟨H25, H26, H27⟩ ?_
   refine aw_no 8 rfl (by kernel_rfl) (d := 13) rfl rfl (rfl) ⟨H25, H26, H27⟩ ?_
   refine aw_pure 9 (.bool false) rfl (by kernel_rfl) .none ⟨H25, H26, H27⟩ (fun _ => dv_pick_f (T rfl rfl) C) ?_
   refine aw_pure 10 (.bool false) rfl (by kernel_rfl) .none ⟨H25, H26, H27⟩ (fun _ => dv_move (T rfl rfl)) ?_
   refine aw_no 11 rfl (by kernel_rfl) (d := 17) rfl rfl (rfl) ⟨H25, H26, H27⟩ ?_
   refine aw_no 12 rfl (by kernel_rfl) (d := 17) rfl rfl (rfl) ⟨H25, H26, H27⟩ ?_
   refine aw_no 13 rfl (by kernel_rfl) (d := 17) rfl rfl (rfl) ⟨H25, H26, H27⟩ ?_
   refine aw_no 14 rfl (by kernel_rfl) (d := 17) rfl rfl (rfl) ⟨H25, H26, H27⟩ ?_
   refine aw_no 15 rfl (by kernel_rfl) (d := 17) rfl rfl (rfl) ⟨H25, H26, H27⟩ ?_
   refine aw_no 16 rfl (by kernel_rfl) (d := 17) rfl rfl (rfl) ⟨H25, H26, H27⟩ ?_
   refine aw_no 17 rfl (by kernel_rfl) (d := 17) rfl rfl (rfl) ⟨H25, H26, H27⟩ ?_
   refine aw_pure 18 (.bool false) rfl (by kernel_rfl) .none ⟨H25, H26, H27⟩ (fun _ => dv_pick_f (T rfl rfl) C) ?_
   refine aw_last 19 (.bool false) rfl (by kernel_rfl) .none (fun _ => dv_assign (T rfl rfl)) ?_
   refine aw_done (by kernel_rfl) ?_
   refine rk_ret Try.func20 (v := .bool false) (res1 Try.results20 (rv_tmp rfl rfl)) ⟨_, rfl, ?_⟩
   exact ⟨(vf (by first | assumption | (intro hh; first | exact absurd hh (by assumption) | exact absurd hh.1 (by assumption) | exact absurd hh.2 (by assumption) | exact absurd hh.2.1 (by assumption) | exact absurd hh.2.2 (by assumption) | exact absurd hh.1.1 (by assumption) | exact absurd hh.1.2.1 (by assumption) | exact absurd hh.1.2.2 (by assumption)))), E24⟩
set_option maxHeartbeats 1000000 in
theorem iBetween_ok {w : World} {x y u p q r xt yt ut : Int} (fx_ : fits x) (fy_ : fits y) (fu_ : fits u) (fp_ : fits p) (fq_ : fits q) (fr_ : fits r) (fxt_ : fits xt) (fyt_ : fits yt) (fut_ : fits ut)  : Ct Try.prog 22 [.agg #[.int .u64 (wv3 x), .int .u64 (wv2 x), .int .u64 (wv1 x), .int .u64 (wv0 x), .int .u64 (wv3 y), .int .u64 (wv2 y), .int .u64 (wv1 y), .int .u64 (wv0 y), .int .u64 (wv3 u), .int .u64 (wv2 u), .int .u64 (wv1 u), .int .u64 (wv0 u)], .agg #[.int .u64 (wv3 p), .int .u64 (wv2 p), .int .u64 (wv1 p), .int .u64 (wv0 p), .int .u64 (wv3 q), .int .u64 (wv2 q), .int .u64 (wv1 q), .int .u64 (wv0 q), .int .u64 (wv3 r), .int .u64 (wv2 r), .int .u64 (wv1 r), .int .u64 (wv0 r)], .agg #[.int .u64 (wv3 xt), .int .u64 (wv2 xt), .int .u64 (wv1 xt), .int .u64 (wv0 xt), .int .u64 (wv3 yt), .int .u64 (wv2 yt), .int .u64 (wv1 yt), .int .u64 (wv0 yt), .int .u64 (wv3 ut), .int .u64 (wv2 ut), .int .u64 (wv1 ut), .int .u64 (wv0 ut)]] w fun v w1 => v = .bool (decide ((pOk x y u ∧ pOk p q r ∧ pOk xt yt ut) ∧ btw x y u p q r xt yt ut)) ∧ Ext w w1 := by
 refine ct_run (n := 18) Try.func22 rfl Try.ntmps22 rfl ?_
 have E0 : Below w.heap.size w w := Below.refl _ _
 refine rk_seq ?_
 refine rk_reg ?_
 refine lw_e (oe_box (v := .agg #[.int .u64 (wv3 x), .int .u64 (wv2 x), .int .u64 (wv1 x), .int .u64 (wv0 x), .int .u64 (wv3 y), .int .u64 (wv2 y), .int .u64 (wv1 y), .int .u64 (wv0 y), .int .u64 (wv3 u), .int .u64 (wv2 u), .int .u64 (wv1 u), .int .u64 (wv0 u)]) (cs := #[.int .u64 (wv3 x), .int .u64 (wv2 x), .int .u64 (wv1 x), .int .u64 (wv0 x), .int .u64 (wv3 y), .int .u64 (wv2 y), .int .u64 (wv1 y), .int .u64 (wv0 y), .int .u64 (wv3 u), .int .u64 (wv2 u), .int .u64 (wv1 u), .int .u64 (wv0 u)]) (T rfl rfl) rfl ?_)
 intro b1 w2 n3
 have N4 : w.heap.size ≤ b1 := n3.eq ▸ E0.size
 have E5 := below_ext E0 E0.size n3.ext
 refine lw_e (oe_box (v := .agg #[.int .u64 (wv3 p), .int .u64 (wv2 p), .int .u64 (wv1 p), .int .u64 (wv0 p), .int .u64 (wv3 q), .int .u64 (wv2 q), .int .u64 (wv1 q), .int .u64 (wv0 q), .int .u64 (wv3 r), .int .u64 (wv2 r), .int .u64 (wv1 r), .int .u64 (wv0 r)]) (cs := #[.int .u64 (wv3 p), .int .u64 (wv2 p), .int .u64 (wv1 p), .int .u64 (wv0 p), .int .u64 (wv3 q), .int .u64 (wv2 q), .int .u64 (wv1 q), .int .u64 (wv0 q), .int .u64 (wv3 r), .int .u64 (wv2 r), .int .u64 (wv1 r), .int .u64 (wv0 r)]) (T rfl rfl) rfl ?_)
 intro b6 w7 n8
 have N9 : w.heap.size ≤ b6 := n8.eq ▸ E5.size
 have : b1 < b6 := n8.eq ▸ lt_of_blk n3.blk
 have E10 := below_ext E5 E5.size n8.ext
 refine lw_e (oe_box (v := .agg #[.int .u64 (wv3 xt), .int .u64 (wv2 xt), .int .u64 (wv1 xt), .int .u64 (wv0 xt), .int .u64 (wv3 yt), .int .u64 (wv2 yt), .int .u64 (wv1 yt), .int .u64 (wv0 yt), .int .u64 (wv3 ut), .int .u64 (wv2 ut), .int .u64 (wv1 ut), .int .u64 (wv0 ut)]) (cs := #[.int .u64 (wv3 xt), .int .u64 (wv2 xt), .int .u64 (wv1 xt), .int .u64 (wv0 xt), .int .u64 (wv3 yt), .int .u64 (wv2 yt), .int .u64 (wv1 yt), .int .u64 (wv0 yt), .int .u64 (wv3 ut), .int .u64 (wv2 ut), .int .u64 (wv1 ut), .int .u64 (wv0 ut)]) (T rfl rfl) rfl ?_)
 intro b11 w12 n13
 have N14 : w.heap.size ≤ b11 := n13.eq ▸ E10.size
 have : b6 < b11 := n13.eq ▸ lt_of_blk n8.blk
 have E15 := below_ext E10 E10.size n13.ext
 refine lw_v (.bool false) (dv_assign C) ?_
 refine lw_nil ?_
 refine rk_seq ?_
 refine rk_reg ?_
 have H16 := (n13.ext.blk (n8.ext.blk n3.blk))
 refine lw_v (.agg #[.int .u64 (wv3 x), .int .u64 (wv2 x), .int .u64 (wv1 x), .int .u64 (wv0 x), .int .u64 (wv3 y), .int .u64 (wv2 y), .int .u64 (wv1 y), .int .u64 (wv0 y), .int .u64 (wv3 u), .int .u64 (wv2 u), .int .u64 (wv1 u), .int .u64 (wv0 u)]) (dv_loads (l := [.int .u64 (wv3 x), .int .u64 (wv2 x), .int .u64 (wv1 x), .int .u64 (wv0 x), .int .u64 (wv3 y), .int .u64 (wv2 y), .int .u64 (wv1 y), .int .u64 (wv0 y), .int .u64 (wv3 u), .int .u64 (wv2 u), .int .u64 (wv1 u), .int .u64 (wv0 u)]) agt37 sz37 (T rfl rfl) H16 rfl) ?_
 have H17 := (n13.ext.blk n8.blk)
 refine lw_v (.agg #[.int .u64 (wv3 p), .int .u64 (wv2 p), .int .u64 (wv1 p), .int .u64 (wv0 p), .int .u64 (wv3 q), .int .u64 (wv2 q), .int .u64 (wv1 q), .int .u64 (wv0 q), .int .u64 (wv3 r), .int .u64 (wv2 r), .int .u64 (wv1 r), .int .u64 (wv0 r)]) (dv_loads (l := [.int .u64 (wv3 p), .int .u64 (wv2 p), .int .u64 (wv1 p), .int .u64 (wv0 p), .int .u64 (wv3 q), .int .u64 (wv2 q), .int .u64 (wv1 q), .int .u64 (wv0 q), .int .u64 (wv3 r), .int .u64 (wv2 r), .int .u64 (wv1 r), .int .u64 (wv0 r)]) agt37 sz37 (T rfl rfl) H17 rfl) ?_
 refine lw_v (.agg #[.int .u64 (wv3 xt), .int .u64 (wv2 xt), .int .u64 (wv1 xt), .int .u64 (wv0 xt), .int .u64 (wv3 yt), .int .u64 (wv2 yt), .int .u64 (wv1 yt), .int .u64 (wv0 yt), .int .u64 (wv3 ut), .int .u64 (wv2 ut), .int .u64 (wv1 ut), .int .u64 (wv0 ut)]) (dv_loads (l := [.int .u64 (wv3 xt), .int .u64 (wv2 xt), .int .u64 (wv1 xt), .int .u64 (wv0 xt), .int .u64 (wv3 yt), .int .u64 (wv2 yt), .int .u64 (wv1 yt), .int .u64 (wv0 yt), .int .u64 (wv3 ut), .int .u64 (wv2 ut), .int .u64 (wv1 ut), .int .u64 (wv0 ut)]) agt37 sz37 (T rfl rfl) n13.blk rfl) ?_
 refine lw_e (oe_buildSlice (pv := [(0, .agg #[.int .u64 (wv3 x), .int .u64 (wv2 x), .int .u64 (wv1 x), .int .u64 (wv0 x), .int .u64 (wv3 y), .int .u64 (wv2 y), .int .u64 (wv1 y), .int .u64 (wv0 y), .int .u64 (wv3 u), .int .u64 (wv2 u), .int .u64 (wv1 u), .int .u64 (wv0 u)]), (1, .agg #[.int .u64 (wv3 p), .int .u64 (wv2 p), .int .u64 (wv1 p), .int .u64 (wv0 p), .int .u64 (wv3 q), .int .u64 (wv2 q), .int .u64 (wv1 q), .int .u64 (wv0 q), .int .u64 (wv3 r), .int .u64 (wv2 r), .int .u64 (wv1 r), .int .u64 (wv0 r)]), (2, .agg #[.int .u64 (wv3 xt), .int .u64 (wv2 xt), .int .u64 (wv1 xt), .int .u64 (wv0 xt), .int .u64 (wv3 yt), .int .u64 (wv2 yt), .int .u64 (wv1 yt), .int .u64 (wv0 yt), .int .u64 (wv3 ut), .int .u64 (wv2 ut), .int .u64 (wv1 ut), .int .u64 (wv0 ut)])]) (init := [.int .u64 0, .int .u64 0, .int .u64 0, .int .u64 0, .int .u64 0, .int .u64 0, .int .u64 0, .int .u64 0, .int .u64 0, .int .u64 0, .int .u64 0, .int .u64 0, .int .u64 0, .int .u64 0, .int .u64 0, .int .u64 0, .int .u64 0, .int .u64 0, .int .u64 0, .int .u64 0, .int .u64 0, .int .u64 0, .int .u64 0, .int .u64 0, .int .u64 0, .int .u64 0, .int .u64 0, .int .u64 0, .int .u64 0, .int .u64 0, .int .u64 0, .int .u64 0, .int .u64 0, .int .u64 0, .int .u64 0, .int .u64 0]) (l := [.int .u64 (wv3 x), .int .u64 (wv2 x), .int .u64 (wv1 x), .int .u64 (wv0 x), .int .u64 (wv3 y), .int .u64 (wv2 y), .int .u64 (wv1 y), .int .u64 (wv0 y), .int .u64 (wv3 u), .int .u64 (wv2 u), .int .u64 (wv1 u), .int .u64 (wv0 u), .int .u64 (wv3 p), .int .u64 (wv2 p), .int .u64 (wv1 p), .int .u64 (wv0 p), .int .u64 (wv3 q), .int .u64 (wv2 q), .int .u64 (wv1 q), .int .u64 (wv0 q), .int .u64 (wv3 r), .int .u64 (wv2 r), .int .u64 (wv1 r), .int .u64 (wv0 r), .int .u64 (wv3 xt), .int .u64 (wv2 xt), .int .u64 (wv1 xt), .int .u64 (wv0 xt), .int .u64 (wv3 yt), .int .u64 (wv2 yt), .int .u64 (wv1 yt), .int .u64 (wv0 yt), .int .u64 (wv3 ut), .int .u64 (wv2 ut), .int .u64 (wv1 ut), .int .u64 (wv0 ut)]) us156 sz37 rfl rfl zc37 (by kernel_rfl) ⟨rfl, (T rfl rfl), ⟨rfl, (T rfl rfl), ⟨rfl, (T rfl rfl), trivial⟩⟩⟩ rfl ?_)
 intro b18 w19 n20
 have N21 : w.heap.size ≤ b18 := n20.eq ▸ E15.size
 have : b11 < b18 := n20.eq ▸ lt_of_blk n13.blk
 have E22 := below_ext E15 E15.size n20.ext
 refine lw_e (oe_callf (vs := [.slice (some ⟨b18, 0, none⟩) 3 3]) co71 (ar1 (T rfl rfl)) (areP3_ok fx_ fy_ fu_ fp_ fq_ fr_ fxt_ fyt_ fut_ n20.blk) ?_)
 rintro _ w23 ⟨rfl, e24⟩
 have E25 := below_ext E22 E22.size e24
 refine lw_v (.bool (decide (pOk x y u ∧ pOk p q r ∧ pOk xt yt ut))) (dv_move (T rfl rfl)) ?_
 by_cases hb26 : pOk x y u ∧ pOk p q r ∧ pOk xt yt ut
 · have H27 := (e24.blk (n20.ext.blk H16))
   refine lw_vy (.agg #[.int .u64 (wv3 x), .int .u64 (wv2 x), .int .u64 (wv1 x), .int .u64 (wv0 x), .int .u64 (wv3 y), .int .u64 (wv2 y), .int .u64 (wv1 y), .int .u64 (wv0 y), .int .u64 (wv3 u), .int .u64 (wv2 u), .int .u64 (wv1 u), .int .u64 (wv0 u)]) (d := 12) rfl rfl (congrArg Value.bool (decide_eq_true hb26)) (dv_loads (l := [.int .u64 (wv3 x), .int .u64 (wv2 x), .int .u64 (wv1 x), .int .u64 (wv0 x), .int .u64 (wv3 y), .int .u64 (wv2 y), .int .u64 (wv1 y), .int .u64 (wv0 y), .int .u64 (wv3 u), .int .u64 (wv2 u), .int .u64 (wv1 u), .int .u64 (wv0 u)]) agt37 sz37 (T rfl rfl) H27 rfl) ?_
   have H28 := (e24.blk (n20.ext.blk H17))
   refine lw_vy (.agg #[.int .u64 (wv3 p), .int .u64 (wv2 p), .int .u64 (wv1 p), .int .u64 (wv0 p), .int .u64 (wv3 q), .int .u64 (wv2 q), .int .u64 (wv1 q), .int .u64 (wv0 q), .int .u64 (wv3 r), .int .u64 (wv2 r), .int .u64 (wv1 r), .int .u64 (wv0 r)]) (d := 12) rfl rfl (congrArg Value.bool (decide_eq_true hb26)) (dv_loads (l := [.int .u64 (wv3 p), .int .u64 (wv2 p), .int .u64 (wv1 p), .int .u64 (wv0 p), .int .u64 (wv3 q), .int .u64 (wv2 q), .int .u64 (wv1 q), .int .u64 (wv0 q), .int .u64 (wv3 r), .int .u64 (wv2 r), .int .u64 (wv1 r), .int .u64 (wv0 r)]) agt37 sz37 (T rfl rfl) H28 rfl) ?_
   have H29 := (e24.blk (n20.ext.blk n13.blk))
   refine lw_vy (.agg #[.int .u64 (wv3 xt), .int .u64 (wv2 xt), .int .u64 (wv1 xt), .int .u64 (wv0 xt), .int .u64 (wv3 yt), .int .u64 (wv2 yt), .int .u64 (wv1 yt), .int .u64 (wv0 yt), .int .u64 (wv3 ut), .int .u64 (wv2 ut), .int .u64 (wv1 ut), .int .u64 (wv0 ut)]) (d := 12) rfl rfl (congrArg Value.bool (decide_eq_true hb26)) (dv_loads (l := [.int .u64 (wv3 xt), .int .u64 (wv2 xt), .int .u64 (wv1 xt), .int .u64 (wv0 xt), .int .u64 (wv3 yt), .int .u64 (wv2 yt), .int .u64 (wv1 yt), .int .u64 (wv0 yt), .int .u64 (wv3 ut), .int .u64 (wv2 ut), .int .u64 (wv1 ut), .int .u64 (wv0 ut)]) agt37 sz37 (T rfl rfl) H29 rfl) ?_
   refine lw_ey (d := 12) rfl rfl (congrArg Value.bool (decide_eq_true hb26)) (oe_callf (vs := [.agg #[.int .u64 (wv3 x), .int .u64 (wv2 x), .int .u64 (wv1 x), .int .u64 (wv0 x), .int .u64 (wv3 y), .int .u64 (wv2 y), .int .u64 (wv1 y), .int .u64 (wv0 y), .int .u64 (wv3 u), .int .u64 (wv2 u), .int .u64 (wv1 u), .int .u64 (wv0 u)], .agg #[.int .u64 (wv3 p), .int .u64 (wv2 p), .int .u64 (wv1 p), .int .u64 (wv0 p), .int .u64 (wv3 q), .int .u64 (wv2 q), .int .u64 (wv1 q), .int .u64 (wv0 q), .int .u64 (wv3 r), .int .u64 (wv2 r), .int .u64 (wv1 r), .int .u64 (wv0 r)], .agg #[.int .u64 (wv3 xt), .int .u64 (wv2 xt), .int .u64 (wv1 xt), .int .u64 (wv0 xt), .int .u64 (wv3 yt), .int .u64 (wv2 yt), .int .u64 (wv1 yt), .int .u64 (wv0 yt), .int .u64 (wv3 ut), .int .u64 (wv2 ut), .int .u64 (wv1 ut), .int .u64 (wv0 ut)]]) co72 (ar3 (T rfl rfl) (T rfl rfl) (T rfl rfl)) (between_ok (x := x) (y := y) (u := u) (p := p) (q := q) (r := r) (xt := xt) (yt := yt) (ut := ut) fx_ fy_ fu_ fp_ fq_ fr_ fxt_ fyt_ fut_ (by assumption)) ?_)
   rintro _ w30 ⟨rfl, e31⟩
   have E32 := below_ext E25 E25.size e31
   refine lw_v (.bool (decide (btw x y u p q r xt yt ut))) (dv_pick_t (T rfl (congrArg Value.bool (decide_eq_true hb26))) (T rfl rfl)) ?_
   refine lw_v (.bool (decide (btw x y u p q r xt yt ut))) (dv_assign (T rfl rfl)) ?_
   refine lw_nil ?_
   refine rk_ret Try.func22 (v := .bool (decide (btw x y u p q r xt yt ut))) (res1 Try.results22 (rv_tmp rfl rfl)) ⟨_, rfl, ?_⟩
   exact ⟨(vb ⟨fun hh => ⟨by first | assumption | exact ⟨by assumption, by assumption, by assumption⟩, hh⟩, fun hh => hh.2⟩), E32⟩
 · refine lw_no (d := 12) rfl rfl (congrArg Value.bool (decide_eq_false hb26)) ?_
   refine lw_no (d := 12) rfl rfl (congrArg Value.bool (decide_eq_false hb26)) ?_
   refine lw_no (d := 12) rfl rfl (congrArg Value.bool (decide_eq_false hb26)) ?_
   refine lw_no (d := 12) rfl rfl (congrArg Value.bool (decide_eq_false hb26)) ?_
   refine lw_v (.bool false) (dv_pick_f (T rfl (congrArg Value.bool (decide_eq_false hb26))) C) ?_
   refine lw_v (.bool false) (dv_assign (T rfl rfl)) ?_
   refine lw_nil ?_
   refine rk_ret Try.func22 (v := .bool false) (res1 Try.results22 (rv_tmp rfl rfl)) ⟨_, rfl, ?_⟩
   exact ⟨(vf (by first | assumption | (intro hh; first | exact absurd hh (by assumption) | exact absurd hh.1 (by assumption) | exact absurd hh.2 (by assumption) | exact absurd hh.2.1 (by assumption) | exact absurd hh.2.2 (by assumption) | exact absurd hh.1.1 (by assumption) | exact absurd hh.1.2.1 (by assumption) | exact absurd hh.1.2.2 (by assumption)))), E25⟩
end Go.Proofs.Ytdanhdbanfpghaa.W
set_option linter.unusedVariables false
set_option linter.unusedSimpArgs false
namespace Go.Proofs.Ytdanhdbanfpghaa.W
open Go Go.RowKit Go.Proofs.Ytdanhdbanfpghaa.Fw
attribute [local irreducible] RunK LW AW DV OE Ct
theorem agt33 : aggB Try.prog 33 = some true := by kernel_rfl
theorem co20 : callOk Try.prog 20 = true := by kernel_rfl
theorem co21 : callOk Try.prog 21 = true := by kernel_rfl
theorem co22 : callOk Try.prog 22 = true := by kernel_rfl
theorem co30 : callOk Try.prog 30 = true := by kernel_rfl
theorem co65 : callOk Try.prog 65 = true := by kernel_rfl
theorem co74 : callOk Try.prog 74 = true := by kernel_rfl
theorem co76 : callOk Try.prog 76 = true := by kernel_rfl
theorem sz33 : sizeB Try.prog 33 = some 12 := by kernel_rfl
set_option maxHeartbeats 1000000 in
theorem sideOf_ok {w : World} {ax ay bx b_y x y u : Int} (fx_ : fits x) (fy_ : fits y) (fu_ : fits u) (hs_ : (-1000000 ≤ ax ∧ ax ≤ 1000000) ∧ (-1000000 ≤ ay ∧ ay ≤ 1000000) ∧ (-1000000 ≤ bx ∧ bx ≤ 1000000) ∧ (-1000000 ≤ b_y ∧ b_y ≤ 1000000)) : Ct Try.prog 76 [.agg #[.int .i64 ax, .int .i64 ay, .int .i64 bx, .int .i64 b_y], .agg #[.int .u64 (wv3 x), .int .u64 (wv2 x), .int .u64 (wv1 x), .int .u64 (wv0 x), .int .u64 (wv3 y), .int .u64 (wv2 y), .int .u64 (wv1 y), .int .u64 (wv0 y), .int .u64 (wv3 u), .int .u64 (wv2 u), .int .u64 (wv1 u), .int .u64 (wv0 u)]] w fun v w1 => v = .int .i64 (sideV ax ay bx b_y x y u) ∧ Ext w w1 := by
 refine ct_run (n := 52) Try.func76 rfl Try.ntmps76 rfl ?_
 have E0 : Below w.heap.size w w := Below.refl _ _
 refine rk_seq ?_
 refine rk_reg ?_
 refine lw_e (oe_box (v := .agg #[.int .i64 ax, .int .i64 ay, .int .i64 bx, .int .i64 b_y]) (cs := #[.int .i64 ax, .int .i64 ay, .int .i64 bx, .int .i64 b_y]) (T rfl rfl) rfl ?_)
 intro b1 w2 n3
 have N4 : w.heap.size ≤ b1 := n3.eq ▸ E0.size
 have E5 := below_ext E0 E0.size n3.ext
 refine lw_e (oe_box (v := .agg #[.int .u64 (wv3 x), .int .u64 (wv2 x), .int .u64 (wv1 x), .int .u64 (wv0 x), .int .u64 (wv3 y), .int .u64 (wv2 y), .int .u64 (wv1 y), .int .u64 (wv0 y), .int .u64 (wv3 u), .int .u64 (wv2 u), .int .u64 (wv1 u), .int .u64 (wv0 u)]) (cs := #[.int .u64 (wv3 x), .int .u64 (wv2 x), .int .u64 (wv1 x), .int .u64 (wv0 x), .int .u64 (wv3 y), .int .u64 (wv2 y), .int .u64 (wv1 y), .int .u64 (wv0 y), .int .u64 (wv3 u), .int .u64 (wv2 u), .int .u64 (wv1 u), .int .u64 (wv0 u)]) (T rfl rfl) rfl ?_)
 intro b6 w7 n8
 have N9 : w.heap.size ≤ b6 := n8.eq ▸ E5.size
 have : b1 < b6 := n8.eq ▸ lt_of_blk n3.blk
 have E10 := below_ext E5 E5.size n8.ext
 refine lw_v (.int .i64 0) (dv_assign C) ?_
 refine lw_nil ?_
 refine rk_seq ?_
 refine rk_reg ?_
 refine lw_v (.agg #[.int .u64 (wv3 x), .int .u64 (wv2 x), .int .u64 (wv1 x), .int .u64 (wv0 x), .int .u64 (wv3 y), .int .u64 (wv2 y), .int .u64 (wv1 y), .int .u64 (wv0 y), .int .u64 (wv3 u), .int .u64 (wv2 u), .int .u64 (wv1 u), .int .u64 (wv0 u)]) (dv_loads (l := [.int .u64 (wv3 x), .int .u64 (wv2 x), .int .u64 (wv1 x), .int .u64 (wv0 x), .int .u64 (wv3 y), .int .u64 (wv2 y), .int .u64 (wv1 y), .int .u64 (wv0 y), .int .u64 (wv3 u), .int .u64 (wv2 u), .int .u64 (wv1 u), .int .u64 (wv0 u)]) agt37 sz37 (T rfl rfl) n8.blk rfl) ?_
 refine lw_e (oe_callf (vs := [.agg #[.int .u64 (wv3 x), .int .u64 (wv2 x), .int .u64 (wv1 x), .int .u64 (wv0 x), .int .u64 (wv3 y), .int .u64 (wv2 y), .int .u64 (wv1 y), .int .u64 (wv0 y), .int .u64 (wv3 u), .int .u64 (wv2 u), .int .u64 (wv1 u), .int .u64 (wv0 u)]]) co90 (ar1 (T rfl rfl)) (spot_ok fx_ fy_ fu_  ) ?_)
 rintro _ w26 ⟨nr11, A12, n13, c14, nr15, A16, n17, c18, nr19, A20, n21, c22, rfl, e27, h23, h24, h25⟩
 have E28 := below_ext E10 E10.size e27
 have lh23 := Num.len (by decide) h23
 have lh24 := Num.len (by decide) h24
 have lh25 := Num.len (by decide) h25
 refine lw_e (oe_alloc ze122 ?_)
 intro b29 w30 n31
 have N32 : w.heap.size ≤ b29 := n31.eq ▸ E28.size
 have H33 := (e27.blk n8.blk)
 have : b6 < b29 := n31.eq ▸ lt_of_blk H33
 have E34 := below_ext E28 E28.size n31.ext
 refine lw_e (oe_store (v := .agg #[.bool nr11, .slice A12 n13 c14, .bool nr15, .slice A16 n17 c18, .bool nr19, .slice A20 n21 c22]) (vs := [.bool nr11, .slice A12 n13 c14, .bool nr15, .slice A16 n17 c18, .bool nr19, .slice A20 n21 c22]) (l := [.bool nr11, .slice A12 n13 c14, .bool nr15, .slice A16 n17 c18, .bool nr19, .slice A20 n21 c22]) (T rfl rfl) (T rfl rfl) sz122 rfl rfl rfl n31.blk rfl ?_)
 intro w35 s36 H37
 have E38 := below_st E34 N32 s36
 refine lw_nil ?_
 refine rk_seq ?_
 have H39 := (s36.blk (n31.ext.blk (e27.blk (n8.ext.blk n3.blk))) (by omega))
 have : b1 < w35.heap.size := lt_of_blk H39
 have H40 := (s36.blk (n31.ext.blk H33) (by omega))
 have : b6 < w35.heap.size := lt_of_blk H40
 have : b29 < w35.heap.size := lt_of_blk H37
 have : w.heap.size ≤ w35.heap.size := E38.size
 refine rk_par2 [fun vq wq_ => vq = .pointer (some ⟨b29, 0, none⟩), fun vq wq_ => vq = .agg #[.bool nr11, .slice A12 n13 c14], fun vq wq_ => vq = .pointer (some ⟨b1, 0, none⟩), fun vq wq_ => vq = .pointer (some ⟨b1, 0, none⟩), fun vq wq_ => vq = .int .i64 ax, fun vq wq_ => ∃ (nr83 : Bool) (A84 : Option Addr) (n85 : Nat) (c86 : Nat), vq = .agg #[.bool nr83, .slice A84 n85 c86] ∧ Num 64 29 .u64 wq_ nr83 A84 n85 c86 ax 64, fun vq wq_ => vq = .pointer (some ⟨b29, 4, none⟩), fun vq wq_ => vq = .agg #[.bool nr19, .slice A20 n21 c22], fun vq wq_ => ∃ (nr119 : Bool) (A120 : Option Addr) (n121 : Nat) (c122 : Nat), vq = .agg #[.bool nr119, .slice A120 n121 c122] ∧ Num 64 29 .u64 wq_ nr119 A120 n121 c122 (ax * u) 320, fun vq wq_ => ∃ (nr141 : Bool) (A142 : Option Addr) (n143 : Nat) (c144 : Nat), vq = .agg #[.bool nr141, .slice A142 n143 c144] ∧ Num 64 29 .u64 wq_ nr141 A142 n143 c144 (x - (ax * u)) 321, fun _ _ => True, fun _ _ => True] [⟨10, 11, 9, 120, #[.bool false, .slice none 0 0]⟩] [120] mo (by kernel_rfl) (by kernel_rfl) ?_ ?_ ?_ ?_ ?_
 · intro e he e2 he2 h; simp only [List.mem_cons, List.not_mem_nil, or_false] at he he2; rcases he with rfl <;> rcases he2 with rfl <;> first | rfl | exact absurd h (by decide)
 · exact ⟨⟨fun v w w2 e h => h, fun v w w2 b cs T fz s hb hT h => h⟩, ⟨fun v w w2 e h => h, fun v w w2 b cs T fz s hb hT h => h⟩, ⟨fun v w w2 e h => h, fun v w w2 b cs T fz s hb hT h => h⟩, ⟨fun v w w2 e h => h, fun v w w2 b cs T fz s hb hT h => h⟩, ⟨fun v w w2 e h => h, fun v w w2 b cs T fz s hb hT h => h⟩, ⟨fun v w w2 e ⟨nr83, A84, n85, c86, hv, h0_⟩ => ⟨nr83, A84, n85, c86, hv, h0_.ext e⟩, fun v w w2 b cs T fz s hb hT ⟨nr83, A84, n85, c86, hv, h0_⟩ => ⟨nr83, A84, n85, c86, hv, h0_.st s hb (ts_ne hT (by decide))⟩⟩, ⟨fun v w w2 e h => h, fun v w w2 b cs T fz s hb hT h => h⟩, ⟨fun v w w2 e h => h, fun v w w2 b cs T fz s hb hT h => h⟩, ⟨fun v w w2 e ⟨nr119, A120, n121, c122, hv, h0_⟩ => ⟨nr119, A120, n121, c122, hv, h0_.ext e⟩, fun v w w2 b cs T fz s hb hT ⟨nr119, A120, n121, c122, hv, h0_⟩ => ⟨nr119, A120, n121, c122, hv, h0_.st s hb (ts_ne hT (by decide))⟩⟩, ⟨fun v w w2 e ⟨nr141, A142, n143, c144, hv, h0_⟩ => ⟨nr141, A142, n143, c144, hv, h0_.ext e⟩, fun v w w2 b cs T fz s hb hT ⟨nr141, A142, n143, c144, hv, h0_⟩ => ⟨nr141, A142, n143, c144, hv, h0_.st s hb (ts_ne hT (by decide))⟩⟩, ⟨fun v w w2 e h => h, fun v w w2 b cs T fz s hb hT h => h⟩, ⟨fun v w w2 e h => h, fun v w w2 b cs T fz s hb hT h => h⟩, trivial⟩
 · refine ⟨?_, ?_, ?_, ?_, ?_, ?_, ?_, ?_, ?_, ?_, ?_, ?_, trivial⟩
   · refine .inr ⟨by kernel_rfl, ?_⟩
     intro fr42 w41 e43 hF44 hD45
     have E46 := below_ext E38 E38.size e43
     exact DV.oe (dv_fieldAddr (a := ⟨b29, 0, none⟩) (a' := ⟨b29, 0, none⟩) fo122_0 (T rfl (hF44 5 (by kernel_rfl))) rfl) ⟨Below.refl _ _, rfl⟩
   · refine .inr ⟨by kernel_rfl, ?_⟩
     intro fr48 w47 e49 hF50 hD51
     have E52 := below_ext E38 E38.size e49
     have hv53 : fr48 10 = .pointer (some ⟨b29, 0, none⟩) := hD51 0 _ (by kernel_rfl) rfl (by kernel_rfl)
     have H54 := (e49.blk H37)
     exact DV.oe (dv_loads (l := [.bool nr11, .slice A12 n13 c14]) agt120 sz120 (T rfl hv53) H54 rfl) ⟨Below.refl _ _, rfl⟩
   · refine .inr ⟨by kernel_rfl, ?_⟩
     intro fr56 w55 e57 hF58 hD59
     have E60 := below_ext E38 E38.size e57
     exact DV.oe (dv_fieldAddr (a := ⟨b1, 0, none⟩) (a' := ⟨b1, 0, none⟩) fo47_0 (T rfl (hF58 2 (by kernel_rfl))) rfl) ⟨Below.refl _ _, rfl⟩
   · refine .inr ⟨by kernel_rfl, ?_⟩
     intro fr62 w61 e63 hF64 hD65
     have E66 := below_ext E38 E38.size e63
     have hv67 : fr62 12 = .pointer (some ⟨b1, 0, none⟩) := hD65 2 _ (by kernel_rfl) rfl (by kernel_rfl)
     exact DV.oe (dv_fieldAddr (a := ⟨b1, 0, none⟩) (a' := ⟨b1, 0, none⟩) fo45_0 (T rfl hv67) rfl) ⟨Below.refl _ _, rfl⟩
   · refine .inr ⟨by kernel_rfl, ?_⟩
     intro fr69 w68 e70 hF71 hD72
     have E73 := below_ext E38 E38.size e70
     have hv74 : fr69 13 = .pointer (some ⟨b1, 0, none⟩) := hD72 3 _ (by kernel_rfl) rfl (by kernel_rfl)
     have H75 := (e70.blk H39)
     exact DV.oe (dv_load1 (b := b1) (o := 0) agt2 (T rfl hv74) H75 rfl) ⟨Below.refl _ _, rfl⟩
   · refine .inr ⟨by kernel_rfl, ?_⟩
     intro fr77 w76 e78 hF79 hD80
     have E81 := below_ext E38 E38.size e78
     have hv82 : fr77 14 = .int .i64 ax := hD80 4 _ (by kernel_rfl) rfl (by kernel_rfl)
     refine id (oe_callf (vs := [.int .i64 ax]) co92 (ar1 (T rfl hv82)) (whole_ok  (by omega)) ?_)
     rintro _ w88 ⟨nr83, A84, n85, c86, rfl, e89, h87⟩
     have E90 := below_ext E81 E81.size e89
     have lh87 := Num.len (by decide) h87
     exact ⟨e89, nr83, A84, n85, c86, rfl, h87⟩
   · refine .inr ⟨by kernel_rfl, ?_⟩
     intro fr92 w91 e93 hF94 hD95
     have E96 := below_ext E38 E38.size e93
     exact DV.oe (dv_fieldAddr (a := ⟨b29, 0, none⟩) (a' := ⟨b29, 4, none⟩) fo122_2 (T rfl (hF94 5 (by kernel_rfl))) rfl) ⟨Below.refl _ _, rfl⟩
   · refine .inr ⟨by kernel_rfl, ?_⟩
     intro fr98 w97 e99 hF100 hD101
     have E102 := below_ext E38 E38.size e99
     have hv103 : fr98 16 = .pointer (some ⟨b29, 4, none⟩) := hD101 6 _ (by kernel_rfl) rfl (by kernel_rfl)
     have H104 := (e99.blk H37)
     exact DV.oe (dv_loads (l := [.bool nr19, .slice A20 n21 c22]) agt120 sz120 (T rfl hv103) H104 rfl) ⟨Below.refl _ _, rfl⟩
   · refine .inr ⟨by kernel_rfl, ?_⟩
     intro fr106 w105 e107 hF108 hD109
     have E110 := below_ext E38 E38.size e107
     obtain ⟨nr111, A112, n113, c114, hv115, hp116⟩ : ∃ (nr83 : Bool) (A84 : Option Addr) (n85 : Nat) (c86 : Nat), fr106 15 = .agg #[.bool nr83, .slice A84 n85 c86] ∧ Num 64 29 .u64 w105 nr83 A84 n85 c86 ax 64 := hD109 5 _ (by kernel_rfl) rfl (by kernel_rfl)
     have lhp116 := Num.len (by decide) hp116
     have hv117 : fr106 17 = .agg #[.bool nr19, .slice A20 n21 c22] := hD109 7 _ (by kernel_rfl) rfl (by kernel_rfl)
     have h118 := (((h25.ext n31.ext).st s36 n31.blk (by decide)).ext e107)
     refine id (oe_callf (vs := [.agg #[.bool nr111, .slice A112 n113 c114], .agg #[.bool nr19, .slice A20 n21 c22]]) co93 (ar2 (T rfl hv115) (T rfl hv117)) (nby_ok hp116 h118 (by first | decide | omega) (by first | decide | omega)) ?_)
     rintro _ w124 ⟨nr119, A120, n121, c122, rfl, e125, h123⟩
     have E126 := below_ext E110 E110.size e125
     have lh123 := Num.len (by decide) h123
     exact ⟨e125, nr119, A120, n121, c122, rfl, h123⟩
   · refine .inr ⟨by kernel_rfl, ?_⟩
     intro fr128 w127 e129 hF130 hD131
     have E132 := below_ext E38 E38.size e129
     have hv133 : fr128 11 = .agg #[.bool nr11, .slice A12 n13 c14] := hD131 1 _ (by kernel_rfl) rfl (by kernel_rfl)
     obtain ⟨nr134, A135, n136, c137, hv138, hp139⟩ : ∃ (nr119 : Bool) (A120 : Option Addr) (n121 : Nat) (c122 : Nat), fr128 18 = .agg #[.bool nr119, .slice A120 n121 c122] ∧ Num 64 29 .u64 w127 nr119 A120 n121 c122 (ax * u) 320 := hD131 8 _ (by kernel_rfl) rfl (by kernel_rfl)
     have lhp139 := Num.len (by decide) hp139
     have h140 := (((h23.ext n31.ext).st s36 n31.blk (by decide)).ext e129)
     refine id (oe_callf (vs := [.agg #[.bool nr11, .slice A12 n13 c14], .agg #[.bool nr134, .slice A135 n136 c137]]) co107 (ar2 (T rfl hv133) (T rfl hv138)) (less_ok h140 hp139 (by first | decide | omega) (by first | decide | omega)) ?_)
     rintro _ w146 ⟨nr141, A142, n143, c144, rfl, e147, h145⟩
     have E148 := below_ext E132 E132.size e147
     have lh145 := Num.len (by decide) h145
     exact ⟨e147, nr141, A142, n143, c144, rfl, h145⟩
   · exact .inl (.inr ⟨by kernel_rfl, fun _ _ => trivial⟩)
   · exact .inl (.inl (by kernel_rfl))
 · refine ⟨⟨⟨_, rfl, fun _ _ => oe_alloc ze120 fun b w hn => ⟨b, rfl, hn⟩⟩, ⟨_, rfl, ?_⟩⟩, trivial⟩
   · intro fr150 w149 b154 e151 hF152 hD153 hA155 hB156
     have E157 := below_ext E38 E38.size e151
     obtain ⟨nr158, A159, n160, c161, hv162, hp163⟩ : ∃ (nr141 : Bool) (A142 : Option Addr) (n143 : Nat) (c144 : Nat), fr150 19 = .agg #[.bool nr141, .slice A142 n143 c144] ∧ Num 64 29 .u64 w149 nr141 A142 n143 c144 (x - (ax * u)) 321 := hD153 9 _ (by kernel_rfl) rfl (by kernel_rfl)
     have lhp163 := Num.len (by decide) hp163
     refine id (oe_store (v := .agg #[.bool nr158, .slice A159 n160 c161]) (vs := [.bool nr158, .slice A159 n160 c161]) (l := [.bool nr158, .slice A159 n160 c161]) (T rfl hA155) (T rfl hv162) sz120 rfl rfl rfl hB156 rfl ?_)
     intro w164 s165 H166
     exact ⟨s165, H166.trans (congrArg (fun v : Value => some (Obj.cells v.cells 120)) (show fr150 19 = _ from hv162).symm)⟩
 intro fr169 w168 e170 hF171 hP172 hM173 hN174
 have E175 := below_ext E38 E38.size e170
 obtain ⟨_, _, _, _, _, _, _, _, _, p176, _, _, _⟩ := hP172
 obtain ⟨nr177, A178, n179, c180, hv181, hp182⟩ : ∃ (nr141 : Bool) (A142 : Option Addr) (n143 : Nat) (c144 : Nat), fr169 19 = .agg #[.bool nr141, .slice A142 n143 c144] ∧ Num 64 29 .u64 w168 nr141 A142 n143 c144 (x - (ax * u)) 321 := p176.resolve_left (nst (by kernel_rfl))
 have lhp182 := Num.len (by decide) hp182
 obtain ⟨⟨b183, hA184, hB185, hC186⟩, _⟩ := hM173
 have H187 : w168.heap[b183]? = some (.cells #[.bool nr177, .slice A178 n179 c180] 120) := hC186.trans (congrArg (fun v : Value => some (Obj.cells v.cells 120)) hv181)
 have N188 : w.heap.size ≤ b183 := by omega
 refine rk_seq ?_
 have H189 := (e170.blk H39)
 have : b1 < w168.heap.size := lt_of_blk H189
 have H190 := (e170.blk H40)
 have : b6 < w168.heap.size := lt_of_blk H190
 have H191 := (e170.blk H37)
 have : b29 < w168.heap.size := lt_of_blk H191
 have : b183 < w168.heap.size := lt_of_blk H187
 have : w.heap.size ≤ w168.heap.size := E175.size
 refine rk_par2 [fun vq wq_ => vq = .pointer (some ⟨b29, 2, none⟩), fun vq wq_ => vq = .agg #[.bool nr15, .slice A16 n17 c18], fun vq wq_ => vq = .pointer (some ⟨b1, 0, none⟩), fun vq wq_ => vq = .pointer (some ⟨b1, 1, none⟩), fun vq wq_ => vq = .int .i64 ay, fun vq wq_ => ∃ (nr234 : Bool) (A235 : Option Addr) (n236 : Nat) (c237 : Nat), vq = .agg #[.bool nr234, .slice A235 n236 c237] ∧ Num 64 29 .u64 wq_ nr234 A235 n236 c237 ay 64, fun vq wq_ => vq = .pointer (some ⟨b29, 4, none⟩), fun vq wq_ => vq = .agg #[.bool nr19, .slice A20 n21 c22], fun vq wq_ => ∃ (nr270 : Bool) (A271 : Option Addr) (n272 : Nat) (c273 : Nat), vq = .agg #[.bool nr270, .slice A271 n272 c273] ∧ Num 64 29 .u64 wq_ nr270 A271 n272 c273 (ay * u) 320, fun vq wq_ => ∃ (nr292 : Bool) (A293 : Option Addr) (n294 : Nat) (c295 : Nat), vq = .agg #[.bool nr292, .slice A293 n294 c295] ∧ Num 64 29 .u64 wq_ nr292 A293 n294 c295 (y - (ay * u)) 321, fun _ _ => True, fun _ _ => True] [⟨10, 11, 9, 120, #[.bool false, .slice none 0 0]⟩] [120] mo (by kernel_rfl) (by kernel_rfl) ?_ ?_ ?_ ?_ ?_
 · intro e he e2 he2 h; simp only [List.mem_cons, List.not_mem_nil, or_false] at he he2; rcases he with rfl <;> rcases he2 with rfl <;> first | rfl | exact absurd h (by decide)
 · exact ⟨⟨fun v w w2 e h => h, fun v w w2 b cs T fz s hb hT h => h⟩, ⟨fun v w w2 e h => h, fun v w w2 b cs T fz s hb hT h => h⟩, ⟨fun v w w2 e h => h, fun v w w2 b cs T fz s hb hT h => h⟩, ⟨fun v w w2 e h => h, fun v w w2 b cs T fz s hb hT h => h⟩, ⟨fun v w w2 e h => h, fun v w w2 b cs T fz s hb hT h => h⟩, ⟨fun v w w2 e ⟨nr234, A235, n236, c237, hv, h0_⟩ => ⟨nr234, A235, n236, c237, hv, h0_.ext e⟩, fun v w w2 b cs T fz s hb hT ⟨nr234, A235, n236, c237, hv, h0_⟩ => ⟨nr234, A235, n236, c237, hv, h0_.st s hb (ts_ne hT (by decide))⟩⟩, ⟨fun v w w2 e h => h, fun v w w2 b cs T fz s hb hT h => h⟩, ⟨fun v w w2 e h => h, fun v w w2 b cs T fz s hb hT h => h⟩, ⟨fun v w w2 e ⟨nr270, A271, n272, c273, hv, h0_⟩ => ⟨nr270, A271, n272, c273, hv, h0_.ext e⟩, fun v w w2 b cs T fz s hb hT ⟨nr270, A271, n272, c273, hv, h0_⟩ => ⟨nr270, A271, n272, c273, hv, h0_.st s hb (ts_ne hT (by decide))⟩⟩, ⟨fun v w w2 e ⟨nr292, A293, n294, c295, hv, h0_⟩ => ⟨nr292, A293, n294, c295, hv, h0_.ext e⟩, fun v w w2 b cs T fz s hb hT ⟨nr292, A293, n294, c295, hv, h0_⟩ => ⟨nr292, A293, n294, c295, hv, h0_.st s hb (ts_ne hT (by decide))⟩⟩, ⟨fun v w w2 e h => h, fun v w w2 b cs T fz s hb hT h => h⟩, ⟨fun v w w2 e h => h, fun v w w2 b cs T fz s hb hT h => h⟩, trivial⟩
 · refine ⟨?_, ?_, ?_, ?_, ?_, ?_, ?_, ?_, ?_, ?_, ?_, ?_, trivial⟩
   · refine .inr ⟨by kernel_rfl, ?_⟩
     intro fr193 w192 e194 hF195 hD196
     have E197 := below_ext E175 E175.size e194
     exact DV.oe (dv_fieldAddr (a := ⟨b29, 0, none⟩) (a' := ⟨b29, 2, none⟩) fo122_1 (T rfl ((hF195 5 (by kernel_rfl)).trans (hF171 5 rfl))) rfl) ⟨Below.refl _ _, rfl⟩
   · refine .inr ⟨by kernel_rfl, ?_⟩
     intro fr199 w198 e200 hF201 hD202
     have E203 := below_ext E175 E175.size e200
     have hv204 : fr199 20 = .pointer (some ⟨b29, 2, none⟩) := hD202 0 _ (by kernel_rfl) rfl (by kernel_rfl)
     have H205 := (e200.blk H191)
     exact DV.oe (dv_loads (l := [.bool nr15, .slice A16 n17 c18]) agt120 sz120 (T rfl hv204) H205 rfl) ⟨Below.refl _ _, rfl⟩
   · refine .inr ⟨by kernel_rfl, ?_⟩
     intro fr207 w206 e208 hF209 hD210
     have E211 := below_ext E175 E175.size e208
     exact DV.oe (dv_fieldAddr (a := ⟨b1, 0, none⟩) (a' := ⟨b1, 0, none⟩) fo47_0 (T rfl ((hF209 2 (by kernel_rfl)).trans (hF171 2 rfl))) rfl) ⟨Below.refl _ _, rfl⟩
   · refine .inr ⟨by kernel_rfl, ?_⟩
     intro fr213 w212 e214 hF215 hD216
     have E217 := below_ext E175 E175.size e214
     have hv218 : fr213 22 = .pointer (some ⟨b1, 0, none⟩) := hD216 2 _ (by kernel_rfl) rfl (by kernel_rfl)
     exact DV.oe (dv_fieldAddr (a := ⟨b1, 0, none⟩) (a' := ⟨b1, 1, none⟩) fo45_1 (T rfl hv218) rfl) ⟨Below.refl _ _, rfl⟩
   · refine .inr ⟨by kernel_rfl, ?_⟩
     intro fr220 w219 e221 hF222 hD223
     have E224 := below_ext E175 E175.size e221
     have hv225 : fr220 23 = .pointer (some ⟨b1, 1, none⟩) := hD223 3 _ (by kernel_rfl) rfl (by kernel_rfl)
     have H226 := (e221.blk H189)
     exact DV.oe (dv_load1 (b := b1) (o := 1) agt2 (T rfl hv225) H226 rfl) ⟨Below.refl _ _, rfl⟩
   · refine .inr ⟨by kernel_rfl, ?_⟩
     intro fr228 w227 e229 hF230 hD231
     have E232 := below_ext E175 E175.size e229
     have hv233 : fr228 24 = .int .i64 ay := hD231 4 _ (by kernel_rfl) rfl (by kernel_rfl)
     refine id (oe_callf (vs := [.int .i64 ay]) co92 (ar1 (T rfl hv233)) (whole_ok  (by omega)) ?_)
     rintro _ w239 ⟨nr234, A235, n236, c237, rfl, e240, h238⟩
     have E241 := below_ext E232 E232.size e240
     have lh238 := Num.len (by decide) h238
     exact ⟨e240, nr234, A235, n236, c237, rfl, h238⟩
   · refine .inr ⟨by kernel_rfl, ?_⟩
     intro fr243 w242 e244 hF245 hD246
     have E247 := below_ext E175 E175.size e244
     exact DV.oe (dv_fieldAddr (a := ⟨b29, 0, none⟩) (a' := ⟨b29, 4, none⟩) fo122_2 (T rfl ((hF245 5 (by kernel_rfl)).trans (hF171 5 rfl))) rfl) ⟨Below.refl _ _, rfl⟩
   · refine .inr ⟨by kernel_rfl, ?_⟩
     intro fr249 w248 e250 hF251 hD252
     have E253 := below_ext E175 E175.size e250
     have hv254 : fr249 26 = .pointer (some ⟨b29, 4, none⟩) := hD252 6 _ (by kernel_rfl) rfl (by kernel_rfl)
     have H255 := (e250.blk H191)
     exact DV.oe (dv_loads (l := [.bool nr19, .slice A20 n21 c22]) agt120 sz120 (T rfl hv254) H255 rfl) ⟨Below.refl _ _, rfl⟩
   · refine .inr ⟨by kernel_rfl, ?_⟩
     intro fr257 w256 e258 hF259 hD260
     have E261 := below_ext E175 E175.size e258
     obtain ⟨nr262, A263, n264, c265, hv266, hp267⟩ : ∃ (nr234 : Bool) (A235 : Option Addr) (n236 : Nat) (c237 : Nat), fr257 25 = .agg #[.bool nr234, .slice A235 n236 c237] ∧ Num 64 29 .u64 w256 nr234 A235 n236 c237 ay 64 := hD260 5 _ (by kernel_rfl) rfl (by kernel_rfl)
     have lhp267 := Num.len (by decide) hp267
     have hv268 : fr257 27 = .agg #[.bool nr19, .slice A20 n21 c22] := hD260 7 _ (by kernel_rfl) rfl (by kernel_rfl)
     have h269 := ((((h25.ext n31.ext).st s36 n31.blk (by decide)).ext e170).ext e258)
     refine id (oe_callf (vs := [.agg #[.bool nr262, .slice A263 n264 c265], .agg #[.bool nr19, .slice A20 n21 c22]]) co93 (ar2 (T rfl hv266) (T rfl hv268)) (nby_ok hp267 h269 (by first | decide | omega) (by first | decide | omega)) ?_)
     rintro _ w275 ⟨nr270, A271, n272, c273, rfl, e276, h274⟩
     have E277 := below_ext E261 E261.size e276
     have lh274 := Num.len (by decide) h274
     exact ⟨e276, nr270, A271, n272, c273, rfl, h274⟩
   · refine .inr ⟨by kernel_rfl, ?_⟩
     intro fr279 w278 e280 hF281 hD282
     have E283 := below_ext E175 E175.size e280
     have hv284 : fr279 21 = .agg #[.bool nr15, .slice A16 n17 c18] := hD282 1 _ (by kernel_rfl) rfl (by kernel_rfl)
     obtain ⟨nr285, A286, n287, c288, hv289, hp290⟩ : ∃ (nr270 : Bool) (A271 : Option Addr) (n272 : Nat) (c273 : Nat), fr279 28 = .agg #[.bool nr270, .slice A271 n272 c273] ∧ Num 64 29 .u64 w278 nr270 A271 n272 c273 (ay * u) 320 := hD282 8 _ (by kernel_rfl) rfl (by kernel_rfl)
     have lhp290 := Num.len (by decide) hp290
     have h291 := ((((h24.ext n31.ext).st s36 n31.blk (by decide)).ext e170).ext e280)
     refine id (oe_callf (vs := [.agg #[.bool nr15, .slice A16 n17 c18], .agg #[.bool nr285, .slice A286 n287 c288]]) co107 (ar2 (T rfl hv284) (T rfl hv289)) (less_ok h291 hp290 (by first | decide | omega) (by first | decide | omega)) ?_)
     rintro _ w297 ⟨nr292, A293, n294, c295, rfl, e298, h296⟩
     have E299 := below_ext E283 E283.size e298
     have lh296 := Num.len (by decide) h296
     exact ⟨e298, nr292, A293, n294, c295, rfl, h296⟩
   · exact .inl (.inr ⟨by kernel_rfl, fun _ _ => trivial⟩)
   · exact .inl (.inl (by kernel_rfl))
 · refine ⟨⟨⟨_, rfl, fun _ _ => oe_alloc ze120 fun b w hn => ⟨b, rfl, hn⟩⟩, ⟨_, rfl, ?_⟩⟩, trivial⟩
   · intro fr301 w300 b305 e302 hF303 hD304 hA306 hB307
     have E308 := below_ext E175 E175.size e302
     obtain ⟨nr309, A310, n311, c312, hv313, hp314⟩ : ∃ (nr292 : Bool) (A293 : Option Addr) (n294 : Nat) (c295 : Nat), fr301 29 = .agg #[.bool nr292, .slice A293 n294 c295] ∧ Num 64 29 .u64 w300 nr292 A293 n294 c295 (y - (ay * u)) 321 := hD304 9 _ (by kernel_rfl) rfl (by kernel_rfl)
     have lhp314 := Num.len (by decide) hp314
     refine id (oe_store (v := .agg #[.bool nr309, .slice A310 n311 c312]) (vs := [.bool nr309, .slice A310 n311 c312]) (l := [.bool nr309, .slice A310 n311 c312]) (T rfl hA306) (T rfl hv313) sz120 rfl rfl rfl hB307 rfl ?_)
     intro w315 s316 H317
     exact ⟨s316, H317.trans (congrArg (fun v : Value => some (Obj.cells v.cells 120)) (show fr301 29 = _ from hv313).symm)⟩
 intro fr320 w319 e321 hF322 hP323 hM324 hN325
 have E326 := below_ext E175 E175.size e321
 obtain ⟨_, _, _, _, _, _, _, _, _, p327, _, _, _⟩ := hP323
 obtain ⟨nr328, A329, n330, c331, hv332, hp333⟩ : ∃ (nr292 : Bool) (A293 : Option Addr) (n294 : Nat) (c295 : Nat), fr320 29 = .agg #[.bool nr292, .slice A293 n294 c295] ∧ Num 64 29 .u64 w319 nr292 A293 n294 c295 (y - (ay * u)) 321 := p327.resolve_left (nst (by kernel_rfl))
 have lhp333 := Num.len (by decide) hp333
 obtain ⟨⟨b334, hA335, hB336, hC337⟩, _⟩ := hM324
 have H338 : w319.heap[b334]? = some (.cells #[.bool nr328, .slice A329 n330 c331] 120) := hC337.trans (congrArg (fun v : Value => some (Obj.cells v.cells 120)) hv332)
 have N339 : w.heap.size ≤ b334 := by omega
 refine rk_seq ?_
 refine rk_any (fun w => w.heap[b1]? = some (.cells #[.int .i64 ax, .int .i64 ay, .int .i64 bx, .int .i64 b_y] 47) ∧ w.heap[b334]? = some (.cells #[.bool nr328, .slice A329 n330 c331] 120) ∧ w.heap[b183]? = some (.cells #[.bool nr177, .slice A178 n179 c180] 120)) [22] mo ?_
 intro w340 d341
 have E342 := below_ext E326 E326.size d341.ext
 have H343 := (d341.ext.blk (e321.blk H189))
 have H344 := (d341.ext.blk H338)
 have H345 := (d341.ext.blk (e321.blk H187))
 refine aw_pure 0 (.pointer (some ⟨b1, 2, none⟩)) rfl (by kernel_rfl) .none ⟨H343, H344, H345⟩ (fun _ => dv_fieldAddr (a := ⟨b1, 0, none⟩) (a' := ⟨b1, 2, none⟩) fo47_1 (T rfl ((hF322 2 rfl).trans (hF171 2 rfl))) rfl) ?_
 refine aw_pure 1 (.pointer (some ⟨b1, 2, none⟩)) rfl (by kernel_rfl) .none ⟨H343, H344, H345⟩ (fun _ => dv_fieldAddr (a := ⟨b1, 2, none⟩) (a' := ⟨b1, 2, none⟩) fo45_0 (T rfl rfl) rfl) ?_
 refine aw_load 2 (.int .i64 bx) rfl (by kernel_rfl) .none ⟨H343, H344, H345⟩ (fun _ s => dv_load1 (b := b1) (o := 2) agt2 (T rfl rfl) s.1 rfl) ?_
 refine aw_pure 3 (.pointer (some ⟨b1, 0, none⟩)) rfl (by kernel_rfl) .none ⟨H343, H344, H345⟩ (fun _ => dv_fieldAddr (a := ⟨b1, 0, none⟩) (a' := ⟨b1, 0, none⟩) fo47_0 (T rfl ((hF322 2 rfl).trans (hF171 2 rfl))) rfl) ?_
 refine aw_pure 4 (.pointer (some ⟨b1, 0, none⟩)) rfl (by kernel_rfl) .none ⟨H343, H344, H345⟩ (fun _ => dv_fieldAddr (a := ⟨b1, 0, none⟩) (a' := ⟨b1, 0, none⟩) fo45_0 (T rfl rfl) rfl) ?_
 refine aw_load 5 (.int .i64 ax) rfl (by kernel_rfl) .none ⟨H343, H344, H345⟩ (fun _ s => dv_load1 (b := b1) (o := 0) agt2 (T rfl rfl) s.1 rfl) ?_
 refine aw_pure 6 (.int .i64 (bx - ax)) rfl (by kernel_rfl) .none ⟨H343, H344, H345⟩ (fun _ => dv_sub (a := bx) (b := ax) (z := bx - ax) (T rfl rfl) (T rfl rfl) (wr_i64 (by omega) (by omega))) ?_
 refine aw_load 8 (.agg #[.bool nr328, .slice A329 n330 c331]) rfl (by kernel_rfl) .none ⟨H343, H344, H345⟩ (fun _ s => dv_loads (l := [.bool nr328, .slice A329 n330 c331]) agt120 sz120 (T rfl hA335) s.2.1 rfl) ?_
 refine aw_pure 10 (.pointer (some ⟨b1, 2, none⟩)) rfl (by kernel_rfl) .none ⟨H343, H344, H345⟩ (fun _ => dv_fieldAddr (a := ⟨b1, 0, none⟩) (a' := ⟨b1, 2, none⟩) fo47_1 (T rfl ((hF322 2 rfl).trans (hF171 2 rfl))) rfl) ?_
 refine aw_pure 11 (.pointer (some ⟨b1, 3, none⟩)) rfl (by kernel_rfl) .none ⟨H343, H344, H345⟩ (fun _ => dv_fieldAddr (a := ⟨b1, 2, none⟩) (a' := ⟨b1, 3, none⟩) fo45_1 (T rfl rfl) rfl) ?_
 refine aw_load 12 (.int .i64 b_y) rfl (by kernel_rfl) .none ⟨H343, H344, H345⟩ (fun _ s => dv_load1 (b := b1) (o := 3) agt2 (T rfl rfl) s.1 rfl) ?_
 refine aw_pure 13 (.pointer (some ⟨b1, 0, none⟩)) rfl (by kernel_rfl) .none ⟨H343, H344, H345⟩ (fun _ => dv_fieldAddr (a := ⟨b1, 0, none⟩) (a' := ⟨b1, 0, none⟩) fo47_0 (T rfl ((hF322 2 rfl).trans (hF171 2 rfl))) rfl) ?_
 refine aw_pure 14 (.pointer (some ⟨b1, 1, none⟩)) rfl (by kernel_rfl) .none ⟨H343, H344, H345⟩ (fun _ => dv_fieldAddr (a := ⟨b1, 0, none⟩) (a' := ⟨b1, 1, none⟩) fo45_1 (T rfl rfl) rfl) ?_
 refine aw_load 15 (.int .i64 ay) rfl (by kernel_rfl) .none ⟨H343, H344, H345⟩ (fun _ s => dv_load1 (b := b1) (o := 1) agt2 (T rfl rfl) s.1 rfl) ?_
 refine aw_pure 16 (.int .i64 (b_y - ay)) rfl (by kernel_rfl) .none ⟨H343, H344, H345⟩ (fun _ => dv_sub (a := b_y) (b := ay) (z := b_y - ay) (T rfl rfl) (T rfl rfl) (wr_i64 (by omega) (by omega))) ?_
 refine aw_load 18 (.agg #[.bool nr177, .slice A178 n179 c180]) rfl (by kernel_rfl) .none ⟨H343, H344, H345⟩ (fun _ s => dv_loads (l := [.bool nr177, .slice A178 n179 c180]) agt120 sz120 (T rfl ((hF322 6 rfl).trans hA184)) s.2.2 rfl) ?_
 refine aw_one 7 rfl (by kernel_rfl) .none (oe_callf (vs := [.int .i64 (bx - ax)]) co92 (ar1 (T rfl rfl)) (whole_ok  (by omega)) ?_)
 rintro _ w351 ⟨nr346, A347, n348, c349, rfl, e352, h350⟩
 have E353 := below_ext E342 E342.size e352
 have lh350 := Num.len (by decide) h350
 have H354 := (e352.blk H343)
 have H355 := (e352.blk H344)
 have H356 := (e352.blk H345)
 refine ⟨.inr ⟨H354, H355, H356⟩, ?_⟩
 have h357 := ((hp333.ext d341.ext).ext e352)
 refine aw_one 9 rfl (by kernel_rfl) .none (oe_callf (vs := [.agg #[.bool nr346, .slice A347 n348 c349], .agg #[.bool nr328, .slice A329 n330 c331]]) co93 (ar2 (T rfl rfl) (T rfl rfl)) (nby_ok h350 h357 (by first | decide | omega) (by first | decide | omega)) ?_)
 rintro _ w363 ⟨nr358, A359, n360, c361, rfl, e364, h362⟩
 have E365 := below_ext E353 E353.size e364
 have lh362 := Num.len (by decide) h362
 have H366 := (e364.blk H354)
 have H367 := (e364.blk H355)
 have H368 := (e364.blk H356)
 refine ⟨.inr ⟨H366, H367, H368⟩, ?_⟩
 refine aw_one 17 rfl (by kernel_rfl) .none (oe_callf (vs := [.int .i64 (b_y - ay)]) co92 (ar1 (T rfl rfl)) (whole_ok  (by omega)) ?_)
 rintro _ w374 ⟨nr369, A370, n371, c372, rfl, e375, h373⟩
 have E376 := below_ext E365 E365.size e375
 have lh373 := Num.len (by decide) h373
 have H377 := (e375.blk H366)
 have H378 := (e375.blk H367)
 have H379 := (e375.blk H368)
 refine ⟨.inr ⟨H377, H378, H379⟩, ?_⟩
 have h380 := (((((hp182.ext e321).ext d341.ext).ext e352).ext e364).ext e375)
 refine aw_one 19 rfl (by kernel_rfl) .none (oe_callf (vs := [.agg #[.bool nr369, .slice A370 n371 c372], .agg #[.bool nr177, .slice A178 n179 c180]]) co93 (ar2 (T rfl rfl) (T rfl rfl)) (nby_ok h373 h380 (by first | decide | omega) (by first | decide | omega)) ?_)
 rintro _ w386 ⟨nr381, A382, n383, c384, rfl, e387, h385⟩
 have E388 := below_ext E376 E376.size e387
 have lh385 := Num.len (by decide) h385
 have H389 := (e387.blk H377)
 have H390 := (e387.blk H378)
 have H391 := (e387.blk H379)
 refine ⟨.inr ⟨H389, H390, H391⟩, ?_⟩
 have h392 := ((h362.ext e375).ext e387)
 refine aw_one 20 rfl (by kernel_rfl) .none (oe_callf (vs := [.agg #[.bool nr358, .slice A359 n360 c361], .agg #[.bool nr381, .slice A382 n383 c384]]) co107 (ar2 (T rfl rfl) (T rfl rfl)) (less_ok h392 h385 (by first | decide | omega) (by first | decide | omega)) ?_)
 rintro _ w398 ⟨nr393, A394, n395, c396, rfl, e399, h397⟩
 have E400 := below_ext E388 E388.size e399
 have lh397 := Num.len (by decide) h397
 have H401 := (e399.blk H389)
 have H402 := (e399.blk H390)
 have H403 := (e399.blk H391)
 refine ⟨.inr ⟨H401, H402, H403⟩, ?_⟩
 refine aw_one 21 rfl (by kernel_rfl) .none (oe_callf (vs := [.agg #[.bool nr393, .slice A394 n395 c396]]) co132 (ar1 (T rfl rfl)) (nsign_ok h397 ) ?_)
 rintro _ w404 ⟨rfl, e405⟩
 have E406 := below_ext E400 E400.size e405
 have H407 := (e405.blk H401)
 have H408 := (e405.blk H402)
 have H409 := (e405.blk H403)
 refine ⟨.inr ⟨H407, H408, H409⟩, ?_⟩
 refine aw_last 22 (.int .i64 (sgnI (((bx - ax) * (y - (ay * u))) - ((b_y - ay) * (x - (ax * u)))))) rfl (by kernel_rfl) .none (fun _ => dv_assign (T rfl rfl)) ?_
 refine aw_done (by kernel_rfl) ?_
 refine rk_ret Try.func76 (v := .int .i64 (sgnI (((bx - ax) * (y - (ay * u))) - ((b_y - ay) * (x - (ax * u)))))) (res1 Try.results76 (rv_tmp rfl rfl)) ⟨_, rfl, ?_⟩
 exact ⟨(vi (by rfl)), E406⟩
set_option maxHeartbeats 1000000 in
theorem sSideOf_ok {w : World} {ax ay bx b_y x y u : Int} (fx_ : fits x) (fy_ : fits y) (fu_ : fits u)  : Ct Try.prog 23 [.agg #[.int .i64 ax, .int .i64 ay, .int .i64 bx, .int .i64 b_y], .agg #[.int .u64 (wv3 x), .int .u64 (wv2 x), .int .u64 (wv1 x), .int .u64 (wv0 x), .int .u64 (wv3 y), .int .u64 (wv2 y), .int .u64 (wv1 y), .int .u64 (wv0 y), .int .u64 (wv3 u), .int .u64 (wv2 u), .int .u64 (wv1 u), .int .u64 (wv0 u)]] w fun v w1 => v = .int .i64 (sideR ax ay bx b_y x y u) ∧ Ext w w1 := by
 refine ct_run (n := 22) Try.func23 rfl Try.ntmps23 rfl ?_
 have E0 : Below w.heap.size w w := Below.refl _ _
 refine rk_seq ?_
 refine rk_reg ?_
 refine lw_e (oe_box (v := .agg #[.int .i64 ax, .int .i64 ay, .int .i64 bx, .int .i64 b_y]) (cs := #[.int .i64 ax, .int .i64 ay, .int .i64 bx, .int .i64 b_y]) (T rfl rfl) rfl ?_)
 intro b1 w2 n3
 have N4 : w.heap.size ≤ b1 := n3.eq ▸ E0.size
 have E5 := below_ext E0 E0.size n3.ext
 refine lw_e (oe_box (v := .agg #[.int .u64 (wv3 x), .int .u64 (wv2 x), .int .u64 (wv1 x), .int .u64 (wv0 x), .int .u64 (wv3 y), .int .u64 (wv2 y), .int .u64 (wv1 y), .int .u64 (wv0 y), .int .u64 (wv3 u), .int .u64 (wv2 u), .int .u64 (wv1 u), .int .u64 (wv0 u)]) (cs := #[.int .u64 (wv3 x), .int .u64 (wv2 x), .int .u64 (wv1 x), .int .u64 (wv0 x), .int .u64 (wv3 y), .int .u64 (wv2 y), .int .u64 (wv1 y), .int .u64 (wv0 y), .int .u64 (wv3 u), .int .u64 (wv2 u), .int .u64 (wv1 u), .int .u64 (wv0 u)]) (T rfl rfl) rfl ?_)
 intro b6 w7 n8
 have N9 : w.heap.size ≤ b6 := n8.eq ▸ E5.size
 have : b1 < b6 := n8.eq ▸ lt_of_blk n3.blk
 have E10 := below_ext E5 E5.size n8.ext
 refine lw_v (.int .i64 0) (dv_assign C) ?_
 refine lw_nil ?_
 refine rk_seq ?_
 refine rk_seq ?_
 refine rk_reg ?_
 have H11 := (n8.ext.blk n3.blk)
 refine lw_v (.agg #[.int .i64 ax, .int .i64 ay, .int .i64 bx, .int .i64 b_y]) (dv_loads (l := [.int .i64 ax, .int .i64 ay, .int .i64 bx, .int .i64 b_y]) agt47 sz47 (T rfl rfl) H11 rfl) ?_
 refine lw_e (oe_callf (vs := [.agg #[.int .i64 ax, .int .i64 ay, .int .i64 bx, .int .i64 b_y]]) co65 (ar1 (T rfl rfl)) (sSegOk_ok (ax := ax) (ay := ay) (bx := bx) (b_y := b_y)  ) ?_)
 rintro _ w12 ⟨rfl, e13⟩
 have E14 := below_ext E10 E10.size e13
 refine lw_v (.bool (decide (¬ (segOk ax ay bx b_y)))) (dv_notd (p := segOk ax ay bx b_y) (T rfl rfl)) ?_
 refine lw_v (.bool (decide (¬ (segOk ax ay bx b_y)))) (dv_move (T rfl rfl)) ?_
 by_cases hb15 : segOk ax ay bx b_y
 · have := segOk_rg hb15
   have := hb15.2.2
   have H16 := (e13.blk n8.blk)
   refine lw_vy (.agg #[.int .u64 (wv3 x), .int .u64 (wv2 x), .int .u64 (wv1 x), .int .u64 (wv0 x), .int .u64 (wv3 y), .int .u64 (wv2 y), .int .u64 (wv1 y), .int .u64 (wv0 y), .int .u64 (wv3 u), .int .u64 (wv2 u), .int .u64 (wv1 u), .int .u64 (wv0 u)]) (d := 8) rfl rfl (congrArg Value.bool (decide_eq_false (not_not_intro hb15))) (dv_loads (l := [.int .u64 (wv3 x), .int .u64 (wv2 x), .int .u64 (wv1 x), .int .u64 (wv0 x), .int .u64 (wv3 y), .int .u64 (wv2 y), .int .u64 (wv1 y), .int .u64 (wv0 y), .int .u64 (wv3 u), .int .u64 (wv2 u), .int .u64 (wv1 u), .int .u64 (wv0 u)]) agt37 sz37 (T rfl rfl) H16 rfl) ?_
   refine lw_ey (d := 8) rfl rfl (congrArg Value.bool (decide_eq_false (not_not_intro hb15))) (oe_callf (vs := [.agg #[.int .u64 (wv3 x), .int .u64 (wv2 x), .int .u64 (wv1 x), .int .u64 (wv0 x), .int .u64 (wv3 y), .int .u64 (wv2 y), .int .u64 (wv1 y), .int .u64 (wv0 y), .int .u64 (wv3 u), .int .u64 (wv2 u), .int .u64 (wv1 u), .int .u64 (wv0 u)]]) co67 (ar1 (T rfl rfl)) (sPointOk_ok (x := x) (y := y) (u := u) fx_ fy_ fu_ ) ?_)
   rintro _ w17 ⟨rfl, e18⟩
   have E19 := below_ext E14 E14.size e18
   refine lw_vy (.bool (decide (¬ (pOk x y u)))) (d := 8) rfl rfl (congrArg Value.bool (decide_eq_false (not_not_intro hb15))) (dv_notd (p := pOk x y u) (T rfl rfl)) ?_
   refine lw_v (.bool (decide (¬ (pOk x y u)))) (dv_pick_f (T rfl (congrArg Value.bool (decide_eq_false (not_not_intro hb15)))) (T rfl rfl)) ?_
   refine lw_nil ?_
   by_cases hb20 : pOk x y u
   · refine rk_cf (T rfl (congrArg Value.bool (decide_eq_false (not_not_intro hb20)))) ?_
     refine rk_skip ?_
     refine rk_seq ?_
     refine rk_any (fun w => w.heap[b1]? = some (.cells #[.int .i64 ax, .int .i64 ay, .int .i64 bx, .int .i64 b_y] 47) ∧ w.heap[b6]? = some (.cells #[.int .u64 (wv3 x), .int .u64 (wv2 x), .int .u64 (wv1 x), .int .u64 (wv0 x), .int .u64 (wv3 y), .int .u64 (wv2 y), .int .u64 (wv1 y), .int .u64 (wv0 y), .int .u64 (wv3 u), .int .u64 (wv2 u), .int .u64 (wv1 u), .int .u64 (wv0 u)] 37)) [9] mo ?_
     intro w21 d22
     have E23 := below_ext E19 E19.size d22.ext
     have H24 := (d22.ext.blk (e18.blk (e13.blk H11)))
     have H25 := (d22.ext.blk (e18.blk H16))
     refine aw_pure 0 (.pointer (some ⟨b1, 0, none⟩)) rfl (by kernel_rfl) .none ⟨H24, H25⟩ (fun _ => dv_fieldAddr (a := ⟨b1, 0, none⟩) (a' := ⟨b1, 0, none⟩) fo47_0 (T rfl rfl) rfl) ?_
     refine aw_load 1 (.agg #[.int .i64 ax, .int .i64 ay]) rfl (by kernel_rfl) .none ⟨H24, H25⟩ (fun _ s => dv_loads (l := [.int .i64 ax, .int .i64 ay]) agt45 sz45 (T rfl rfl) s.1 rfl) ?_
     refine aw_pure 3 (.pointer (some ⟨b1, 2, none⟩)) rfl (by kernel_rfl) .none ⟨H24, H25⟩ (fun _ => dv_fieldAddr (a := ⟨b1, 0, none⟩) (a' := ⟨b1, 2, none⟩) fo47_1 (T rfl rfl) rfl) ?_
     refine aw_load 4 (.agg #[.int .i64 bx, .int .i64 b_y]) rfl (by kernel_rfl) .none ⟨H24, H25⟩ (fun _ s => dv_loads (l := [.int .i64 bx, .int .i64 b_y]) agt45 sz45 (T rfl rfl) s.1 rfl) ?_
     refine aw_load 6 (.agg #[.int .u64 (wv3 x), .int .u64 (wv2 x), .int .u64 (wv1 x), .int .u64 (wv0 x), .int .u64 (wv3 y), .int .u64 (wv2 y), .int .u64 (wv1 y), .int .u64 (wv0 y), .int .u64 (wv3 u), .int .u64 (wv2 u), .int .u64 (wv1 u), .int .u64 (wv0 u)]) rfl (by kernel_rfl) .none ⟨H24, H25⟩ (fun _ s => dv_loads (l := [.int .u64 (wv3 x), .int .u64 (wv2 x), .int .u64 (wv1 x), .int .u64 (wv0 x), .int .u64 (wv3 y), .int .u64 (wv2 y), .int .u64 (wv1 y), .int .u64 (wv0 y), .int .u64 (wv3 u), .int .u64 (wv2 u), .int .u64 (wv1 u), .int .u64 (wv0 u)]) agt37 sz37 (T rfl rfl) s.2 rfl) ?_
     refine aw_one 2 rfl (by kernel_rfl) .none (oe_callf (vs := [.agg #[.int .i64 ax, .int .i64 ay]]) co74 (ar1 (T rfl rfl)) (l3Spot_ok   (by omega) (by omega)) ?_)
     rintro _ w41 ⟨nr26, A27, n28, c29, nr30, A31, n32, c33, nr34, A35, n36, c37, rfl, e42, h38, h39, h40⟩
     have E43 := below_ext E23 E23.size e42
     have lh38 := Num.len (by decide) h38
     have lh39 := Num.len (by decide) h39
     have lh40 := Num.len (by decide) h40
     have H44 := (e42.blk H24)
     have H45 := (e42.blk H25)
     refine ⟨.inr ⟨H44, H45⟩, ?_⟩
     refine aw_one 5 rfl (by kernel_rfl) .none (oe_callf (vs := [.agg #[.int .i64 bx, .int .i64 b_y]]) co74 (ar1 (T rfl rfl)) (l3Spot_ok   (by omega) (by omega)) ?_)
     rintro _ w61 ⟨nr46, A47, n48, c49, nr50, A51, n52, c53, nr54, A55, n56, c57, rfl, e62, h58, h59, h60⟩
     have E63 := below_ext E43 E43.size e62
     have lh58 := Num.len (by decide) h58
     have lh59 := Num.len (by decide) h59
     have lh60 := Num.len (by decide) h60
     have H64 := (e62.blk H44)
     have H65 := (e62.blk H45)
     refine ⟨.inr ⟨H64, H65⟩, ?_⟩
     refine aw_one 7 rfl (by kernel_rfl) .none (oe_callf (vs := [.agg #[.int .u64 (wv3 x), .int .u64 (wv2 x), .int .u64 (wv1 x), .int .u64 (wv0 x), .int .u64 (wv3 y), .int .u64 (wv2 y), .int .u64 (wv1 y), .int .u64 (wv0 y), .int .u64 (wv3 u), .int .u64 (wv2 u), .int .u64 (wv1 u), .int .u64 (wv0 u)]]) co69 (ar1 (T rfl rfl)) (l3Of_ok fx_ fy_ fu_  ) ?_)
     rintro _ w81 ⟨nr66, A67, n68, c69, nr70, A71, n72, c73, nr74, A75, n76, c77, rfl, e82, h78, h79, h80⟩
     have E83 := below_ext E63 E63.size e82
     have lh78 := Num.len (by decide) h78
     have lh79 := Num.len (by decide) h79
     have lh80 := Num.len (by decide) h80
     have H84 := (e82.blk H64)
     have H85 := (e82.blk H65)
     refine ⟨.inr ⟨H84, H85⟩, ?_⟩
     have h86 := ((h38.ext e62).ext e82)
     have h87 := ((h39.ext e62).ext e82)
     have h88 := ((h40.ext e62).ext e82)
     have h89 := (h58.ext e82)
     have h90 := (h59.ext e82)
     have h91 := (h60.ext e82)
     refine aw_one 8 rfl (by kernel_rfl) .none (oe_callf (vs := [.agg #[.bool nr26, .slice A27 n28 c29, .bool nr30, .slice A31 n32 c33, .bool nr34, .slice A35 n36 c37], .agg #[.bool nr46, .slice A47 n48 c49, .bool nr50, .slice A51 n52 c53, .bool nr54, .slice A55 n56 c57], .agg #[.bool nr66, .slice A67 n68 c69, .bool nr70, .slice A71 n72 c73, .bool nr74, .slice A75 n76 c77]]) co73 (ar3 (T rfl rfl) (T rfl rfl) (T rfl rfl)) (l3Orient_ok h86 h87 h88 h89 h90 h91 h78 h79 h80 (by first | decide | omega) (by first | decide | omega) (by first | decide | omega) (by first | decide | omega) (by first | decide | omega) (by first | decide | omega) (by first | decide | omega) (by first | decide | omega) (by first | decide | omega) ) ?_)
     rintro _ w92 ⟨rfl, e93⟩
     have E94 := below_ext E83 E83.size e93
     have := ori_rg ax ay 1 bx b_y 1 x y u
     have H95 := (e93.blk H84)
     have H96 := (e93.blk H85)
     refine ⟨.inr ⟨H95, H96⟩, ?_⟩
     refine aw_last 9 (.int .i64 (ori ax ay 1 bx b_y 1 x y u)) rfl (by kernel_rfl) .none (fun _ => dv_assign (T rfl rfl)) ?_
     refine aw_done (by kernel_rfl) ?_
     refine rk_ret Try.func23 (v := .int .i64 (ori ax ay 1 bx b_y 1 x y u)) (res1 Try.results23 (rv_tmp rfl rfl)) ⟨_, rfl, ?_⟩
     exact ⟨(vi (by unfold sideR; rw [side_ori]; first | rw [if_pos ⟨by assumption, by assumption⟩] | rw [if_neg (by first | assumption | (intro hh; first | exact absurd hh (by assumption) | exact absurd hh.1 (by assumption) | exact absurd hh.2 (by assumption) | exact absurd hh.2.1 (by assumption) | exact absurd hh.2.2 (by assumption) | exact absurd hh.1.1 (by assumption) | exact absurd hh.1.2.1 (by assumption) | exact absurd hh.1.2.2 (by assumption)))])), E94⟩
   · refine rk_ct (T rfl (congrArg Value.bool (decide_eq_true hb20))) ?_
     refine rk_seq ?_
     refine rk_reg ?_
     refine lw_v (.int .i64 0) (dv_assign C) ?_
     refine lw_nil ?_
     refine rk_ret Try.func23 (v := .int .i64 0) (res1 Try.results23 (rv_tmp rfl rfl)) ⟨_, rfl, ?_⟩
     exact ⟨(vi (by unfold sideR;  first | rw [if_pos ⟨by assumption, by assumption⟩] | rw [if_neg (by first | assumption | (intro hh; first | exact absurd hh (by assumption) | exact absurd hh.1 (by assumption) | exact absurd hh.2 (by assumption) | exact absurd hh.2.1 (by assumption) | exact absurd hh.2.2 (by assumption) | exact absurd hh.1.1 (by assumption) | exact absurd hh.1.2.1 (by assumption) | exact absurd hh.1.2.2 (by assumption)))])), E19⟩
 · refine lw_no (d := 8) rfl rfl (congrArg Value.bool (decide_eq_true hb15)) ?_
   refine lw_no (d := 8) rfl rfl (congrArg Value.bool (decide_eq_true hb15)) ?_
   refine lw_no (d := 8) rfl rfl (congrArg Value.bool (decide_eq_true hb15)) ?_
   refine lw_v (.bool true) (dv_pick_t (T rfl (congrArg Value.bool (decide_eq_true hb15))) C) ?_
   refine lw_nil ?_
   refine rk_ct (T rfl rfl) ?_
   refine rk_seq ?_
   refine rk_reg ?_
   refine lw_v (.int .i64 0) (dv_assign C) ?_
   refine lw_nil ?_
   refine rk_ret Try.func23 (v := .int .i64 0) (res1 Try.results23 (rv_tmp rfl rfl)) ⟨_, rfl, ?_⟩
   exact ⟨(vi (by unfold sideR;  first | rw [if_pos ⟨by assumption, by assumption⟩] | rw [if_neg (by first | assumption | (intro hh; first | exact absurd hh (by assumption) | exact absurd hh.1 (by assumption) | exact absurd hh.2 (by assumption) | exact absurd hh.2.1 (by assumption) | exact absurd hh.2.2 (by assumption) | exact absurd hh.1.1 (by assumption) | exact absurd hh.1.2.1 (by assumption) | exact absurd hh.1.2.2 (by assumption)))])), E14⟩
set_option maxHeartbeats 1000000 in
theorem iSideOf_ok {w : World} {ax ay bx b_y x y u : Int} (fx_ : fits x) (fy_ : fits y) (fu_ : fits u)  : Ct Try.prog 25 [.agg #[.int .i64 ax, .int .i64 ay, .int .i64 bx, .int .i64 b_y], .agg #[.int .u64 (wv3 x), .int .u64 (wv2 x), .int .u64 (wv1 x), .int .u64 (wv0 x), .int .u64 (wv3 y), .int .u64 (wv2 y), .int .u64 (wv1 y), .int .u64 (wv0 y), .int .u64 (wv3 u), .int .u64 (wv2 u), .int .u64 (wv1 u), .int .u64 (wv0 u)]] w fun v w1 => v = .int .i64 (sideR ax ay bx b_y x y u) ∧ Ext w w1 := by
 refine ct_run (n := 16) Try.func25 rfl Try.ntmps25 rfl ?_
 have E0 : Below w.heap.size w w := Below.refl _ _
 refine rk_seq ?_
 refine rk_reg ?_
 refine lw_e (oe_box (v := .agg #[.int .i64 ax, .int .i64 ay, .int .i64 bx, .int .i64 b_y]) (cs := #[.int .i64 ax, .int .i64 ay, .int .i64 bx, .int .i64 b_y]) (T rfl rfl) rfl ?_)
 intro b1 w2 n3
 have N4 : w.heap.size ≤ b1 := n3.eq ▸ E0.size
 have E5 := below_ext E0 E0.size n3.ext
 refine lw_e (oe_box (v := .agg #[.int .u64 (wv3 x), .int .u64 (wv2 x), .int .u64 (wv1 x), .int .u64 (wv0 x), .int .u64 (wv3 y), .int .u64 (wv2 y), .int .u64 (wv1 y), .int .u64 (wv0 y), .int .u64 (wv3 u), .int .u64 (wv2 u), .int .u64 (wv1 u), .int .u64 (wv0 u)]) (cs := #[.int .u64 (wv3 x), .int .u64 (wv2 x), .int .u64 (wv1 x), .int .u64 (wv0 x), .int .u64 (wv3 y), .int .u64 (wv2 y), .int .u64 (wv1 y), .int .u64 (wv0 y), .int .u64 (wv3 u), .int .u64 (wv2 u), .int .u64 (wv1 u), .int .u64 (wv0 u)]) (T rfl rfl) rfl ?_)
 intro b6 w7 n8
 have N9 : w.heap.size ≤ b6 := n8.eq ▸ E5.size
 have : b1 < b6 := n8.eq ▸ lt_of_blk n3.blk
 have E10 := below_ext E5 E5.size n8.ext
 refine lw_v (.int .i64 0) (dv_assign C) ?_
 refine lw_nil ?_
 refine rk_seq ?_
 refine rk_seq ?_
 refine rk_reg ?_
 have H11 := (n8.ext.blk n3.blk)
 refine lw_v (.agg #[.int .i64 ax, .int .i64 ay, .int .i64 bx, .int .i64 b_y]) (dv_loads (l := [.int .i64 ax, .int .i64 ay, .int .i64 bx, .int .i64 b_y]) agt47 sz47 (T rfl rfl) H11 rfl) ?_
 refine lw_e (oe_callf (vs := [.agg #[.int .i64 ax, .int .i64 ay, .int .i64 bx, .int .i64 b_y]]) co30 (ar1 (T rfl rfl)) (iSegOk_ok (ax := ax) (ay := ay) (bx := bx) (b_y := b_y)  ) ?_)
 rintro _ w12 ⟨rfl, e13⟩
 have E14 := below_ext E10 E10.size e13
 refine lw_v (.bool (decide (¬ (segOk ax ay bx b_y)))) (dv_notd (p := segOk ax ay bx b_y) (T rfl rfl)) ?_
 refine lw_v (.bool (decide (¬ (segOk ax ay bx b_y)))) (dv_move (T rfl rfl)) ?_
 by_cases hb15 : segOk ax ay bx b_y
 · have := segOk_rg hb15
   have := hb15.2.2
   have H16 := (e13.blk n8.blk)
   refine lw_vy (.agg #[.int .u64 (wv3 x), .int .u64 (wv2 x), .int .u64 (wv1 x), .int .u64 (wv0 x), .int .u64 (wv3 y), .int .u64 (wv2 y), .int .u64 (wv1 y), .int .u64 (wv0 y), .int .u64 (wv3 u), .int .u64 (wv2 u), .int .u64 (wv1 u), .int .u64 (wv0 u)]) (d := 8) rfl rfl (congrArg Value.bool (decide_eq_false (not_not_intro hb15))) (dv_loads (l := [.int .u64 (wv3 x), .int .u64 (wv2 x), .int .u64 (wv1 x), .int .u64 (wv0 x), .int .u64 (wv3 y), .int .u64 (wv2 y), .int .u64 (wv1 y), .int .u64 (wv0 y), .int .u64 (wv3 u), .int .u64 (wv2 u), .int .u64 (wv1 u), .int .u64 (wv0 u)]) agt37 sz37 (T rfl rfl) H16 rfl) ?_
   refine lw_ey (d := 8) rfl rfl (congrArg Value.bool (decide_eq_false (not_not_intro hb15))) (oe_callf (vs := [.agg #[.int .u64 (wv3 x), .int .u64 (wv2 x), .int .u64 (wv1 x), .int .u64 (wv0 x), .int .u64 (wv3 y), .int .u64 (wv2 y), .int .u64 (wv1 y), .int .u64 (wv0 y), .int .u64 (wv3 u), .int .u64 (wv2 u), .int .u64 (wv1 u), .int .u64 (wv0 u)]]) co75 (ar1 (T rfl rfl)) (iPointOk_ok (x := x) (y := y) (u := u) fx_ fy_ fu_ ) ?_)
   rintro _ w17 ⟨rfl, e18⟩
   have E19 := below_ext E14 E14.size e18
   refine lw_vy (.bool (decide (¬ (pOk x y u)))) (d := 8) rfl rfl (congrArg Value.bool (decide_eq_false (not_not_intro hb15))) (dv_notd (p := pOk x y u) (T rfl rfl)) ?_
   refine lw_v (.bool (decide (¬ (pOk x y u)))) (dv_pick_f (T rfl (congrArg Value.bool (decide_eq_false (not_not_intro hb15)))) (T rfl rfl)) ?_
   refine lw_nil ?_
   by_cases hb20 : pOk x y u
   · refine rk_cf (T rfl (congrArg Value.bool (decide_eq_false (not_not_intro hb20)))) ?_
     refine rk_skip ?_
     refine rk_seq ?_
     refine rk_reg ?_
     have H21 := (e18.blk (e13.blk H11))
     refine lw_v (.agg #[.int .i64 ax, .int .i64 ay, .int .i64 bx, .int .i64 b_y]) (dv_loads (l := [.int .i64 ax, .int .i64 ay, .int .i64 bx, .int .i64 b_y]) agt47 sz47 (T rfl rfl) H21 rfl) ?_
     have H22 := (e18.blk H16)
     refine lw_v (.agg #[.int .u64 (wv3 x), .int .u64 (wv2 x), .int .u64 (wv1 x), .int .u64 (wv0 x), .int .u64 (wv3 y), .int .u64 (wv2 y), .int .u64 (wv1 y), .int .u64 (wv0 y), .int .u64 (wv3 u), .int .u64 (wv2 u), .int .u64 (wv1 u), .int .u64 (wv0 u)]) (dv_loads (l := [.int .u64 (wv3 x), .int .u64 (wv2 x), .int .u64 (wv1 x), .int .u64 (wv0 x), .int .u64 (wv3 y), .int .u64 (wv2 y), .int .u64 (wv1 y), .int .u64 (wv0 y), .int .u64 (wv3 u), .int .u64 (wv2 u), .int .u64 (wv1 u), .int .u64 (wv0 u)]) agt37 sz37 (T rfl rfl) H22 rfl) ?_
     refine lw_e (oe_callf (vs := [.agg #[.int .i64 ax, .int .i64 ay, .int .i64 bx, .int .i64 b_y], .agg #[.int .u64 (wv3 x), .int .u64 (wv2 x), .int .u64 (wv1 x), .int .u64 (wv0 x), .int .u64 (wv3 y), .int .u64 (wv2 y), .int .u64 (wv1 y), .int .u64 (wv0 y), .int .u64 (wv3 u), .int .u64 (wv2 u), .int .u64 (wv1 u), .int .u64 (wv0 u)]]) co76 (ar2 (T rfl rfl) (T rfl rfl)) (sideOf_ok (ax := ax) (ay := ay) (bx := bx) (b_y := b_y) (x := x) (y := y) (u := u) fx_ fy_ fu_ (by omega)) ?_)
     rintro _ w23 ⟨rfl, e24⟩
     have E25 := below_ext E19 E19.size e24
     have := sideV_rg ax ay bx b_y x y u
     refine lw_v (.int .i64 (sideV ax ay bx b_y x y u)) (dv_assign (T rfl rfl)) ?_
     refine lw_nil ?_
     refine rk_ret Try.func25 (v := .int .i64 (sideV ax ay bx b_y x y u)) (res1 Try.results25 (rv_tmp rfl rfl)) ⟨_, rfl, ?_⟩
     exact ⟨(vi (by unfold sideR;  first | rw [if_pos ⟨by assumption, by assumption⟩] | rw [if_neg (by first | assumption | (intro hh; first | exact absurd hh (by assumption) | exact absurd hh.1 (by assumption) | exact absurd hh.2 (by assumption) | exact absurd hh.2.1 (by assumption) | exact absurd hh.2.2 (by assumption) | exact absurd hh.1.1 (by assumption) | exact absurd hh.1.2.1 (by assumption) | exact absurd hh.1.2.2 (by assumption)))])), E25⟩
   · refine rk_ct (T rfl (congrArg Value.bool (decide_eq_true hb20))) ?_
     refine rk_seq ?_
     refine rk_reg ?_
     refine lw_v (.int .i64 0) (dv_assign C) ?_
     refine lw_nil ?_
     refine rk_ret Try.func25 (v := .int .i64 0) (res1 Try.results25 (rv_tmp rfl rfl)) ⟨_, rfl, ?_⟩
     exact ⟨(vi (by unfold sideR;  first | rw [if_pos ⟨by assumption, by assumption⟩] | rw [if_neg (by first | assumption | (intro hh; first | exact absurd hh (by assumption) | exact absurd hh.1 (by assumption) | exact absurd hh.2 (by assumption) | exact absurd hh.2.1 (by assumption) | exact absurd hh.2.2 (by assumption) | exact absurd hh.1.1 (by assumption) | exact absurd hh.1.2.1 (by assumption) | exact absurd hh.1.2.2 (by assumption)))])), E19⟩
 · refine lw_no (d := 8) rfl rfl (congrArg Value.bool (decide_eq_true hb15)) ?_
   refine lw_no (d := 8) rfl rfl (congrArg Value.bool (decide_eq_true hb15)) ?_
   refine lw_no (d := 8) rfl rfl (congrArg Value.bool (decide_eq_true hb15)) ?_
   refine lw_v (.bool true) (dv_pick_t (T rfl (congrArg Value.bool (decide_eq_true hb15))) C) ?_
   refine lw_nil ?_
   refine rk_ct (T rfl rfl) ?_
   refine rk_seq ?_
   refine rk_reg ?_
   refine lw_v (.int .i64 0) (dv_assign C) ?_
   refine lw_nil ?_
   refine rk_ret Try.func25 (v := .int .i64 0) (res1 Try.results25 (rv_tmp rfl rfl)) ⟨_, rfl, ?_⟩
   exact ⟨(vi (by unfold sideR;  first | rw [if_pos ⟨by assumption, by assumption⟩] | rw [if_neg (by first | assumption | (intro hh; first | exact absurd hh (by assumption) | exact absurd hh.1 (by assumption) | exact absurd hh.2 (by assumption) | exact absurd hh.2.1 (by assumption) | exact absurd hh.2.2 (by assumption) | exact absurd hh.1.1 (by assumption) | exact absurd hh.1.2.1 (by assumption) | exact absurd hh.1.2.2 (by assumption)))])), E14⟩
end Go.Proofs.Ytdanhdbanfpghaa.W
