/- Walks and plain mathematics, packed by a program of this session: declarations that the rows reach. -/
import Derived.Test.YtdanhdbanfpghaaRows
import Derived.Test.YtdanhdbanfpghaaQSegsFaulta
set_option linter.unusedVariables false
set_option linter.unusedSimpArgs false
namespace Go.Proofs.Ytdanhdbanfpghaa.W
open Go Go.RowKit Go.Proofs.Ytdanhdbanfpghaa.Fw
attribute [local irreducible] RunK LW AW DV OE Ct
theorem agt2 : aggB Try.prog 2 = some false := by kernel_rfl
theorem agt41 : aggB Try.prog 41 = some true := by kernel_rfl
theorem agt43 : aggB Try.prog 43 = some true := by kernel_rfl
theorem agt45 : aggB Try.prog 45 = some true := by kernel_rfl
theorem agt47 : aggB Try.prog 47 = some true := by kernel_rfl
theorem co109 : callOk Try.prog 109 = true := by kernel_rfl
theorem co114 : callOk Try.prog 114 = true := by kernel_rfl
theorem co124 : callOk Try.prog 124 = true := by kernel_rfl
theorem co125 : callOk Try.prog 125 = true := by kernel_rfl
theorem co24 : callOk Try.prog 24 = true := by kernel_rfl
theorem co30 : callOk Try.prog 30 = true := by kernel_rfl
theorem co31 : callOk Try.prog 31 = true := by kernel_rfl
theorem co45 : callOk Try.prog 45 = true := by kernel_rfl
theorem co65 : callOk Try.prog 65 = true := by kernel_rfl
theorem co66 : callOk Try.prog 66 = true := by kernel_rfl
theorem co84 : callOk Try.prog 84 = true := by kernel_rfl
theorem co85 : callOk Try.prog 85 = true := by kernel_rfl
theorem eg45 : Try.prog.eqGuardType Try.prog.depth 45 = false := by kernel_rfl
theorem fl45 : flatB Try.prog 45 .i64 2 = true := by kernel_rfl
theorem fo41_0 : fieldOffB Try.prog 41 0 = some 0 := by kernel_rfl
theorem fo41_1 : fieldOffB Try.prog 41 1 = some 1 := by kernel_rfl
theorem fo43_0 : fieldOffB Try.prog 43 0 = some 0 := by kernel_rfl
theorem fo43_1 : fieldOffB Try.prog 43 1 = some 2 := by kernel_rfl
theorem fo45_0 : fieldOffB Try.prog 45 0 = some 0 := by kernel_rfl
theorem fo45_1 : fieldOffB Try.prog 45 1 = some 1 := by kernel_rfl
theorem fo47_0 : fieldOffB Try.prog 47 0 = some 0 := by kernel_rfl
theorem fo47_1 : fieldOffB Try.prog 47 1 = some 2 := by kernel_rfl
theorem in47 : (Try.prog.info? 47).map (fun i => (i.zero, i.size, i.bytes)) = some (some (.agg #[.int .i64 0, .int .i64 0, .int .i64 0, .int .i64 0]), 4, 32) := by kernel_rfl
theorem mo : Try.prog.follows .mixedOrders = true := by kernel_rfl
theorem sz2 : sizeB Try.prog 2 = some 1 := by kernel_rfl
theorem sz41 : sizeB Try.prog 41 = some 2 := by kernel_rfl
theorem sz43 : sizeB Try.prog 43 = some 4 := by kernel_rfl
theorem sz45 : sizeB Try.prog 45 = some 2 := by kernel_rfl
theorem sz47 : sizeB Try.prog 47 = some 4 := by kernel_rfl
theorem us22 : Try.prog.underlying 22 = some (.slice 43) := by kernel_rfl
theorem us25 : Try.prog.underlying 25 = some (.slice 47) := by kernel_rfl
theorem ze45 : zeroB Try.prog 45 = some #[.int .i64 0, .int .i64 0] := by kernel_rfl
theorem ze47 : zeroB Try.prog 47 = some #[.int .i64 0, .int .i64 0, .int .i64 0, .int .i64 0] := by kernel_rfl
set_option maxHeartbeats 1000000 in
theorem l1In_ok {w : World} {n lo hi : Int}   : Ct Try.prog 114 [.int .i64 n, .int .i64 lo, .int .i64 hi] w fun v w1 => v = .bool (decide (lo ≤ n ∧ n ≤ hi)) ∧ Ext w w1 := by
 refine ct_run (n := 15) Try.func114 rfl Try.ntmps114 rfl ?_
 have E0 : Below w.heap.size w w := Below.refl _ _
 refine rk_seq ?_
 refine rk_reg ?_
 refine lw_v (.bool false) (dv_assign C) ?_
 refine lw_nil ?_
 refine rk_seq ?_
 refine rk_reg ?_
 refine lw_v (.int .i64 n) (dv_move (T rfl rfl)) ?_
 refine lw_v (.int .i64 lo) (dv_move (T rfl rfl)) ?_
 refine lw_v (.bool (decide (lo ≤ n))) (dv_geq (a := n) (b := lo) (T rfl rfl) (T rfl rfl)) ?_
 refine lw_v (.bool (decide (lo ≤ n))) (dv_move (T rfl rfl)) ?_
 by_cases hb1 : lo ≤ n
 · refine lw_vy (.int .i64 n) (d := 10) rfl rfl (congrArg Value.bool (decide_eq_true hb1)) (dv_move (T rfl rfl)) ?_
   refine lw_vy (.int .i64 hi) (d := 10) rfl rfl (congrArg Value.bool (decide_eq_true hb1)) (dv_move (T rfl rfl)) ?_
   refine lw_vy (.bool (decide (n ≤ hi))) (d := 10) rfl rfl (congrArg Value.bool (decide_eq_true hb1)) (dv_leq (a := n) (b := hi) (T rfl rfl) (T rfl rfl)) ?_
   refine lw_v (.bool (decide (n ≤ hi))) (dv_pick_t (T rfl (congrArg Value.bool (decide_eq_true hb1))) (T rfl rfl)) ?_
   refine lw_v (.bool (decide (n ≤ hi))) (dv_assign (T rfl rfl)) ?_
   refine lw_nil ?_
   refine rk_ret Try.func114 (v := .bool (decide (n ≤ hi))) (res1 Try.results114 (rv_tmp rfl rfl)) ⟨_, rfl, ?_⟩
   exact ⟨(vb (by grind)), E0⟩
 · refine lw_no (d := 10) rfl rfl (congrArg Value.bool (decide_eq_false hb1)) ?_
   refine lw_no (d := 10) rfl rfl (congrArg Value.bool (decide_eq_false hb1)) ?_
   refine lw_no (d := 10) rfl rfl (congrArg Value.bool (decide_eq_false hb1)) ?_
   refine lw_v (.bool false) (dv_pick_f (T rfl (congrArg Value.bool (decide_eq_false hb1))) C) ?_
   refine lw_v (.bool false) (dv_assign (T rfl rfl)) ?_
   refine lw_nil ?_
   refine rk_ret Try.func114 (v := .bool false) (res1 Try.results114 (rv_tmp rfl rfl)) ⟨_, rfl, ?_⟩
   exact ⟨(vf (by grind)), E0⟩
set_option maxHeartbeats 1000000 in
theorem within_ok {w : World} {n lo hi : Int}   : Ct Try.prog 85 [.int .i64 n, .int .i64 lo, .int .i64 hi] w fun v w1 => v = .bool (decide (lo ≤ n ∧ n ≤ hi)) ∧ Ext w w1 := by
 refine ct_run (n := 15) Try.func85 rfl Try.ntmps85 rfl ?_
 have E0 : Below w.heap.size w w := Below.refl _ _
 refine rk_seq ?_
 refine rk_reg ?_
 refine lw_v (.bool false) (dv_assign C) ?_
 refine lw_nil ?_
 refine rk_seq ?_
 refine rk_reg ?_
 refine lw_v (.int .i64 lo) (dv_move (T rfl rfl)) ?_
 refine lw_v (.int .i64 n) (dv_move (T rfl rfl)) ?_
 refine lw_v (.bool (decide (lo ≤ n))) (dv_leq (a := lo) (b := n) (T rfl rfl) (T rfl rfl)) ?_
 refine lw_v (.bool (decide (lo ≤ n))) (dv_move (T rfl rfl)) ?_
 by_cases hb1 : lo ≤ n
 · refine lw_vy (.int .i64 n) (d := 10) rfl rfl (congrArg Value.bool (decide_eq_true hb1)) (dv_move (T rfl rfl)) ?_
   refine lw_vy (.int .i64 hi) (d := 10) rfl rfl (congrArg Value.bool (decide_eq_true hb1)) (dv_move (T rfl rfl)) ?_
   refine lw_vy (.bool (decide (n ≤ hi))) (d := 10) rfl rfl (congrArg Value.bool (decide_eq_true hb1)) (dv_leq (a := n) (b := hi) (T rfl rfl) (T rfl rfl)) ?_
   refine lw_v (.bool (decide (n ≤ hi))) (dv_pick_t (T rfl (congrArg Value.bool (decide_eq_true hb1))) (T rfl rfl)) ?_
   refine lw_v (.bool (decide (n ≤ hi))) (dv_assign (T rfl rfl)) ?_
   refine lw_nil ?_
   refine rk_ret Try.func85 (v := .bool (decide (n ≤ hi))) (res1 Try.results85 (rv_tmp rfl rfl)) ⟨_, rfl, ?_⟩
   exact ⟨(vb (by grind)), E0⟩
 · refine lw_no (d := 10) rfl rfl (congrArg Value.bool (decide_eq_false hb1)) ?_
   refine lw_no (d := 10) rfl rfl (congrArg Value.bool (decide_eq_false hb1)) ?_
   refine lw_no (d := 10) rfl rfl (congrArg Value.bool (decide_eq_false hb1)) ?_
   refine lw_v (.bool false) (dv_pick_f (T rfl (congrArg Value.bool (decide_eq_false hb1))) C) ?_
   refine lw_v (.bool false) (dv_assign (T rfl rfl)) ?_
   refine lw_nil ?_
   refine rk_ret Try.func85 (v := .bool false) (res1 Try.results85 (rv_tmp rfl rfl)) ⟨_, rfl, ?_⟩
   exact ⟨(vf (by grind)), E0⟩
set_option maxHeartbeats 1000000 in
theorem sSpotOk_ok {w : World} {x y : Int}   : Ct Try.prog 109 [.agg #[.int .i64 x, .int .i64 y]] w fun v w1 => v = .bool (decide (spotOk x y)) ∧ Ext w w1 := by
 refine ct_run (n := 11) Try.func109 rfl Try.ntmps109 rfl ?_
 have E0 : Below w.heap.size w w := Below.refl _ _
 refine rk_seq ?_
 refine rk_reg ?_
 refine lw_e (oe_box (v := .agg #[.int .i64 x, .int .i64 y]) (cs := #[.int .i64 x, .int .i64 y]) (T rfl rfl) rfl ?_)
 intro b1 w2 n3
 have N4 : w.heap.size ≤ b1 := n3.eq ▸ E0.size
 have E5 := below_ext E0 E0.size n3.ext
 refine lw_v (.bool false) (dv_assign C) ?_
 refine lw_nil ?_
 refine rk_seq ?_
 refine rk_reg ?_
 refine lw_v (.pointer (some ⟨b1, 0, none⟩)) (dv_fieldAddr (a := ⟨b1, 0, none⟩) (a' := ⟨b1, 0, none⟩) fo45_0 (T rfl rfl) rfl) ?_
 refine lw_v (.int .i64 x) (dv_load1 (b := b1) (o := 0) agt2 (T rfl rfl) n3.blk rfl) ?_
 refine lw_e (oe_callf (vs := [.int .i64 x, .int .i64 (-1000000), .int .i64 1000000]) co114 (ar3 (T rfl rfl) C C) (l1In_ok (n := x) (lo := -1000000) (hi := 1000000)  ) ?_)
 rintro _ w6 ⟨rfl, e7⟩
 have E8 := below_ext E5 E5.size e7
 refine lw_v (.bool (decide ((-1000000 : Int) ≤ x ∧ x ≤ (1000000 : Int)))) (dv_move (T rfl rfl)) ?_
 by_cases hb9 : (-1000000 : Int) ≤ x ∧ x ≤ (1000000 : Int)
 · refine lw_vy (.pointer (some ⟨b1, 1, none⟩)) (d := 6) rfl rfl (congrArg Value.bool (decide_eq_true hb9)) (dv_fieldAddr (a := ⟨b1, 0, none⟩) (a' := ⟨b1, 1, none⟩) fo45_1 (T rfl rfl) rfl) ?_
   have H10 := (e7.blk n3.blk)
   refine lw_vy (.int .i64 y) (d := 6) rfl rfl (congrArg Value.bool (decide_eq_true hb9)) (dv_load1 (b := b1) (o := 1) agt2 (T rfl rfl) H10 rfl) ?_
   refine lw_ey (d := 6) rfl rfl (congrArg Value.bool (decide_eq_true hb9)) (oe_callf (vs := [.int .i64 y, .int .i64 (-1000000), .int .i64 1000000]) co114 (ar3 (T rfl rfl) C C) (l1In_ok (n := y) (lo := -1000000) (hi := 1000000)  ) ?_)
   rintro _ w11 ⟨rfl, e12⟩
   have E13 := below_ext E8 E8.size e12
   refine lw_v (.bool (decide ((-1000000 : Int) ≤ y ∧ y ≤ (1000000 : Int)))) (dv_pick_t (T rfl (congrArg Value.bool (decide_eq_true hb9))) (T rfl rfl)) ?_
   refine lw_v (.bool (decide ((-1000000 : Int) ≤ y ∧ y ≤ (1000000 : Int)))) (dv_assign (T rfl rfl)) ?_
   refine lw_nil ?_
   refine rk_ret Try.func109 (v := .bool (decide ((-1000000 : Int) ≤ y ∧ y ≤ (1000000 : Int)))) (res1 Try.results109 (rv_tmp rfl rfl)) ⟨_, rfl, ?_⟩
   exact ⟨(vb (by unfold spotOk; grind)), E13⟩
 · refine lw_no (d := 6) rfl rfl (congrArg Value.bool (decide_eq_false hb9)) ?_
   refine lw_no (d := 6) rfl rfl (congrArg Value.bool (decide_eq_false hb9)) ?_
   refine lw_no (d := 6) rfl rfl (congrArg Value.bool (decide_eq_false hb9)) ?_
   refine lw_v (.bool false) (dv_pick_f (T rfl (congrArg Value.bool (decide_eq_false hb9))) C) ?_
   refine lw_v (.bool false) (dv_assign (T rfl rfl)) ?_
   refine lw_nil ?_
   refine rk_ret Try.func109 (v := .bool false) (res1 Try.results109 (rv_tmp rfl rfl)) ⟨_, rfl, ?_⟩
   exact ⟨(vf (by unfold spotOk; grind)), E8⟩
set_option maxHeartbeats 1000000 in
theorem iSpotOk_ok {w : World} {x y : Int}   : Ct Try.prog 31 [.agg #[.int .i64 x, .int .i64 y]] w fun v w1 => v = .bool (decide (spotOk x y)) ∧ Ext w w1 := by
 refine ct_run (n := 11) Try.func31 rfl Try.ntmps31 rfl ?_
 have E0 : Below w.heap.size w w := Below.refl _ _
 refine rk_seq ?_
 refine rk_reg ?_
 refine lw_e (oe_box (v := .agg #[.int .i64 x, .int .i64 y]) (cs := #[.int .i64 x, .int .i64 y]) (T rfl rfl) rfl ?_)
 intro b1 w2 n3
 have N4 : w.heap.size ≤ b1 := n3.eq ▸ E0.size
 have E5 := below_ext E0 E0.size n3.ext
 refine lw_v (.bool false) (dv_assign C) ?_
 refine lw_nil ?_
 refine rk_seq ?_
 refine rk_reg ?_
 refine lw_v (.pointer (some ⟨b1, 0, none⟩)) (dv_fieldAddr (a := ⟨b1, 0, none⟩) (a' := ⟨b1, 0, none⟩) fo45_0 (T rfl rfl) rfl) ?_
 refine lw_v (.int .i64 x) (dv_load1 (b := b1) (o := 0) agt2 (T rfl rfl) n3.blk rfl) ?_
 refine lw_e (oe_callf (vs := [.int .i64 x, .int .i64 (-1000000), .int .i64 1000000]) co85 (ar3 (T rfl rfl) C C) (within_ok (n := x) (lo := -1000000) (hi := 1000000)  ) ?_)
 rintro _ w6 ⟨rfl, e7⟩
 have E8 := below_ext E5 E5.size e7
 refine lw_v (.bool (decide ((-1000000 : Int) ≤ x ∧ x ≤ (1000000 : Int)))) (dv_move (T rfl rfl)) ?_
 by_cases hb9 : (-1000000 : Int) ≤ x ∧ x ≤ (1000000 : Int)
 · refine lw_vy (.pointer (some ⟨b1, 1, none⟩)) (d := 6) rfl rfl (congrArg Value.bool (decide_eq_true hb9)) (dv_fieldAddr (a := ⟨b1, 0, none⟩) (a' := ⟨b1, 1, none⟩) fo45_1 (T rfl rfl) rfl) ?_
   have H10 := (e7.blk n3.blk)
   refine lw_vy (.int .i64 y) (d := 6) rfl rfl (congrArg Value.bool (decide_eq_true hb9)) (dv_load1 (b := b1) (o := 1) agt2 (T rfl rfl) H10 rfl) ?_
   refine lw_ey (d := 6) rfl rfl (congrArg Value.bool (decide_eq_true hb9)) (oe_callf (vs := [.int .i64 y, .int .i64 (-1000000), .int .i64 1000000]) co85 (ar3 (T rfl rfl) C C) (within_ok (n := y) (lo := -1000000) (hi := 1000000)  ) ?_)
   rintro _ w11 ⟨rfl, e12⟩
   have E13 := below_ext E8 E8.size e12
   refine lw_v (.bool (decide ((-1000000 : Int) ≤ y ∧ y ≤ (1000000 : Int)))) (dv_pick_t (T rfl (congrArg Value.bool (decide_eq_true hb9))) (T rfl rfl)) ?_
   refine lw_v (.bool (decide ((-1000000 : Int) ≤ y ∧ y ≤ (1000000 : Int)))) (dv_assign (T rfl rfl)) ?_
   refine lw_nil ?_
   refine rk_ret Try.func31 (v := .bool (decide ((-1000000 : Int) ≤ y ∧ y ≤ (1000000 : Int)))) (res1 Try.results31 (rv_tmp rfl rfl)) ⟨_, rfl, ?_⟩
   exact ⟨(vb (by unfold spotOk; grind)), E13⟩
 · refine lw_no (d := 6) rfl rfl (congrArg Value.bool (decide_eq_false hb9)) ?_
   refine lw_no (d := 6) rfl rfl (congrArg Value.bool (decide_eq_false hb9)) ?_
   refine lw_no (d := 6) rfl rfl (congrArg Value.bool (decide_eq_false hb9)) ?_
   refine lw_v (.bool false) (dv_pick_f (T rfl (congrArg Value.bool (decide_eq_false hb9))) C) ?_
   refine lw_v (.bool false) (dv_assign (T rfl rfl)) ?_
   refine lw_nil ?_
   refine rk_ret Try.func31 (v := .bool false) (res1 Try.results31 (rv_tmp rfl rfl)) ⟨_, rfl, ?_⟩
   exact ⟨(vf (by unfold spotOk; grind)), E8⟩
set_option maxHeartbeats 1000000 in
theorem toSpot_ok {w : World} {x y : Int}   : Ct Try.prog 45 [.agg #[.int .i64 x, .int .i64 y]] w fun v w1 => v = .agg #[.int .i64 x, .int .i64 y] ∧ Ext w w1 := by
 refine ct_run (n := 11) Try.func45 rfl Try.ntmps45 rfl ?_
 have E0 : Below w.heap.size w w := Below.refl _ _
 refine rk_seq ?_
 refine rk_reg ?_
 refine lw_e (oe_box (v := .agg #[.int .i64 x, .int .i64 y]) (cs := #[.int .i64 x, .int .i64 y]) (T rfl rfl) rfl ?_)
 intro b1 w2 n3
 have N4 : w.heap.size ≤ b1 := n3.eq ▸ E0.size
 have E5 := below_ext E0 E0.size n3.ext
 refine lw_e (oe_alloc ze45 ?_)
 intro b6 w7 n8
 have N9 : w.heap.size ≤ b6 := n8.eq ▸ E5.size
 have : b1 < b6 := n8.eq ▸ lt_of_blk n3.blk
 have E10 := below_ext E5 E5.size n8.ext
 refine lw_nil ?_
 refine rk_seq ?_
 refine rk_reg ?_
 refine lw_e (oe_alloc ze45 ?_)
 intro b11 w12 n13
 have N14 : w.heap.size ≤ b11 := n13.eq ▸ E10.size
 have : b6 < b11 := n13.eq ▸ lt_of_blk n8.blk
 have E15 := below_ext E10 E10.size n13.ext
 refine lw_nil ?_
 refine rk_seq ?_
 refine rk_reg ?_
 refine lw_v (.pointer (some ⟨b1, 0, none⟩)) (dv_fieldAddr (a := ⟨b1, 0, none⟩) (a' := ⟨b1, 0, none⟩) fo41_0 (T rfl rfl) rfl) ?_
 have H16 := (n13.ext.blk (n8.ext.blk n3.blk))
 refine lw_v (.int .i64 x) (dv_load1 (b := b1) (o := 0) agt2 (T rfl rfl) H16 rfl) ?_
 refine lw_v (.pointer (some ⟨b11, 0, none⟩)) (dv_fieldAddr (a := ⟨b11, 0, none⟩) (a' := ⟨b11, 0, none⟩) fo45_0 (T rfl rfl) rfl) ?_
 refine lw_e (oe_store (v := .int .i64 x) (vs := [.int .i64 x]) (l := [.int .i64 x, .int .i64 0]) (T rfl rfl) (T rfl rfl) sz2 rfl rfl rfl n13.blk rfl ?_)
 intro w17 s18 H19
 have E20 := below_st E15 N14 s18
 refine lw_nil ?_
 refine rk_seq ?_
 refine rk_reg ?_
 refine lw_v (.pointer (some ⟨b1, 1, none⟩)) (dv_fieldAddr (a := ⟨b1, 0, none⟩) (a' := ⟨b1, 1, none⟩) fo41_1 (T rfl rfl) rfl) ?_
 have H21 := (s18.blk H16 (by omega))
 refine lw_v (.int .i64 y) (dv_load1 (b := b1) (o := 1) agt2 (T rfl rfl) H21 rfl) ?_
 refine lw_v (.pointer (some ⟨b11, 1, none⟩)) (dv_fieldAddr (a := ⟨b11, 0, none⟩) (a' := ⟨b11, 1, none⟩) fo45_1 (T rfl rfl) rfl) ?_
 refine lw_e (oe_store (v := .int .i64 y) (vs := [.int .i64 y]) (l := [.int .i64 x, .int .i64 y]) (T rfl rfl) (T rfl rfl) sz2 rfl rfl rfl H19 rfl ?_)
 intro w22 s23 H24
 have E25 := below_st E20 N14 s23
 refine lw_nil ?_
 refine rk_seq ?_
 refine rk_reg ?_
 refine lw_v (.agg #[.int .i64 x, .int .i64 y]) (dv_loads (l := [.int .i64 x, .int .i64 y]) agt45 sz45 (T rfl rfl) H24 rfl) ?_
 have H26 := (s23.blk (s18.blk (n13.ext.blk n8.blk) (by omega)) (by omega))
 refine lw_e (oe_store (v := .agg #[.int .i64 x, .int .i64 y]) (vs := [.int .i64 x, .int .i64 y]) (l := [.int .i64 x, .int .i64 y]) (T rfl rfl) (T rfl rfl) sz45 rfl rfl rfl H26 rfl ?_)
 intro w27 s28 H29
 have E30 := below_st E25 N9 s28
 refine lw_nil ?_
 refine rk_ret Try.func45 (v := .agg #[.int .i64 x, .int .i64 y]) (res1 Try.results45 (rv_cells (l := [.int .i64 x, .int .i64 y]) agt45 sz45 rfl rfl H29 rfl)) ⟨_, rfl, ?_⟩
 exact ⟨rfl, E30⟩
set_option maxHeartbeats 1000000 in
theorem l4Less_ok {w : World} {ax ay bx b_y : Int}   : Ct Try.prog 124 [.agg #[.int .i64 ax, .int .i64 ay], .agg #[.int .i64 bx, .int .i64 b_y]] w fun v w1 => v = .bool (decide (spotLt ax ay bx b_y)) ∧ Ext w w1 := by
 refine ct_run (n := 24) Try.func124 rfl Try.ntmps124 rfl ?_
 have E0 : Below w.heap.size w w := Below.refl _ _
 refine rk_seq ?_
 refine rk_reg ?_
 refine lw_e (oe_box (v := .agg #[.int .i64 ax, .int .i64 ay]) (cs := #[.int .i64 ax, .int .i64 ay]) (T rfl rfl) rfl ?_)
 intro b1 w2 n3
 have N4 : w.heap.size ≤ b1 := n3.eq ▸ E0.size
 have E5 := below_ext E0 E0.size n3.ext
 refine lw_e (oe_box (v := .agg #[.int .i64 bx, .int .i64 b_y]) (cs := #[.int .i64 bx, .int .i64 b_y]) (T rfl rfl) rfl ?_)
 intro b6 w7 n8
 have N9 : w.heap.size ≤ b6 := n8.eq ▸ E5.size
 have : b1 < b6 := n8.eq ▸ lt_of_blk n3.blk
 have E10 := below_ext E5 E5.size n8.ext
 refine lw_v (.bool false) (dv_assign C) ?_
 refine lw_nil ?_
 refine rk_seq ?_
 refine rk_reg ?_
 refine lw_v (.pointer (some ⟨b1, 0, none⟩)) (dv_fieldAddr (a := ⟨b1, 0, none⟩) (a' := ⟨b1, 0, none⟩) fo45_0 (T rfl rfl) rfl) ?_
 have H11 := (n8.ext.blk n3.blk)
 refine lw_v (.int .i64 ax) (dv_load1 (b := b1) (o := 0) agt2 (T rfl rfl) H11 rfl) ?_
 refine lw_v (.pointer (some ⟨b6, 0, none⟩)) (dv_fieldAddr (a := ⟨b6, 0, none⟩) (a' := ⟨b6, 0, none⟩) fo45_0 (T rfl rfl) rfl) ?_
 refine lw_v (.int .i64 bx) (dv_load1 (b := b6) (o := 0) agt2 (T rfl rfl) n8.blk rfl) ?_
 refine lw_v (.bool (decide (ax < bx))) (dv_lss (a := ax) (b := bx) (T rfl rfl) (T rfl rfl)) ?_
 refine lw_v (.bool (decide (ax < bx))) (dv_move (T rfl rfl)) ?_
 by_cases hb12 : ax < bx
 · refine lw_no (d := 10) rfl rfl (congrArg Value.bool (decide_eq_true hb12)) ?_
   refine lw_no (d := 10) rfl rfl (congrArg Value.bool (decide_eq_true hb12)) ?_
   refine lw_no (d := 10) rfl rfl (congrArg Value.bool (decide_eq_true hb12)) ?_
   refine lw_no (d := 10) rfl rfl (congrArg Value.bool (decide_eq_true hb12)) ?_
   refine lw_no (d := 10) rfl rfl (congrArg Value.bool (decide_eq_true hb12)) ?_
   refine lw_no (d := 10) rfl rfl (congrArg Value.bool (decide_eq_true hb12)) ?_
   refine lw_nou (d := 16) rfl rfl ?_
   refine lw_nou (d := 16) rfl rfl ?_
   refine lw_nou (d := 16) rfl rfl ?_
   refine lw_nou (d := 16) rfl rfl ?_
   refine lw_nou (d := 16) rfl rfl ?_
   refine lw_no (d := 10) rfl rfl (congrArg Value.bool (decide_eq_true hb12)) ?_
   refine lw_v (.bool true) (dv_pick_t (T rfl (congrArg Value.bool (decide_eq_true hb12))) C) ?_
   refine lw_v (.bool true) (dv_assign (T rfl rfl)) ?_
   refine lw_nil ?_
   refine rk_ret Try.func124 (v := .bool true) (res1 Try.results124 (rv_tmp rfl rfl)) ⟨_, rfl, ?_⟩
   exact ⟨(vt (by unfold spotLt; grind)), E10⟩
 · refine lw_vy (.pointer (some ⟨b1, 0, none⟩)) (d := 10) rfl rfl (congrArg Value.bool (decide_eq_false hb12)) (dv_fieldAddr (a := ⟨b1, 0, none⟩) (a' := ⟨b1, 0, none⟩) fo45_0 (T rfl rfl) rfl) ?_
   refine lw_vy (.int .i64 ax) (d := 10) rfl rfl (congrArg Value.bool (decide_eq_false hb12)) (dv_load1 (b := b1) (o := 0) agt2 (T rfl rfl) H11 rfl) ?_
   refine lw_vy (.pointer (some ⟨b6, 0, none⟩)) (d := 10) rfl rfl (congrArg Value.bool (decide_eq_false hb12)) (dv_fieldAddr (a := ⟨b6, 0, none⟩) (a' := ⟨b6, 0, none⟩) fo45_0 (T rfl rfl) rfl) ?_
   refine lw_vy (.int .i64 bx) (d := 10) rfl rfl (congrArg Value.bool (decide_eq_false hb12)) (dv_load1 (b := b6) (o := 0) agt2 (T rfl rfl) n8.blk rfl) ?_
   refine lw_vy (.bool (decide (ax = bx))) (d := 10) rfl rfl (congrArg Value.bool (decide_eq_false hb12)) (dv_eql (a := ax) (b := bx) (T rfl rfl) (T rfl rfl)) ?_
   refine lw_vy (.bool (decide (ax = bx))) (d := 10) rfl rfl (congrArg Value.bool (decide_eq_false hb12)) (dv_move (T rfl rfl)) ?_
   by_cases hb13 : ax = bx
   · refine lw_vy (.pointer (some ⟨b1, 1, none⟩)) (d := 16) rfl rfl (congrArg Value.bool (decide_eq_true hb13)) (dv_fieldAddr (a := ⟨b1, 0, none⟩) (a' := ⟨b1, 1, none⟩) fo45_1 (T rfl rfl) rfl) ?_
     refine lw_vy (.int .i64 ay) (d := 16) rfl rfl (congrArg Value.bool (decide_eq_true hb13)) (dv_load1 (b := b1) (o := 1) agt2 (T rfl rfl) H11 rfl) ?_
     refine lw_vy (.pointer (some ⟨b6, 1, none⟩)) (d := 16) rfl rfl (congrArg Value.bool (decide_eq_true hb13)) (dv_fieldAddr (a := ⟨b6, 0, none⟩) (a' := ⟨b6, 1, none⟩) fo45_1 (T rfl rfl) rfl) ?_
     refine lw_vy (.int .i64 b_y) (d := 16) rfl rfl (congrArg Value.bool (decide_eq_true hb13)) (dv_load1 (b := b6) (o := 1) agt2 (T rfl rfl) n8.blk rfl) ?_
     refine lw_vy (.bool (decide (ay < b_y))) (d := 16) rfl rfl (congrArg Value.bool (decide_eq_true hb13)) (dv_lss (a := ay) (b := b_y) (T rfl rfl) (T rfl rfl)) ?_
     refine lw_vy (.bool (decide (ay < b_y))) (d := 10) rfl rfl (congrArg Value.bool (decide_eq_false hb12)) (dv_pick_t (T rfl (congrArg Value.bool (decide_eq_true hb13))) (T rfl rfl)) ?_
     refine lw_v (.bool (decide (ay < b_y))) (dv_pick_f (T rfl (congrArg Value.bool (decide_eq_false hb12))) (T rfl rfl)) ?_
     refine lw_v (.bool (decide (ay < b_y))) (dv_assign (T rfl rfl)) ?_
     refine lw_nil ?_
     refine rk_ret Try.func124 (v := .bool (decide (ay < b_y))) (res1 Try.results124 (rv_tmp rfl rfl)) ⟨_, rfl, ?_⟩
     exact ⟨(vb (by unfold spotLt; grind)), E10⟩
   · refine lw_no (d := 16) rfl rfl (congrArg Value.bool (decide_eq_false hb13)) ?_
     refine lw_no (d := 16) rfl rfl (congrArg Value.bool (decide_eq_false hb13)) ?_
     refine lw_no (d := 16) rfl rfl (congrArg Value.bool (decide_eq_false hb13)) ?_
     refine lw_no (d := 16) rfl rfl (congrArg Value.bool (decide_eq_false hb13)) ?_
     refine lw_no (d := 16) rfl rfl (congrArg Value.bool (decide_eq_false hb13)) ?_
     refine lw_vy (.bool false) (d := 10) rfl rfl (congrArg Value.bool (decide_eq_false hb12)) (dv_pick_f (T rfl (congrArg Value.bool (decide_eq_false hb13))) C) ?_
     refine lw_v (.bool false) (dv_pick_f (T rfl (congrArg Value.bool (decide_eq_false hb12))) (T rfl rfl)) ?_
     refine lw_v (.bool false) (dv_assign (T rfl rfl)) ?_
     refine lw_nil ?_
     refine rk_ret Try.func124 (v := .bool false) (res1 Try.results124 (rv_tmp rfl rfl)) ⟨_, rfl, ?_⟩
     exact ⟨(vf (by unfold spotLt; grind)), E10⟩
set_option maxHeartbeats 1000000 in
theorem cmpSpots_ok {w : World} {ax ay bx b_y : Int}   : Ct Try.prog 84 [.agg #[.int .i64 ax, .int .i64 ay], .agg #[.int .i64 bx, .int .i64 b_y]] w fun v w1 => v = .int .i64 (cmpS ax ay bx b_y) ∧ Ext w w1 := by
 refine ct_run (n := 29) Try.func84 rfl Try.ntmps84 rfl ?_
 have E0 : Below w.heap.size w w := Below.refl _ _
 refine rk_seq ?_
 refine rk_reg ?_
 refine lw_e (oe_box (v := .agg #[.int .i64 ax, .int .i64 ay]) (cs := #[.int .i64 ax, .int .i64 ay]) (T rfl rfl) rfl ?_)
 intro b1 w2 n3
 have N4 : w.heap.size ≤ b1 := n3.eq ▸ E0.size
 have E5 := below_ext E0 E0.size n3.ext
 refine lw_e (oe_box (v := .agg #[.int .i64 bx, .int .i64 b_y]) (cs := #[.int .i64 bx, .int .i64 b_y]) (T rfl rfl) rfl ?_)
 intro b6 w7 n8
 have N9 : w.heap.size ≤ b6 := n8.eq ▸ E5.size
 have : b1 < b6 := n8.eq ▸ lt_of_blk n3.blk
 have E10 := below_ext E5 E5.size n8.ext
 refine lw_v (.int .i64 0) (dv_assign C) ?_
 refine lw_nil ?_
 refine rk_seq ?_
 refine rk_block ?_
 refine rk_seq ?_
 refine rk_reg ?_
 have H11 := (n8.ext.blk n3.blk)
 refine lw_v (.agg #[.int .i64 ax, .int .i64 ay]) (dv_loads (l := [.int .i64 ax, .int .i64 ay]) agt45 sz45 (T rfl rfl) H11 rfl) ?_
 refine lw_v (.agg #[.int .i64 bx, .int .i64 b_y]) (dv_loads (l := [.int .i64 bx, .int .i64 b_y]) agt45 sz45 (T rfl rfl) n8.blk rfl) ?_
 refine lw_v (.bool (decide (([ax, ay] : List Int) = [bx, b_y]))) (dv_eqls (k := .i64) (la := [ax, ay]) (lb := [bx, b_y]) fl45 eg45 (T rfl rfl) (T rfl rfl) rfl rfl) ?_
 refine lw_v (.bool (decide (([ax, ay] : List Int) = [bx, b_y]))) (dv_assign (T rfl rfl)) ?_
 refine lw_nil ?_
 by_cases hb12 : ([ax, ay] : List Int) = [bx, b_y]
 · refine rk_ct (T rfl (congrArg Value.bool (decide_eq_true hb12))) ?_
   refine rk_seq ?_
   refine rk_reg ?_
   refine lw_v (.int .i64 0) (dv_assign C) ?_
   refine lw_nil ?_
   refine rk_ret Try.func84 (v := .int .i64 0) (res1 Try.results84 (rv_tmp rfl rfl)) ⟨_, rfl, ?_⟩
   exact ⟨(vi (by unfold cmpS spotLt; grind)), E10⟩
 · refine rk_cf (T rfl (congrArg Value.bool (decide_eq_false hb12))) ?_
   refine rk_seq ?_
   refine rk_reg ?_
   refine lw_v (.pointer (some ⟨b1, 0, none⟩)) (dv_fieldAddr (a := ⟨b1, 0, none⟩) (a' := ⟨b1, 0, none⟩) fo45_0 (T rfl rfl) rfl) ?_
   refine lw_v (.int .i64 ax) (dv_load1 (b := b1) (o := 0) agt2 (T rfl rfl) H11 rfl) ?_
   refine lw_v (.pointer (some ⟨b6, 0, none⟩)) (dv_fieldAddr (a := ⟨b6, 0, none⟩) (a' := ⟨b6, 0, none⟩) fo45_0 (T rfl rfl) rfl) ?_
   refine lw_v (.int .i64 bx) (dv_load1 (b := b6) (o := 0) agt2 (T rfl rfl) n8.blk rfl) ?_
   refine lw_v (.bool (decide (ax < bx))) (dv_lss (a := ax) (b := bx) (T rfl rfl) (T rfl rfl)) ?_
   refine lw_v (.bool (decide (ax < bx))) (dv_move (T rfl rfl)) ?_
   by_cases hb13 : ax < bx
   · refine lw_no (d := 15) rfl rfl (congrArg Value.bool (decide_eq_true hb13)) ?_
     refine lw_no (d := 15) rfl rfl (congrArg Value.bool (decide_eq_true hb13)) ?_
     refine lw_no (d := 15) rfl rfl (congrArg Value.bool (decide_eq_true hb13)) ?_
     refine lw_no (d := 15) rfl rfl (congrArg Value.bool (decide_eq_true hb13)) ?_
     refine lw_no (d := 15) rfl rfl (congrArg Value.bool (decide_eq_true hb13)) ?_
     refine lw_no (d := 15) rfl rfl (congrArg Value.bool (decide_eq_true hb13)) ?_
     refine lw_nou (d := 21) rfl rfl ?_
     refine lw_nou (d := 21) rfl rfl ?_
     refine lw_nou (d := 21) rfl rfl ?_
     refine lw_nou (d := 21) rfl rfl ?_
     refine lw_nou (d := 21) rfl rfl ?_
     refine lw_no (d := 15) rfl rfl (congrArg Value.bool (decide_eq_true hb13)) ?_
     refine lw_v (.bool true) (dv_pick_t (T rfl (congrArg Value.bool (decide_eq_true hb13))) C) ?_
     refine lw_v (.bool true) (dv_assign (T rfl rfl)) ?_
     refine lw_nil ?_
     refine rk_ct (T rfl rfl) ?_
     refine rk_seq ?_
     refine rk_reg ?_
     refine lw_v (.int .i64 (-1)) (dv_assign C) ?_
     refine lw_nil ?_
     refine rk_ret Try.func84 (v := .int .i64 (-1)) (res1 Try.results84 (rv_tmp rfl rfl)) ⟨_, rfl, ?_⟩
     exact ⟨(vi (by unfold cmpS spotLt; grind)), E10⟩
   · refine lw_vy (.pointer (some ⟨b1, 0, none⟩)) (d := 15) rfl rfl (congrArg Value.bool (decide_eq_false hb13)) (dv_fieldAddr (a := ⟨b1, 0, none⟩) (a' := ⟨b1, 0, none⟩) fo45_0 (T rfl rfl) rfl) ?_
     refine lw_vy (.int .i64 ax) (d := 15) rfl rfl (congrArg Value.bool (decide_eq_false hb13)) (dv_load1 (b := b1) (o := 0) agt2 (T rfl rfl) H11 rfl) ?_
     refine lw_vy (.pointer (some ⟨b6, 0, none⟩)) (d := 15) rfl rfl (congrArg Value.bool (decide_eq_false hb13)) (dv_fieldAddr (a := ⟨b6, 0, none⟩) (a' := ⟨b6, 0, none⟩) fo45_0 (T rfl rfl) rfl) ?_
     refine lw_vy (.int .i64 bx) (d := 15) rfl rfl (congrArg Value.bool (decide_eq_false hb13)) (dv_load1 (b := b6) (o := 0) agt2 (T rfl rfl) n8.blk rfl) ?_
     refine lw_vy (.bool (decide (ax = bx))) (d := 15) rfl rfl (congrArg Value.bool (decide_eq_false hb13)) (dv_eql (a := ax) (b := bx) (T rfl rfl) (T rfl rfl)) ?_
     refine lw_vy (.bool (decide (ax = bx))) (d := 15) rfl rfl (congrArg Value.bool (decide_eq_false hb13)) (dv_move (T rfl rfl)) ?_
     by_cases hb14 : ax = bx
     · refine lw_vy (.pointer (some ⟨b1, 1, none⟩)) (d := 21) rfl rfl (congrArg Value.bool (decide_eq_true hb14)) (dv_fieldAddr (a := ⟨b1, 0, none⟩) (a' := ⟨b1, 1, none⟩) fo45_1 (T rfl rfl) rfl) ?_
       refine lw_vy (.int .i64 ay) (d := 21) rfl rfl (congrArg Value.bool (decide_eq_true hb14)) (dv_load1 (b := b1) (o := 1) agt2 (T rfl rfl) H11 rfl) ?_
       refine lw_vy (.pointer (some ⟨b6, 1, none⟩)) (d := 21) rfl rfl (congrArg Value.bool (decide_eq_true hb14)) (dv_fieldAddr (a := ⟨b6, 0, none⟩) (a' := ⟨b6, 1, none⟩) fo45_1 (T rfl rfl) rfl) ?_
       refine lw_vy (.int .i64 b_y) (d := 21) rfl rfl (congrArg Value.bool (decide_eq_true hb14)) (dv_load1 (b := b6) (o := 1) agt2 (T rfl rfl) n8.blk rfl) ?_
       refine lw_vy (.bool (decide (ay < b_y))) (d := 21) rfl rfl (congrArg Value.bool (decide_eq_true hb14)) (dv_lss (a := ay) (b := b_y) (T rfl rfl) (T rfl rfl)) ?_
       refine lw_vy (.bool (decide (ay < b_y))) (d := 15) rfl rfl (congrArg Value.bool (decide_eq_false hb13)) (dv_pick_t (T rfl (congrArg Value.bool (decide_eq_true hb14))) (T rfl rfl)) ?_
       refine lw_v (.bool (decide (ay < b_y))) (dv_pick_f (T rfl (congrArg Value.bool (decide_eq_false hb13))) (T rfl rfl)) ?_
       refine lw_v (.bool (decide (ay < b_y))) (dv_assign (T rfl rfl)) ?_
       refine lw_nil ?_
       by_cases hb15 : ay < b_y
       · refine rk_ct (T rfl (congrArg Value.bool (decide_eq_true hb15))) ?_
         refine rk_seq ?_
         refine rk_reg ?_
         refine lw_v (.int .i64 (-1)) (dv_assign C) ?_
         refine lw_nil ?_
         refine rk_ret Try.func84 (v := .int .i64 (-1)) (res1 Try.results84 (rv_tmp rfl rfl)) ⟨_, rfl, ?_⟩
         exact ⟨(vi (by unfold cmpS spotLt; grind)), E10⟩
       · refine rk_cf (T rfl (congrArg Value.bool (decide_eq_false hb15))) ?_
         refine rk_skip ?_
         refine rk_inBlock ?_
         refine rk_seq ?_
         refine rk_reg ?_
         refine lw_v (.int .i64 1) (dv_assign C) ?_
         refine lw_nil ?_
         refine rk_ret Try.func84 (v := .int .i64 1) (res1 Try.results84 (rv_tmp rfl rfl)) ⟨_, rfl, ?_⟩
         exact ⟨(vi (by unfold cmpS spotLt; grind)), E10⟩
     · refine lw_no (d := 21) rfl rfl (congrArg Value.bool (decide_eq_false hb14)) ?_
       refine lw_no (d := 21) rfl rfl (congrArg Value.bool (decide_eq_false hb14)) ?_
       refine lw_no (d := 21) rfl rfl (congrArg Value.bool (decide_eq_false hb14)) ?_
       refine lw_no (d := 21) rfl rfl (congrArg Value.bool (decide_eq_false hb14)) ?_
       refine lw_no (d := 21) rfl rfl (congrArg Value.bool (decide_eq_false hb14)) ?_
       refine lw_vy (.bool false) (d := 15) rfl rfl (congrArg Value.bool (decide_eq_false hb13)) (dv_pick_f (T rfl (congrArg Value.bool (decide_eq_false hb14))) C) ?_
       refine lw_v (.bool false) (dv_pick_f (T rfl (congrArg Value.bool (decide_eq_false hb13))) (T rfl rfl)) ?_
       refine lw_v (.bool false) (dv_assign (T rfl rfl)) ?_
       refine lw_nil ?_
       refine rk_cf (T rfl rfl) ?_
       refine rk_skip ?_
       refine rk_inBlock ?_
       refine rk_seq ?_
       refine rk_reg ?_
       refine lw_v (.int .i64 1) (dv_assign C) ?_
       refine lw_nil ?_
       refine rk_ret Try.func84 (v := .int .i64 1) (res1 Try.results84 (rv_tmp rfl rfl)) ⟨_, rfl, ?_⟩
       exact ⟨(vi (by unfold cmpS spotLt; grind)), E10⟩
set_option maxHeartbeats 1000000 in
theorem sSegOk_ok {w : World} {ax ay bx b_y : Int}   : Ct Try.prog 65 [.agg #[.int .i64 ax, .int .i64 ay, .int .i64 bx, .int .i64 b_y]] w fun v w1 => v = .bool (decide (segOk ax ay bx b_y)) ∧ Ext w w1 := by
 refine ct_run (n := 18) Try.func65 rfl Try.ntmps65 rfl ?_
 have E0 : Below w.heap.size w w := Below.refl _ _
 refine rk_seq ?_
 refine rk_reg ?_
 refine lw_e (oe_box (v := .agg #[.int .i64 ax, .int .i64 ay, .int .i64 bx, .int .i64 b_y]) (cs := #[.int .i64 ax, .int .i64 ay, .int .i64 bx, .int .i64 b_y]) (T rfl rfl) rfl ?_)
 intro b1 w2 n3
 have N4 : w.heap.size ≤ b1 := n3.eq ▸ E0.size
 have E5 := below_ext E0 E0.size n3.ext
 refine lw_v (.bool false) (dv_assign C) ?_
 refine lw_nil ?_
 refine rk_seq ?_
 refine rk_reg ?_
 refine lw_v (.pointer (some ⟨b1, 0, none⟩)) (dv_fieldAddr (a := ⟨b1, 0, none⟩) (a' := ⟨b1, 0, none⟩) fo47_0 (T rfl rfl) rfl) ?_
 refine lw_v (.agg #[.int .i64 ax, .int .i64 ay]) (dv_loads (l := [.int .i64 ax, .int .i64 ay]) agt45 sz45 (T rfl rfl) n3.blk rfl) ?_
 refine lw_e (oe_callf (vs := [.agg #[.int .i64 ax, .int .i64 ay]]) co109 (ar1 (T rfl rfl)) (sSpotOk_ok (x := ax) (y := ay)  ) ?_)
 rintro _ w6 ⟨rfl, e7⟩
 have E8 := below_ext E5 E5.size e7
 refine lw_v (.bool (decide (spotOk ax ay))) (dv_move (T rfl rfl)) ?_
 by_cases hb9 : spotOk ax ay
 · refine lw_vy (.pointer (some ⟨b1, 2, none⟩)) (d := 6) rfl rfl (congrArg Value.bool (decide_eq_true hb9)) (dv_fieldAddr (a := ⟨b1, 0, none⟩) (a' := ⟨b1, 2, none⟩) fo47_1 (T rfl rfl) rfl) ?_
   have H10 := (e7.blk n3.blk)
   refine lw_vy (.agg #[.int .i64 bx, .int .i64 b_y]) (d := 6) rfl rfl (congrArg Value.bool (decide_eq_true hb9)) (dv_loads (l := [.int .i64 bx, .int .i64 b_y]) agt45 sz45 (T rfl rfl) H10 rfl) ?_
   refine lw_ey (d := 6) rfl rfl (congrArg Value.bool (decide_eq_true hb9)) (oe_callf (vs := [.agg #[.int .i64 bx, .int .i64 b_y]]) co109 (ar1 (T rfl rfl)) (sSpotOk_ok (x := bx) (y := b_y)  ) ?_)
   rintro _ w11 ⟨rfl, e12⟩
   have E13 := below_ext E8 E8.size e12
   refine lw_v (.bool (decide (spotOk bx b_y))) (dv_pick_t (T rfl (congrArg Value.bool (decide_eq_true hb9))) (T rfl rfl)) ?_
   refine lw_v (.bool (decide (spotOk bx b_y))) (dv_move (T rfl rfl)) ?_
   by_cases hb14 : spotOk bx b_y
   · refine lw_vy (.pointer (some ⟨b1, 0, none⟩)) (d := 11) rfl rfl (congrArg Value.bool (decide_eq_true hb14)) (dv_fieldAddr (a := ⟨b1, 0, none⟩) (a' := ⟨b1, 0, none⟩) fo47_0 (T rfl rfl) rfl) ?_
     have H15 := (e12.blk H10)
     refine lw_vy (.agg #[.int .i64 ax, .int .i64 ay]) (d := 11) rfl rfl (congrArg Value.bool (decide_eq_true hb14)) (dv_loads (l := [.int .i64 ax, .int .i64 ay]) agt45 sz45 (T rfl rfl) H15 rfl) ?_
     refine lw_vy (.pointer (some ⟨b1, 2, none⟩)) (d := 11) rfl rfl (congrArg Value.bool (decide_eq_true hb14)) (dv_fieldAddr (a := ⟨b1, 0, none⟩) (a' := ⟨b1, 2, none⟩) fo47_1 (T rfl rfl) rfl) ?_
     refine lw_vy (.agg #[.int .i64 bx, .int .i64 b_y]) (d := 11) rfl rfl (congrArg Value.bool (decide_eq_true hb14)) (dv_loads (l := [.int .i64 bx, .int .i64 b_y]) agt45 sz45 (T rfl rfl) H15 rfl) ?_
     refine lw_ey (d := 11) rfl rfl (congrArg Value.bool (decide_eq_true hb14)) (oe_callf (vs := [.agg #[.int .i64 ax, .int .i64 ay], .agg #[.int .i64 bx, .int .i64 b_y]]) co124 (ar2 (T rfl rfl) (T rfl rfl)) (l4Less_ok (ax := ax) (ay := ay) (bx := bx) (b_y := b_y)  ) ?_)
     rintro _ w16 ⟨rfl, e17⟩
     have E18 := below_ext E13 E13.size e17
     refine lw_v (.bool (decide (spotLt ax ay bx b_y))) (dv_pick_t (T rfl (congrArg Value.bool (decide_eq_true hb14))) (T rfl rfl)) ?_
     refine lw_v (.bool (decide (spotLt ax ay bx b_y))) (dv_assign (T rfl rfl)) ?_
     refine lw_nil ?_
     refine rk_ret Try.func65 (v := .bool (decide (spotLt ax ay bx b_y))) (res1 Try.results65 (rv_tmp rfl rfl)) ⟨_, rfl, ?_⟩
     exact ⟨(vb (by grind [segOk, cmpS_neg])), E18⟩
   · refine lw_no (d := 11) rfl rfl (congrArg Value.bool (decide_eq_false hb14)) ?_
     refine lw_no (d := 11) rfl rfl (congrArg Value.bool (decide_eq_false hb14)) ?_
     refine lw_no (d := 11) rfl rfl (congrArg Value.bool (decide_eq_false hb14)) ?_
     refine lw_no (d := 11) rfl rfl (congrArg Value.bool (decide_eq_false hb14)) ?_
     refine lw_no (d := 11) rfl rfl (congrArg Value.bool (decide_eq_false hb14)) ?_
     refine lw_v (.bool false) (dv_pick_f (T rfl (congrArg Value.bool (decide_eq_false hb14))) C) ?_
     refine lw_v (.bool false) (dv_assign (T rfl rfl)) ?_
     refine lw_nil ?_
     refine rk_ret Try.func65 (v := .bool false) (res1 Try.results65 (rv_tmp rfl rfl)) ⟨_, rfl, ?_⟩
     exact ⟨(vf (by grind [segOk, cmpS_neg])), E13⟩
 · refine lw_no (d := 6) rfl rfl (congrArg Value.bool (decide_eq_false hb9)) ?_
   refine lw_no (d := 6) rfl rfl (congrArg Value.bool (decide_eq_false hb9)) ?_
   refine lw_no (d := 6) rfl rfl (congrArg Value.bool (decide_eq_false hb9)) ?_
   refine lw_v (.bool false) (dv_pick_f (T rfl (congrArg Value.bool (decide_eq_false hb9))) C) ?_
   refine lw_v (.bool false) (dv_move (T rfl rfl)) ?_
   refine lw_no (d := 11) rfl rfl (rfl) ?_
   refine lw_no (d := 11) rfl rfl (rfl) ?_
   refine lw_no (d := 11) rfl rfl (rfl) ?_
   refine lw_no (d := 11) rfl rfl (rfl) ?_
   refine lw_no (d := 11) rfl rfl (rfl) ?_
   refine lw_v (.bool false) (dv_pick_f (T rfl rfl) C) ?_
   refine lw_v (.bool false) (dv_assign (T rfl rfl)) ?_
   refine lw_nil ?_
   refine rk_ret Try.func65 (v := .bool false) (res1 Try.results65 (rv_tmp rfl rfl)) ⟨_, rfl, ?_⟩
   exact ⟨(vf (by grind [segOk, cmpS_neg])), E8⟩
set_option maxHeartbeats 1000000 in
theorem iSegOk_ok {w : World} {ax ay bx b_y : Int}   : Ct Try.prog 30 [.agg #[.int .i64 ax, .int .i64 ay, .int .i64 bx, .int .i64 b_y]] w fun v w1 => v = .bool (decide (segOk ax ay bx b_y)) ∧ Ext w w1 := by
 refine ct_run (n := 19) Try.func30 rfl Try.ntmps30 rfl ?_
 have E0 : Below w.heap.size w w := Below.refl _ _
 refine rk_seq ?_
 refine rk_reg ?_
 refine lw_e (oe_box (v := .agg #[.int .i64 ax, .int .i64 ay, .int .i64 bx, .int .i64 b_y]) (cs := #[.int .i64 ax, .int .i64 ay, .int .i64 bx, .int .i64 b_y]) (T rfl rfl) rfl ?_)
 intro b1 w2 n3
 have N4 : w.heap.size ≤ b1 := n3.eq ▸ E0.size
 have E5 := below_ext E0 E0.size n3.ext
 refine lw_v (.bool false) (dv_assign C) ?_
 refine lw_nil ?_
 refine rk_seq ?_
 refine rk_reg ?_
 refine lw_v (.pointer (some ⟨b1, 0, none⟩)) (dv_fieldAddr (a := ⟨b1, 0, none⟩) (a' := ⟨b1, 0, none⟩) fo47_0 (T rfl rfl) rfl) ?_
 refine lw_v (.agg #[.int .i64 ax, .int .i64 ay]) (dv_loads (l := [.int .i64 ax, .int .i64 ay]) agt45 sz45 (T rfl rfl) n3.blk rfl) ?_
 refine lw_e (oe_callf (vs := [.agg #[.int .i64 ax, .int .i64 ay]]) co31 (ar1 (T rfl rfl)) (iSpotOk_ok (x := ax) (y := ay)  ) ?_)
 rintro _ w6 ⟨rfl, e7⟩
 have E8 := below_ext E5 E5.size e7
 refine lw_v (.bool (decide (spotOk ax ay))) (dv_move (T rfl rfl)) ?_
 by_cases hb9 : spotOk ax ay
 · refine lw_vy (.pointer (some ⟨b1, 2, none⟩)) (d := 6) rfl rfl (congrArg Value.bool (decide_eq_true hb9)) (dv_fieldAddr (a := ⟨b1, 0, none⟩) (a' := ⟨b1, 2, none⟩) fo47_1 (T rfl rfl) rfl) ?_
   have H10 := (e7.blk n3.blk)
   refine lw_vy (.agg #[.int .i64 bx, .int .i64 b_y]) (d := 6) rfl rfl (congrArg Value.bool (decide_eq_true hb9)) (dv_loads (l := [.int .i64 bx, .int .i64 b_y]) agt45 sz45 (T rfl rfl) H10 rfl) ?_
   refine lw_ey (d := 6) rfl rfl (congrArg Value.bool (decide_eq_true hb9)) (oe_callf (vs := [.agg #[.int .i64 bx, .int .i64 b_y]]) co31 (ar1 (T rfl rfl)) (iSpotOk_ok (x := bx) (y := b_y)  ) ?_)
   rintro _ w11 ⟨rfl, e12⟩
   have E13 := below_ext E8 E8.size e12
   refine lw_v (.bool (decide (spotOk bx b_y))) (dv_pick_t (T rfl (congrArg Value.bool (decide_eq_true hb9))) (T rfl rfl)) ?_
   refine lw_v (.bool (decide (spotOk bx b_y))) (dv_move (T rfl rfl)) ?_
   by_cases hb14 : spotOk bx b_y
   · refine lw_vy (.pointer (some ⟨b1, 0, none⟩)) (d := 11) rfl rfl (congrArg Value.bool (decide_eq_true hb14)) (dv_fieldAddr (a := ⟨b1, 0, none⟩) (a' := ⟨b1, 0, none⟩) fo47_0 (T rfl rfl) rfl) ?_
     have H15 := (e12.blk H10)
     refine lw_vy (.agg #[.int .i64 ax, .int .i64 ay]) (d := 11) rfl rfl (congrArg Value.bool (decide_eq_true hb14)) (dv_loads (l := [.int .i64 ax, .int .i64 ay]) agt45 sz45 (T rfl rfl) H15 rfl) ?_
     refine lw_vy (.pointer (some ⟨b1, 2, none⟩)) (d := 11) rfl rfl (congrArg Value.bool (decide_eq_true hb14)) (dv_fieldAddr (a := ⟨b1, 0, none⟩) (a' := ⟨b1, 2, none⟩) fo47_1 (T rfl rfl) rfl) ?_
     refine lw_vy (.agg #[.int .i64 bx, .int .i64 b_y]) (d := 11) rfl rfl (congrArg Value.bool (decide_eq_true hb14)) (dv_loads (l := [.int .i64 bx, .int .i64 b_y]) agt45 sz45 (T rfl rfl) H15 rfl) ?_
     refine lw_ey (d := 11) rfl rfl (congrArg Value.bool (decide_eq_true hb14)) (oe_callf (vs := [.agg #[.int .i64 ax, .int .i64 ay], .agg #[.int .i64 bx, .int .i64 b_y]]) co84 (ar2 (T rfl rfl) (T rfl rfl)) (cmpSpots_ok (ax := ax) (ay := ay) (bx := bx) (b_y := b_y)  ) ?_)
     rintro _ w16 ⟨rfl, e17⟩
     have E18 := below_ext E13 E13.size e17
     refine lw_vy (.bool (decide ((cmpS ax ay bx b_y) < 0))) (d := 11) rfl rfl (congrArg Value.bool (decide_eq_true hb14)) (dv_lss (a := cmpS ax ay bx b_y) (b := 0) (T rfl rfl) C) ?_
     refine lw_v (.bool (decide ((cmpS ax ay bx b_y) < 0))) (dv_pick_t (T rfl (congrArg Value.bool (decide_eq_true hb14))) (T rfl rfl)) ?_
     refine lw_v (.bool (decide ((cmpS ax ay bx b_y) < 0))) (dv_assign (T rfl rfl)) ?_
     refine lw_nil ?_
     refine rk_ret Try.func30 (v := .bool (decide ((cmpS ax ay bx b_y) < 0))) (res1 Try.results30 (rv_tmp rfl rfl)) ⟨_, rfl, ?_⟩
     exact ⟨(vb (by grind [segOk, cmpS_neg])), E18⟩
   · refine lw_no (d := 11) rfl rfl (congrArg Value.bool (decide_eq_false hb14)) ?_
     refine lw_no (d := 11) rfl rfl (congrArg Value.bool (decide_eq_false hb14)) ?_
     refine lw_no (d := 11) rfl rfl (congrArg Value.bool (decide_eq_false hb14)) ?_
     refine lw_no (d := 11) rfl rfl (congrArg Value.bool (decide_eq_false hb14)) ?_
     refine lw_no (d := 11) rfl rfl (congrArg Value.bool (decide_eq_false hb14)) ?_
     refine lw_no (d := 11) rfl rfl (congrArg Value.bool (decide_eq_false hb14)) ?_
     refine lw_v (.bool false) (dv_pick_f (T rfl (congrArg Value.bool (decide_eq_false hb14))) C) ?_
     refine lw_v (.bool false) (dv_assign (T rfl rfl)) ?_
     refine lw_nil ?_
     refine rk_ret Try.func30 (v := .bool false) (res1 Try.results30 (rv_tmp rfl rfl)) ⟨_, rfl, ?_⟩
     exact ⟨(vf (by grind [segOk, cmpS_neg])), E13⟩
 · refine lw_no (d := 6) rfl rfl (congrArg Value.bool (decide_eq_false hb9)) ?_
   refine lw_no (d := 6) rfl rfl (congrArg Value.bool (decide_eq_false hb9)) ?_
   refine lw_no (d := 6) rfl rfl (congrArg Value.bool (decide_eq_false hb9)) ?_
   refine lw_v (.bool false) (dv_pick_f (T rfl (congrArg Value.bool (decide_eq_false hb9))) C) ?_
   refine lw_v (.bool false) (dv_move (T rfl rfl)) ?_
   refine lw_no (d := 11) rfl rfl (rfl) ?_
   refine lw_no (d := 11) rfl rfl (rfl) ?_
   refine lw_no (d := 11) rfl rfl (rfl) ?_
   refine lw_no (d := 11) rfl rfl (rfl) ?_
   refine lw_no (d := 11) rfl rfl (rfl) ?_
   refine lw_no (d := 11) rfl rfl (rfl) ?_
   refine lw_v (.bool false) (dv_pick_f (T rfl rfl) C) ?_
   refine lw_v (.bool false) (dv_assign (T rfl rfl)) ?_
   refine lw_nil ?_
   refine rk_ret Try.func30 (v := .bool false) (res1 Try.results30 (rv_tmp rfl rfl)) ⟨_, rfl, ?_⟩
   exact ⟨(vf (by grind [segOk, cmpS_neg])), E8⟩
set_option maxHeartbeats 1000000 in
theorem toSeg_ok {w : World} {ax ay bx b_y : Int}   : Ct Try.prog 24 [.agg #[.int .i64 ax, .int .i64 ay, .int .i64 bx, .int .i64 b_y]] w fun v w1 => v = .agg #[.int .i64 ax, .int .i64 ay, .int .i64 bx, .int .i64 b_y] ∧ Ext w w1 := by
 refine ct_run (n := 13) Try.func24 rfl Try.ntmps24 rfl ?_
 have E0 : Below w.heap.size w w := Below.refl _ _
 refine rk_seq ?_
 refine rk_reg ?_
 refine lw_e (oe_box (v := .agg #[.int .i64 ax, .int .i64 ay, .int .i64 bx, .int .i64 b_y]) (cs := #[.int .i64 ax, .int .i64 ay, .int .i64 bx, .int .i64 b_y]) (T rfl rfl) rfl ?_)
 intro b1 w2 n3
 have N4 : w.heap.size ≤ b1 := n3.eq ▸ E0.size
 have E5 := below_ext E0 E0.size n3.ext
 refine lw_e (oe_alloc ze47 ?_)
 intro b6 w7 n8
 have N9 : w.heap.size ≤ b6 := n8.eq ▸ E5.size
 have : b1 < b6 := n8.eq ▸ lt_of_blk n3.blk
 have E10 := below_ext E5 E5.size n8.ext
 refine lw_nil ?_
 refine rk_seq ?_
 refine rk_reg ?_
 refine lw_e (oe_alloc ze47 ?_)
 intro b11 w12 n13
 have N14 : w.heap.size ≤ b11 := n13.eq ▸ E10.size
 have : b6 < b11 := n13.eq ▸ lt_of_blk n8.blk
 have E15 := below_ext E10 E10.size n13.ext
 refine lw_nil ?_
 refine rk_seq ?_
 refine rk_reg ?_
 refine lw_v (.pointer (some ⟨b1, 0, none⟩)) (dv_fieldAddr (a := ⟨b1, 0, none⟩) (a' := ⟨b1, 0, none⟩) fo43_0 (T rfl rfl) rfl) ?_
 have H16 := (n13.ext.blk (n8.ext.blk n3.blk))
 refine lw_v (.agg #[.int .i64 ax, .int .i64 ay]) (dv_loads (l := [.int .i64 ax, .int .i64 ay]) agt41 sz41 (T rfl rfl) H16 rfl) ?_
 refine lw_e (oe_callf (vs := [.agg #[.int .i64 ax, .int .i64 ay]]) co45 (ar1 (T rfl rfl)) (toSpot_ok (x := ax) (y := ay)  ) ?_)
 rintro _ w17 ⟨rfl, e18⟩
 have E19 := below_ext E15 E15.size e18
 refine lw_v (.pointer (some ⟨b11, 0, none⟩)) (dv_fieldAddr (a := ⟨b11, 0, none⟩) (a' := ⟨b11, 0, none⟩) fo47_0 (T rfl rfl) rfl) ?_
 have H20 := (e18.blk n13.blk)
 refine lw_e (oe_store (v := .agg #[.int .i64 ax, .int .i64 ay]) (vs := [.int .i64 ax, .int .i64 ay]) (l := [.int .i64 ax, .int .i64 ay, .int .i64 0, .int .i64 0]) (T rfl rfl) (T rfl rfl) sz45 rfl rfl rfl H20 rfl ?_)
 intro w21 s22 H23
 have E24 := below_st E19 N14 s22
 refine lw_nil ?_
 refine rk_seq ?_
 refine rk_reg ?_
 refine lw_v (.pointer (some ⟨b1, 2, none⟩)) (dv_fieldAddr (a := ⟨b1, 0, none⟩) (a' := ⟨b1, 2, none⟩) fo43_1 (T rfl rfl) rfl) ?_
 have H25 := (s22.blk (e18.blk H16) (by omega))
 refine lw_v (.agg #[.int .i64 bx, .int .i64 b_y]) (dv_loads (l := [.int .i64 bx, .int .i64 b_y]) agt41 sz41 (T rfl rfl) H25 rfl) ?_
 refine lw_e (oe_callf (vs := [.agg #[.int .i64 bx, .int .i64 b_y]]) co45 (ar1 (T rfl rfl)) (toSpot_ok (x := bx) (y := b_y)  ) ?_)
 rintro _ w26 ⟨rfl, e27⟩
 have E28 := below_ext E24 E24.size e27
 refine lw_v (.pointer (some ⟨b11, 2, none⟩)) (dv_fieldAddr (a := ⟨b11, 0, none⟩) (a' := ⟨b11, 2, none⟩) fo47_1 (T rfl rfl) rfl) ?_
 have H29 := (e27.blk H23)
 refine lw_e (oe_store (v := .agg #[.int .i64 bx, .int .i64 b_y]) (vs := [.int .i64 bx, .int .i64 b_y]) (l := [.int .i64 ax, .int .i64 ay, .int .i64 bx, .int .i64 b_y]) (T rfl rfl) (T rfl rfl) sz45 rfl rfl rfl H29 rfl ?_)
 intro w30 s31 H32
 have E33 := below_st E28 N14 s31
 refine lw_nil ?_
 refine rk_seq ?_
 refine rk_reg ?_
 refine lw_v (.agg #[.int .i64 ax, .int .i64 ay, .int .i64 bx, .int .i64 b_y]) (dv_loads (l := [.int .i64 ax, .int .i64 ay, .int .i64 bx, .int .i64 b_y]) agt47 sz47 (T rfl rfl) H32 rfl) ?_
 have H34 := (s31.blk (e27.blk (s22.blk (e18.blk (n13.ext.blk n8.blk)) (by omega))) (by omega))
 refine lw_e (oe_store (v := .agg #[.int .i64 ax, .int .i64 ay, .int .i64 bx, .int .i64 b_y]) (vs := [.int .i64 ax, .int .i64 ay, .int .i64 bx, .int .i64 b_y]) (l := [.int .i64 ax, .int .i64 ay, .int .i64 bx, .int .i64 b_y]) (T rfl rfl) (T rfl rfl) sz47 rfl rfl rfl H34 rfl ?_)
 intro w35 s36 H37
 have E38 := below_st E33 N9 s36
 refine lw_nil ?_
 refine rk_ret Try.func24 (v := .agg #[.int .i64 ax, .int .i64 ay, .int .i64 bx, .int .i64 b_y]) (res1 Try.results24 (rv_cells (l := [.int .i64 ax, .int .i64 ay, .int .i64 bx, .int .i64 b_y]) agt47 sz47 rfl rfl H37 rfl)) ⟨_, rfl, ?_⟩
 exact ⟨rfl, E38⟩
set_option maxHeartbeats 1000000 in
theorem eqSpot_ok {w : World} {ax ay bx b_y : Int}   : Ct Try.prog 125 [.agg #[.int .i64 ax, .int .i64 ay], .agg #[.int .i64 bx, .int .i64 b_y]] w fun v w1 => v = .bool (decide (ax = bx ∧ ay = b_y)) ∧ Ext w w1 := by
 refine ct_run (n := 15) Try.func125 rfl Try.ntmps125 rfl ?_
 have E0 : Below w.heap.size w w := Below.refl _ _
 refine rk_seq ?_
 refine rk_reg ?_
 refine lw_e (oe_box (v := .agg #[.int .i64 ax, .int .i64 ay]) (cs := #[.int .i64 ax, .int .i64 ay]) (T rfl rfl) rfl ?_)
 intro b1 w2 n3
 have N4 : w.heap.size ≤ b1 := n3.eq ▸ E0.size
 have E5 := below_ext E0 E0.size n3.ext
 refine lw_e (oe_box (v := .agg #[.int .i64 bx, .int .i64 b_y]) (cs := #[.int .i64 bx, .int .i64 b_y]) (T rfl rfl) rfl ?_)
 intro b6 w7 n8
 have N9 : w.heap.size ≤ b6 := n8.eq ▸ E5.size
 have : b1 < b6 := n8.eq ▸ lt_of_blk n3.blk
 have E10 := below_ext E5 E5.size n8.ext
 refine lw_v (.bool false) (dv_assign C) ?_
 refine lw_nil ?_
 refine rk_seq ?_
 refine rk_seq ?_
 refine rk_reg ?_
 refine lw_v (.pointer (some ⟨b1, 0, none⟩)) (dv_fieldAddr (a := ⟨b1, 0, none⟩) (a' := ⟨b1, 0, none⟩) fo45_0 (T rfl rfl) rfl) ?_
 have H11 := (n8.ext.blk n3.blk)
 refine lw_v (.int .i64 ax) (dv_load1 (b := b1) (o := 0) agt2 (T rfl rfl) H11 rfl) ?_
 refine lw_v (.pointer (some ⟨b6, 0, none⟩)) (dv_fieldAddr (a := ⟨b6, 0, none⟩) (a' := ⟨b6, 0, none⟩) fo45_0 (T rfl rfl) rfl) ?_
 refine lw_v (.int .i64 bx) (dv_load1 (b := b6) (o := 0) agt2 (T rfl rfl) n8.blk rfl) ?_
 refine lw_v (.bool (decide (ax ≠ bx))) (dv_neq (a := ax) (b := bx) (T rfl rfl) (T rfl rfl)) ?_
 refine lw_nil ?_
 by_cases hb12 : ax ≠ bx
 · refine rk_ct (T rfl (congrArg Value.bool (decide_eq_true hb12))) ?_
   refine rk_seq ?_
   refine rk_reg ?_
   refine lw_v (.bool false) (dv_assign C) ?_
   refine lw_nil ?_
   refine rk_ret Try.func125 (v := .bool false) (res1 Try.results125 (rv_tmp rfl rfl)) ⟨_, rfl, ?_⟩
   exact ⟨(vf (by grind)), E10⟩
 · refine rk_cf (T rfl (congrArg Value.bool (decide_eq_false hb12))) ?_
   refine rk_skip ?_
   refine rk_seq ?_
   refine rk_seq ?_
   refine rk_reg ?_
   refine lw_v (.pointer (some ⟨b1, 1, none⟩)) (dv_fieldAddr (a := ⟨b1, 0, none⟩) (a' := ⟨b1, 1, none⟩) fo45_1 (T rfl rfl) rfl) ?_
   refine lw_v (.int .i64 ay) (dv_load1 (b := b1) (o := 1) agt2 (T rfl rfl) H11 rfl) ?_
   refine lw_v (.pointer (some ⟨b6, 1, none⟩)) (dv_fieldAddr (a := ⟨b6, 0, none⟩) (a' := ⟨b6, 1, none⟩) fo45_1 (T rfl rfl) rfl) ?_
   refine lw_v (.int .i64 b_y) (dv_load1 (b := b6) (o := 1) agt2 (T rfl rfl) n8.blk rfl) ?_
   refine lw_v (.bool (decide (ay ≠ b_y))) (dv_neq (a := ay) (b := b_y) (T rfl rfl) (T rfl rfl)) ?_
   refine lw_nil ?_
   by_cases hb13 : ay ≠ b_y
   · refine rk_ct (T rfl (congrArg Value.bool (decide_eq_true hb13))) ?_
     refine rk_seq ?_
     refine rk_reg ?_
     refine lw_v (.bool false) (dv_assign C) ?_
     refine lw_nil ?_
     refine rk_ret Try.func125 (v := .bool false) (res1 Try.results125 (rv_tmp rfl rfl)) ⟨_, rfl, ?_⟩
     exact ⟨(vf (by grind)), E10⟩
   · refine rk_cf (T rfl (congrArg Value.bool (decide_eq_false hb13))) ?_
     refine rk_skip ?_
     refine rk_seq ?_
     refine rk_reg ?_
     refine lw_v (.bool true) (dv_assign C) ?_
     refine lw_nil ?_
     refine rk_ret Try.func125 (v := .bool true) (res1 Try.results125 (rv_tmp rfl rfl)) ⟨_, rfl, ?_⟩
     exact ⟨(vt (by grind)), E10⟩
set_option maxHeartbeats 1000000 in
theorem eqSeg_ok {w : World} {ax ay bx b_y cx cy ex ey : Int}   : Ct Try.prog 66 [.agg #[.int .i64 ax, .int .i64 ay, .int .i64 bx, .int .i64 b_y], .agg #[.int .i64 cx, .int .i64 cy, .int .i64 ex, .int .i64 ey]] w fun v w1 => v = .bool (decide ((ax = cx ∧ ay = cy) ∧ bx = ex ∧ b_y = ey)) ∧ Ext w w1 := by
 refine ct_run (n := 17) Try.func66 rfl Try.ntmps66 rfl ?_
 have E0 : Below w.heap.size w w := Below.refl _ _
 refine rk_seq ?_
 refine rk_reg ?_
 refine lw_e (oe_box (v := .agg #[.int .i64 ax, .int .i64 ay, .int .i64 bx, .int .i64 b_y]) (cs := #[.int .i64 ax, .int .i64 ay, .int .i64 bx, .int .i64 b_y]) (T rfl rfl) rfl ?_)
 intro b1 w2 n3
 have N4 : w.heap.size ≤ b1 := n3.eq ▸ E0.size
 have E5 := below_ext E0 E0.size n3.ext
 refine lw_e (oe_box (v := .agg #[.int .i64 cx, .int .i64 cy, .int .i64 ex, .int .i64 ey]) (cs := #[.int .i64 cx, .int .i64 cy, .int .i64 ex, .int .i64 ey]) (T rfl rfl) rfl ?_)
 intro b6 w7 n8
 have N9 : w.heap.size ≤ b6 := n8.eq ▸ E5.size
 have : b1 < b6 := n8.eq ▸ lt_of_blk n3.blk
 have E10 := below_ext E5 E5.size n8.ext
 refine lw_v (.bool false) (dv_assign C) ?_
 refine lw_nil ?_
 refine rk_seq ?_
 refine rk_seq ?_
 refine rk_reg ?_
 refine lw_v (.pointer (some ⟨b1, 0, none⟩)) (dv_fieldAddr (a := ⟨b1, 0, none⟩) (a' := ⟨b1, 0, none⟩) fo47_0 (T rfl rfl) rfl) ?_
 have H11 := (n8.ext.blk n3.blk)
 refine lw_v (.agg #[.int .i64 ax, .int .i64 ay]) (dv_loads (l := [.int .i64 ax, .int .i64 ay]) agt45 sz45 (T rfl rfl) H11 rfl) ?_
 refine lw_v (.pointer (some ⟨b6, 0, none⟩)) (dv_fieldAddr (a := ⟨b6, 0, none⟩) (a' := ⟨b6, 0, none⟩) fo47_0 (T rfl rfl) rfl) ?_
 refine lw_v (.agg #[.int .i64 cx, .int .i64 cy]) (dv_loads (l := [.int .i64 cx, .int .i64 cy]) agt45 sz45 (T rfl rfl) n8.blk rfl) ?_
 refine lw_e (oe_callf (vs := [.agg #[.int .i64 ax, .int .i64 ay], .agg #[.int .i64 cx, .int .i64 cy]]) co125 (ar2 (T rfl rfl) (T rfl rfl)) (eqSpot_ok (ax := ax) (ay := ay) (bx := cx) (b_y := cy)  ) ?_)
 rintro _ w12 ⟨rfl, e13⟩
 have E14 := below_ext E10 E10.size e13
 refine lw_v (.bool (decide (¬ (ax = cx ∧ ay = cy)))) (dv_notd (p := ax = cx ∧ ay = cy) (T rfl rfl)) ?_
 refine lw_nil ?_
 by_cases hb15 : ax = cx ∧ ay = cy
 · refine rk_cf (T rfl (congrArg Value.bool (decide_eq_false (not_not_intro hb15)))) ?_
   refine rk_skip ?_
   refine rk_seq ?_
   refine rk_seq ?_
   refine rk_reg ?_
   refine lw_v (.pointer (some ⟨b1, 2, none⟩)) (dv_fieldAddr (a := ⟨b1, 0, none⟩) (a' := ⟨b1, 2, none⟩) fo47_1 (T rfl rfl) rfl) ?_
   have H16 := (e13.blk H11)
   refine lw_v (.agg #[.int .i64 bx, .int .i64 b_y]) (dv_loads (l := [.int .i64 bx, .int .i64 b_y]) agt45 sz45 (T rfl rfl) H16 rfl) ?_
   refine lw_v (.pointer (some ⟨b6, 2, none⟩)) (dv_fieldAddr (a := ⟨b6, 0, none⟩) (a' := ⟨b6, 2, none⟩) fo47_1 (T rfl rfl) rfl) ?_
   have H17 := (e13.blk n8.blk)
   refine lw_v (.agg #[.int .i64 ex, .int .i64 ey]) (dv_loads (l := [.int .i64 ex, .int .i64 ey]) agt45 sz45 (T rfl rfl) H17 rfl) ?_
   refine lw_e (oe_callf (vs := [.agg #[.int .i64 bx, .int .i64 b_y], .agg #[.int .i64 ex, .int .i64 ey]]) co125 (ar2 (T rfl rfl) (T rfl rfl)) (eqSpot_ok (ax := bx) (ay := b_y) (bx := ex) (b_y := ey)  ) ?_)
   rintro _ w18 ⟨rfl, e19⟩
   have E20 := below_ext E14 E14.size e19
   refine lw_v (.bool (decide (¬ (bx = ex ∧ b_y = ey)))) (dv_notd (p := bx = ex ∧ b_y = ey) (T rfl rfl)) ?_
   refine lw_nil ?_
   by_cases hb21 : bx = ex ∧ b_y = ey
   · refine rk_cf (T rfl (congrArg Value.bool (decide_eq_false (not_not_intro hb21)))) ?_
     refine rk_skip ?_
     refine rk_seq ?_
     refine rk_reg ?_
     refine lw_v (.bool true) (dv_assign C) ?_
     refine lw_nil ?_
     refine rk_ret Try.func66 (v := .bool true) (res1 Try.results66 (rv_tmp rfl rfl)) ⟨_, rfl, ?_⟩
     exact ⟨(vt (by grind)), E20⟩
   · refine rk_ct (T rfl (congrArg Value.bool (decide_eq_true hb21))) ?_
     refine rk_seq ?_
     refine rk_reg ?_
     refine lw_v (.bool false) (dv_assign C) ?_
     refine lw_nil ?_
     refine rk_ret Try.func66 (v := .bool false) (res1 Try.results66 (rv_tmp rfl rfl)) ⟨_, rfl, ?_⟩
     exact ⟨(vf (by grind)), E20⟩
 · refine rk_ct (T rfl (congrArg Value.bool (decide_eq_true hb15))) ?_
   refine rk_seq ?_
   refine rk_reg ?_
   refine lw_v (.bool false) (dv_assign C) ?_
   refine lw_nil ?_
   refine rk_ret Try.func66 (v := .bool false) (res1 Try.results66 (rv_tmp rfl rfl)) ⟨_, rfl, ?_⟩
   exact ⟨(vf (by grind)), E14⟩
set_option maxHeartbeats 1000000 in
theorem szSegS_ok {w : World} {A : Option Addr} {l c : Nat} {n : Int} (hl : l ≤ 9223372036854775807) (hn : 0 ≤ n ∧ n ≤ 1048576) : Ct Try.prog 15 [.slice A l c, .int .i64 n] w fun v w1 => v = .int .i64 (szV l n) ∧ Ext w w1 := by
 refine ct_run (n := 12) Try.func15 rfl Try.ntmps15 rfl ?_
 have E0 : Below w.heap.size w w := Below.refl _ _
 refine rk_seq ?_
 refine rk_reg ?_
 refine lw_v (.int .i64 0) (dv_assign C) ?_
 refine lw_nil ?_
 refine rk_seq ?_
 refine rk_reg ?_
 refine lw_v (.int .i64 n) (dv_move (T rfl rfl)) ?_
 refine lw_v (.slice A l c) (dv_move (T rfl rfl)) ?_
 refine lw_v (.int .i64 ((l : Int))) (dv_len (ad := A) (l := l) (c := c) us22 (T rfl rfl)) ?_
 refine lw_v (.int .i64 (n - ((l : Int)))) (dv_sub (a := n) (b := (l : Int)) (z := n - ((l : Int))) (T rfl rfl) (T rfl rfl) (wr_i64 (by omega) (by omega))) ?_
 refine lw_v (.int .i64 (n - ((l : Int)))) (dv_assign (T rfl rfl)) ?_
 refine lw_nil ?_
 refine rk_seq ?_
 refine rk_seq ?_
 refine rk_reg ?_
 refine lw_v (.int .i64 (n - ((l : Int)))) (dv_move (T rfl rfl)) ?_
 refine lw_v (.bool (decide ((n - ((l : Int))) < 0))) (dv_lss (a := n - ((l : Int))) (b := 0) (T rfl rfl) C) ?_
 refine lw_nil ?_
 by_cases hb1 : (n - ((l : Int))) < 0
 · refine rk_ct (T rfl (congrArg Value.bool (decide_eq_true hb1))) ?_
   refine rk_seq ?_
   refine rk_reg ?_
   refine lw_v (.int .i64 (-1)) (dv_assign C) ?_
   refine lw_nil ?_
   refine rk_ret Try.func15 (v := .int .i64 (-1)) (res1 Try.results15 (rv_tmp rfl rfl)) ⟨_, rfl, ?_⟩
   exact ⟨(vi (by unfold szV; first | rw [if_pos (by omega)] | rw [if_neg (by omega)])), E0⟩
 · refine rk_cf (T rfl (congrArg Value.bool (decide_eq_false hb1))) ?_
   refine rk_skip ?_
   refine rk_seq ?_
   refine rk_reg ?_
   refine lw_v (.int .i64 (n - ((l : Int)))) (dv_move (T rfl rfl)) ?_
   refine lw_v (.int .i64 (n - ((l : Int)))) (dv_assign (T rfl rfl)) ?_
   refine lw_nil ?_
   refine rk_ret Try.func15 (v := .int .i64 (n - ((l : Int)))) (res1 Try.results15 (rv_tmp rfl rfl)) ⟨_, rfl, ?_⟩
   exact ⟨(vi (by unfold szV; first | rw [if_pos (by omega)] | rw [if_neg (by omega)])), E0⟩
set_option maxHeartbeats 1000000 in
theorem toSegS_ok {w : World} {A : Option Addr} {l c : Nat} {xs : List Int} (hx : RdI w .i64 A xs) (hxl : xs.length = l * 4) (hxb : l ≤ 1048576) : Ct Try.prog 17 [.slice A l c] w fun v w1 => ∃ b, v = .slice (some ⟨b, 0, none⟩) l l ∧ Ext w w1 ∧ w1.heap[b]? = some (.cells (xs.map (Value.int .i64)).toArray 47) ∧ w.heap.size ≤ b := by
 refine ct_run (n := 23) Try.func17 rfl Try.ntmps17 rfl ?_
 have E0 : Below w.heap.size w w := Below.refl _ _
 refine rk_seq ?_
 refine rk_reg ?_
 refine lw_v (.slice none 0 0) (dv_assign C) ?_
 refine lw_nil ?_
 refine rk_seq ?_
 refine rk_reg ?_
 refine lw_v (.slice A l c) (dv_move (T rfl rfl)) ?_
 refine lw_v (.int .i64 ((l : Int))) (dv_len (ad := A) (l := l) (c := c) us22 (T rfl rfl)) ?_
 refine lw_e (oe_makeM (l := l) (j := (l : Int)) (m := 4) (k := .i64) us25 in47 rfl (by decide) (T rfl rfl) (T rfl rfl) (by omega) (by first | omega | (simp; done) | (simp; omega)) (by first | omega | (simp; done) | (simp; omega)) ?_)
 intro b1 w2 n3
 have N4 : w.heap.size ≤ b1 := n3.eq ▸ E0.size
 have E5 := below_ext E0 E0.size n3.ext
 refine lw_v (.slice (some ⟨b1, 0, none⟩) l l) (dv_assign (T rfl rfl)) ?_
 refine lw_nil ?_
 refine rk_seq ?_
 refine rk_seq ?_
 refine rk_reg ?_
 refine lw_v (.int .i64 0) (dv_assign C) ?_
 refine lw_nil ?_
 refine rk_block ?_
 refine rk_loop (fun dm_ fr wl => ∃ (i : Nat) (M : List Int), dm_ = l - i ∧ fr 0 = .slice A l c ∧ fr 2 = .slice none 0 0 ∧ fr 3 = .slice (some ⟨b1, 0, none⟩) l l ∧ fr 4 = .int .i64 ((i : Int)) ∧ Below w.heap.size w wl ∧ wl.heap[b1]? = some (.cells (M.map (Value.int .i64)).toArray 47) ∧ (i ≤ l) ∧ (M.length = l * 4) ∧ (M.take (i * 4) = xs.take (i * 4))) (l - 0) ⟨0, (List.replicate (l * 4) (0 : Int)), rfl, rfl, rfl, rfl, (vi (by omega)), E5, n3.blk, (Nat.zero_le _), (by simp), (by simp)⟩ ?_
 intro d10 fr9 w6 hI7 ih8
 obtain ⟨i, M, hd17, f11, f12, f13, f14, E15, H16, hi, hMl, hMt⟩ := hI7
 refine rk_seq ?_
 refine rk_seq ?_
 refine rk_reg ?_
 refine lw_v (.int .i64 ((i : Int))) (dv_move (T rfl f14)) ?_
 refine lw_v (.slice A l c) (dv_move (T rfl f11)) ?_
 refine lw_v (.int .i64 ((l : Int))) (dv_len (ad := A) (l := l) (c := c) us22 (T rfl rfl)) ?_
 refine lw_v (.bool (decide (((i : Int)) < ((l : Int))))) (dv_lss (a := (i : Int)) (b := (l : Int)) (T rfl rfl) (T rfl rfl)) ?_
 refine lw_nil ?_
 by_cases hb18 : ((i : Int)) < ((l : Int))
 · refine rk_ct (T rfl (congrArg Value.bool (decide_eq_true hb18))) ?_
   refine rk_skip ?_
   refine rk_seq ?_
   refine rk_block ?_
   refine rk_reg ?_
   refine lw_v (.slice (some ⟨b1, 0, none⟩) l l) (dv_move (T rfl f13)) ?_
   refine lw_v (.int .i64 ((i : Int))) (dv_move (T rfl f14)) ?_
   refine lw_v (.slice A l c) (dv_move (T rfl f11)) ?_
   refine lw_v (.int .i64 ((i : Int))) (dv_move (T rfl f14)) ?_
   have h19 := (hx.ext E15)
   obtain ⟨g20, o21, rfl⟩ := RdI.at h19 (by first | omega | (simp; done) | (simp; omega))
   refine lw_v (.pointer (some ⟨g20, o21 + i * 4, none⟩)) (dv_indexM (g := g20) (o := o21) (l := l) (c := c) (i := i) (j := (i : Int)) (m := 4) us22 sz43 (T rfl rfl) (T rfl rfl) (by omega) (by first | omega | (simp; done) | (simp; omega))) ?_
   refine lw_v (.agg #[.int .i64 (xs.getD (i * 4) 0), .int .i64 (xs.getD (i * 4 + 1) 0), .int .i64 (xs.getD (i * 4 + 2) 0), .int .i64 (xs.getD (i * 4 + 3) 0)]) (dv_loadsI (i := i * 4) (m := 4) (k := .i64) (L := xs) (l := [.int .i64 (xs.getD (i * 4) 0), .int .i64 (xs.getD (i * 4 + 1) 0), .int .i64 (xs.getD (i * 4 + 2) 0), .int .i64 (xs.getD (i * 4 + 3) 0)]) agt43 sz43 (T rfl rfl) h19 (by first | omega | (simp; done) | (simp; omega)) rfl) ?_
   refine lw_e (oe_callf (vs := [.agg #[.int .i64 (xs.getD (i * 4) 0), .int .i64 (xs.getD (i * 4 + 1) 0), .int .i64 (xs.getD (i * 4 + 2) 0), .int .i64 (xs.getD (i * 4 + 3) 0)]]) co24 (ar1 (T rfl rfl)) (toSeg_ok (ax := xs.getD (i * 4) 0) (ay := xs.getD (i * 4 + 1) 0) (bx := xs.getD (i * 4 + 2) 0) (b_y := xs.getD (i * 4 + 3) 0)  ) ?_)
   rintro _ w22 ⟨rfl, e23⟩
   have E24 := below_ext E15 E15.size e23
   refine lw_v (.pointer (some ⟨b1, (i * 4), none⟩)) (dv_indexOM (g := b1) (l := l) (c := l) (i := i) (j := (i : Int)) (m := 4) us25 sz47 (T rfl rfl) (T rfl rfl) (by omega) (by first | omega | (simp; done) | (simp; omega))) ?_
   have H25 := (e23.blk H16)
   refine lw_e (oe_storeM (L := M) (i := i * 4) (m := 4) (k := .i64) (zs := [(xs.getD (i * 4) 0), (xs.getD (i * 4 + 1) 0), (xs.getD (i * 4 + 2) 0), (xs.getD (i * 4 + 3) 0)]) sz47 (T rfl rfl) (T rfl rfl) rfl rfl H25 (by first | omega | (simp; done) | (simp; omega)) ?_)
   intro w26 s27 H28
   have E29 := below_st E24 N4 s27
   refine lw_nil ?_
   refine rk_inBlock ?_
   refine rk_reg ?_
   refine lw_v (.int .i64 ((i : Int))) (dv_move (T rfl f14)) ?_
   refine lw_v (.int .i64 (((i : Int)) + 1)) (dv_add (a := (i : Int)) (b := 1) (z := ((i : Int)) + 1) (T rfl rfl) C (wr_i64 (by omega) (by omega))) ?_
   refine lw_v (.int .i64 (((i : Int)) + 1)) (dv_assign (T rfl rfl)) ?_
   refine lw_nil ?_
   exact ih8 (l - ((i + 1))) _ _ (by rw [hd17]; omega) ⟨(i + 1), (setM M (i * 4) [(xs.getD (i * 4) 0), (xs.getD (i * 4 + 1) 0), (xs.getD (i * 4 + 2) 0), (xs.getD (i * 4 + 3) 0)]), rfl, f11, f12, f13, (vi (by omega)), E29, H28, (by omega), (by simp [setM_len, hMl]), (by rw [Nat.add_mul, Nat.one_mul]; exact set_inv hMt (by omega) (by omega) rfl)⟩
 · refine rk_cf (T rfl (congrArg Value.bool (decide_eq_false hb18))) ?_
   refine rk_exit rfl ?_
   refine rk_seq ?_
   refine rk_reg ?_
   refine lw_v (.slice (some ⟨b1, 0, none⟩) l l) (dv_move (T rfl f13)) ?_
   refine lw_v (.slice (some ⟨b1, 0, none⟩) l l) (dv_assign (T rfl rfl)) ?_
   refine lw_nil ?_
   refine rk_ret Try.func17 (v := .slice (some ⟨b1, 0, none⟩) l l) (res1 Try.results17 (rv_tmp rfl rfl)) ⟨_, rfl, ?_⟩
   have hM : M = xs := take_all hMt (by omega) (by omega)
   exact ⟨_, rfl, E15, by rw [← hM]; exact H16, N4⟩
set_option maxHeartbeats 1000000 in
theorem eqSegS_ok {w : World} {A : Option Addr} {l c : Nat} {xs : List Int} (hx : RdI w .i64 A xs) (hxl : xs.length = l * 4) (hxb : l ≤ 1048576) {D : Option Addr} {m d : Nat} {ys : List Int} (hy : RdI w .i64 D ys) (hyl : ys.length = m * 4) (hyb : m ≤ 1048576) : Ct Try.prog 19 [.slice A l c, .slice D m d] w fun v w1 => v = .bool (decide ((xs : List Int) = ys)) ∧ Ext w w1 := by
 refine ct_run (n := 27) Try.func19 rfl Try.ntmps19 rfl ?_
 have E0 : Below w.heap.size w w := Below.refl _ _
 refine rk_seq ?_
 refine rk_reg ?_
 refine lw_v (.bool false) (dv_assign C) ?_
 refine lw_nil ?_
 refine rk_seq ?_
 refine rk_seq ?_
 refine rk_reg ?_
 refine lw_v (.slice A l c) (dv_move (T rfl rfl)) ?_
 refine lw_v (.int .i64 ((l : Int))) (dv_len (ad := A) (l := l) (c := c) us25 (T rfl rfl)) ?_
 refine lw_v (.slice D m d) (dv_move (T rfl rfl)) ?_
 refine lw_v (.int .i64 ((m : Int))) (dv_len (ad := D) (l := m) (c := d) us25 (T rfl rfl)) ?_
 refine lw_v (.bool (decide (((l : Int)) ≠ ((m : Int))))) (dv_neq (a := (l : Int)) (b := (m : Int)) (T rfl rfl) (T rfl rfl)) ?_
 refine lw_nil ?_
 by_cases hb1 : ((l : Int)) ≠ ((m : Int))
 · refine rk_ct (T rfl (congrArg Value.bool (decide_eq_true hb1))) ?_
   refine rk_seq ?_
   refine rk_reg ?_
   refine lw_v (.bool false) (dv_assign C) ?_
   refine lw_nil ?_
   refine rk_ret Try.func19 (v := .bool false) (res1 Try.results19 (rv_tmp rfl rfl)) ⟨_, rfl, ?_⟩
   exact ⟨(vf (by intro hh; have := congrArg List.length hh; omega)), E0⟩
 · refine rk_cf (T rfl (congrArg Value.bool (decide_eq_false hb1))) ?_
   refine rk_skip ?_
   refine rk_seq ?_
   refine rk_seq ?_
   refine rk_reg ?_
   refine lw_v (.int .i64 0) (dv_assign C) ?_
   refine lw_nil ?_
   refine rk_block ?_
   refine rk_loop (fun dm_ fr wl => ∃ (i : Nat), dm_ = l - i ∧ fr 0 = .slice A l c ∧ fr 1 = .slice D m d ∧ fr 5 = .int .i64 ((i : Int)) ∧ Below w.heap.size w wl ∧ (i ≤ l) ∧ (xs.take (i * 4) = ys.take (i * 4))) (l - 0) ⟨0, rfl, rfl, rfl, (vi (by omega)), E0, (Nat.zero_le _), (by simp)⟩ ?_
   intro d6 fr5 w2 hI3 ih4
   obtain ⟨i, hd11, f7, f8, f9, E10, hi, hqt⟩ := hI3
   refine rk_seq ?_
   refine rk_seq ?_
   refine rk_reg ?_
   refine lw_v (.int .i64 ((i : Int))) (dv_move (T rfl f9)) ?_
   refine lw_v (.slice A l c) (dv_move (T rfl f7)) ?_
   refine lw_v (.int .i64 ((l : Int))) (dv_len (ad := A) (l := l) (c := c) us25 (T rfl rfl)) ?_
   refine lw_v (.bool (decide (((i : Int)) < ((l : Int))))) (dv_lss (a := (i : Int)) (b := (l : Int)) (T rfl rfl) (T rfl rfl)) ?_
   refine lw_nil ?_
   by_cases hb12 : ((i : Int)) < ((l : Int))
   · refine rk_ct (T rfl (congrArg Value.bool (decide_eq_true hb12))) ?_
     refine rk_skip ?_
     refine rk_seq ?_
     refine rk_block ?_
     refine rk_seq ?_
     have h13 := (hx.ext E10)
     have h14 := (hy.ext E10)
     refine rk_any (fun w => RdI w .i64 A xs ∧ RdI w .i64 D ys) [] mo ?_
     intro w15 d16
     have E17 := below_ext E10 E10.size d16.ext
     have h18 := (h13.ext d16.ext)
     have h19 := (h14.ext d16.ext)
     refine aw_pure 0 (.slice A l c) rfl (by kernel_rfl) .none ⟨h18, h19⟩ (fun _ => dv_move (T rfl f7)) ?_
     refine aw_pure 1 (.int .i64 ((i : Int))) rfl (by kernel_rfl) .none ⟨h18, h19⟩ (fun _ => dv_move (T rfl f9)) ?_
     obtain ⟨g20, o21, rfl⟩ := RdI.at h18 (by first | omega | (simp; done) | (simp; omega))
     refine aw_pure 2 (.pointer (some ⟨g20, o21 + i * 4, none⟩)) rfl (by kernel_rfl) .none ⟨h18, h19⟩ (fun _ => dv_indexM (g := g20) (o := o21) (l := l) (c := c) (i := i) (j := (i : Int)) (m := 4) us25 sz47 (T rfl rfl) (T rfl rfl) (by omega) (by first | omega | (simp; done) | (simp; omega))) ?_
     refine aw_load 3 (.agg #[.int .i64 (xs.getD (i * 4) 0), .int .i64 (xs.getD (i * 4 + 1) 0), .int .i64 (xs.getD (i * 4 + 2) 0), .int .i64 (xs.getD (i * 4 + 3) 0)]) rfl (by kernel_rfl) .none ⟨h18, h19⟩ (fun _ s => dv_loadsI (i := i * 4) (m := 4) (k := .i64) (L := xs) (l := [.int .i64 (xs.getD (i * 4) 0), .int .i64 (xs.getD (i * 4 + 1) 0), .int .i64 (xs.getD (i * 4 + 2) 0), .int .i64 (xs.getD (i * 4 + 3) 0)]) agt47 sz47 (T rfl rfl) s.1 (by first | omega | (simp; done) | (simp; omega)) rfl) ?_
     refine aw_pure 4 (.slice D m d) rfl (by kernel_rfl) .none ⟨h18, h19⟩ (fun _ => dv_move (T rfl f8)) ?_
     refine aw_pure 5 (.int .i64 ((i : Int))) rfl (by kernel_rfl) .none ⟨h18, h19⟩ (fun _ => dv_move (T rfl f9)) ?_
     obtain ⟨g22, o23, rfl⟩ := RdI.at h19 (by first | omega | (simp; done) | (simp; omega))
     refine aw_pure 6 (.pointer (some ⟨g22, o23 + i * 4, none⟩)) rfl (by kernel_rfl) .none ⟨h18, h19⟩ (fun _ => dv_indexM (g := g22) (o := o23) (l := m) (c := d) (i := i) (j := (i : Int)) (m := 4) us25 sz47 (T rfl rfl) (T rfl rfl) (by omega) (by first | omega | (simp; done) | (simp; omega))) ?_
     refine aw_load 7 (.agg #[.int .i64 (ys.getD (i * 4) 0), .int .i64 (ys.getD (i * 4 + 1) 0), .int .i64 (ys.getD (i * 4 + 2) 0), .int .i64 (ys.getD (i * 4 + 3) 0)]) rfl (by kernel_rfl) .none ⟨h18, h19⟩ (fun _ s => dv_loadsI (i := i * 4) (m := 4) (k := .i64) (L := ys) (l := [.int .i64 (ys.getD (i * 4) 0), .int .i64 (ys.getD (i * 4 + 1) 0), .int .i64 (ys.getD (i * 4 + 2) 0), .int .i64 (ys.getD (i * 4 + 3) 0)]) agt47 sz47 (T rfl rfl) s.2 (by first | omega | (simp; done) | (simp; omega)) rfl) ?_
     refine aw_one 8 rfl (by kernel_rfl) .none (oe_callf (vs := [.agg #[.int .i64 (xs.getD (i * 4) 0), .int .i64 (xs.getD (i * 4 + 1) 0), .int .i64 (xs.getD (i * 4 + 2) 0), .int .i64 (xs.getD (i * 4 + 3) 0)], .agg #[.int .i64 (ys.getD (i * 4) 0), .int .i64 (ys.getD (i * 4 + 1) 0), .int .i64 (ys.getD (i * 4 + 2) 0), .int .i64 (ys.getD (i * 4 + 3) 0)]]) co66 (ar2 (T rfl rfl) (T rfl rfl)) (eqSeg_ok (ax := xs.getD (i * 4) 0) (ay := xs.getD (i * 4 + 1) 0) (bx := xs.getD (i * 4 + 2) 0) (b_y := xs.getD (i * 4 + 3) 0) (cx := ys.getD (i * 4) 0) (cy := ys.getD (i * 4 + 1) 0) (ex := ys.getD (i * 4 + 2) 0) (ey := ys.getD (i * 4 + 3) 0)  ) ?_)
     rintro _ w24 ⟨rfl, e25⟩
     have E26 := below_ext E17 E17.size e25
     have h27 := (h18.ext e25)
     have h28 := (h19.ext e25)
     refine ⟨.inr ⟨h27, h28⟩, ?_⟩
     refine aw_pure 9 (.bool (decide (¬ (((xs.getD (i * 4) 0) = (ys.getD (i * 4) 0) ∧ (xs.getD (i * 4 + 1) 0) = (ys.getD (i * 4 + 1) 0)) ∧ (xs.getD (i * 4 + 2) 0) = (ys.getD (i * 4 + 2) 0) ∧ (xs.getD (i * 4 + 3) 0) = (ys.getD (i * 4 + 3) 0))))) rfl (by kernel_rfl) .none ⟨h27, h28⟩ (fun _ => dv_notd (p := ((xs.getD (i * 4) 0) = (ys.getD (i * 4) 0) ∧ (xs.getD (i * 4 + 1) 0) = (ys.getD (i * 4 + 1) 0)) ∧ (xs.getD (i * 4 + 2) 0) = (ys.getD (i * 4 + 2) 0) ∧ (xs.getD (i * 4 + 3) 0) = (ys.getD (i * 4 + 3) 0)) (T rfl rfl)) ?_
     refine aw_done (by kernel_rfl) ?_
     by_cases hb29 : ((xs.getD (i * 4) 0) = (ys.getD (i * 4) 0) ∧ (xs.getD (i * 4 + 1) 0) = (ys.getD (i * 4 + 1) 0)) ∧ (xs.getD (i * 4 + 2) 0) = (ys.getD (i * 4 + 2) 0) ∧ (xs.getD (i * 4 + 3) 0) = (ys.getD (i * 4 + 3) 0)
     · refine rk_cf (T rfl (congrArg Value.bool (decide_eq_false (not_not_intro hb29)))) ?_
       refine rk_skip ?_
       refine rk_inBlock ?_
       refine rk_reg ?_
       refine lw_v (.int .i64 ((i : Int))) (dv_move (T rfl f9)) ?_
       refine lw_v (.int .i64 (((i : Int)) + 1)) (dv_add (a := (i : Int)) (b := 1) (z := ((i : Int)) + 1) (T rfl rfl) C (wr_i64 (by omega) (by omega))) ?_
       refine lw_v (.int .i64 (((i : Int)) + 1)) (dv_assign (T rfl rfl)) ?_
       refine lw_nil ?_
       exact ih4 (l - ((i + 1))) _ _ (by rw [hd11]; omega) ⟨(i + 1), rfl, f7, f8, (vi (by omega)), E26, (by omega), (by have hq := ‹_ ∧ _›; rw [Nat.add_mul, Nat.one_mul]; exact take_eq4 hqt (by omega) (by omega) hq.1.1 hq.1.2 hq.2.1 hq.2.2)⟩
     · refine rk_ct (T rfl (congrArg Value.bool (decide_eq_true hb29))) ?_
       refine rk_seq ?_
       refine rk_reg ?_
       refine lw_v (.bool false) (dv_assign C) ?_
       refine lw_nil ?_
       refine rk_ret Try.func19 (v := .bool false) (res1 Try.results19 (rv_tmp rfl rfl)) ⟨_, rfl, ?_⟩
       exact ⟨(vf (by intro hh; subst hh; exact hb29 ⟨⟨rfl, rfl⟩, rfl, rfl⟩)), E26⟩
   · refine rk_cf (T rfl (congrArg Value.bool (decide_eq_false hb12))) ?_
     refine rk_exit rfl ?_
     refine rk_seq ?_
     refine rk_reg ?_
     refine lw_v (.bool true) (dv_assign C) ?_
     refine lw_nil ?_
     refine rk_ret Try.func19 (v := .bool true) (res1 Try.results19 (rv_tmp rfl rfl)) ⟨_, rfl, ?_⟩
     exact ⟨(vt (take_all hqt (by omega) (by omega))), E10⟩
set_option maxHeartbeats 1000000 in
theorem sSegsFault_ok {w : World} {A : Option Addr} {l c : Nat} {xs : List Int} (hx : RdI w .i64 A xs) (hxl : xs.length = l * 4) (hxb : l ≤ 1048576) : Ct Try.prog 16 [.slice A l c] w fun v w1 => v = .int .i64 (sgF l xs) ∧ Ext w w1 := by
 refine ct_run (n := 19) Try.func16 rfl Try.ntmps16 rfl ?_
 have E0 : Below w.heap.size w w := Below.refl _ _
 refine rk_seq ?_
 refine rk_reg ?_
 refine lw_v (.int .i64 0) (dv_assign C) ?_
 refine lw_nil ?_
 refine rk_seq ?_
 refine rk_seq ?_
 refine rk_reg ?_
 refine lw_v (.slice A l c) (dv_move (T rfl rfl)) ?_
 refine lw_v (.int .i64 ((l : Int))) (dv_len (ad := A) (l := l) (c := c) us25 (T rfl rfl)) ?_
 refine lw_v (.bool (decide (40 < ((l : Int))))) (dv_gtr (a := (l : Int)) (b := 40) (T rfl rfl) C) ?_
 refine lw_nil ?_
 by_cases hb1 : 40 < ((l : Int))
 · refine rk_ct (T rfl (congrArg Value.bool (decide_eq_true hb1))) ?_
   refine rk_seq ?_
   refine rk_reg ?_
   refine lw_v (.int .i64 1) (dv_assign C) ?_
   refine lw_nil ?_
   refine rk_ret Try.func16 (v := .int .i64 1) (res1 Try.results16 (rv_tmp rfl rfl)) ⟨_, rfl, ?_⟩
   exact ⟨vi (by unfold sgF; rw [if_pos (by omega)]), E0⟩
 · refine rk_cf (T rfl (congrArg Value.bool (decide_eq_false hb1))) ?_
   refine rk_skip ?_
   refine rk_seq ?_
   refine rk_seq ?_
   refine rk_reg ?_
   refine lw_v (.int .i64 0) (dv_assign C) ?_
   refine lw_nil ?_
   refine rk_block ?_
   refine rk_loop (fun dm_ fr wl => ∃ (i : Nat), dm_ = l - i ∧ fr 0 = .slice A l c ∧ fr 3 = .int .i64 ((i : Int)) ∧ Below w.heap.size w wl ∧ (i ≤ l) ∧ (∀ k, k < i → segAt xs k)) (l - 0) ⟨0, rfl, rfl, (vi (by omega)), E0, (Nat.zero_le _), (fun k hk => absurd hk (by omega))⟩ ?_
   intro d6 fr5 w2 hI3 ih4
   obtain ⟨i, hd10, f7, f8, E9, hi, hall⟩ := hI3
   refine rk_seq ?_
   refine rk_seq ?_
   refine rk_reg ?_
   refine lw_v (.int .i64 ((i : Int))) (dv_move (T rfl f8)) ?_
   refine lw_v (.slice A l c) (dv_move (T rfl f7)) ?_
   refine lw_v (.int .i64 ((l : Int))) (dv_len (ad := A) (l := l) (c := c) us25 (T rfl rfl)) ?_
   refine lw_v (.bool (decide (((i : Int)) < ((l : Int))))) (dv_lss (a := (i : Int)) (b := (l : Int)) (T rfl rfl) (T rfl rfl)) ?_
   refine lw_nil ?_
   by_cases hb11 : ((i : Int)) < ((l : Int))
   · refine rk_ct (T rfl (congrArg Value.bool (decide_eq_true hb11))) ?_
     refine rk_skip ?_
     refine rk_seq ?_
     refine rk_block ?_
     refine rk_seq ?_
     refine rk_reg ?_
     refine lw_v (.slice A l c) (dv_move (T rfl f7)) ?_
     refine lw_v (.int .i64 ((i : Int))) (dv_move (T rfl f8)) ?_
     have h12 := (hx.ext E9)
     obtain ⟨g13, o14, rfl⟩ := RdI.at h12 (by first | omega | (simp; done) | (simp; omega))
     refine lw_v (.pointer (some ⟨g13, o14 + i * 4, none⟩)) (dv_indexM (g := g13) (o := o14) (l := l) (c := c) (i := i) (j := (i : Int)) (m := 4) us25 sz47 (T rfl rfl) (T rfl rfl) (by omega) (by first | omega | (simp; done) | (simp; omega))) ?_
     refine lw_v (.agg #[.int .i64 (xs.getD (i * 4) 0), .int .i64 (xs.getD (i * 4 + 1) 0), .int .i64 (xs.getD (i * 4 + 2) 0), .int .i64 (xs.getD (i * 4 + 3) 0)]) (dv_loadsI (i := i * 4) (m := 4) (k := .i64) (L := xs) (l := [.int .i64 (xs.getD (i * 4) 0), .int .i64 (xs.getD (i * 4 + 1) 0), .int .i64 (xs.getD (i * 4 + 2) 0), .int .i64 (xs.getD (i * 4 + 3) 0)]) agt47 sz47 (T rfl rfl) h12 (by first | omega | (simp; done) | (simp; omega)) rfl) ?_
     refine lw_e (oe_callf (vs := [.agg #[.int .i64 (xs.getD (i * 4) 0), .int .i64 (xs.getD (i * 4 + 1) 0), .int .i64 (xs.getD (i * 4 + 2) 0), .int .i64 (xs.getD (i * 4 + 3) 0)]]) co65 (ar1 (T rfl rfl)) (sSegOk_ok (ax := xs.getD (i * 4) 0) (ay := xs.getD (i * 4 + 1) 0) (bx := xs.getD (i * 4 + 2) 0) (b_y := xs.getD (i * 4 + 3) 0)  ) ?_)
     rintro _ w15 ⟨rfl, e16⟩
     have E17 := below_ext E9 E9.size e16
     refine lw_v (.bool (decide (¬ (segOk (xs.getD (i * 4) 0) (xs.getD (i * 4 + 1) 0) (xs.getD (i * 4 + 2) 0) (xs.getD (i * 4 + 3) 0))))) (dv_notd (p := segOk (xs.getD (i * 4) 0) (xs.getD (i * 4 + 1) 0) (xs.getD (i * 4 + 2) 0) (xs.getD (i * 4 + 3) 0)) (T rfl rfl)) ?_
     refine lw_nil ?_
     by_cases hb18 : segOk (xs.getD (i * 4) 0) (xs.getD (i * 4 + 1) 0) (xs.getD (i * 4 + 2) 0) (xs.getD (i * 4 + 3) 0)
     · refine rk_cf (T rfl (congrArg Value.bool (decide_eq_false (not_not_intro hb18)))) ?_
       refine rk_skip ?_
       refine rk_inBlock ?_
       refine rk_reg ?_
       refine lw_v (.int .i64 ((i : Int))) (dv_move (T rfl f8)) ?_
       refine lw_v (.int .i64 (((i : Int)) + 1)) (dv_add (a := (i : Int)) (b := 1) (z := ((i : Int)) + 1) (T rfl rfl) C (wr_i64 (by omega) (by omega))) ?_
       refine lw_v (.int .i64 (((i : Int)) + 1)) (dv_assign (T rfl rfl)) ?_
       refine lw_nil ?_
       exact ih4 (l - ((i + 1))) _ _ (by rw [hd10]; omega) ⟨(i + 1), rfl, f7, (vi (by omega)), E17, (by omega), (all_step hall (by assumption))⟩
     · refine rk_ct (T rfl (congrArg Value.bool (decide_eq_true hb18))) ?_
       refine rk_seq ?_
       refine rk_reg ?_
       refine lw_v (.int .i64 2) (dv_assign C) ?_
       refine lw_nil ?_
       refine rk_ret Try.func16 (v := .int .i64 2) (res1 Try.results16 (rv_tmp rfl rfl)) ⟨_, rfl, ?_⟩
       exact ⟨vi (by unfold sgF; rw [if_neg (by omega), if_neg (fun hh => absurd (hh i (by omega)) (by assumption))]), E17⟩
   · refine rk_cf (T rfl (congrArg Value.bool (decide_eq_false hb11))) ?_
     refine rk_exit rfl ?_
     refine rk_seq ?_
     refine rk_reg ?_
     refine lw_v (.int .i64 0) (dv_assign C) ?_
     refine lw_nil ?_
     refine rk_ret Try.func16 (v := .int .i64 0) (res1 Try.results16 (rv_tmp rfl rfl)) ⟨_, rfl, ?_⟩
     exact ⟨vi (by unfold sgF; rw [if_neg (by omega), if_pos (show segsOk l xs from fun k hk => hall k (by omega))]), E9⟩
set_option maxHeartbeats 1000000 in
theorem iSegsFault_ok {w : World} {A : Option Addr} {l c : Nat} {xs : List Int} (hx : RdI w .i64 A xs) (hxl : xs.length = l * 4) (hxb : l ≤ 1048576) : Ct Try.prog 18 [.slice A l c] w fun v w1 => v = .int .i64 (sgF l xs) ∧ Ext w w1 := by
 refine ct_run (n := 18) Try.func18 rfl Try.ntmps18 rfl ?_
 have E0 : Below w.heap.size w w := Below.refl _ _
 refine rk_seq ?_
 refine rk_reg ?_
 refine lw_v (.int .i64 0) (dv_assign C) ?_
 refine lw_nil ?_
 refine rk_seq ?_
 refine rk_seq ?_
 refine rk_reg ?_
 refine lw_v (.slice A l c) (dv_move (T rfl rfl)) ?_
 refine lw_v (.int .i64 ((l : Int))) (dv_len (ad := A) (l := l) (c := c) us25 (T rfl rfl)) ?_
 refine lw_v (.bool (decide (40 < ((l : Int))))) (dv_gtr (a := (l : Int)) (b := 40) (T rfl rfl) C) ?_
 refine lw_nil ?_
 by_cases hb1 : 40 < ((l : Int))
 · refine rk_ct (T rfl (congrArg Value.bool (decide_eq_true hb1))) ?_
   refine rk_seq ?_
   refine rk_reg ?_
   refine lw_v (.int .i64 1) (dv_assign C) ?_
   refine lw_nil ?_
   refine rk_ret Try.func18 (v := .int .i64 1) (res1 Try.results18 (rv_tmp rfl rfl)) ⟨_, rfl, ?_⟩
   exact ⟨vi (by unfold sgF; rw [if_pos (by omega)]), E0⟩
 · refine rk_cf (T rfl (congrArg Value.bool (decide_eq_false hb1))) ?_
   refine rk_skip ?_
   refine rk_seq ?_
   refine rk_seq ?_
   refine rk_reg ?_
   refine lw_v (.slice A l c) (dv_move (T rfl rfl)) ?_
   refine lw_v (.int .i64 ((l : Int))) (dv_len (ad := A) (l := l) (c := c) us25 (T rfl rfl)) ?_
   refine lw_v (.int .i64 0) (dv_move C) ?_
   refine lw_nil ?_
   refine rk_block ?_
   refine rk_loop (fun dm_ fr wl => ∃ (i : Nat), dm_ = l - i ∧ fr 8 = .slice A l c ∧ fr 9 = .int .i64 ((l : Int)) ∧ fr 10 = .int .i64 ((i : Int)) ∧ Below w.heap.size w wl ∧ (i ≤ l) ∧ (∀ k, k < i → segAt xs k)) (l - 0) ⟨0, rfl, rfl, rfl, (vi (by omega)), E0, (Nat.zero_le _), (fun k hk => absurd hk (by omega))⟩ ?_
   intro d6 fr5 w2 hI3 ih4
   obtain ⟨i, hd11, f7, f8, f9, E10, hi, hall⟩ := hI3
   refine rk_seq ?_
   refine rk_reg ?_
   refine lw_v (.bool (decide (((i : Int)) < ((l : Int))))) (dv_lss (a := (i : Int)) (b := (l : Int)) (T rfl f9) (T rfl f8)) ?_
   refine lw_nil ?_
   refine rk_seq ?_
   by_cases hb12 : ((i : Int)) < ((l : Int))
   · refine rk_ct (T rfl (congrArg Value.bool (decide_eq_true hb12))) ?_
     refine rk_skip ?_
     refine rk_seq ?_
     refine rk_block ?_
     refine rk_seq ?_
     refine rk_reg ?_
     have h13 := (hx.ext E10)
     obtain ⟨g14, o15, rfl⟩ := RdI.at h13 (by first | omega | (simp; done) | (simp; omega))
     refine lw_v (.pointer (some ⟨g14, o15 + i * 4, none⟩)) (dv_indexM (g := g14) (o := o15) (l := l) (c := c) (i := i) (j := (i : Int)) (m := 4) us25 sz47 (T rfl f7) (T rfl f9) (by omega) (by first | omega | (simp; done) | (simp; omega))) ?_
     refine lw_v (.agg #[.int .i64 (xs.getD (i * 4) 0), .int .i64 (xs.getD (i * 4 + 1) 0), .int .i64 (xs.getD (i * 4 + 2) 0), .int .i64 (xs.getD (i * 4 + 3) 0)]) (dv_loadsI (i := i * 4) (m := 4) (k := .i64) (L := xs) (l := [.int .i64 (xs.getD (i * 4) 0), .int .i64 (xs.getD (i * 4 + 1) 0), .int .i64 (xs.getD (i * 4 + 2) 0), .int .i64 (xs.getD (i * 4 + 3) 0)]) agt47 sz47 (T rfl rfl) h13 (by first | omega | (simp; done) | (simp; omega)) rfl) ?_
     refine lw_e (oe_alloc ze47 ?_)
     intro b16 w17 n18
     have N19 : w.heap.size ≤ b16 := n18.eq ▸ E10.size
     have E20 := below_ext E10 E10.size n18.ext
     refine lw_e (oe_store (v := .agg #[.int .i64 (xs.getD (i * 4) 0), .int .i64 (xs.getD (i * 4 + 1) 0), .int .i64 (xs.getD (i * 4 + 2) 0), .int .i64 (xs.getD (i * 4 + 3) 0)]) (vs := [.int .i64 (xs.getD (i * 4) 0), .int .i64 (xs.getD (i * 4 + 1) 0), .int .i64 (xs.getD (i * 4 + 2) 0), .int .i64 (xs.getD (i * 4 + 3) 0)]) (l := [.int .i64 (xs.getD (i * 4) 0), .int .i64 (xs.getD (i * 4 + 1) 0), .int .i64 (xs.getD (i * 4 + 2) 0), .int .i64 (xs.getD (i * 4 + 3) 0)]) (T rfl rfl) (T rfl rfl) sz47 rfl rfl rfl n18.blk rfl ?_)
     intro w21 s22 H23
     have E24 := below_st E20 N19 s22
     refine lw_nil ?_
     refine rk_seq ?_
     refine rk_reg ?_
     refine lw_v (.agg #[.int .i64 (xs.getD (i * 4) 0), .int .i64 (xs.getD (i * 4 + 1) 0), .int .i64 (xs.getD (i * 4 + 2) 0), .int .i64 (xs.getD (i * 4 + 3) 0)]) (dv_loads (l := [.int .i64 (xs.getD (i * 4) 0), .int .i64 (xs.getD (i * 4 + 1) 0), .int .i64 (xs.getD (i * 4 + 2) 0), .int .i64 (xs.getD (i * 4 + 3) 0)]) agt47 sz47 (T rfl rfl) H23 rfl) ?_
     refine lw_e (oe_callf (vs := [.agg #[.int .i64 (xs.getD (i * 4) 0), .int .i64 (xs.getD (i * 4 + 1) 0), .int .i64 (xs.getD (i * 4 + 2) 0), .int .i64 (xs.getD (i * 4 + 3) 0)]]) co30 (ar1 (T rfl rfl)) (iSegOk_ok (ax := xs.getD (i * 4) 0) (ay := xs.getD (i * 4 + 1) 0) (bx := xs.getD (i * 4 + 2) 0) (b_y := xs.getD (i * 4 + 3) 0)  ) ?_)
     rintro _ w25 ⟨rfl, e26⟩
     have E27 := below_ext E24 E24.size e26
     refine lw_v (.bool (decide (¬ (segOk (xs.getD (i * 4) 0) (xs.getD (i * 4 + 1) 0) (xs.getD (i * 4 + 2) 0) (xs.getD (i * 4 + 3) 0))))) (dv_notd (p := segOk (xs.getD (i * 4) 0) (xs.getD (i * 4 + 1) 0) (xs.getD (i * 4 + 2) 0) (xs.getD (i * 4 + 3) 0)) (T rfl rfl)) ?_
     refine lw_nil ?_
     by_cases hb28 : segOk (xs.getD (i * 4) 0) (xs.getD (i * 4 + 1) 0) (xs.getD (i * 4 + 2) 0) (xs.getD (i * 4 + 3) 0)
     · refine rk_cf (T rfl (congrArg Value.bool (decide_eq_false (not_not_intro hb28)))) ?_
       refine rk_skip ?_
       refine rk_inBlock ?_
       refine rk_reg ?_
       refine lw_v (.int .i64 (((i : Int)) + 1)) (dv_add (a := (i : Int)) (b := 1) (z := ((i : Int)) + 1) (T rfl f9) C (wr_i64 (by omega) (by omega))) ?_
       refine lw_v (.int .i64 (((i : Int)) + 1)) (dv_move (T rfl rfl)) ?_
       refine lw_nil ?_
       exact ih4 (l - ((i + 1))) _ _ (by rw [hd11]; omega) ⟨(i + 1), rfl, f7, f8, (vi (by omega)), E27, (by omega), (all_step hall (by assumption))⟩
     · refine rk_ct (T rfl (congrArg Value.bool (decide_eq_true hb28))) ?_
       refine rk_seq ?_
       refine rk_reg ?_
       refine lw_v (.int .i64 2) (dv_assign C) ?_
       refine lw_nil ?_
       refine rk_ret Try.func18 (v := .int .i64 2) (res1 Try.results18 (rv_tmp rfl rfl)) ⟨_, rfl, ?_⟩
       exact ⟨vi (by unfold sgF; rw [if_neg (by omega), if_neg (fun hh => absurd (hh i (by omega)) (by assumption))]), E27⟩
   · refine rk_cf (T rfl (congrArg Value.bool (decide_eq_false hb12))) ?_
     refine rk_exit rfl ?_
     refine rk_seq ?_
     refine rk_reg ?_
     refine lw_v (.int .i64 0) (dv_assign C) ?_
     refine lw_nil ?_
     refine rk_ret Try.func18 (v := .int .i64 0) (res1 Try.results18 (rv_tmp rfl rfl)) ⟨_, rfl, ?_⟩
     exact ⟨vi (by unfold sgF; rw [if_neg (by omega), if_pos (show segsOk l xs from fun k hk => hall k (by omega))]), E10⟩
end Go.Proofs.Ytdanhdbanfpghaa.W
set_option linter.unusedVariables false
set_option linter.unusedSimpArgs false
namespace Go.Proofs.Ytdanhdbanfpghaa.W
open Go Go.RowKit Go.Proofs.Ytdanhdbanfpghaa.Fw
attribute [local irreducible] RunK LW AW DV OE Ct
theorem co15 : callOk Try.prog 15 = true := by kernel_rfl
theorem co16 : callOk Try.prog 16 = true := by kernel_rfl
theorem co17 : callOk Try.prog 17 = true := by kernel_rfl
theorem co18 : callOk Try.prog 18 = true := by kernel_rfl
theorem co19 : callOk Try.prog 19 = true := by kernel_rfl
set_option maxHeartbeats 1000000 in
theorem lawSegsFault_ok {w : World} {A : Option Addr} {l c : Nat} {xs : List Int} (hx : RdI w .i64 A xs) (hxl : xs.length = l * 4) (hxc : l ≤ c) (hxm : c ≤ 9223372036854775807) : Ct Try.prog 3 [.slice A l c] w fun v w1 => v = .bool true ∧ Ext w w1 := by
 refine ct_run (n := 27) Try.func3 rfl Try.ntmps3 rfl ?_
 have E0 : Below w.heap.size w w := Below.refl _ _
 refine rk_seq ?_
 refine rk_reg ?_
 refine lw_v (.bool false) (dv_assign C) ?_
 refine lw_nil ?_
 refine rk_seq ?_
 refine rk_reg ?_
 refine lw_v (.int .i64 1048576) (dv_assign C) ?_
 refine lw_nil ?_
 refine rk_seq ?_
 refine rk_reg ?_
 refine lw_v (.slice A l c) (dv_move (T rfl rfl)) ?_
 refine lw_v (.int .i64 1048576) (dv_move (T rfl rfl)) ?_
 refine lw_e (oe_callf (vs := [.slice A l c, .int .i64 1048576]) co15 (ar2 (T rfl rfl) (T rfl rfl)) (szSegS_ok (A := A) (c := c) (by omega) (by omega)) ?_)
 rintro _ w1 ⟨rfl, e2⟩
 have E3 := below_ext E0 E0.size e2
 refine lw_v (.int .i64 (szV l 1048576)) (dv_assign (T rfl rfl)) ?_
 refine lw_nil ?_
 refine rk_seq ?_
 refine rk_seq ?_
 refine rk_reg ?_
 refine lw_v (.int .i64 (szV l 1048576)) (dv_move (T rfl rfl)) ?_
 refine lw_v (.bool (decide ((szV l 1048576) < 0))) (dv_lss (a := szV l 1048576) (b := 0) (T rfl rfl) C) ?_
 refine lw_nil ?_
 by_cases hb4 : (szV l 1048576) < 0
 · refine rk_ct (T rfl (congrArg Value.bool (decide_eq_true hb4))) ?_
   refine rk_seq ?_
   refine rk_reg ?_
   refine lw_v (.bool true) (dv_assign C) ?_
   refine lw_nil ?_
   refine rk_ret Try.func3 (v := .bool true) (res1 Try.results3 (rv_tmp rfl rfl)) ⟨_, rfl, ?_⟩
   exact ⟨rfl, E3⟩
 · have := szV_rg hb4
   refine rk_cf (T rfl (congrArg Value.bool (decide_eq_false hb4))) ?_
   refine rk_skip ?_
   refine rk_seq ?_
   refine rk_reg ?_
   refine lw_v (.slice A l c) (dv_move (T rfl rfl)) ?_
   have h5 := (hx.ext e2)
   have : w.heap.size ≤ w1.heap.size := E3.size
   refine lw_e (oe_callf (vs := [.slice A l c]) co17 (ar1 (T rfl rfl)) (toSegS_ok (l := l) (c := c) (xs := xs) h5 (by first | omega | (simp; done) | (simp; omega)) (by first | omega | (simp; done) | (simp; omega))) ?_)
   rintro _ w9 ⟨b6, rfl, e10, H7, hN8⟩
   have E11 := below_ext E3 E3.size e10
   have N12 : w.heap.size ≤ b6 := by omega
   refine lw_e (oe_callf (vs := [.slice (some ⟨b6, 0, none⟩) l l]) co16 (ar1 (T rfl rfl)) (sSegsFault_ok (l := l) (c := l) (xs := xs) (Wd.rdI (Wd.ownW H7)) (by first | omega | (simp; done) | (simp; omega)) (by first | omega | (simp; done) | (simp; omega))) ?_)
   rintro _ w13 ⟨rfl, e14⟩
   have E15 := below_ext E11 E11.size e14
   refine lw_v (.int .i64 (sgF l xs)) (dv_assign (T rfl rfl)) ?_
   refine lw_nil ?_
   refine rk_seq ?_
   refine rk_reg ?_
   refine lw_v (.slice A l c) (dv_move (T rfl rfl)) ?_
   have h16 := ((h5.ext e10).ext e14)
   have H22 := (e14.blk H7)
   have : b6 < w13.heap.size := lt_of_blk H22
   have : w.heap.size ≤ w13.heap.size := E15.size
   refine lw_e (oe_callf (vs := [.slice A l c]) co17 (ar1 (T rfl rfl)) (toSegS_ok (l := l) (c := c) (xs := xs) h16 (by first | omega | (simp; done) | (simp; omega)) (by first | omega | (simp; done) | (simp; omega))) ?_)
   rintro _ w20 ⟨b17, rfl, e21, H18, hN19⟩
   have E23 := below_ext E15 E15.size e21
   have : b6 < b17 := by omega
   have N24 : w.heap.size ≤ b17 := by omega
   refine lw_v (.slice (some ⟨b17, 0, none⟩) l l) (dv_assign (T rfl rfl)) ?_
   refine lw_nil ?_
   refine rk_seq ?_
   refine rk_reg ?_
   refine lw_v (.slice (some ⟨b17, 0, none⟩) l l) (dv_move (T rfl rfl)) ?_
   refine lw_e (oe_callf (vs := [.slice (some ⟨b17, 0, none⟩) l l]) co18 (ar1 (T rfl rfl)) (iSegsFault_ok (l := l) (c := l) (xs := xs) (Wd.rdI (Wd.ownW H18)) (by first | omega | (simp; done) | (simp; omega)) (by first | omega | (simp; done) | (simp; omega))) ?_)
   rintro _ w25 ⟨rfl, e26⟩
   have E27 := below_ext E23 E23.size e26
   refine lw_v (.int .i64 (sgF l xs)) (dv_assign (T rfl rfl)) ?_
   refine lw_nil ?_
   refine rk_seq ?_
   refine rk_seq ?_
   refine rk_reg ?_
   refine lw_v (.int .i64 (sgF l xs)) (dv_move (T rfl rfl)) ?_
   refine lw_v (.int .i64 (sgF l xs)) (dv_move (T rfl rfl)) ?_
   refine lw_v (.bool (decide ((sgF l xs) ≠ (sgF l xs)))) (dv_neq (a := sgF l xs) (b := sgF l xs) (T rfl rfl) (T rfl rfl)) ?_
   refine lw_nil ?_
   by_cases hb28 : (sgF l xs) ≠ (sgF l xs)
   · refine rk_ct (T rfl (congrArg Value.bool (decide_eq_true hb28))) ?_
     refine rk_seq ?_
     refine rk_reg ?_
     refine lw_v (.bool false) (dv_assign C) ?_
     refine lw_nil ?_
     refine rk_ret Try.func3 (v := .bool false) (res1 Try.results3 (rv_tmp rfl rfl)) ⟨_, rfl, ?_⟩
     exact ⟨(by exfalso; first | contradiction | exact absurd rfl (by assumption) | omega), E27⟩
   · refine rk_cf (T rfl (congrArg Value.bool (decide_eq_false hb28))) ?_
     refine rk_skip ?_
     refine rk_seq ?_
     refine rk_seq ?_
     refine rk_reg ?_
     refine lw_v (.slice (some ⟨b17, 0, none⟩) l l) (dv_move (T rfl rfl)) ?_
     refine lw_v (.slice A l c) (dv_move (T rfl rfl)) ?_
     have h29 := ((h16.ext e21).ext e26)
     have H35 := (e26.blk (e21.blk H22))
     have : b6 < w25.heap.size := lt_of_blk H35
     have H36 := (e26.blk H18)
     have : b17 < w25.heap.size := lt_of_blk H36
     have : w.heap.size ≤ w25.heap.size := E27.size
     refine lw_e (oe_callf (vs := [.slice A l c]) co17 (ar1 (T rfl rfl)) (toSegS_ok (l := l) (c := c) (xs := xs) h29 (by first | omega | (simp; done) | (simp; omega)) (by first | omega | (simp; done) | (simp; omega))) ?_)
     rintro _ w33 ⟨b30, rfl, e34, H31, hN32⟩
     have E37 := below_ext E27 E27.size e34
     have : b6 < b30 := by omega
     have : b17 < b30 := by omega
     have N38 : w.heap.size ≤ b30 := by omega
     have H39 := (e34.blk H36)
     refine lw_e (oe_callf (vs := [.slice (some ⟨b17, 0, none⟩) l l, .slice (some ⟨b30, 0, none⟩) l l]) co19 (ar2 (T rfl rfl) (T rfl rfl)) (eqSegS_ok (l := l) (m := l) (c := l) (d := l) (xs := xs) (ys := xs) (Wd.rdI (Wd.ownW H39)) (by first | omega | (simp; done) | (simp; omega)) (by first | omega | (simp; done) | (simp; omega)) (Wd.rdI (Wd.ownW H31)) (by first | omega | (simp; done) | (simp; omega)) (by first | omega | (simp; done) | (simp; omega))) ?_)
     rintro _ w40 ⟨rfl, e41⟩
     have E42 := below_ext E37 E37.size e41
     refine lw_v (.bool (decide (¬ ((xs : List Int) = xs)))) (dv_notd (p := (xs : List Int) = xs) (T rfl rfl)) ?_
     refine lw_nil ?_
     by_cases hb43 : (xs : List Int) = xs
     · refine rk_cf (T rfl (congrArg Value.bool (decide_eq_false (not_not_intro hb43)))) ?_
       refine rk_skip ?_
       refine rk_seq ?_
       refine rk_reg ?_
       refine lw_v (.bool true) (dv_assign C) ?_
       refine lw_nil ?_
       refine rk_ret Try.func3 (v := .bool true) (res1 Try.results3 (rv_tmp rfl rfl)) ⟨_, rfl, ?_⟩
       exact ⟨rfl, E42⟩
     · refine rk_ct (T rfl (congrArg Value.bool (decide_eq_true hb43))) ?_
       refine rk_seq ?_
       refine rk_reg ?_
       refine lw_v (.bool false) (dv_assign C) ?_
       refine lw_nil ?_
       refine rk_ret Try.func3 (v := .bool false) (res1 Try.results3 (rv_tmp rfl rfl)) ⟨_, rfl, ?_⟩
       exact ⟨(by exfalso; first | contradiction | exact absurd rfl (by assumption) | omega), E42⟩
end Go.Proofs.Ytdanhdbanfpghaa.W
