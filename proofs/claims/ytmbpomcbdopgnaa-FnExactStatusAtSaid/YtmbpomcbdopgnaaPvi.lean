/- Walks and plain mathematics, packed by a program of this session: declarations that the rows reach. -/
import Derived.Test.YtmbpomcbdopgnaaPvh
set_option linter.unusedVariables false
set_option linter.unusedSimpArgs false
namespace Go.Proofs.Ytmbpomcbdopgnaa.W
open Go Go.RowKit Go.Proofs.Ytmbpomcbdopgnaa.Fw
attribute [local irreducible] RunK LW AW DV OE Ct
theorem agt101 : aggB Try.prog 101 = some true := by kernel_rfl
theorem agt2 : aggB Try.prog 2 = some false := by kernel_rfl
theorem agt25 : aggB Try.prog 25 = some true := by kernel_rfl
theorem agt27 : aggB Try.prog 27 = some true := by kernel_rfl
theorem co111 : callOk Try.prog 111 = true := by kernel_rfl
theorem co12 : callOk Try.prog 12 = true := by kernel_rfl
theorem co45 : callOk Try.prog 45 = true := by kernel_rfl
theorem co46 : callOk Try.prog 46 = true := by kernel_rfl
theorem co53 : callOk Try.prog 53 = true := by kernel_rfl
theorem co88 : callOk Try.prog 88 = true := by kernel_rfl
theorem co89 : callOk Try.prog 89 = true := by kernel_rfl
theorem eg25 : Try.prog.eqGuardType Try.prog.depth 25 = false := by kernel_rfl
theorem fl25 : flatB Try.prog 25 .i64 2 = true := by kernel_rfl
theorem fo101_0 : fieldOffB Try.prog 101 0 = some 0 := by kernel_rfl
theorem fo101_1 : fieldOffB Try.prog 101 1 = some 1 := by kernel_rfl
theorem fo103_0 : fieldOffB Try.prog 103 0 = some 0 := by kernel_rfl
theorem fo103_1 : fieldOffB Try.prog 103 1 = some 2 := by kernel_rfl
theorem fo25_0 : fieldOffB Try.prog 25 0 = some 0 := by kernel_rfl
theorem fo25_1 : fieldOffB Try.prog 25 1 = some 1 := by kernel_rfl
theorem fo27_0 : fieldOffB Try.prog 27 0 = some 0 := by kernel_rfl
theorem fo27_1 : fieldOffB Try.prog 27 1 = some 2 := by kernel_rfl
theorem sz101 : sizeB Try.prog 101 = some 2 := by kernel_rfl
theorem sz2 : sizeB Try.prog 2 = some 1 := by kernel_rfl
theorem sz25 : sizeB Try.prog 25 = some 2 := by kernel_rfl
theorem sz27 : sizeB Try.prog 27 = some 4 := by kernel_rfl
theorem ze25 : zeroB Try.prog 25 = some #[.int .i64 0, .int .i64 0] := by kernel_rfl
theorem ze27 : zeroB Try.prog 27 = some #[.int .i64 0, .int .i64 0, .int .i64 0, .int .i64 0] := by kernel_rfl
set_option maxHeartbeats 1000000 in
theorem l1In_ok {w : World} {n lo hi : Int}   : Ct Try.prog 53 [.int .i64 n, .int .i64 lo, .int .i64 hi] w fun v w1 => v = .bool (decide (lo ≤ n ∧ n ≤ hi)) ∧ Ext w w1 := by
 refine ct_run (n := 15) Try.func53 rfl Try.ntmps53 rfl ?_
 have E0 : Below w.heap.size w w := Below.refl _ _
 refine rk_seq <| rk_reg <| lw_v (.bool false) (dv_assign C) <| qN <| qm (qi n) rfl rfl <| qm (qi lo) rfl rfl <| lw_v _ (dv_geq (a := n) (b := lo) (Z rfl) (Z rfl)) <| qm (qd (lo ≤ n)) rfl rfl ?_
 by_cases hb1 : lo ≤ n
 · refine lw_vy (qi n) (d := 10) rfl rfl (qT hb1) (dv_move (Z rfl)) <| lw_vy (qi hi) (d := 10) rfl rfl (qT hb1) (dv_move (Z rfl)) <| lw_vy (qd (n ≤ hi)) (d := 10) rfl rfl (qT hb1) (dv_leq (a := n) (b := hi) (Z rfl) (Z rfl)) <| lw_v (qd (n ≤ hi)) (dv_pick_t (T rfl (qT hb1)) (Z rfl)) <| qs (qd (n ≤ hi)) rfl rfl <| lw_nil <| rk_ret Try.func53 (v := qd (n ≤ hi)) (res1 Try.results53 (rv_tmp rfl rfl)) ⟨_, rfl, ?_⟩
   exact ⟨(vb (by grind)), E0⟩
 refine lw_no (d := 10) rfl rfl (qF hb1) <| lw_no (d := 10) rfl rfl (qF hb1) <| lw_no (d := 10) rfl rfl (qF hb1) <| lw_v (.bool false) (dv_pick_f (T rfl (qF hb1)) C) <| qs (.bool false) rfl rfl <| lw_nil <| rk_ret Try.func53 (v := .bool false) (res1 Try.results53 (rv_tmp rfl rfl)) ⟨_, rfl, ?_⟩
 exact ⟨(vf (by grind)), E0⟩
set_option maxHeartbeats 1000000 in
theorem within_ok {w : World} {n lo hi : Int}   : Ct Try.prog 46 [.int .i64 n, .int .i64 lo, .int .i64 hi] w fun v w1 => v = .bool (decide (lo ≤ n ∧ n ≤ hi)) ∧ Ext w w1 := by
 refine ct_run (n := 15) Try.func46 rfl Try.ntmps46 rfl ?_
 have E0 : Below w.heap.size w w := Below.refl _ _
 refine rk_seq <| rk_reg <| lw_v (.bool false) (dv_assign C) <| qN <| qm (qi lo) rfl rfl <| qm (qi n) rfl rfl <| lw_v _ (dv_leq (a := lo) (b := n) (Z rfl) (Z rfl)) <| qm (qd (lo ≤ n)) rfl rfl ?_
 by_cases hb1 : lo ≤ n
 · refine lw_vy (qi n) (d := 10) rfl rfl (qT hb1) (dv_move (Z rfl)) <| lw_vy (qi hi) (d := 10) rfl rfl (qT hb1) (dv_move (Z rfl)) <| lw_vy (qd (n ≤ hi)) (d := 10) rfl rfl (qT hb1) (dv_leq (a := n) (b := hi) (Z rfl) (Z rfl)) <| lw_v (qd (n ≤ hi)) (dv_pick_t (T rfl (qT hb1)) (Z rfl)) <| qs (qd (n ≤ hi)) rfl rfl <| lw_nil <| rk_ret Try.func46 (v := qd (n ≤ hi)) (res1 Try.results46 (rv_tmp rfl rfl)) ⟨_, rfl, ?_⟩
   exact ⟨(vb (by grind)), E0⟩
 refine lw_no (d := 10) rfl rfl (qF hb1) <| lw_no (d := 10) rfl rfl (qF hb1) <| lw_no (d := 10) rfl rfl (qF hb1) <| lw_v (.bool false) (dv_pick_f (T rfl (qF hb1)) C) <| qs (.bool false) rfl rfl <| lw_nil <| rk_ret Try.func46 (v := .bool false) (res1 Try.results46 (rv_tmp rfl rfl)) ⟨_, rfl, ?_⟩
 exact ⟨(vf (by grind)), E0⟩
set_option maxHeartbeats 1000000 in
theorem sSpotOk_ok {w : World} {x y : Int}   : Ct Try.prog 88 [.agg #[.int .i64 x, .int .i64 y]] w fun v w1 => v = .bool (decide (spotOk x y)) ∧ Ext w w1 := by
 refine ct_run (n := 11) Try.func88 rfl Try.ntmps88 rfl ?_
 have E0 : Below w.heap.size w w := Below.refl _ _
 refine rk_seq <| rk_reg <| lw_e (oe_box (v := .agg #[qi x, qi y]) (cs := #[qi x, qi y]) (Z rfl) rfl ?_)
 intro b1 w2 n3
 have N4 : w.heap.size ≤ b1 := n3.eq ▸ E0.size
 have E5 := qe E0 n3.ext
 refine lw_v (.bool false) (dv_assign C) <| qN <| lw_v (.pointer (some ⟨b1, 0, none⟩)) (dv_fieldAddr (a := ⟨b1, 0, none⟩) (a' := ⟨b1, 0, none⟩) fo25_0 (Z rfl) rfl) <| lw_v (qi x) (dv_load1 (b := b1) (o := 0) agt2 (Z rfl) n3.blk rfl) <| lw_e (oe_callf (vs := [qi x, qi (-1000000), qi 1000000]) co53 (ar3 (Z rfl) C C) (l1In_ok (n := x) (lo := -1000000) (hi := 1000000)  ) ?_)
 rintro _ w6 ⟨rfl, e7⟩
 have E8 := qe E5 e7
 refine qm (qd ((-1000000 : Int) ≤ x ∧ x ≤ (1000000 : Int))) rfl rfl ?_
 by_cases hb9 : (-1000000 : Int) ≤ x ∧ x ≤ (1000000 : Int)
 · refine lw_vy (.pointer (some ⟨b1, 1, none⟩)) (d := 6) rfl rfl (qT hb9) (dv_fieldAddr (a := ⟨b1, 0, none⟩) (a' := ⟨b1, 1, none⟩) fo25_1 (Z rfl) rfl) ?_
   have H10 := (e7.blk n3.blk)
   refine lw_vy (qi y) (d := 6) rfl rfl (qT hb9) (dv_load1 (b := b1) (o := 1) agt2 (Z rfl) H10 rfl) <| lw_ey (d := 6) rfl rfl (qT hb9) (oe_callf (vs := [qi y, qi (-1000000), qi 1000000]) co53 (ar3 (Z rfl) C C) (l1In_ok (n := y) (lo := -1000000) (hi := 1000000)  ) ?_)
   rintro _ w11 ⟨rfl, e12⟩
   have E13 := qe E8 e12
   refine lw_v (qd ((-1000000 : Int) ≤ y ∧ y ≤ (1000000 : Int))) (dv_pick_t (T rfl (qT hb9)) (Z rfl)) <| qs (qd ((-1000000 : Int) ≤ y ∧ y ≤ (1000000 : Int))) rfl rfl <| lw_nil <| rk_ret Try.func88 (v := qd ((-1000000 : Int) ≤ y ∧ y ≤ (1000000 : Int))) (res1 Try.results88 (rv_tmp rfl rfl)) ⟨_, rfl, ?_⟩
   exact ⟨(vb (by unfold spotOk; grind)), E13⟩
 refine lw_no (d := 6) rfl rfl (qF hb9) <| lw_no (d := 6) rfl rfl (qF hb9) <| lw_no (d := 6) rfl rfl (qF hb9) <| lw_v (.bool false) (dv_pick_f (T rfl (qF hb9)) C) <| qs (.bool false) rfl rfl <| lw_nil <| rk_ret Try.func88 (v := .bool false) (res1 Try.results88 (rv_tmp rfl rfl)) ⟨_, rfl, ?_⟩
 exact ⟨(vf (by unfold spotOk; grind)), E8⟩
set_option maxHeartbeats 1000000 in
theorem iSpotOk_ok {w : World} {x y : Int}   : Ct Try.prog 12 [.agg #[.int .i64 x, .int .i64 y]] w fun v w1 => v = .bool (decide (spotOk x y)) ∧ Ext w w1 := by
 refine ct_run (n := 11) Try.func12 rfl Try.ntmps12 rfl ?_
 have E0 : Below w.heap.size w w := Below.refl _ _
 refine rk_seq <| rk_reg <| lw_e (oe_box (v := .agg #[qi x, qi y]) (cs := #[qi x, qi y]) (Z rfl) rfl ?_)
 intro b1 w2 n3
 have N4 : w.heap.size ≤ b1 := n3.eq ▸ E0.size
 have E5 := qe E0 n3.ext
 refine lw_v (.bool false) (dv_assign C) <| qN <| lw_v (.pointer (some ⟨b1, 0, none⟩)) (dv_fieldAddr (a := ⟨b1, 0, none⟩) (a' := ⟨b1, 0, none⟩) fo25_0 (Z rfl) rfl) <| lw_v (qi x) (dv_load1 (b := b1) (o := 0) agt2 (Z rfl) n3.blk rfl) <| lw_e (oe_callf (vs := [qi x, qi (-1000000), qi 1000000]) co46 (ar3 (Z rfl) C C) (within_ok (n := x) (lo := -1000000) (hi := 1000000)  ) ?_)
 rintro _ w6 ⟨rfl, e7⟩
 have E8 := qe E5 e7
 refine qm (qd ((-1000000 : Int) ≤ x ∧ x ≤ (1000000 : Int))) rfl rfl ?_
 by_cases hb9 : (-1000000 : Int) ≤ x ∧ x ≤ (1000000 : Int)
 · refine lw_vy (.pointer (some ⟨b1, 1, none⟩)) (d := 6) rfl rfl (qT hb9) (dv_fieldAddr (a := ⟨b1, 0, none⟩) (a' := ⟨b1, 1, none⟩) fo25_1 (Z rfl) rfl) ?_
   have H10 := (e7.blk n3.blk)
   refine lw_vy (qi y) (d := 6) rfl rfl (qT hb9) (dv_load1 (b := b1) (o := 1) agt2 (Z rfl) H10 rfl) <| lw_ey (d := 6) rfl rfl (qT hb9) (oe_callf (vs := [qi y, qi (-1000000), qi 1000000]) co46 (ar3 (Z rfl) C C) (within_ok (n := y) (lo := -1000000) (hi := 1000000)  ) ?_)
   rintro _ w11 ⟨rfl, e12⟩
   have E13 := qe E8 e12
   refine lw_v (qd ((-1000000 : Int) ≤ y ∧ y ≤ (1000000 : Int))) (dv_pick_t (T rfl (qT hb9)) (Z rfl)) <| qs (qd ((-1000000 : Int) ≤ y ∧ y ≤ (1000000 : Int))) rfl rfl <| lw_nil <| rk_ret Try.func12 (v := qd ((-1000000 : Int) ≤ y ∧ y ≤ (1000000 : Int))) (res1 Try.results12 (rv_tmp rfl rfl)) ⟨_, rfl, ?_⟩
   exact ⟨(vb (by unfold spotOk; grind)), E13⟩
 refine lw_no (d := 6) rfl rfl (qF hb9) <| lw_no (d := 6) rfl rfl (qF hb9) <| lw_no (d := 6) rfl rfl (qF hb9) <| lw_v (.bool false) (dv_pick_f (T rfl (qF hb9)) C) <| qs (.bool false) rfl rfl <| lw_nil <| rk_ret Try.func12 (v := .bool false) (res1 Try.results12 (rv_tmp rfl rfl)) ⟨_, rfl, ?_⟩
 exact ⟨(vf (by unfold spotOk; grind)), E8⟩
set_option maxHeartbeats 1000000 in
theorem toSpot_ok {w : World} {x y : Int}   : Ct Try.prog 111 [.agg #[.int .i64 x, .int .i64 y]] w fun v w1 => v = .agg #[.int .i64 x, .int .i64 y] ∧ Ext w w1 := by
 refine ct_run (n := 11) Try.func111 rfl Try.ntmps111 rfl ?_
 have E0 : Below w.heap.size w w := Below.refl _ _
 refine rk_seq <| rk_reg <| lw_e (oe_box (v := .agg #[qi x, qi y]) (cs := #[qi x, qi y]) (Z rfl) rfl ?_)
 intro b1 w2 n3
 have N4 : w.heap.size ≤ b1 := n3.eq ▸ E0.size
 have E5 := qe E0 n3.ext
 refine lw_e (oe_alloc ze25 ?_)
 intro b6 w7 n8
 have N9 : w.heap.size ≤ b6 := n8.eq ▸ E5.size
 have : b1 < b6 := n8.eq ▸ lt_of_blk n3.blk
 have E10 := qe E5 n8.ext
 refine qN <| lw_e (oe_alloc ze25 ?_)
 intro b11 w12 n13
 have N14 : w.heap.size ≤ b11 := n13.eq ▸ E10.size
 have : b6 < b11 := n13.eq ▸ lt_of_blk n8.blk
 have E15 := qe E10 n13.ext
 refine qN <| lw_v (.pointer (some ⟨b1, 0, none⟩)) (dv_fieldAddr (a := ⟨b1, 0, none⟩) (a' := ⟨b1, 0, none⟩) fo101_0 (Z rfl) rfl) ?_
 have H16 := (n13.ext.blk (n8.ext.blk n3.blk))
 refine lw_v (qi x) (dv_load1 (b := b1) (o := 0) agt2 (Z rfl) H16 rfl) <| lw_v (.pointer (some ⟨b11, 0, none⟩)) (dv_fieldAddr (a := ⟨b11, 0, none⟩) (a' := ⟨b11, 0, none⟩) fo25_0 (Z rfl) rfl) <| lw_e (oe_store (v := qi x) (vs := [qi x]) (l := [qi x, qi 0]) (Z rfl) (Z rfl) sz2 rfl rfl rfl n13.blk rfl ?_)
 intro w17 s18 H19
 have E20 := below_st E15 N14 s18
 refine qN <| lw_v (.pointer (some ⟨b1, 1, none⟩)) (dv_fieldAddr (a := ⟨b1, 0, none⟩) (a' := ⟨b1, 1, none⟩) fo101_1 (Z rfl) rfl) ?_
 have H21 := (s18.blk H16 (by omega))
 refine lw_v (qi y) (dv_load1 (b := b1) (o := 1) agt2 (Z rfl) H21 rfl) <| lw_v (.pointer (some ⟨b11, 1, none⟩)) (dv_fieldAddr (a := ⟨b11, 0, none⟩) (a' := ⟨b11, 1, none⟩) fo25_1 (Z rfl) rfl) <| lw_e (oe_store (v := qi y) (vs := [qi y]) (l := [qi x, qi y]) (Z rfl) (Z rfl) sz2 rfl rfl rfl H19 rfl ?_)
 intro w22 s23 H24
 have E25 := below_st E20 N14 s23
 refine qN <| lw_v (.agg #[qi x, qi y]) (dv_loads (l := [qi x, qi y]) agt25 sz25 (Z rfl) H24 rfl) ?_
 have H26 := (s23.blk (s18.blk (n13.ext.blk n8.blk) (by omega)) (by omega))
 refine lw_e (oe_store (v := .agg #[qi x, qi y]) (vs := [qi x, qi y]) (l := [qi x, qi y]) (Z rfl) (Z rfl) sz25 rfl rfl rfl H26 rfl ?_)
 intro w27 s28 H29
 have E30 := below_st E25 N9 s28
 refine lw_nil <| rk_ret Try.func111 (v := .agg #[qi x, qi y]) (res1 Try.results111 (rv_cells (l := [qi x, qi y]) agt25 sz25 rfl rfl H29 rfl)) ⟨_, rfl, ?_⟩
 exact ⟨rfl, E30⟩
set_option maxHeartbeats 1000000 in
theorem l4Less_ok {w : World} {ax ay bx b_y : Int}   : Ct Try.prog 89 [.agg #[.int .i64 ax, .int .i64 ay], .agg #[.int .i64 bx, .int .i64 b_y]] w fun v w1 => v = .bool (decide (spotLt ax ay bx b_y)) ∧ Ext w w1 := by
 refine ct_run (n := 24) Try.func89 rfl Try.ntmps89 rfl ?_
 have E0 : Below w.heap.size w w := Below.refl _ _
 refine rk_seq <| rk_reg <| lw_e (oe_box (v := .agg #[qi ax, qi ay]) (cs := #[qi ax, qi ay]) (Z rfl) rfl ?_)
 intro b1 w2 n3
 have N4 : w.heap.size ≤ b1 := n3.eq ▸ E0.size
 have E5 := qe E0 n3.ext
 refine lw_e (oe_box (v := .agg #[qi bx, qi b_y]) (cs := #[qi bx, qi b_y]) (Z rfl) rfl ?_)
 intro b6 w7 n8
 have N9 : w.heap.size ≤ b6 := n8.eq ▸ E5.size
 have : b1 < b6 := n8.eq ▸ lt_of_blk n3.blk
 have E10 := qe E5 n8.ext
 refine lw_v (.bool false) (dv_assign C) <| qN <| lw_v (.pointer (some ⟨b1, 0, none⟩)) (dv_fieldAddr (a := ⟨b1, 0, none⟩) (a' := ⟨b1, 0, none⟩) fo25_0 (Z rfl) rfl) ?_
 have H11 := (n8.ext.blk n3.blk)
 refine lw_v (qi ax) (dv_load1 (b := b1) (o := 0) agt2 (Z rfl) H11 rfl) <| lw_v (.pointer (some ⟨b6, 0, none⟩)) (dv_fieldAddr (a := ⟨b6, 0, none⟩) (a' := ⟨b6, 0, none⟩) fo25_0 (Z rfl) rfl) <| lw_v (qi bx) (dv_load1 (b := b6) (o := 0) agt2 (Z rfl) n8.blk rfl) <| lw_v _ (dv_lss (a := ax) (b := bx) (Z rfl) (Z rfl)) <| qm (qd (ax < bx)) rfl rfl ?_
 by_cases hb12 : ax < bx
 · refine lw_no (d := 10) rfl rfl (qT hb12) <| lw_no (d := 10) rfl rfl (qT hb12) <| lw_no (d := 10) rfl rfl (qT hb12) <| lw_no (d := 10) rfl rfl (qT hb12) <| lw_no (d := 10) rfl rfl (qT hb12) <| lw_no (d := 10) rfl rfl (qT hb12) <| lw_nou (d := 16) rfl rfl <| lw_nou (d := 16) rfl rfl <| lw_nou (d := 16) rfl rfl <| lw_nou (d := 16) rfl rfl <| lw_nou (d := 16) rfl rfl <| lw_no (d := 10) rfl rfl (qT hb12) <| lw_v (.bool true) (dv_pick_t (T rfl (qT hb12)) C) <| qs (.bool true) rfl rfl <| lw_nil <| rk_ret Try.func89 (v := .bool true) (res1 Try.results89 (rv_tmp rfl rfl)) ⟨_, rfl, ?_⟩
   exact ⟨(vt (by unfold spotLt; grind)), E10⟩
 refine lw_vy (.pointer (some ⟨b1, 0, none⟩)) (d := 10) rfl rfl (qF hb12) (dv_fieldAddr (a := ⟨b1, 0, none⟩) (a' := ⟨b1, 0, none⟩) fo25_0 (Z rfl) rfl) <| lw_vy (qi ax) (d := 10) rfl rfl (qF hb12) (dv_load1 (b := b1) (o := 0) agt2 (Z rfl) H11 rfl) <| lw_vy (.pointer (some ⟨b6, 0, none⟩)) (d := 10) rfl rfl (qF hb12) (dv_fieldAddr (a := ⟨b6, 0, none⟩) (a' := ⟨b6, 0, none⟩) fo25_0 (Z rfl) rfl) <| lw_vy (qi bx) (d := 10) rfl rfl (qF hb12) (dv_load1 (b := b6) (o := 0) agt2 (Z rfl) n8.blk rfl) <| lw_vy (qd (ax = bx)) (d := 10) rfl rfl (qF hb12) (dv_eql (a := ax) (b := bx) (Z rfl) (Z rfl)) <| lw_vy (qd (ax = bx)) (d := 10) rfl rfl (qF hb12) (dv_move (Z rfl)) ?_
 by_cases hb13 : ax = bx
 · refine lw_vy (.pointer (some ⟨b1, 1, none⟩)) (d := 16) rfl rfl (qT hb13) (dv_fieldAddr (a := ⟨b1, 0, none⟩) (a' := ⟨b1, 1, none⟩) fo25_1 (Z rfl) rfl) <| lw_vy (qi ay) (d := 16) rfl rfl (qT hb13) (dv_load1 (b := b1) (o := 1) agt2 (Z rfl) H11 rfl) <| lw_vy (.pointer (some ⟨b6, 1, none⟩)) (d := 16) rfl rfl (qT hb13) (dv_fieldAddr (a := ⟨b6, 0, none⟩) (a' := ⟨b6, 1, none⟩) fo25_1 (Z rfl) rfl) <| lw_vy (qi b_y) (d := 16) rfl rfl (qT hb13) (dv_load1 (b := b6) (o := 1) agt2 (Z rfl) n8.blk rfl) <| lw_vy (qd (ay < b_y)) (d := 16) rfl rfl (qT hb13) (dv_lss (a := ay) (b := b_y) (Z rfl) (Z rfl)) <| lw_vy (qd (ay < b_y)) (d := 10) rfl rfl (qF hb12) (dv_pick_t (T rfl (qT hb13)) (Z rfl)) <| lw_v (qd (ay < b_y)) (dv_pick_f (T rfl (qF hb12)) (Z rfl)) <| qs (qd (ay < b_y)) rfl rfl <| lw_nil <| rk_ret Try.func89 (v := qd (ay < b_y)) (res1 Try.results89 (rv_tmp rfl rfl)) ⟨_, rfl, ?_⟩
   exact ⟨(vb (by unfold spotLt; grind)), E10⟩
 refine lw_no (d := 16) rfl rfl (qF hb13) <| lw_no (d := 16) rfl rfl (qF hb13) <| lw_no (d := 16) rfl rfl (qF hb13) <| lw_no (d := 16) rfl rfl (qF hb13) <| lw_no (d := 16) rfl rfl (qF hb13) <| lw_vy (.bool false) (d := 10) rfl rfl (qF hb12) (dv_pick_f (T rfl (qF hb13)) C) <| lw_v (.bool false) (dv_pick_f (T rfl (qF hb12)) (Z rfl)) <| qs (.bool false) rfl rfl <| lw_nil <| rk_ret Try.func89 (v := .bool false) (res1 Try.results89 (rv_tmp rfl rfl)) ⟨_, rfl, ?_⟩
 exact ⟨(vf (by unfold spotLt; grind)), E10⟩
set_option maxHeartbeats 1000000 in
theorem cmpSpots_ok {w : World} {ax ay bx b_y : Int}   : Ct Try.prog 45 [.agg #[.int .i64 ax, .int .i64 ay], .agg #[.int .i64 bx, .int .i64 b_y]] w fun v w1 => v = .int .i64 (cmpS ax ay bx b_y) ∧ Ext w w1 := by
 refine ct_run (n := 29) Try.func45 rfl Try.ntmps45 rfl ?_
 have E0 : Below w.heap.size w w := Below.refl _ _
 refine rk_seq <| rk_reg <| lw_e (oe_box (v := .agg #[qi ax, qi ay]) (cs := #[qi ax, qi ay]) (Z rfl) rfl ?_)
 intro b1 w2 n3
 have N4 : w.heap.size ≤ b1 := n3.eq ▸ E0.size
 have E5 := qe E0 n3.ext
 refine lw_e (oe_box (v := .agg #[qi bx, qi b_y]) (cs := #[qi bx, qi b_y]) (Z rfl) rfl ?_)
 intro b6 w7 n8
 have N9 : w.heap.size ≤ b6 := n8.eq ▸ E5.size
 have : b1 < b6 := n8.eq ▸ lt_of_blk n3.blk
 have E10 := qe E5 n8.ext
 refine lw_v (qi 0) (dv_assign C) <| lw_nil <| rk_seq <| rk_block <| rk_seq <| rk_reg ?_
 have H11 := (n8.ext.blk n3.blk)
 refine lw_v (.agg #[qi ax, qi ay]) (dv_loads (l := [qi ax, qi ay]) agt25 sz25 (Z rfl) H11 rfl) <| lw_v (.agg #[qi bx, qi b_y]) (dv_loads (l := [qi bx, qi b_y]) agt25 sz25 (Z rfl) n8.blk rfl) <| lw_v (qd (([ax, ay] : List Int) = [bx, b_y])) (dv_eqls (k := .i64) (la := [ax, ay]) (lb := [bx, b_y]) fl25 eg25 (Z rfl) (Z rfl) rfl rfl) <| qs (qd (([ax, ay] : List Int) = [bx, b_y])) rfl rfl <| lw_nil ?_
 by_cases hb12 : ([ax, ay] : List Int) = [bx, b_y]
 · refine rk_ct (T rfl (qT hb12)) <| rk_seq <| rk_reg <| lw_v (qi 0) (dv_assign C) <| lw_nil <| rk_ret Try.func45 (v := qi 0) (res1 Try.results45 (rv_tmp rfl rfl)) ⟨_, rfl, ?_⟩
   exact ⟨(vi (by unfold cmpS spotLt; grind)), E10⟩
 refine rk_cf (T rfl (qF hb12)) <| rk_seq <| rk_reg <| lw_v (.pointer (some ⟨b1, 0, none⟩)) (dv_fieldAddr (a := ⟨b1, 0, none⟩) (a' := ⟨b1, 0, none⟩) fo25_0 (Z rfl) rfl) <| lw_v (qi ax) (dv_load1 (b := b1) (o := 0) agt2 (Z rfl) H11 rfl) <| lw_v (.pointer (some ⟨b6, 0, none⟩)) (dv_fieldAddr (a := ⟨b6, 0, none⟩) (a' := ⟨b6, 0, none⟩) fo25_0 (Z rfl) rfl) <| lw_v (qi bx) (dv_load1 (b := b6) (o := 0) agt2 (Z rfl) n8.blk rfl) <| lw_v _ (dv_lss (a := ax) (b := bx) (Z rfl) (Z rfl)) <| qm (qd (ax < bx)) rfl rfl ?_
 by_cases hb13 : ax < bx
 · refine lw_no (d := 15) rfl rfl (qT hb13) <| lw_no (d := 15) rfl rfl (qT hb13) <| lw_no (d := 15) rfl rfl (qT hb13) <| lw_no (d := 15) rfl rfl (qT hb13) <| lw_no (d := 15) rfl rfl (qT hb13) <| lw_no (d := 15) rfl rfl (qT hb13) <| lw_nou (d := 21) rfl rfl <| lw_nou (d := 21) rfl rfl <| lw_nou (d := 21) rfl rfl <| lw_nou (d := 21) rfl rfl <| lw_nou (d := 21) rfl rfl <| lw_no (d := 15) rfl rfl (qT hb13) <| lw_v (.bool true) (dv_pick_t (T rfl (qT hb13)) C) <| qs (.bool true) rfl rfl <| lw_nil <| rk_ct (Z rfl) <| rk_seq <| rk_reg <| lw_v (qi (-1)) (dv_assign C) <| lw_nil <| rk_ret Try.func45 (v := qi (-1)) (res1 Try.results45 (rv_tmp rfl rfl)) ⟨_, rfl, ?_⟩
   exact ⟨(vi (by unfold cmpS spotLt; grind)), E10⟩
 refine lw_vy (.pointer (some ⟨b1, 0, none⟩)) (d := 15) rfl rfl (qF hb13) (dv_fieldAddr (a := ⟨b1, 0, none⟩) (a' := ⟨b1, 0, none⟩) fo25_0 (Z rfl) rfl) <| lw_vy (qi ax) (d := 15) rfl rfl (qF hb13) (dv_load1 (b := b1) (o := 0) agt2 (Z rfl) H11 rfl) <| lw_vy (.pointer (some ⟨b6, 0, none⟩)) (d := 15) rfl rfl (qF hb13) (dv_fieldAddr (a := ⟨b6, 0, none⟩) (a' := ⟨b6, 0, none⟩) fo25_0 (Z rfl) rfl) <| lw_vy (qi bx) (d := 15) rfl rfl (qF hb13) (dv_load1 (b := b6) (o := 0) agt2 (Z rfl) n8.blk rfl) <| lw_vy (qd (ax = bx)) (d := 15) rfl rfl (qF hb13) (dv_eql (a := ax) (b := bx) (Z rfl) (Z rfl)) <| lw_vy (qd (ax = bx)) (d := 15) rfl rfl (qF hb13) (dv_move (Z rfl)) ?_
 by_cases hb14 : ax = bx
 · refine lw_vy (.pointer (some ⟨b1, 1, none⟩)) (d := 21) rfl rfl (qT hb14) (dv_fieldAddr (a := ⟨b1, 0, none⟩) (a' := ⟨b1, 1, none⟩) fo25_1 (Z rfl) rfl) <| lw_vy (qi ay) (d := 21) rfl rfl (qT hb14) (dv_load1 (b := b1) (o := 1) agt2 (Z rfl) H11 rfl) <| lw_vy (.pointer (some ⟨b6, 1, none⟩)) (d := 21) rfl rfl (qT hb14) (dv_fieldAddr (a := ⟨b6, 0, none⟩) (a' := ⟨b6, 1, none⟩) fo25_1 (Z rfl) rfl) <| lw_vy (qi b_y) (d := 21) rfl rfl (qT hb14) (dv_load1 (b := b6) (o := 1) agt2 (Z rfl) n8.blk rfl) <| lw_vy (qd (ay < b_y)) (d := 21) rfl rfl (qT hb14) (dv_lss (a := ay) (b := b_y) (Z rfl) (Z rfl)) <| lw_vy (qd (ay < b_y)) (d := 15) rfl rfl (qF hb13) (dv_pick_t (T rfl (qT hb14)) (Z rfl)) <| lw_v (qd (ay < b_y)) (dv_pick_f (T rfl (qF hb13)) (Z rfl)) <| qs (qd (ay < b_y)) rfl rfl <| lw_nil ?_
   by_cases hb15 : ay < b_y
   · refine rk_ct (T rfl (qT hb15)) <| rk_seq <| rk_reg <| lw_v (qi (-1)) (dv_assign C) <| lw_nil <| rk_ret Try.func45 (v := qi (-1)) (res1 Try.results45 (rv_tmp rfl rfl)) ⟨_, rfl, ?_⟩
     exact ⟨(vi (by unfold cmpS spotLt; grind)), E10⟩
   refine rk_cf (T rfl (qF hb15)) <| rk_skip <| rk_inBlock <| rk_seq <| rk_reg <| lw_v (qi 1) (dv_assign C) <| lw_nil <| rk_ret Try.func45 (v := qi 1) (res1 Try.results45 (rv_tmp rfl rfl)) ⟨_, rfl, ?_⟩
   exact ⟨(vi (by unfold cmpS spotLt; grind)), E10⟩
 refine lw_no (d := 21) rfl rfl (qF hb14) <| lw_no (d := 21) rfl rfl (qF hb14) <| lw_no (d := 21) rfl rfl (qF hb14) <| lw_no (d := 21) rfl rfl (qF hb14) <| lw_no (d := 21) rfl rfl (qF hb14) <| lw_vy (.bool false) (d := 15) rfl rfl (qF hb13) (dv_pick_f (T rfl (qF hb14)) C) <| lw_v (.bool false) (dv_pick_f (T rfl (qF hb13)) (Z rfl)) <| qs (.bool false) rfl rfl <| lw_nil <| rk_cf (Z rfl) <| rk_skip <| rk_inBlock <| rk_seq <| rk_reg <| lw_v (qi 1) (dv_assign C) <| lw_nil <| rk_ret Try.func45 (v := qi 1) (res1 Try.results45 (rv_tmp rfl rfl)) ⟨_, rfl, ?_⟩
 exact ⟨(vi (by unfold cmpS spotLt; grind)), E10⟩
set_option maxHeartbeats 1000000 in
theorem sSegOk_ok {w : World} {ax ay bx b_y : Int}   : Ct Try.prog 42 [.agg #[.int .i64 ax, .int .i64 ay, .int .i64 bx, .int .i64 b_y]] w fun v w1 => v = .bool (decide (segOk ax ay bx b_y)) ∧ Ext w w1 := by
 refine ct_run (n := 18) Try.func42 rfl Try.ntmps42 rfl ?_
 have E0 : Below w.heap.size w w := Below.refl _ _
 refine rk_seq <| rk_reg <| lw_e (oe_box (v := .agg #[qi ax, qi ay, qi bx, qi b_y]) (cs := #[qi ax, qi ay, qi bx, qi b_y]) (Z rfl) rfl ?_)
 intro b1 w2 n3
 have N4 : w.heap.size ≤ b1 := n3.eq ▸ E0.size
 have E5 := qe E0 n3.ext
 refine lw_v (.bool false) (dv_assign C) <| qN <| lw_v (.pointer (some ⟨b1, 0, none⟩)) (dv_fieldAddr (a := ⟨b1, 0, none⟩) (a' := ⟨b1, 0, none⟩) fo27_0 (Z rfl) rfl) <| lw_v (.agg #[qi ax, qi ay]) (dv_loads (l := [qi ax, qi ay]) agt25 sz25 (Z rfl) n3.blk rfl) <| lw_e (oe_callf (vs := [.agg #[qi ax, qi ay]]) co88 (ar1 (Z rfl)) (sSpotOk_ok (x := ax) (y := ay)  ) ?_)
 rintro _ w6 ⟨rfl, e7⟩
 have E8 := qe E5 e7
 refine qm (qd (spotOk ax ay)) rfl rfl ?_
 by_cases hb9 : spotOk ax ay
 · refine lw_vy (.pointer (some ⟨b1, 2, none⟩)) (d := 6) rfl rfl (qT hb9) (dv_fieldAddr (a := ⟨b1, 0, none⟩) (a' := ⟨b1, 2, none⟩) fo27_1 (Z rfl) rfl) ?_
   have H10 := (e7.blk n3.blk)
   refine lw_vy (.agg #[qi bx, qi b_y]) (d := 6) rfl rfl (qT hb9) (dv_loads (l := [qi bx, qi b_y]) agt25 sz25 (Z rfl) H10 rfl) <| lw_ey (d := 6) rfl rfl (qT hb9) (oe_callf (vs := [.agg #[qi bx, qi b_y]]) co88 (ar1 (Z rfl)) (sSpotOk_ok (x := bx) (y := b_y)  ) ?_)
   rintro _ w11 ⟨rfl, e12⟩
   have E13 := qe E8 e12
   refine lw_v (qd (spotOk bx b_y)) (dv_pick_t (T rfl (qT hb9)) (Z rfl)) <| qm (qd (spotOk bx b_y)) rfl rfl ?_
   by_cases hb14 : spotOk bx b_y
   · refine lw_vy (.pointer (some ⟨b1, 0, none⟩)) (d := 11) rfl rfl (qT hb14) (dv_fieldAddr (a := ⟨b1, 0, none⟩) (a' := ⟨b1, 0, none⟩) fo27_0 (Z rfl) rfl) ?_
     have H15 := (e12.blk H10)
     refine lw_vy (.agg #[qi ax, qi ay]) (d := 11) rfl rfl (qT hb14) (dv_loads (l := [qi ax, qi ay]) agt25 sz25 (Z rfl) H15 rfl) <| lw_vy (.pointer (some ⟨b1, 2, none⟩)) (d := 11) rfl rfl (qT hb14) (dv_fieldAddr (a := ⟨b1, 0, none⟩) (a' := ⟨b1, 2, none⟩) fo27_1 (Z rfl) rfl) <| lw_vy (.agg #[qi bx, qi b_y]) (d := 11) rfl rfl (qT hb14) (dv_loads (l := [qi bx, qi b_y]) agt25 sz25 (Z rfl) H15 rfl) <| lw_ey (d := 11) rfl rfl (qT hb14) (oe_callf (vs := [.agg #[qi ax, qi ay], .agg #[qi bx, qi b_y]]) co89 (ar2 (Z rfl) (Z rfl)) (l4Less_ok (ax := ax) (ay := ay) (bx := bx) (b_y := b_y)  ) ?_)
     rintro _ w16 ⟨rfl, e17⟩
     have E18 := qe E13 e17
     refine lw_v (qd (spotLt ax ay bx b_y)) (dv_pick_t (T rfl (qT hb14)) (Z rfl)) <| qs (qd (spotLt ax ay bx b_y)) rfl rfl <| lw_nil <| rk_ret Try.func42 (v := qd (spotLt ax ay bx b_y)) (res1 Try.results42 (rv_tmp rfl rfl)) ⟨_, rfl, ?_⟩
     exact ⟨(vb (by grind [segOk, cmpS_neg])), E18⟩
   refine lw_no (d := 11) rfl rfl (qF hb14) <| lw_no (d := 11) rfl rfl (qF hb14) <| lw_no (d := 11) rfl rfl (qF hb14) <| lw_no (d := 11) rfl rfl (qF hb14) <| lw_no (d := 11) rfl rfl (qF hb14) <| lw_v (.bool false) (dv_pick_f (T rfl (qF hb14)) C) <| qs (.bool false) rfl rfl <| lw_nil <| rk_ret Try.func42 (v := .bool false) (res1 Try.results42 (rv_tmp rfl rfl)) ⟨_, rfl, ?_⟩
   exact ⟨(vf (by grind [segOk, cmpS_neg])), E13⟩
 refine lw_no (d := 6) rfl rfl (qF hb9) <| lw_no (d := 6) rfl rfl (qF hb9) <| lw_no (d := 6) rfl rfl (qF hb9) <| lw_v (.bool false) (dv_pick_f (T rfl (qF hb9)) C) <| qm (.bool false) rfl rfl <| lw_no (d := 11) rfl rfl (rfl) <| lw_no (d := 11) rfl rfl (rfl) <| lw_no (d := 11) rfl rfl (rfl) <| lw_no (d := 11) rfl rfl (rfl) <| lw_no (d := 11) rfl rfl (rfl) <| lw_v (.bool false) (dv_pick_f (Z rfl) C) <| qs (.bool false) rfl rfl <| lw_nil <| rk_ret Try.func42 (v := .bool false) (res1 Try.results42 (rv_tmp rfl rfl)) ⟨_, rfl, ?_⟩
 exact ⟨(vf (by grind [segOk, cmpS_neg])), E8⟩
set_option maxHeartbeats 1000000 in
theorem iSegOk_ok {w : World} {ax ay bx b_y : Int}   : Ct Try.prog 11 [.agg #[.int .i64 ax, .int .i64 ay, .int .i64 bx, .int .i64 b_y]] w fun v w1 => v = .bool (decide (segOk ax ay bx b_y)) ∧ Ext w w1 := by
 refine ct_run (n := 19) Try.func11 rfl Try.ntmps11 rfl ?_
 have E0 : Below w.heap.size w w := Below.refl _ _
 refine rk_seq <| rk_reg <| lw_e (oe_box (v := .agg #[qi ax, qi ay, qi bx, qi b_y]) (cs := #[qi ax, qi ay, qi bx, qi b_y]) (Z rfl) rfl ?_)
 intro b1 w2 n3
 have N4 : w.heap.size ≤ b1 := n3.eq ▸ E0.size
 have E5 := qe E0 n3.ext
 refine lw_v (.bool false) (dv_assign C) <| qN <| lw_v (.pointer (some ⟨b1, 0, none⟩)) (dv_fieldAddr (a := ⟨b1, 0, none⟩) (a' := ⟨b1, 0, none⟩) fo27_0 (Z rfl) rfl) <| lw_v (.agg #[qi ax, qi ay]) (dv_loads (l := [qi ax, qi ay]) agt25 sz25 (Z rfl) n3.blk rfl) <| lw_e (oe_callf (vs := [.agg #[qi ax, qi ay]]) co12 (ar1 (Z rfl)) (iSpotOk_ok (x := ax) (y := ay)  ) ?_)
 rintro _ w6 ⟨rfl, e7⟩
 have E8 := qe E5 e7
 refine qm (qd (spotOk ax ay)) rfl rfl ?_
 by_cases hb9 : spotOk ax ay
 · refine lw_vy (.pointer (some ⟨b1, 2, none⟩)) (d := 6) rfl rfl (qT hb9) (dv_fieldAddr (a := ⟨b1, 0, none⟩) (a' := ⟨b1, 2, none⟩) fo27_1 (Z rfl) rfl) ?_
   have H10 := (e7.blk n3.blk)
   refine lw_vy (.agg #[qi bx, qi b_y]) (d := 6) rfl rfl (qT hb9) (dv_loads (l := [qi bx, qi b_y]) agt25 sz25 (Z rfl) H10 rfl) <| lw_ey (d := 6) rfl rfl (qT hb9) (oe_callf (vs := [.agg #[qi bx, qi b_y]]) co12 (ar1 (Z rfl)) (iSpotOk_ok (x := bx) (y := b_y)  ) ?_)
   rintro _ w11 ⟨rfl, e12⟩
   have E13 := qe E8 e12
   refine lw_v (qd (spotOk bx b_y)) (dv_pick_t (T rfl (qT hb9)) (Z rfl)) <| qm (qd (spotOk bx b_y)) rfl rfl ?_
   by_cases hb14 : spotOk bx b_y
   · refine lw_vy (.pointer (some ⟨b1, 0, none⟩)) (d := 11) rfl rfl (qT hb14) (dv_fieldAddr (a := ⟨b1, 0, none⟩) (a' := ⟨b1, 0, none⟩) fo27_0 (Z rfl) rfl) ?_
     have H15 := (e12.blk H10)
     refine lw_vy (.agg #[qi ax, qi ay]) (d := 11) rfl rfl (qT hb14) (dv_loads (l := [qi ax, qi ay]) agt25 sz25 (Z rfl) H15 rfl) <| lw_vy (.pointer (some ⟨b1, 2, none⟩)) (d := 11) rfl rfl (qT hb14) (dv_fieldAddr (a := ⟨b1, 0, none⟩) (a' := ⟨b1, 2, none⟩) fo27_1 (Z rfl) rfl) <| lw_vy (.agg #[qi bx, qi b_y]) (d := 11) rfl rfl (qT hb14) (dv_loads (l := [qi bx, qi b_y]) agt25 sz25 (Z rfl) H15 rfl) <| lw_ey (d := 11) rfl rfl (qT hb14) (oe_callf (vs := [.agg #[qi ax, qi ay], .agg #[qi bx, qi b_y]]) co45 (ar2 (Z rfl) (Z rfl)) (cmpSpots_ok (ax := ax) (ay := ay) (bx := bx) (b_y := b_y)  ) ?_)
     rintro _ w16 ⟨rfl, e17⟩
     have E18 := qe E13 e17
     refine lw_vy (qd ((cmpS ax ay bx b_y) < 0)) (d := 11) rfl rfl (qT hb14) (dv_lss (a := cmpS ax ay bx b_y) (b := 0) (Z rfl) C) <| lw_v (qd ((cmpS ax ay bx b_y) < 0)) (dv_pick_t (T rfl (qT hb14)) (Z rfl)) <| qs (qd ((cmpS ax ay bx b_y) < 0)) rfl rfl <| lw_nil <| rk_ret Try.func11 (v := qd ((cmpS ax ay bx b_y) < 0)) (res1 Try.results11 (rv_tmp rfl rfl)) ⟨_, rfl, ?_⟩
     exact ⟨(vb (by grind [segOk, cmpS_neg])), E18⟩
   refine lw_no (d := 11) rfl rfl (qF hb14) <| lw_no (d := 11) rfl rfl (qF hb14) <| lw_no (d := 11) rfl rfl (qF hb14) <| lw_no (d := 11) rfl rfl (qF hb14) <| lw_no (d := 11) rfl rfl (qF hb14) <| lw_no (d := 11) rfl rfl (qF hb14) <| lw_v (.bool false) (dv_pick_f (T rfl (qF hb14)) C) <| qs (.bool false) rfl rfl <| lw_nil <| rk_ret Try.func11 (v := .bool false) (res1 Try.results11 (rv_tmp rfl rfl)) ⟨_, rfl, ?_⟩
   exact ⟨(vf (by grind [segOk, cmpS_neg])), E13⟩
 refine lw_no (d := 6) rfl rfl (qF hb9) <| lw_no (d := 6) rfl rfl (qF hb9) <| lw_no (d := 6) rfl rfl (qF hb9) <| lw_v (.bool false) (dv_pick_f (T rfl (qF hb9)) C) <| qm (.bool false) rfl rfl <| lw_no (d := 11) rfl rfl (rfl) <| lw_no (d := 11) rfl rfl (rfl) <| lw_no (d := 11) rfl rfl (rfl) <| lw_no (d := 11) rfl rfl (rfl) <| lw_no (d := 11) rfl rfl (rfl) <| lw_no (d := 11) rfl rfl (rfl) <| lw_v (.bool false) (dv_pick_f (Z rfl) C) <| qs (.bool false) rfl rfl <| lw_nil <| rk_ret Try.func11 (v := .bool false) (res1 Try.results11 (rv_tmp rfl rfl)) ⟨_, rfl, ?_⟩
 exact ⟨(vf (by grind [segOk, cmpS_neg])), E8⟩
set_option maxHeartbeats 1000000 in
theorem toSeg_ok {w : World} {ax ay bx b_y : Int}   : Ct Try.prog 65 [.agg #[.int .i64 ax, .int .i64 ay, .int .i64 bx, .int .i64 b_y]] w fun v w1 => v = .agg #[.int .i64 ax, .int .i64 ay, .int .i64 bx, .int .i64 b_y] ∧ Ext w w1 := by
 refine ct_run (n := 13) Try.func65 rfl Try.ntmps65 rfl ?_
 have E0 : Below w.heap.size w w := Below.refl _ _
 refine rk_seq <| rk_reg <| lw_e (oe_box (v := .agg #[qi ax, qi ay, qi bx, qi b_y]) (cs := #[qi ax, qi ay, qi bx, qi b_y]) (Z rfl) rfl ?_)
 intro b1 w2 n3
 have N4 : w.heap.size ≤ b1 := n3.eq ▸ E0.size
 have E5 := qe E0 n3.ext
 refine lw_e (oe_alloc ze27 ?_)
 intro b6 w7 n8
 have N9 : w.heap.size ≤ b6 := n8.eq ▸ E5.size
 have : b1 < b6 := n8.eq ▸ lt_of_blk n3.blk
 have E10 := qe E5 n8.ext
 refine qN <| lw_e (oe_alloc ze27 ?_)
 intro b11 w12 n13
 have N14 : w.heap.size ≤ b11 := n13.eq ▸ E10.size
 have : b6 < b11 := n13.eq ▸ lt_of_blk n8.blk
 have E15 := qe E10 n13.ext
 refine qN <| lw_v (.pointer (some ⟨b1, 0, none⟩)) (dv_fieldAddr (a := ⟨b1, 0, none⟩) (a' := ⟨b1, 0, none⟩) fo103_0 (Z rfl) rfl) ?_
 have H16 := (n13.ext.blk (n8.ext.blk n3.blk))
 refine lw_v (.agg #[qi ax, qi ay]) (dv_loads (l := [qi ax, qi ay]) agt101 sz101 (Z rfl) H16 rfl) <| lw_e (oe_callf (vs := [.agg #[qi ax, qi ay]]) co111 (ar1 (Z rfl)) (toSpot_ok (x := ax) (y := ay)  ) ?_)
 rintro _ w17 ⟨rfl, e18⟩
 have E19 := qe E15 e18
 refine lw_v (.pointer (some ⟨b11, 0, none⟩)) (dv_fieldAddr (a := ⟨b11, 0, none⟩) (a' := ⟨b11, 0, none⟩) fo27_0 (Z rfl) rfl) ?_
 have H20 := (e18.blk n13.blk)
 refine lw_e (oe_store (v := .agg #[qi ax, qi ay]) (vs := [qi ax, qi ay]) (l := [qi ax, qi ay, qi 0, qi 0]) (Z rfl) (Z rfl) sz25 rfl rfl rfl H20 rfl ?_)
 intro w21 s22 H23
 have E24 := below_st E19 N14 s22
 refine qN <| lw_v (.pointer (some ⟨b1, 2, none⟩)) (dv_fieldAddr (a := ⟨b1, 0, none⟩) (a' := ⟨b1, 2, none⟩) fo103_1 (Z rfl) rfl) ?_
 have H25 := (s22.blk (e18.blk H16) (by omega))
 refine lw_v (.agg #[qi bx, qi b_y]) (dv_loads (l := [qi bx, qi b_y]) agt101 sz101 (Z rfl) H25 rfl) <| lw_e (oe_callf (vs := [.agg #[qi bx, qi b_y]]) co111 (ar1 (Z rfl)) (toSpot_ok (x := bx) (y := b_y)  ) ?_)
 rintro _ w26 ⟨rfl, e27⟩
 have E28 := qe E24 e27
 refine lw_v (.pointer (some ⟨b11, 2, none⟩)) (dv_fieldAddr (a := ⟨b11, 0, none⟩) (a' := ⟨b11, 2, none⟩) fo27_1 (Z rfl) rfl) ?_
 have H29 := (e27.blk H23)
 refine lw_e (oe_store (v := .agg #[qi bx, qi b_y]) (vs := [qi bx, qi b_y]) (l := [qi ax, qi ay, qi bx, qi b_y]) (Z rfl) (Z rfl) sz25 rfl rfl rfl H29 rfl ?_)
 intro w30 s31 H32
 have E33 := below_st E28 N14 s31
 refine qN <| lw_v (.agg #[qi ax, qi ay, qi bx, qi b_y]) (dv_loads (l := [qi ax, qi ay, qi bx, qi b_y]) agt27 sz27 (Z rfl) H32 rfl) ?_
 have H34 := (s31.blk (e27.blk (s22.blk (e18.blk (n13.ext.blk n8.blk)) (by omega))) (by omega))
 refine lw_e (oe_store (v := .agg #[qi ax, qi ay, qi bx, qi b_y]) (vs := [qi ax, qi ay, qi bx, qi b_y]) (l := [qi ax, qi ay, qi bx, qi b_y]) (Z rfl) (Z rfl) sz27 rfl rfl rfl H34 rfl ?_)
 intro w35 s36 H37
 have E38 := below_st E33 N9 s36
 refine lw_nil <| rk_ret Try.func65 (v := .agg #[qi ax, qi ay, qi bx, qi b_y]) (res1 Try.results65 (rv_cells (l := [qi ax, qi ay, qi bx, qi b_y]) agt27 sz27 rfl rfl H37 rfl)) ⟨_, rfl, ?_⟩
 exact ⟨rfl, E38⟩
set_option maxHeartbeats 1000000 in
theorem l3Spot_ok {w : World}  {x y : Int}  (hx : -9223372036854775808 ≤ x ∧ x ≤ 9223372036854775807) (hy : -9223372036854775808 ≤ y ∧ y ≤ 9223372036854775807) : Ct Try.prog 63 [.agg #[.int .i64 x, .int .i64 y]] w fun v w1 => ∃ nr0_ A0_ l0_ c0_ nr1_ A1_ l1_ c1_ nr2_ A2_ l2_ c2_, v = .agg #[.bool nr0_, .slice A0_ l0_ c0_, .bool nr1_, .slice A1_ l1_ c1_, .bool nr2_, .slice A2_ l2_ c2_] ∧ Ext w w1 ∧ Num 32 168 .u32 w1 nr0_ A0_ l0_ c0_ (x) (64) ∧ Num 32 168 .u32 w1 nr1_ A1_ l1_ c1_ (y) (64) ∧ Num 32 168 .u32 w1 nr2_ A2_ l2_ c2_ (1) (64) := by
 refine ct_run (n := 11) Try.func63 rfl Try.ntmps63 rfl ?_
 have E0 : Below w.heap.size w w := Below.refl _ _
 refine rk_seq <| rk_reg <| lw_e (oe_box (v := .agg #[qi x, qi y]) (cs := #[qi x, qi y]) (Z rfl) rfl ?_)
 intro b1 w2 n3
 have N4 : w.heap.size ≤ b1 := n3.eq ▸ E0.size
 have E5 := qe E0 n3.ext
 refine lw_e (oe_alloc ze90 ?_)
 intro b6 w7 n8
 have N9 : w.heap.size ≤ b6 := n8.eq ▸ E5.size
 have : b1 < b6 := n8.eq ▸ lt_of_blk n3.blk
 have E10 := qe E5 n8.ext
 refine lw_nil <| rk_seq <| rk_any (fun w => w.heap[b1]? = some (.cells #[qi x, qi y] 25)) [8] mo ?_
 intro w11 d12
 have E13 := qe E10 d12.ext
 have H14 := (d12.ext.blk (n8.ext.blk n3.blk))
 refine aw_pure 0 (.pointer (some ⟨b1, 0, none⟩)) rfl (by kernel_rfl) .none H14 (fun _ => dv_fieldAddr (a := ⟨b1, 0, none⟩) (a' := ⟨b1, 0, none⟩) fo25_0 (Z rfl) rfl) <| aw_load 1 (qi x) rfl (by kernel_rfl) .none H14 (fun _ s => dv_load1 (b := b1) (o := 0) agt2 (Z rfl) s rfl) <| aw_pure 3 (.pointer (some ⟨b1, 1, none⟩)) rfl (by kernel_rfl) .none H14 (fun _ => dv_fieldAddr (a := ⟨b1, 0, none⟩) (a' := ⟨b1, 1, none⟩) fo25_1 (Z rfl) rfl) <| aw_load 4 (qi y) rfl (by kernel_rfl) .none H14 (fun _ s => dv_load1 (b := b1) (o := 1) agt2 (Z rfl) s rfl) <| aw_one 2 rfl (by kernel_rfl) .none (oe_callf (vs := [qi x]) co99 (ar1 (Z rfl)) (l1Int_ok  (by omega)) ?_)
 rintro _ w20 ⟨nr15, A16, n17, c18, rfl, e21, h19⟩
 have E22 := qe E13 e21
 have lh19 := ql h19
 have H23 := (e21.blk H14)
 refine ⟨.inr H23, ?_⟩
 refine aw_one 5 rfl (by kernel_rfl) .none (oe_callf (vs := [qi y]) co99 (ar1 (Z rfl)) (l1Int_ok  (by omega)) ?_)
 rintro _ w29 ⟨nr24, A25, n26, c27, rfl, e30, h28⟩
 have E31 := qe E22 e30
 have lh28 := ql h28
 have H32 := (e30.blk H23)
 refine ⟨.inr H32, ?_⟩
 refine aw_one 6 rfl (by kernel_rfl) .none (oe_callf (vs := [qi 1]) co99 (ar1 C) (l1Int_ok  (by omega)) ?_)
 rintro _ w38 ⟨nr33, A34, n35, c36, rfl, e39, h37⟩
 have E40 := qe E31 e39
 have lh37 := ql h37
 have H41 := (e39.blk H32)
 refine ⟨.inr H41, ?_⟩
 refine aw_pure 7 (.agg #[.bool nr15, .slice A16 n17 c18, .bool nr24, .slice A25 n26 c27, .bool nr33, .slice A34 n35 c36]) rfl (by kernel_rfl) .none H41 (fun _ => dv_build (pv := [(0, .agg #[.bool nr15, .slice A16 n17 c18]), (1, .agg #[.bool nr24, .slice A25 n26 c27]), (2, .agg #[.bool nr33, .slice A34 n35 c36])]) (l := [.bool nr15, .slice A16 n17 c18, .bool nr24, .slice A25 n26 c27, .bool nr33, .slice A34 n35 c36]) zc90 pl90 ⟨rfl, (Z rfl), ⟨rfl, (Z rfl), ⟨rfl, (Z rfl), trivial⟩⟩⟩ rfl) ?_
 have H42 := (e39.blk (e30.blk (e21.blk (d12.ext.blk n8.blk))))
 refine aw_one 8 rfl (by kernel_rfl) .none (oe_store (v := .agg #[.bool nr15, .slice A16 n17 c18, .bool nr24, .slice A25 n26 c27, .bool nr33, .slice A34 n35 c36]) (vs := [.bool nr15, .slice A16 n17 c18, .bool nr24, .slice A25 n26 c27, .bool nr33, .slice A34 n35 c36]) (l := [.bool nr15, .slice A16 n17 c18, .bool nr24, .slice A25 n26 c27, .bool nr33, .slice A34 n35 c36]) (Z rfl) (Z rfl) sz90 rfl rfl rfl H42 rfl ?_)
 intro w43 s44 H45
 have E46 := below_st E40 N9 s44
 refine ⟨.inl rfl, ?_⟩
 refine aw_done (by kernel_rfl) <| rk_ret Try.func63 (v := .agg #[.bool nr15, .slice A16 n17 c18, .bool nr24, .slice A25 n26 c27, .bool nr33, .slice A34 n35 c36]) (res1 Try.results63 (rv_cells (l := [.bool nr15, .slice A16 n17 c18, .bool nr24, .slice A25 n26 c27, .bool nr33, .slice A34 n35 c36]) agt90 sz90 rfl rfl H45 rfl)) ⟨_, rfl, ?_⟩
 have h47 := (((h19.ext e30).ext e39).st s44 H42 (by decide))
 have h48 := ((h28.ext e39).st s44 H42 (by decide))
 have h49 := (h37.st s44 H42 (by decide))
 exact ⟨_, _, _, _, _, _, _, _, _, _, _, _, rfl, E46, h47.to rfl (Nat.le_refl _), h48.to rfl (Nat.le_refl _), h49.to rfl (Nat.le_refl _)⟩
theorem agt103 : aggB Try.prog 103 = some true := by kernel_rfl
theorem co11 : callOk Try.prog 11 = true := by kernel_rfl
theorem co122 : callOk Try.prog 122 = true := by kernel_rfl
theorem co150 : callOk Try.prog 150 = true := by kernel_rfl
theorem co42 : callOk Try.prog 42 = true := by kernel_rfl
theorem co65 : callOk Try.prog 65 = true := by kernel_rfl
theorem co80 : callOk Try.prog 80 = true := by kernel_rfl
theorem fo115_0 : fieldOffB Try.prog 115 0 = some 0 := by kernel_rfl
theorem fo115_1 : fieldOffB Try.prog 115 1 = some 2 := by kernel_rfl
theorem in27 : (Try.prog.info? 27).map (fun i => (i.zero, i.size, i.bytes)) = some (some (.agg #[.int .i64 0, .int .i64 0, .int .i64 0, .int .i64 0]), 4, 32) := by kernel_rfl
theorem sz103 : sizeB Try.prog 103 = some 4 := by kernel_rfl
theorem us50 : Try.prog.underlying 50 = some (.slice 2) := by kernel_rfl
theorem us58 : Try.prog.underlying 58 = some (.slice 103) := by kernel_rfl
theorem us64 : Try.prog.underlying 64 = some (.slice 27) := by kernel_rfl
set_option maxHeartbeats 1000000 in
theorem eqSpot_ok {w : World} {ax ay bx b_y : Int}   : Ct Try.prog 122 [.agg #[.int .i64 ax, .int .i64 ay], .agg #[.int .i64 bx, .int .i64 b_y]] w fun v w1 => v = .bool (decide (ax = bx ∧ ay = b_y)) ∧ Ext w w1 := by
 refine ct_run (n := 15) Try.func122 rfl Try.ntmps122 rfl ?_
 have E0 : Below w.heap.size w w := Below.refl _ _
 refine rk_seq <| rk_reg <| lw_e (oe_box (v := .agg #[qi ax, qi ay]) (cs := #[qi ax, qi ay]) (Z rfl) rfl ?_)
 intro b1 w2 n3
 have N4 : w.heap.size ≤ b1 := n3.eq ▸ E0.size
 have E5 := qe E0 n3.ext
 refine lw_e (oe_box (v := .agg #[qi bx, qi b_y]) (cs := #[qi bx, qi b_y]) (Z rfl) rfl ?_)
 intro b6 w7 n8
 have N9 : w.heap.size ≤ b6 := n8.eq ▸ E5.size
 have : b1 < b6 := n8.eq ▸ lt_of_blk n3.blk
 have E10 := qe E5 n8.ext
 refine lw_v (.bool false) (dv_assign C) <| lw_nil <| rk_seq <| rk_seq <| rk_reg <| lw_v (.pointer (some ⟨b1, 0, none⟩)) (dv_fieldAddr (a := ⟨b1, 0, none⟩) (a' := ⟨b1, 0, none⟩) fo25_0 (Z rfl) rfl) ?_
 have H11 := (n8.ext.blk n3.blk)
 refine lw_v (qi ax) (dv_load1 (b := b1) (o := 0) agt2 (Z rfl) H11 rfl) <| lw_v (.pointer (some ⟨b6, 0, none⟩)) (dv_fieldAddr (a := ⟨b6, 0, none⟩) (a' := ⟨b6, 0, none⟩) fo25_0 (Z rfl) rfl) <| lw_v (qi bx) (dv_load1 (b := b6) (o := 0) agt2 (Z rfl) n8.blk rfl) <| lw_v _ (dv_neq (a := ax) (b := bx) (Z rfl) (Z rfl)) <| lw_nil ?_
 by_cases hb12 : ax ≠ bx
 · refine rk_ct (T rfl (qT hb12)) <| rk_seq <| rk_reg <| lw_v (.bool false) (dv_assign C) <| lw_nil <| rk_ret Try.func122 (v := .bool false) (res1 Try.results122 (rv_tmp rfl rfl)) ⟨_, rfl, ?_⟩
   exact ⟨(vf (by grind)), E10⟩
 refine rk_cf (T rfl (qF hb12)) <| rk_skip <| rk_seq <| rk_seq <| rk_reg <| lw_v (.pointer (some ⟨b1, 1, none⟩)) (dv_fieldAddr (a := ⟨b1, 0, none⟩) (a' := ⟨b1, 1, none⟩) fo25_1 (Z rfl) rfl) <| lw_v (qi ay) (dv_load1 (b := b1) (o := 1) agt2 (Z rfl) H11 rfl) <| lw_v (.pointer (some ⟨b6, 1, none⟩)) (dv_fieldAddr (a := ⟨b6, 0, none⟩) (a' := ⟨b6, 1, none⟩) fo25_1 (Z rfl) rfl) <| lw_v (qi b_y) (dv_load1 (b := b6) (o := 1) agt2 (Z rfl) n8.blk rfl) <| lw_v _ (dv_neq (a := ay) (b := b_y) (Z rfl) (Z rfl)) <| lw_nil ?_
 by_cases hb13 : ay ≠ b_y
 · refine rk_ct (T rfl (qT hb13)) <| rk_seq <| rk_reg <| lw_v (.bool false) (dv_assign C) <| lw_nil <| rk_ret Try.func122 (v := .bool false) (res1 Try.results122 (rv_tmp rfl rfl)) ⟨_, rfl, ?_⟩
   exact ⟨(vf (by grind)), E10⟩
 refine rk_cf (T rfl (qF hb13)) <| rk_skip <| rk_seq <| rk_reg <| lw_v (.bool true) (dv_assign C) <| lw_nil <| rk_ret Try.func122 (v := .bool true) (res1 Try.results122 (rv_tmp rfl rfl)) ⟨_, rfl, ?_⟩
 exact ⟨(vt (by grind)), E10⟩
set_option maxHeartbeats 1000000 in
theorem eqSeg_ok {w : World} {ax ay bx b_y cx cy ex ey : Int}   : Ct Try.prog 80 [.agg #[.int .i64 ax, .int .i64 ay, .int .i64 bx, .int .i64 b_y], .agg #[.int .i64 cx, .int .i64 cy, .int .i64 ex, .int .i64 ey]] w fun v w1 => v = .bool (decide ((ax = cx ∧ ay = cy) ∧ bx = ex ∧ b_y = ey)) ∧ Ext w w1 := by
 refine ct_run (n := 17) Try.func80 rfl Try.ntmps80 rfl ?_
 have E0 : Below w.heap.size w w := Below.refl _ _
 refine rk_seq <| rk_reg <| lw_e (oe_box (v := .agg #[qi ax, qi ay, qi bx, qi b_y]) (cs := #[qi ax, qi ay, qi bx, qi b_y]) (Z rfl) rfl ?_)
 intro b1 w2 n3
 have N4 : w.heap.size ≤ b1 := n3.eq ▸ E0.size
 have E5 := qe E0 n3.ext
 refine lw_e (oe_box (v := .agg #[qi cx, qi cy, qi ex, qi ey]) (cs := #[qi cx, qi cy, qi ex, qi ey]) (Z rfl) rfl ?_)
 intro b6 w7 n8
 have N9 : w.heap.size ≤ b6 := n8.eq ▸ E5.size
 have : b1 < b6 := n8.eq ▸ lt_of_blk n3.blk
 have E10 := qe E5 n8.ext
 refine lw_v (.bool false) (dv_assign C) <| lw_nil <| rk_seq <| rk_seq <| rk_reg <| lw_v (.pointer (some ⟨b1, 0, none⟩)) (dv_fieldAddr (a := ⟨b1, 0, none⟩) (a' := ⟨b1, 0, none⟩) fo27_0 (Z rfl) rfl) ?_
 have H11 := (n8.ext.blk n3.blk)
 refine lw_v (.agg #[qi ax, qi ay]) (dv_loads (l := [qi ax, qi ay]) agt25 sz25 (Z rfl) H11 rfl) <| lw_v (.pointer (some ⟨b6, 0, none⟩)) (dv_fieldAddr (a := ⟨b6, 0, none⟩) (a' := ⟨b6, 0, none⟩) fo27_0 (Z rfl) rfl) <| lw_v (.agg #[qi cx, qi cy]) (dv_loads (l := [qi cx, qi cy]) agt25 sz25 (Z rfl) n8.blk rfl) <| lw_e (oe_callf (vs := [.agg #[qi ax, qi ay], .agg #[qi cx, qi cy]]) co122 (ar2 (Z rfl) (Z rfl)) (eqSpot_ok (ax := ax) (ay := ay) (bx := cx) (b_y := cy)  ) ?_)
 rintro _ w12 ⟨rfl, e13⟩
 have E14 := qe E10 e13
 refine lw_v (qd (¬ (ax = cx ∧ ay = cy))) (dv_notd (p := ax = cx ∧ ay = cy) (Z rfl)) <| lw_nil ?_
 by_cases hb15 : ax = cx ∧ ay = cy
 · refine rk_cf (T rfl (congrArg Value.bool (decide_eq_false (not_not_intro hb15)))) <| rk_skip <| rk_seq <| rk_seq <| rk_reg <| lw_v (.pointer (some ⟨b1, 2, none⟩)) (dv_fieldAddr (a := ⟨b1, 0, none⟩) (a' := ⟨b1, 2, none⟩) fo27_1 (Z rfl) rfl) ?_
   have H16 := (e13.blk H11)
   refine lw_v (.agg #[qi bx, qi b_y]) (dv_loads (l := [qi bx, qi b_y]) agt25 sz25 (Z rfl) H16 rfl) <| lw_v (.pointer (some ⟨b6, 2, none⟩)) (dv_fieldAddr (a := ⟨b6, 0, none⟩) (a' := ⟨b6, 2, none⟩) fo27_1 (Z rfl) rfl) ?_
   have H17 := (e13.blk n8.blk)
   refine lw_v (.agg #[qi ex, qi ey]) (dv_loads (l := [qi ex, qi ey]) agt25 sz25 (Z rfl) H17 rfl) <| lw_e (oe_callf (vs := [.agg #[qi bx, qi b_y], .agg #[qi ex, qi ey]]) co122 (ar2 (Z rfl) (Z rfl)) (eqSpot_ok (ax := bx) (ay := b_y) (bx := ex) (b_y := ey)  ) ?_)
   rintro _ w18 ⟨rfl, e19⟩
   have E20 := qe E14 e19
   refine lw_v (qd (¬ (bx = ex ∧ b_y = ey))) (dv_notd (p := bx = ex ∧ b_y = ey) (Z rfl)) <| lw_nil ?_
   by_cases hb21 : bx = ex ∧ b_y = ey
   · refine rk_cf (T rfl (congrArg Value.bool (decide_eq_false (not_not_intro hb21)))) <| rk_skip <| rk_seq <| rk_reg <| lw_v (.bool true) (dv_assign C) <| lw_nil <| rk_ret Try.func80 (v := .bool true) (res1 Try.results80 (rv_tmp rfl rfl)) ⟨_, rfl, ?_⟩
     exact ⟨(vt (by grind)), E20⟩
   refine rk_ct (T rfl (qT hb21)) <| rk_seq <| rk_reg <| lw_v (.bool false) (dv_assign C) <| lw_nil <| rk_ret Try.func80 (v := .bool false) (res1 Try.results80 (rv_tmp rfl rfl)) ⟨_, rfl, ?_⟩
   exact ⟨(vf (by grind)), E20⟩
 refine rk_ct (T rfl (qT hb15)) <| rk_seq <| rk_reg <| lw_v (.bool false) (dv_assign C) <| lw_nil <| rk_ret Try.func80 (v := .bool false) (res1 Try.results80 (rv_tmp rfl rfl)) ⟨_, rfl, ?_⟩
 exact ⟨(vf (by grind)), E14⟩
set_option maxHeartbeats 1000000 in
theorem szSegS_ok {w : World} {A : Option Addr} {l c : Nat} {n : Int} (hl : l ≤ 9223372036854775807) (hn : 0 ≤ n ∧ n ≤ 1048576) : Ct Try.prog 27 [.slice A l c, .int .i64 n] w fun v w1 => v = .int .i64 (szV l n) ∧ Ext w w1 := by
 refine ct_run (n := 12) Try.func27 rfl Try.ntmps27 rfl ?_
 have E0 : Below w.heap.size w w := Below.refl _ _
 refine rk_seq <| rk_reg <| lw_v (qi 0) (dv_assign C) <| qN <| qm (qi n) rfl rfl <| qm (.slice A l c) rfl rfl <| lw_v (qi (l : Int)) (dv_len (ad := A) (l := l) (c := c) us58 (Z rfl)) <| lw_v _ (dv_sub (a := n) (b := (l : Int)) (z := n - (l : Int)) (Z rfl) (Z rfl) (wr_i64 (by omega) (by omega))) <| qs (qi (n - (l : Int))) rfl rfl <| lw_nil <| rk_seq <| rk_seq <| rk_reg <| qm (qi (n - (l : Int))) rfl rfl <| lw_v _ (dv_lss (a := n - (l : Int)) (b := 0) (Z rfl) C) <| lw_nil ?_
 by_cases hb1 : (n - ((l : Int))) < 0
 · refine rk_ct (T rfl (qT hb1)) <| rk_seq <| rk_reg <| lw_v (qi (-1)) (dv_assign C) <| lw_nil <| rk_ret Try.func27 (v := qi (-1)) (res1 Try.results27 (rv_tmp rfl rfl)) ⟨_, rfl, ?_⟩
   exact ⟨(vi (by unfold szV; first | rw [if_pos (by omega)] | rw [if_neg (by omega)])), E0⟩
 refine rk_cf (T rfl (qF hb1)) <| rk_skip <| rk_seq <| rk_reg <| qm (qi (n - (l : Int))) rfl rfl <| qs (qi (n - (l : Int))) rfl rfl <| lw_nil <| rk_ret Try.func27 (v := qi (n - (l : Int))) (res1 Try.results27 (rv_tmp rfl rfl)) ⟨_, rfl, ?_⟩
 exact ⟨(vi (by unfold szV; first | rw [if_pos (by omega)] | rw [if_neg (by omega)])), E0⟩
set_option maxHeartbeats 1000000 in
theorem toSegS_ok {w : World} {A : Option Addr} {l c : Nat} {xs : List Int} (hx : RdI w .i64 A xs) (hxl : xs.length = l * 4) (hxb : l ≤ 1048576) : Ct Try.prog 29 [.slice A l c] w fun v w1 => ∃ b, v = .slice (some ⟨b, 0, none⟩) l l ∧ Ext w w1 ∧ w1.heap[b]? = some (.cells (xs.map (Value.int .i64)).toArray 27) ∧ w.heap.size ≤ b := by
 refine ct_run (n := 23) Try.func29 rfl Try.ntmps29 rfl ?_
 have E0 : Below w.heap.size w w := Below.refl _ _
 refine rk_seq <| rk_reg <| lw_v (.slice none 0 0) (dv_assign C) <| qN <| qm (.slice A l c) rfl rfl <| lw_v (qi (l : Int)) (dv_len (ad := A) (l := l) (c := c) us58 (Z rfl)) <| lw_e (oe_makeM (l := l) (j := (l : Int)) (m := 4) (k := .i64) us64 in27 rfl (by decide) (Z rfl) (Z rfl) (by omega) (by first | omega | simp <;> omega) (by first | omega | simp <;> omega) ?_)
 intro b1 w2 n3
 have N4 : w.heap.size ≤ b1 := n3.eq ▸ E0.size
 have E5 := qe E0 n3.ext
 refine qs (.slice (some ⟨b1, 0, none⟩) l l) rfl rfl <| lw_nil <| rk_seq <| rk_seq <| rk_reg <| lw_v (qi 0) (dv_assign C) <| lw_nil <| rk_block <| rk_loop (fun dm_ fr wl => ∃ (i : Nat) (M : List Int), dm_ = l - i ∧ fr 0 = .slice A l c ∧ fr 2 = .slice none 0 0 ∧ fr 3 = .slice (some ⟨b1, 0, none⟩) l l ∧ fr 4 = qi (i : Int) ∧ Below w.heap.size w wl ∧ wl.heap[b1]? = some (.cells (M.map (Value.int .i64)).toArray 27) ∧ (i ≤ l) ∧ (M.length = l * 4) ∧ (M.take (i * 4) = xs.take (i * 4))) (l - 0) ⟨0, (List.replicate (l * 4) (0 : Int)), rfl, rfl, rfl, rfl, (vi (by omega)), E5, n3.blk, (Nat.zero_le _), (by simp), (by simp)⟩ ?_
 intro d10 fr9 w6 hI7 ih8
 obtain ⟨i, M, hd17, f11, f12, f13, f14, E15, H16, hi, hMl, hMt⟩ := hI7
 refine rk_seq <| rk_seq <| rk_reg <| qm (qi (i : Int)) rfl f14 <| qm (.slice A l c) rfl f11 <| lw_v (qi (l : Int)) (dv_len (ad := A) (l := l) (c := c) us58 (Z rfl)) <| lw_v _ (dv_lss (a := (i : Int)) (b := (l : Int)) (Z rfl) (Z rfl)) <| lw_nil ?_
 by_cases hb18 : ((i : Int)) < ((l : Int))
 · refine rk_ct (T rfl (qT hb18)) <| rk_skip <| rk_seq <| rk_block <| rk_reg <| qm (.slice (some ⟨b1, 0, none⟩) l l) rfl f13 <| qm (qi (i : Int)) rfl f14 <| qm (.slice A l c) rfl f11 <| qm (qi (i : Int)) rfl f14 ?_
   have h19 := (hx.ext E15)
   obtain ⟨g20, o21, rfl⟩ := RdI.at h19 (by first | omega | simp <;> omega)
   refine lw_v (.pointer (some ⟨g20, o21 + i * 4, none⟩)) (dv_indexM (g := g20) (o := o21) (l := l) (c := c) (i := i) (j := (i : Int)) (m := 4) us58 sz103 (Z rfl) (Z rfl) (by omega) (by first | omega | simp <;> omega)) <| lw_v (.agg #[qi (xs.getD (i * 4) 0), qi (xs.getD (i * 4 + 1) 0), qi (xs.getD (i * 4 + 2) 0), qi (xs.getD (i * 4 + 3) 0)]) (dv_loadsI (i := i * 4) (m := 4) (k := .i64) (L := xs) (l := [qi (xs.getD (i * 4) 0), qi (xs.getD (i * 4 + 1) 0), qi (xs.getD (i * 4 + 2) 0), qi (xs.getD (i * 4 + 3) 0)]) agt103 sz103 (Z rfl) h19 (by first | omega | simp <;> omega) rfl) <| lw_e (oe_callf (vs := [.agg #[qi (xs.getD (i * 4) 0), qi (xs.getD (i * 4 + 1) 0), qi (xs.getD (i * 4 + 2) 0), qi (xs.getD (i * 4 + 3) 0)]]) co65 (ar1 (Z rfl)) (toSeg_ok (ax := xs.getD (i * 4) 0) (ay := xs.getD (i * 4 + 1) 0) (bx := xs.getD (i * 4 + 2) 0) (b_y := xs.getD (i * 4 + 3) 0)  ) ?_)
   rintro _ w22 ⟨rfl, e23⟩
   have E24 := qe E15 e23
   refine lw_v (.pointer (some ⟨b1, (i * 4), none⟩)) (dv_indexOM (g := b1) (l := l) (c := l) (i := i) (j := (i : Int)) (m := 4) us64 sz27 (Z rfl) (Z rfl) (by omega) (by first | omega | simp <;> omega)) ?_
   have H25 := (e23.blk H16)
   refine lw_e (oe_storeM (L := M) (i := i * 4) (m := 4) (k := .i64) (zs := [(xs.getD (i * 4) 0), (xs.getD (i * 4 + 1) 0), (xs.getD (i * 4 + 2) 0), (xs.getD (i * 4 + 3) 0)]) sz27 (Z rfl) (Z rfl) rfl rfl H25 (by first | omega | simp <;> omega) ?_)
   intro w26 s27 H28
   have E29 := below_st E24 N4 s27
   refine lw_nil <| rk_inBlock <| rk_reg <| qm (qi (i : Int)) rfl f14 <| lw_v _ (dv_add (a := (i : Int)) (b := 1) (z := (i : Int) + 1) (Z rfl) C (wr_i64 (by omega) (by omega))) <| qs (qi ((i : Int) + 1)) rfl rfl <| lw_nil <| ih8 (l - (i + 1)) _ _ (by rw [hd17]; omega) ⟨(i + 1), (setM M (i * 4) [(xs.getD (i * 4) 0), (xs.getD (i * 4 + 1) 0), (xs.getD (i * 4 + 2) 0), (xs.getD (i * 4 + 3) 0)]), rfl, f11, f12, f13, (vi (by omega)), E29, H28, (by omega), (by simp [setM_len, hMl]), (by rw [Nat.add_mul, Nat.one_mul]; exact set_inv hMt (by omega) (by omega) rfl)⟩
 refine rk_cf (T rfl (qF hb18)) <| rk_exit rfl <| rk_seq <| rk_reg <| qm (.slice (some ⟨b1, 0, none⟩) l l) rfl f13 <| qs (.slice (some ⟨b1, 0, none⟩) l l) rfl rfl <| lw_nil <| rk_ret Try.func29 (v := .slice (some ⟨b1, 0, none⟩) l l) (res1 Try.results29 (rv_tmp rfl rfl)) ⟨_, rfl, ?_⟩
 have hM : M = xs := take_all hMt (by omega) (by omega)
 exact ⟨_, rfl, E15, by rw [← hM]; exact H16, N4⟩
set_option maxHeartbeats 1000000 in
theorem eqSegS_ok {w : World} {A : Option Addr} {l c : Nat} {xs : List Int} (hx : RdI w .i64 A xs) (hxl : xs.length = l * 4) (hxb : l ≤ 1048576) {D : Option Addr} {m d : Nat} {ys : List Int} (hy : RdI w .i64 D ys) (hyl : ys.length = m * 4) (hyb : m ≤ 1048576) : Ct Try.prog 33 [.slice A l c, .slice D m d] w fun v w1 => v = .bool (decide ((xs : List Int) = ys)) ∧ Ext w w1 := by
 refine ct_run (n := 27) Try.func33 rfl Try.ntmps33 rfl ?_
 have E0 : Below w.heap.size w w := Below.refl _ _
 refine rk_seq <| rk_reg <| lw_v (.bool false) (dv_assign C) <| lw_nil <| rk_seq <| rk_seq <| rk_reg <| qm (.slice A l c) rfl rfl <| lw_v (qi (l : Int)) (dv_len (ad := A) (l := l) (c := c) us64 (Z rfl)) <| qm (.slice D m d) rfl rfl <| lw_v (qi (m : Int)) (dv_len (ad := D) (l := m) (c := d) us64 (Z rfl)) <| lw_v _ (dv_neq (a := (l : Int)) (b := (m : Int)) (Z rfl) (Z rfl)) <| lw_nil ?_
 by_cases hb1 : ((l : Int)) ≠ ((m : Int))
 · refine rk_ct (T rfl (qT hb1)) <| rk_seq <| rk_reg <| lw_v (.bool false) (dv_assign C) <| lw_nil <| rk_ret Try.func33 (v := .bool false) (res1 Try.results33 (rv_tmp rfl rfl)) ⟨_, rfl, ?_⟩
   exact ⟨(vf (by intro hh; have := congrArg List.length hh; omega)), E0⟩
 refine rk_cf (T rfl (qF hb1)) <| rk_skip <| rk_seq <| rk_seq <| rk_reg <| lw_v (qi 0) (dv_assign C) <| lw_nil <| rk_block <| rk_loop (fun dm_ fr wl => ∃ (i : Nat), dm_ = l - i ∧ fr 0 = .slice A l c ∧ fr 1 = .slice D m d ∧ fr 5 = qi (i : Int) ∧ Below w.heap.size w wl ∧ (i ≤ l) ∧ (xs.take (i * 4) = ys.take (i * 4))) (l - 0) ⟨0, rfl, rfl, rfl, (vi (by omega)), E0, (Nat.zero_le _), (by simp)⟩ ?_
 intro d6 fr5 w2 hI3 ih4
 obtain ⟨i, hd11, f7, f8, f9, E10, hi, hqt⟩ := hI3
 refine rk_seq <| rk_seq <| rk_reg <| qm (qi (i : Int)) rfl f9 <| qm (.slice A l c) rfl f7 <| lw_v (qi (l : Int)) (dv_len (ad := A) (l := l) (c := c) us64 (Z rfl)) <| lw_v _ (dv_lss (a := (i : Int)) (b := (l : Int)) (Z rfl) (Z rfl)) <| lw_nil ?_
 by_cases hb12 : ((i : Int)) < ((l : Int))
 · refine rk_ct (T rfl (qT hb12)) <| rk_skip <| rk_seq <| rk_block <| rk_seq ?_
   have h13 := (hx.ext E10)
   have h14 := (hy.ext E10)
   refine rk_any (fun w => RdI w .i64 A xs ∧ RdI w .i64 D ys) [] mo ?_
   intro w15 d16
   have E17 := qe E10 d16.ext
   have h18 := (h13.ext d16.ext)
   have h19 := (h14.ext d16.ext)
   refine aw_pure 0 (.slice A l c) rfl (by kernel_rfl) .none ⟨h18, h19⟩ (fun _ => dv_move (T rfl f7)) <| aw_pure 1 (qi (i : Int)) rfl (by kernel_rfl) .none ⟨h18, h19⟩ (fun _ => dv_move (T rfl f9)) ?_
   obtain ⟨g20, o21, rfl⟩ := RdI.at h18 (by first | omega | simp <;> omega)
   refine aw_pure 2 (.pointer (some ⟨g20, o21 + i * 4, none⟩)) rfl (by kernel_rfl) .none ⟨h18, h19⟩ (fun _ => dv_indexM (g := g20) (o := o21) (l := l) (c := c) (i := i) (j := (i : Int)) (m := 4) us64 sz27 (Z rfl) (Z rfl) (by omega) (by first | omega | simp <;> omega)) <| aw_load 3 (.agg #[qi (xs.getD (i * 4) 0), qi (xs.getD (i * 4 + 1) 0), qi (xs.getD (i * 4 + 2) 0), qi (xs.getD (i * 4 + 3) 0)]) rfl (by kernel_rfl) .none ⟨h18, h19⟩ (fun _ s => dv_loadsI (i := i * 4) (m := 4) (k := .i64) (L := xs) (l := [qi (xs.getD (i * 4) 0), qi (xs.getD (i * 4 + 1) 0), qi (xs.getD (i * 4 + 2) 0), qi (xs.getD (i * 4 + 3) 0)]) agt27 sz27 (Z rfl) s.1 (by first | omega | simp <;> omega) rfl) <| aw_pure 4 (.slice D m d) rfl (by kernel_rfl) .none ⟨h18, h19⟩ (fun _ => dv_move (T rfl f8)) <| aw_pure 5 (qi (i : Int)) rfl (by kernel_rfl) .none ⟨h18, h19⟩ (fun _ => dv_move (T rfl f9)) ?_
   obtain ⟨g22, o23, rfl⟩ := RdI.at h19 (by first | omega | simp <;> omega)
   refine aw_pure 6 (.pointer (some ⟨g22, o23 + i * 4, none⟩)) rfl (by kernel_rfl) .none ⟨h18, h19⟩ (fun _ => dv_indexM (g := g22) (o := o23) (l := m) (c := d) (i := i) (j := (i : Int)) (m := 4) us64 sz27 (Z rfl) (Z rfl) (by omega) (by first | omega | simp <;> omega)) <| aw_load 7 (.agg #[qi (ys.getD (i * 4) 0), qi (ys.getD (i * 4 + 1) 0), qi (ys.getD (i * 4 + 2) 0), qi (ys.getD (i * 4 + 3) 0)]) rfl (by kernel_rfl) .none ⟨h18, h19⟩ (fun _ s => dv_loadsI (i := i * 4) (m := 4) (k := .i64) (L := ys) (l := [qi (ys.getD (i * 4) 0), qi (ys.getD (i * 4 + 1) 0), qi (ys.getD (i * 4 + 2) 0), qi (ys.getD (i * 4 + 3) 0)]) agt27 sz27 (Z rfl) s.2 (by first | omega | simp <;> omega) rfl) <| aw_one 8 rfl (by kernel_rfl) .none (oe_callf (vs := [.agg #[qi (xs.getD (i * 4) 0), qi (xs.getD (i * 4 + 1) 0), qi (xs.getD (i * 4 + 2) 0), qi (xs.getD (i * 4 + 3) 0)], .agg #[qi (ys.getD (i * 4) 0), qi (ys.getD (i * 4 + 1) 0), qi (ys.getD (i * 4 + 2) 0), qi (ys.getD (i * 4 + 3) 0)]]) co80 (ar2 (Z rfl) (Z rfl)) (eqSeg_ok (ax := xs.getD (i * 4) 0) (ay := xs.getD (i * 4 + 1) 0) (bx := xs.getD (i * 4 + 2) 0) (b_y := xs.getD (i * 4 + 3) 0) (cx := ys.getD (i * 4) 0) (cy := ys.getD (i * 4 + 1) 0) (ex := ys.getD (i * 4 + 2) 0) (ey := ys.getD (i * 4 + 3) 0)  ) ?_)
   rintro _ w24 ⟨rfl, e25⟩
   have E26 := qe E17 e25
   have h27 := (h18.ext e25)
   have h28 := (h19.ext e25)
   refine ⟨.inr ⟨h27, h28⟩, ?_⟩
   refine aw_pure 9 (qd (¬ (((xs.getD (i * 4) 0) = (ys.getD (i * 4) 0) ∧ (xs.getD (i * 4 + 1) 0) = (ys.getD (i * 4 + 1) 0)) ∧ (xs.getD (i * 4 + 2) 0) = (ys.getD (i * 4 + 2) 0) ∧ (xs.getD (i * 4 + 3) 0) = (ys.getD (i * 4 + 3) 0)))) rfl (by kernel_rfl) .none ⟨h27, h28⟩ (fun _ => dv_notd (p := ((xs.getD (i * 4) 0) = (ys.getD (i * 4) 0) ∧ (xs.getD (i * 4 + 1) 0) = (ys.getD (i * 4 + 1) 0)) ∧ (xs.getD (i * 4 + 2) 0) = (ys.getD (i * 4 + 2) 0) ∧ (xs.getD (i * 4 + 3) 0) = (ys.getD (i * 4 + 3) 0)) (Z rfl)) <| aw_done (by kernel_rfl) ?_
   by_cases hb29 : ((xs.getD (i * 4) 0) = (ys.getD (i * 4) 0) ∧ (xs.getD (i * 4 + 1) 0) = (ys.getD (i * 4 + 1) 0)) ∧ (xs.getD (i * 4 + 2) 0) = (ys.getD (i * 4 + 2) 0) ∧ (xs.getD (i * 4 + 3) 0) = (ys.getD (i * 4 + 3) 0)
   · refine rk_cf (T rfl (congrArg Value.bool (decide_eq_false (not_not_intro hb29)))) <| rk_skip <| rk_inBlock <| rk_reg <| qm (qi (i : Int)) rfl f9 <| lw_v _ (dv_add (a := (i : Int)) (b := 1) (z := (i : Int) + 1) (Z rfl) C (wr_i64 (by omega) (by omega))) <| qs (qi ((i : Int) + 1)) rfl rfl <| lw_nil <| ih4 (l - (i + 1)) _ _ (by rw [hd11]; omega) ⟨(i + 1), rfl, f7, f8, (vi (by omega)), E26, (by omega), (by have hq := ‹_ ∧ _›; rw [Nat.add_mul, Nat.one_mul]; exact take_eq4 hqt (by omega) (by omega) hq.1.1 hq.1.2 hq.2.1 hq.2.2)⟩
   refine rk_ct (T rfl (qT hb29)) <| rk_seq <| rk_reg <| lw_v (.bool false) (dv_assign C) <| lw_nil <| rk_ret Try.func33 (v := .bool false) (res1 Try.results33 (rv_tmp rfl rfl)) ⟨_, rfl, ?_⟩
   exact ⟨(vf (by intro hh; subst hh; exact hb29 ⟨⟨rfl, rfl⟩, rfl, rfl⟩)), E26⟩
 refine rk_cf (T rfl (qF hb12)) <| rk_exit rfl <| rk_seq <| rk_reg <| lw_v (.bool true) (dv_assign C) <| lw_nil <| rk_ret Try.func33 (v := .bool true) (res1 Try.results33 (rv_tmp rfl rfl)) ⟨_, rfl, ?_⟩
 exact ⟨(vt (take_all hqt (by omega) (by omega))), E10⟩
set_option maxHeartbeats 1000000 in
theorem sSegsFault_ok {w : World} {A : Option Addr} {l c : Nat} {xs : List Int} (hx : RdI w .i64 A xs) (hxl : xs.length = l * 4) (hxb : l ≤ 1048576) : Ct Try.prog 108 [.slice A l c] w fun v w1 => v = .int .i64 (sgF l xs) ∧ Ext w w1 := by
 refine ct_run (n := 19) Try.func108 rfl Try.ntmps108 rfl ?_
 have E0 : Below w.heap.size w w := Below.refl _ _
 refine rk_seq <| rk_reg <| lw_v (qi 0) (dv_assign C) <| lw_nil <| rk_seq <| rk_seq <| rk_reg <| qm (.slice A l c) rfl rfl <| lw_v (qi (l : Int)) (dv_len (ad := A) (l := l) (c := c) us64 (Z rfl)) <| lw_v _ (dv_gtr (a := (l : Int)) (b := 40) (Z rfl) C) <| lw_nil ?_
 by_cases hb1 : 40 < ((l : Int))
 · refine rk_ct (T rfl (qT hb1)) <| rk_seq <| rk_reg <| lw_v (qi 1) (dv_assign C) <| lw_nil <| rk_ret Try.func108 (v := qi 1) (res1 Try.results108 (rv_tmp rfl rfl)) ⟨_, rfl, ?_⟩
   exact ⟨vi (by unfold sgF; rw [if_pos (by omega)]), E0⟩
 refine rk_cf (T rfl (qF hb1)) <| rk_skip <| rk_seq <| rk_seq <| rk_reg <| lw_v (qi 0) (dv_assign C) <| lw_nil <| rk_block <| rk_loop (fun dm_ fr wl => ∃ (i : Nat), dm_ = l - i ∧ fr 0 = .slice A l c ∧ fr 3 = qi (i : Int) ∧ Below w.heap.size w wl ∧ (i ≤ l) ∧ (∀ k, k < i → segAt xs k)) (l - 0) ⟨0, rfl, rfl, (vi (by omega)), E0, (Nat.zero_le _), (fun k hk => absurd hk (by omega))⟩ ?_
 intro d6 fr5 w2 hI3 ih4
 obtain ⟨i, hd10, f7, f8, E9, hi, hall⟩ := hI3
 refine rk_seq <| rk_seq <| rk_reg <| qm (qi (i : Int)) rfl f8 <| qm (.slice A l c) rfl f7 <| lw_v (qi (l : Int)) (dv_len (ad := A) (l := l) (c := c) us64 (Z rfl)) <| lw_v _ (dv_lss (a := (i : Int)) (b := (l : Int)) (Z rfl) (Z rfl)) <| lw_nil ?_
 by_cases hb11 : ((i : Int)) < ((l : Int))
 · refine rk_ct (T rfl (qT hb11)) <| rk_skip <| rk_seq <| rk_block <| rk_seq <| rk_reg <| qm (.slice A l c) rfl f7 <| qm (qi (i : Int)) rfl f8 ?_
   have h12 := (hx.ext E9)
   obtain ⟨g13, o14, rfl⟩ := RdI.at h12 (by first | omega | simp <;> omega)
   refine lw_v (.pointer (some ⟨g13, o14 + i * 4, none⟩)) (dv_indexM (g := g13) (o := o14) (l := l) (c := c) (i := i) (j := (i : Int)) (m := 4) us64 sz27 (Z rfl) (Z rfl) (by omega) (by first | omega | simp <;> omega)) <| lw_v (.agg #[qi (xs.getD (i * 4) 0), qi (xs.getD (i * 4 + 1) 0), qi (xs.getD (i * 4 + 2) 0), qi (xs.getD (i * 4 + 3) 0)]) (dv_loadsI (i := i * 4) (m := 4) (k := .i64) (L := xs) (l := [qi (xs.getD (i * 4) 0), qi (xs.getD (i * 4 + 1) 0), qi (xs.getD (i * 4 + 2) 0), qi (xs.getD (i * 4 + 3) 0)]) agt27 sz27 (Z rfl) h12 (by first | omega | simp <;> omega) rfl) <| lw_e (oe_callf (vs := [.agg #[qi (xs.getD (i * 4) 0), qi (xs.getD (i * 4 + 1) 0), qi (xs.getD (i * 4 + 2) 0), qi (xs.getD (i * 4 + 3) 0)]]) co42 (ar1 (Z rfl)) (sSegOk_ok (ax := xs.getD (i * 4) 0) (ay := xs.getD (i * 4 + 1) 0) (bx := xs.getD (i * 4 + 2) 0) (b_y := xs.getD (i * 4 + 3) 0)  ) ?_)
   rintro _ w15 ⟨rfl, e16⟩
   have E17 := qe E9 e16
   refine lw_v (qd (¬ (segOk (xs.getD (i * 4) 0) (xs.getD (i * 4 + 1) 0) (xs.getD (i * 4 + 2) 0) (xs.getD (i * 4 + 3) 0)))) (dv_notd (p := segOk (xs.getD (i * 4) 0) (xs.getD (i * 4 + 1) 0) (xs.getD (i * 4 + 2) 0) (xs.getD (i * 4 + 3) 0)) (Z rfl)) <| lw_nil ?_
   by_cases hb18 : segOk (xs.getD (i * 4) 0) (xs.getD (i * 4 + 1) 0) (xs.getD (i * 4 + 2) 0) (xs.getD (i * 4 + 3) 0)
   · refine rk_cf (T rfl (congrArg Value.bool (decide_eq_false (not_not_intro hb18)))) <| rk_skip <| rk_inBlock <| rk_reg <| qm (qi (i : Int)) rfl f8 <| lw_v _ (dv_add (a := (i : Int)) (b := 1) (z := (i : Int) + 1) (Z rfl) C (wr_i64 (by omega) (by omega))) <| qs (qi ((i : Int) + 1)) rfl rfl <| lw_nil <| ih4 (l - (i + 1)) _ _ (by rw [hd10]; omega) ⟨(i + 1), rfl, f7, (vi (by omega)), E17, (by omega), (all_step hall (by assumption))⟩
   refine rk_ct (T rfl (qT hb18)) <| rk_seq <| rk_reg <| lw_v (qi 2) (dv_assign C) <| lw_nil <| rk_ret Try.func108 (v := qi 2) (res1 Try.results108 (rv_tmp rfl rfl)) ⟨_, rfl, ?_⟩
   exact ⟨vi (by unfold sgF; rw [if_neg (by omega), if_neg (fun hh => absurd (hh i (by omega)) (by assumption))]), E17⟩
 refine rk_cf (T rfl (qF hb11)) <| rk_exit rfl <| rk_seq <| rk_reg <| lw_v (qi 0) (dv_assign C) <| lw_nil <| rk_ret Try.func108 (v := qi 0) (res1 Try.results108 (rv_tmp rfl rfl)) ⟨_, rfl, ?_⟩
 exact ⟨vi (by unfold sgF; rw [if_neg (by omega), if_pos (show segsOk l xs from fun k hk => hall k (by omega))]), E9⟩
set_option maxHeartbeats 1000000 in
theorem iSegsFault_ok {w : World} {A : Option Addr} {l c : Nat} {xs : List Int} (hx : RdI w .i64 A xs) (hxl : xs.length = l * 4) (hxb : l ≤ 1048576) : Ct Try.prog 112 [.slice A l c] w fun v w1 => v = .int .i64 (sgF l xs) ∧ Ext w w1 := by
 refine ct_run (n := 18) Try.func112 rfl Try.ntmps112 rfl ?_
 have E0 : Below w.heap.size w w := Below.refl _ _
 refine rk_seq <| rk_reg <| lw_v (qi 0) (dv_assign C) <| lw_nil <| rk_seq <| rk_seq <| rk_reg <| qm (.slice A l c) rfl rfl <| lw_v (qi (l : Int)) (dv_len (ad := A) (l := l) (c := c) us64 (Z rfl)) <| lw_v _ (dv_gtr (a := (l : Int)) (b := 40) (Z rfl) C) <| lw_nil ?_
 by_cases hb1 : 40 < ((l : Int))
 · refine rk_ct (T rfl (qT hb1)) <| rk_seq <| rk_reg <| lw_v (qi 1) (dv_assign C) <| lw_nil <| rk_ret Try.func112 (v := qi 1) (res1 Try.results112 (rv_tmp rfl rfl)) ⟨_, rfl, ?_⟩
   exact ⟨vi (by unfold sgF; rw [if_pos (by omega)]), E0⟩
 refine rk_cf (T rfl (qF hb1)) <| rk_skip <| rk_seq <| rk_seq <| rk_reg <| qm (.slice A l c) rfl rfl <| lw_v (qi (l : Int)) (dv_len (ad := A) (l := l) (c := c) us64 (Z rfl)) <| lw_v (qi 0) (dv_move C) <| lw_nil <| rk_block <| rk_loop (fun dm_ fr wl => ∃ (i : Nat), dm_ = l - i ∧ fr 8 = .slice A l c ∧ fr 9 = qi (l : Int) ∧ fr 10 = qi (i : Int) ∧ Below w.heap.size w wl ∧ (i ≤ l) ∧ (∀ k, k < i → segAt xs k)) (l - 0) ⟨0, rfl, rfl, rfl, (vi (by omega)), E0, (Nat.zero_le _), (fun k hk => absurd hk (by omega))⟩ ?_
 intro d6 fr5 w2 hI3 ih4
 obtain ⟨i, hd11, f7, f8, f9, E10, hi, hall⟩ := hI3
 refine rk_seq <| rk_reg <| lw_v _ (dv_lss (a := (i : Int)) (b := (l : Int)) (T rfl f9) (T rfl f8)) <| lw_nil <| rk_seq ?_
 by_cases hb12 : ((i : Int)) < ((l : Int))
 · refine rk_ct (T rfl (qT hb12)) <| rk_skip <| rk_seq <| rk_block <| rk_seq <| rk_reg ?_
   have h13 := (hx.ext E10)
   obtain ⟨g14, o15, rfl⟩ := RdI.at h13 (by first | omega | simp <;> omega)
   refine lw_v (.pointer (some ⟨g14, o15 + i * 4, none⟩)) (dv_indexM (g := g14) (o := o15) (l := l) (c := c) (i := i) (j := (i : Int)) (m := 4) us64 sz27 (T rfl f7) (T rfl f9) (by omega) (by first | omega | simp <;> omega)) <| lw_v (.agg #[qi (xs.getD (i * 4) 0), qi (xs.getD (i * 4 + 1) 0), qi (xs.getD (i * 4 + 2) 0), qi (xs.getD (i * 4 + 3) 0)]) (dv_loadsI (i := i * 4) (m := 4) (k := .i64) (L := xs) (l := [qi (xs.getD (i * 4) 0), qi (xs.getD (i * 4 + 1) 0), qi (xs.getD (i * 4 + 2) 0), qi (xs.getD (i * 4 + 3) 0)]) agt27 sz27 (Z rfl) h13 (by first | omega | simp <;> omega) rfl) <| lw_e (oe_alloc ze27 ?_)
   intro b16 w17 n18
   have N19 : w.heap.size ≤ b16 := n18.eq ▸ E10.size
   have E20 := qe E10 n18.ext
   refine lw_e (oe_store (v := .agg #[qi (xs.getD (i * 4) 0), qi (xs.getD (i * 4 + 1) 0), qi (xs.getD (i * 4 + 2) 0), qi (xs.getD (i * 4 + 3) 0)]) (vs := [qi (xs.getD (i * 4) 0), qi (xs.getD (i * 4 + 1) 0), qi (xs.getD (i * 4 + 2) 0), qi (xs.getD (i * 4 + 3) 0)]) (l := [qi (xs.getD (i * 4) 0), qi (xs.getD (i * 4 + 1) 0), qi (xs.getD (i * 4 + 2) 0), qi (xs.getD (i * 4 + 3) 0)]) (Z rfl) (Z rfl) sz27 rfl rfl rfl n18.blk rfl ?_)
   intro w21 s22 H23
   have E24 := below_st E20 N19 s22
   refine qN <| lw_v (.agg #[qi (xs.getD (i * 4) 0), qi (xs.getD (i * 4 + 1) 0), qi (xs.getD (i * 4 + 2) 0), qi (xs.getD (i * 4 + 3) 0)]) (dv_loads (l := [qi (xs.getD (i * 4) 0), qi (xs.getD (i * 4 + 1) 0), qi (xs.getD (i * 4 + 2) 0), qi (xs.getD (i * 4 + 3) 0)]) agt27 sz27 (Z rfl) H23 rfl) <| lw_e (oe_callf (vs := [.agg #[qi (xs.getD (i * 4) 0), qi (xs.getD (i * 4 + 1) 0), qi (xs.getD (i * 4 + 2) 0), qi (xs.getD (i * 4 + 3) 0)]]) co11 (ar1 (Z rfl)) (iSegOk_ok (ax := xs.getD (i * 4) 0) (ay := xs.getD (i * 4 + 1) 0) (bx := xs.getD (i * 4 + 2) 0) (b_y := xs.getD (i * 4 + 3) 0)  ) ?_)
   rintro _ w25 ⟨rfl, e26⟩
   have E27 := qe E24 e26
   refine lw_v (qd (¬ (segOk (xs.getD (i * 4) 0) (xs.getD (i * 4 + 1) 0) (xs.getD (i * 4 + 2) 0) (xs.getD (i * 4 + 3) 0)))) (dv_notd (p := segOk (xs.getD (i * 4) 0) (xs.getD (i * 4 + 1) 0) (xs.getD (i * 4 + 2) 0) (xs.getD (i * 4 + 3) 0)) (Z rfl)) <| lw_nil ?_
   by_cases hb28 : segOk (xs.getD (i * 4) 0) (xs.getD (i * 4 + 1) 0) (xs.getD (i * 4 + 2) 0) (xs.getD (i * 4 + 3) 0)
   · refine rk_cf (T rfl (congrArg Value.bool (decide_eq_false (not_not_intro hb28)))) <| rk_skip <| rk_inBlock <| rk_reg <| lw_v _ (dv_add (a := (i : Int)) (b := 1) (z := (i : Int) + 1) (T rfl f9) C (wr_i64 (by omega) (by omega))) <| qm (qi ((i : Int) + 1)) rfl rfl <| lw_nil <| ih4 (l - (i + 1)) _ _ (by rw [hd11]; omega) ⟨(i + 1), rfl, f7, f8, (vi (by omega)), E27, (by omega), (all_step hall (by assumption))⟩
   refine rk_ct (T rfl (qT hb28)) <| rk_seq <| rk_reg <| lw_v (qi 2) (dv_assign C) <| lw_nil <| rk_ret Try.func112 (v := qi 2) (res1 Try.results112 (rv_tmp rfl rfl)) ⟨_, rfl, ?_⟩
   exact ⟨vi (by unfold sgF; rw [if_neg (by omega), if_neg (fun hh => absurd (hh i (by omega)) (by assumption))]), E27⟩
 refine rk_cf (T rfl (qF hb12)) <| rk_exit rfl <| rk_seq <| rk_reg <| lw_v (qi 0) (dv_assign C) <| lw_nil <| rk_ret Try.func112 (v := qi 0) (res1 Try.results112 (rv_tmp rfl rfl)) ⟨_, rfl, ?_⟩
 exact ⟨vi (by unfold sgF; rw [if_neg (by omega), if_pos (show segsOk l xs from fun k hk => hall k (by omega))]), E10⟩
set_option maxHeartbeats 1000000 in
theorem markSegS_ok {w : World} {bl l c : Nat} {xs : List Int} {k : Int} (hL : w.heap[bl]? = some (.cells (xs.map (Value.int .i64)).toArray 27)) (hxl : xs.length = l * 4) (hl : l ≤ 1048576) (hk : 0 ≤ k ∧ k ≤ 1073741824) : Ct Try.prog 34 [.slice (some ⟨bl, 0, none⟩) l c, .int .i64 k] w fun v w1 => v = .int .i64 (k + (l : Int) * 4) ∧ St bl w w1 ∧ ∃ M : List Int, M.length = l * 4 ∧ w1.heap[bl]? = some (.cells (M.map (Value.int .i64)).toArray 27) := by
 refine ct_run (n := 45) Try.func34 rfl Try.ntmps34 rfl ?_
 have E0 : Below bl w w := Below.refl _ _
 refine rk_seq <| rk_reg <| lw_v (qi 0) (dv_assign C) <| lw_nil <| rk_seq <| rk_seq <| rk_reg <| lw_v (qi 0) (dv_assign C) <| lw_nil <| rk_block <| rk_loop (fun dm_ fr wl => ∃ (i : Nat) (M : List Int), dm_ = l - i ∧ fr 0 = .slice (some ⟨bl, 0, none⟩) l c ∧ fr 1 = qi (k + (i : Int) * 4) ∧ fr 4 = qi 0 ∧ fr 5 = qi (i : Int) ∧ Below bl w wl ∧ wl.heap[bl]? = some (.cells (M.map (Value.int .i64)).toArray 27) ∧ (i ≤ l) ∧ (M.length = l * 4) ∧ (St bl w wl)) (l - 0) ⟨0, xs, rfl, rfl, (vi (by omega)), rfl, (vi (by omega)), E0, hL, (Nat.zero_le _), hxl, (St.refl _ _)⟩ ?_
 intro d5 fr4 w1 hI2 ih3
 obtain ⟨i, M, hd12, f6, f7, f8, f9, E10, H11, hi, hMl, hSt⟩ := hI2
 refine rk_seq <| rk_seq <| rk_reg <| qm (qi (i : Int)) rfl f9 <| qm (.slice (some ⟨bl, 0, none⟩) l c) rfl f6 <| lw_v (qi (l : Int)) (dv_len (ad := some ⟨bl, 0, none⟩) (l := l) (c := c) us64 (Z rfl)) <| lw_v _ (dv_lss (a := (i : Int)) (b := (l : Int)) (Z rfl) (Z rfl)) <| lw_nil ?_
 by_cases hb13 : ((i : Int)) < ((l : Int))
 · refine rk_ct (T rfl (qT hb13)) <| rk_skip <| rk_seq <| rk_block <| rk_seq <| rk_reg <| qm (.slice (some ⟨bl, 0, none⟩) l c) rfl f6 <| qm (qi (i : Int)) rfl f9 <| qm (qi (k + (i : Int) * 4)) rfl f7 <| lw_v (.pointer (some ⟨bl, (i * 4), none⟩)) (dv_indexOM (g := bl) (l := l) (c := c) (i := i) (j := (i : Int)) (m := 4) us64 sz27 (Z rfl) (Z rfl) (by omega) (by first | omega | simp <;> omega)) <| lw_v (.pointer (some ⟨bl, (i * 4), none⟩)) (dv_fieldO (g := bl) (i := i * 4) fo27_0 (Z rfl)) <| lw_v (.pointer (some ⟨bl, (i * 4), none⟩)) (dv_fieldO (g := bl) (i := i * 4) fo25_0 (Z rfl)) <| lw_e (oe_storeW (L := M) (i := i * 4) (z := k + (i : Int) * 4) sz2 (Z rfl) (Z rfl) H11 (by first | omega | simp <;> omega) ?_)
   intro w14 s15 H16
   have E17 := below_st E10 (Nat.le_refl _) s15
   refine qN <| qm (qi (k + (i : Int) * 4)) rfl f7 <| lw_v _ (dv_add (a := k + (i : Int) * 4) (b := 1) (z := (k + (i : Int) * 4) + 1) (Z rfl) C (wr_i64 (by omega) (by omega))) <| qs (qi ((k + (i : Int) * 4) + 1)) rfl rfl <| qN <| qm (.slice (some ⟨bl, 0, none⟩) l c) rfl f6 <| qm (qi (i : Int)) rfl f9 <| qm (qi ((k + (i : Int) * 4) + 1)) rfl rfl <| lw_v (.pointer (some ⟨bl, (i * 4), none⟩)) (dv_indexOM (g := bl) (l := l) (c := c) (i := i) (j := (i : Int)) (m := 4) us64 sz27 (Z rfl) (Z rfl) (by omega) (by first | omega | simp <;> omega)) <| lw_v (.pointer (some ⟨bl, (i * 4), none⟩)) (dv_fieldO (g := bl) (i := i * 4) fo27_0 (Z rfl)) <| lw_v (.pointer (some ⟨bl, (i * 4 + 1), none⟩)) (dv_fieldO (g := bl) (i := i * 4) fo25_1 (Z rfl)) <| lw_e (oe_storeW (L := (M.set (i * 4) (k + (i : Int) * 4))) (i := i * 4 + 1) (z := (k + (i : Int) * 4) + 1) sz2 (Z rfl) (Z rfl) H16 (by first | omega | simp <;> omega) ?_)
   intro w18 s19 H20
   have E21 := below_st E17 (Nat.le_refl _) s19
   refine qN <| qm (qi ((k + (i : Int) * 4) + 1)) rfl rfl <| lw_v _ (dv_add (a := (k + (i : Int) * 4) + 1) (b := 1) (z := ((k + (i : Int) * 4) + 1) + 1) (Z rfl) C (wr_i64 (by omega) (by omega))) <| qs (qi (((k + (i : Int) * 4) + 1) + 1)) rfl rfl <| qN <| qm (.slice (some ⟨bl, 0, none⟩) l c) rfl f6 <| qm (qi (i : Int)) rfl f9 <| qm (qi (((k + (i : Int) * 4) + 1) + 1)) rfl rfl <| lw_v (.pointer (some ⟨bl, (i * 4), none⟩)) (dv_indexOM (g := bl) (l := l) (c := c) (i := i) (j := (i : Int)) (m := 4) us64 sz27 (Z rfl) (Z rfl) (by omega) (by first | omega | simp <;> omega)) <| lw_v (.pointer (some ⟨bl, (i * 4 + 2), none⟩)) (dv_fieldO (g := bl) (i := i * 4) fo27_1 (Z rfl)) <| lw_v (.pointer (some ⟨bl, (i * 4 + 2), none⟩)) (dv_fieldO (g := bl) (i := i * 4 + 2) fo25_0 (Z rfl)) <| lw_e (oe_storeW (L := (((M.set (i * 4) (k + (i : Int) * 4))).set (i * 4 + 1) ((k + (i : Int) * 4) + 1))) (i := i * 4 + 2) (z := ((k + (i : Int) * 4) + 1) + 1) sz2 (Z rfl) (Z rfl) H20 (by first | omega | simp <;> omega) ?_)
   intro w22 s23 H24
   have E25 := below_st E21 (Nat.le_refl _) s23
   refine qN <| qm (qi (((k + (i : Int) * 4) + 1) + 1)) rfl rfl <| lw_v _ (dv_add (a := ((k + (i : Int) * 4) + 1) + 1) (b := 1) (z := (((k + (i : Int) * 4) + 1) + 1) + 1) (Z rfl) C (wr_i64 (by omega) (by omega))) <| qs (qi ((((k + (i : Int) * 4) + 1) + 1) + 1)) rfl rfl <| qN <| qm (.slice (some ⟨bl, 0, none⟩) l c) rfl f6 <| qm (qi (i : Int)) rfl f9 <| qm (qi ((((k + (i : Int) * 4) + 1) + 1) + 1)) rfl rfl <| lw_v (.pointer (some ⟨bl, (i * 4), none⟩)) (dv_indexOM (g := bl) (l := l) (c := c) (i := i) (j := (i : Int)) (m := 4) us64 sz27 (Z rfl) (Z rfl) (by omega) (by first | omega | simp <;> omega)) <| lw_v (.pointer (some ⟨bl, (i * 4 + 2), none⟩)) (dv_fieldO (g := bl) (i := i * 4) fo27_1 (Z rfl)) <| lw_v (.pointer (some ⟨bl, (i * 4 + 3), none⟩)) (dv_fieldO (g := bl) (i := i * 4 + 2) fo25_1 (Z rfl)) <| lw_e (oe_storeW (L := (((((M.set (i * 4) (k + (i : Int) * 4))).set (i * 4 + 1) ((k + (i : Int) * 4) + 1))).set (i * 4 + 2) (((k + (i : Int) * 4) + 1) + 1))) (i := i * 4 + 3) (z := (((k + (i : Int) * 4) + 1) + 1) + 1) sz2 (Z rfl) (Z rfl) H24 (by first | omega | simp <;> omega) ?_)
   intro w26 s27 H28
   have E29 := below_st E25 (Nat.le_refl _) s27
   refine lw_nil <| rk_reg <| qm (qi ((((k + (i : Int) * 4) + 1) + 1) + 1)) rfl rfl <| lw_v _ (dv_add (a := (((k + (i : Int) * 4) + 1) + 1) + 1) (b := 1) (z := ((((k + (i : Int) * 4) + 1) + 1) + 1) + 1) (Z rfl) C (wr_i64 (by omega) (by omega))) <| qs (qi (((((k + (i : Int) * 4) + 1) + 1) + 1) + 1)) rfl rfl <| lw_nil <| rk_inBlock <| rk_reg <| qm (qi (i : Int)) rfl f9 <| lw_v _ (dv_add (a := (i : Int)) (b := 1) (z := (i : Int) + 1) (Z rfl) C (wr_i64 (by omega) (by omega))) <| qs (qi ((i : Int) + 1)) rfl rfl <| lw_nil <| ih3 (l - (i + 1)) _ _ (by rw [hd12]; omega) ⟨(i + 1), (((((((M.set (i * 4) (k + (i : Int) * 4))).set (i * 4 + 1) ((k + (i : Int) * 4) + 1))).set (i * 4 + 2) (((k + (i : Int) * 4) + 1) + 1))).set (i * 4 + 3) ((((k + (i : Int) * 4) + 1) + 1) + 1)), rfl, f6, (vi (by omega)), f8, (vi (by omega)), E29, H28, (by omega), (by simp [hMl]), ((((hSt.trans s15).trans s19).trans s23).trans s27)⟩
 refine rk_cf (T rfl (qF hb13)) <| rk_exit rfl <| rk_seq <| rk_reg <| qm (qi (k + (i : Int) * 4)) rfl f7 <| qs (qi (k + (i : Int) * 4)) rfl rfl <| lw_nil <| rk_ret Try.func34 (v := qi (k + (i : Int) * 4)) (res1 Try.results34 (rv_tmp rfl rfl)) ⟨_, rfl, ?_⟩
 exact ⟨vi (by omega), hSt, M, hMl, H11⟩
set_option maxHeartbeats 1000000 in
theorem eqInt64S_ok {w : World} {A : Option Addr} {l c : Nat} {xs : List Int} (hx : RdI w .i64 A xs) (hxl : xs.length = l) (hxb : l ≤ 1048576) {D : Option Addr} {m d : Nat} {ys : List Int} (hy : RdI w .i64 D ys) (hyl : ys.length = m) (hyb : m ≤ 1048576) : Ct Try.prog 32 [.slice A l c, .slice D m d] w fun v w1 => v = .bool (decide ((xs : List Int) = ys)) ∧ Ext w w1 := by
 refine ct_run (n := 26) Try.func32 rfl Try.ntmps32 rfl ?_
 have E0 : Below w.heap.size w w := Below.refl _ _
 refine rk_seq <| rk_reg <| lw_v (.bool false) (dv_assign C) <| lw_nil <| rk_seq <| rk_seq <| rk_reg <| qm (.slice A l c) rfl rfl <| lw_v (qi (l : Int)) (dv_len (ad := A) (l := l) (c := c) us50 (Z rfl)) <| qm (.slice D m d) rfl rfl <| lw_v (qi (m : Int)) (dv_len (ad := D) (l := m) (c := d) us50 (Z rfl)) <| lw_v _ (dv_neq (a := (l : Int)) (b := (m : Int)) (Z rfl) (Z rfl)) <| lw_nil ?_
 by_cases hb1 : ((l : Int)) ≠ ((m : Int))
 · refine rk_ct (T rfl (qT hb1)) <| rk_seq <| rk_reg <| lw_v (.bool false) (dv_assign C) <| lw_nil <| rk_ret Try.func32 (v := .bool false) (res1 Try.results32 (rv_tmp rfl rfl)) ⟨_, rfl, ?_⟩
   exact ⟨(vf (by intro hh; have := congrArg List.length hh; omega)), E0⟩
 refine rk_cf (T rfl (qF hb1)) <| rk_skip <| rk_seq <| rk_seq <| rk_reg <| lw_v (qi 0) (dv_assign C) <| lw_nil <| rk_block <| rk_loop (fun dm_ fr wl => ∃ (i : Nat), dm_ = l - i ∧ fr 0 = .slice A l c ∧ fr 1 = .slice D m d ∧ fr 5 = qi (i : Int) ∧ Below w.heap.size w wl ∧ (i ≤ l) ∧ (xs.take (i) = ys.take (i))) (l - 0) ⟨0, rfl, rfl, rfl, (vi (by omega)), E0, (Nat.zero_le _), (by simp)⟩ ?_
 intro d6 fr5 w2 hI3 ih4
 obtain ⟨i, hd11, f7, f8, f9, E10, hi, hqt⟩ := hI3
 refine rk_seq <| rk_seq <| rk_reg <| qm (qi (i : Int)) rfl f9 <| qm (.slice A l c) rfl f7 <| lw_v (qi (l : Int)) (dv_len (ad := A) (l := l) (c := c) us50 (Z rfl)) <| lw_v _ (dv_lss (a := (i : Int)) (b := (l : Int)) (Z rfl) (Z rfl)) <| lw_nil ?_
 by_cases hb12 : ((i : Int)) < ((l : Int))
 · refine rk_ct (T rfl (qT hb12)) <| rk_skip <| rk_seq <| rk_block <| rk_seq ?_
   have h13 := (hx.ext E10)
   have h14 := (hy.ext E10)
   refine rk_any (fun w => RdI w .i64 A xs ∧ RdI w .i64 D ys) [] mo ?_
   intro w15 d16
   have E17 := qe E10 d16.ext
   have h18 := (h13.ext d16.ext)
   have h19 := (h14.ext d16.ext)
   refine aw_pure 0 (.slice A l c) rfl (by kernel_rfl) .none ⟨h18, h19⟩ (fun _ => dv_move (T rfl f7)) <| aw_pure 1 (qi (i : Int)) rfl (by kernel_rfl) .none ⟨h18, h19⟩ (fun _ => dv_move (T rfl f9)) ?_
   obtain ⟨g20, o21, rfl⟩ := RdI.at h18 (by first | omega | simp <;> omega)
   refine aw_pure 2 (.pointer (some ⟨g20, o21 + i, none⟩)) rfl (by kernel_rfl) .none ⟨h18, h19⟩ (fun _ => dv_indexW (g := g20) (o := o21) (l := l) (c := c) (i := i) (j := (i : Int)) us50 sz2 (Z rfl) (Z rfl) (by omega) (by first | omega | simp <;> omega)) <| aw_load 3 (qi (xs.getD i 0)) rfl (by kernel_rfl) .none ⟨h18, h19⟩ (fun _ s => dv_load agt2 (Z rfl) (RdI.cell s.1 (by first | omega | simp <;> omega))) <| aw_pure 4 (.slice D m d) rfl (by kernel_rfl) .none ⟨h18, h19⟩ (fun _ => dv_move (T rfl f8)) <| aw_pure 5 (qi (i : Int)) rfl (by kernel_rfl) .none ⟨h18, h19⟩ (fun _ => dv_move (T rfl f9)) ?_
   obtain ⟨g22, o23, rfl⟩ := RdI.at h19 (by first | omega | simp <;> omega)
   refine aw_pure 6 (.pointer (some ⟨g22, o23 + i, none⟩)) rfl (by kernel_rfl) .none ⟨h18, h19⟩ (fun _ => dv_indexW (g := g22) (o := o23) (l := m) (c := d) (i := i) (j := (i : Int)) us50 sz2 (Z rfl) (Z rfl) (by omega) (by first | omega | simp <;> omega)) <| aw_load 7 (qi (ys.getD i 0)) rfl (by kernel_rfl) .none ⟨h18, h19⟩ (fun _ s => dv_load agt2 (Z rfl) (RdI.cell s.2 (by first | omega | simp <;> omega))) <| aw_pure 8 (qd ((xs.getD i 0) ≠ (ys.getD i 0))) rfl (by kernel_rfl) .none ⟨h18, h19⟩ (fun _ => dv_neq (a := xs.getD i 0) (b := ys.getD i 0) (Z rfl) (Z rfl)) <| aw_done (by kernel_rfl) ?_
   by_cases hb24 : (xs.getD i 0) ≠ (ys.getD i 0)
   · refine rk_ct (T rfl (qT hb24)) <| rk_seq <| rk_reg <| lw_v (.bool false) (dv_assign C) <| lw_nil <| rk_ret Try.func32 (v := .bool false) (res1 Try.results32 (rv_tmp rfl rfl)) ⟨_, rfl, ?_⟩
     exact ⟨(vf (by intro hh; subst hh; exact absurd rfl (by assumption))), E17⟩
   refine rk_cf (T rfl (qF hb24)) <| rk_skip <| rk_inBlock <| rk_reg <| qm (qi (i : Int)) rfl f9 <| lw_v _ (dv_add (a := (i : Int)) (b := 1) (z := (i : Int) + 1) (Z rfl) C (wr_i64 (by omega) (by omega))) <| qs (qi ((i : Int) + 1)) rfl rfl <| lw_nil <| ih4 (l - (i + 1)) _ _ (by rw [hd11]; omega) ⟨(i + 1), rfl, f7, f8, (vi (by omega)), E17, (by omega), (take_eq1 hqt (by omega) (by omega) (by first | assumption | exact Decidable.not_not.1 (by assumption)))⟩
 refine rk_cf (T rfl (qF hb12)) <| rk_exit rfl <| rk_seq <| rk_reg <| lw_v (.bool true) (dv_assign C) <| lw_nil <| rk_ret Try.func32 (v := .bool true) (res1 Try.results32 (rv_tmp rfl rfl)) ⟨_, rfl, ?_⟩
 exact ⟨(vt (take_all hqt (by omega) (by omega))), E10⟩
set_option maxHeartbeats 1000000 in
theorem markInt64S_ok {w : World} {A : Option Addr} {n c base : Nat} {L : List Int} {k : Int} (hO : Ow w base 2 .i64 A c L) (hl : L.length = n) (hN : n ≤ 1048576) (hk : 0 ≤ k ∧ k ≤ 1073741824) : Ct Try.prog 35 [.slice A n c, .int .i64 k] w fun v w1 => v = .int .i64 (k + (n : Int)) ∧ Below base w w1 ∧ Ow w1 base 2 .i64 A c (mkL k n) := by
 refine ct_run (n := 19) Try.func35 rfl Try.ntmps35 rfl ?_
 have E0 : Below base w w := Below.refl _ _
 have hb0 := hO.2
 refine rk_seq <| rk_reg <| lw_v (qi 0) (dv_assign C) <| lw_nil <| rk_seq <| rk_seq <| rk_reg <| lw_v (qi 0) (dv_assign C) <| lw_nil <| rk_block <| rk_loop (fun dm_ fr wl => ∃ (i : Nat) (M : List Int), dm_ = n - i ∧ fr 0 = .slice A n c ∧ fr 1 = qi (k + (i : Int)) ∧ fr 4 = qi 0 ∧ fr 5 = qi (i : Int) ∧ Below base w wl ∧ Ow wl base 2 .i64 A c M ∧ (i ≤ n) ∧ (M.length = n) ∧ (M.take i = (mkL k n).take i)) (n - 0) ⟨0, L, rfl, rfl, (vi (by omega)), rfl, (vi (by omega)), E0, hO, (Nat.zero_le _), hl, (by simp)⟩ ?_
 intro d5 fr4 w1 hI2 ih3
 obtain ⟨i, M, hd12, f6, f7, f8, f9, E10, h11, hi, hM, hmk⟩ := hI2
 refine rk_seq <| rk_seq <| rk_reg <| qm (qi (i : Int)) rfl f9 <| qm (.slice A n c) rfl f6 <| lw_v (qi (n : Int)) (dv_len (ad := A) (l := n) (c := c) us50 (Z rfl)) <| lw_v _ (dv_lss (a := (i : Int)) (b := (n : Int)) (Z rfl) (Z rfl)) <| lw_nil ?_
 by_cases hb13 : ((i : Int)) < ((n : Int))
 · refine rk_ct (T rfl (qT hb13)) <| rk_skip <| rk_seq <| rk_block <| rk_seq <| rk_reg <| qm (.slice A n c) rfl f6 <| qm (qi (i : Int)) rfl f9 <| qm (qi (k + (i : Int))) rfl f7 ?_
   obtain ⟨g14, o15, rfl⟩ := Wd.at h11.wd (by first | omega | simp <;> omega)
   refine lw_v (.pointer (some ⟨g14, o15 + i, none⟩)) (dv_indexW (g := g14) (o := o15) (l := n) (c := c) (i := i) (j := (i : Int)) us50 sz2 (Z rfl) (Z rfl) (by omega) (by first | omega | simp <;> omega)) <| lw_e (oe_storeOw (base := base) (L := M) (g := g14) (o := o15) (i := i) (z := k + (i : Int)) sz2 (Z rfl) (Z rfl) h11 (by first | omega | simp <;> omega) ?_)
   intro w16 hO17 x18
   have E19 := below_bl E10 (Nat.le_refl _) x18
   refine lw_nil <| rk_reg <| qm (qi (k + (i : Int))) rfl f7 <| lw_v _ (dv_add (a := k + (i : Int)) (b := 1) (z := (k + (i : Int)) + 1) (Z rfl) C (wr_i64 (by omega) (by omega))) <| qs (qi ((k + (i : Int)) + 1)) rfl rfl <| lw_nil <| rk_inBlock <| rk_reg <| qm (qi (i : Int)) rfl f9 <| lw_v _ (dv_add (a := (i : Int)) (b := 1) (z := (i : Int) + 1) (Z rfl) C (wr_i64 (by omega) (by omega))) <| qs (qi ((i : Int) + 1)) rfl rfl <| lw_nil <| ih3 (n - (i + 1)) _ _ (by rw [hd12]; omega) ⟨(i + 1), (M.set i (k + (i : Int))), rfl, f6, (vi (by omega)), f8, (vi (by omega)), E19, hO17, (by omega), (by simp [hM]), (mkL_step hmk hM (by omega))⟩
 refine rk_cf (T rfl (qF hb13)) <| rk_exit rfl <| rk_seq <| rk_reg <| qm (qi (k + (i : Int))) rfl f7 <| qs (qi (k + (i : Int))) rfl rfl <| lw_nil <| rk_ret Try.func35 (v := qi (k + (i : Int))) (res1 Try.results35 (rv_tmp rfl rfl)) ⟨_, rfl, ?_⟩
 have hz : M = mkL k n := take_all hmk (by omega) (by rw [mkL_len]; omega)
 exact ⟨vi (by omega), E10, by rw [← hz]; exact h11⟩
set_option maxHeartbeats 1000000 in
theorem heldInt64S_ok {w : World} {A : Option Addr} {n c : Nat} {xs : List Int} (hx : RdI w .i64 A xs) {k : Int} (hxl : xs.length = n) (hxb : n ≤ 1048576) (hm : xs = mkL k n) (hk : 0 ≤ k ∧ k ≤ 1152921504606846976) : Ct Try.prog 36 [.slice A n c, .int .i64 k] w fun v w1 => v = .int .i64 (k + (n : Int)) ∧ Ext w w1 := by
 refine ct_run (n := 21) Try.func36 rfl Try.ntmps36 rfl ?_
 have E0 : Below w.heap.size w w := Below.refl _ _
 refine rk_seq <| rk_reg <| lw_v (qi 0) (dv_assign C) <| lw_nil <| rk_seq <| rk_seq <| rk_reg <| lw_v (qi 0) (dv_assign C) <| lw_nil <| rk_block <| rk_loop (fun dm_ fr wl => ∃ (i : Nat), dm_ = n - i ∧ fr 0 = .slice A n c ∧ fr 1 = qi (k + (i : Int)) ∧ fr 5 = qi (i : Int) ∧ Below w.heap.size w wl ∧ (i ≤ n)) (n - 0) ⟨0, rfl, rfl, (vi (by omega)), (vi (by omega)), E0, (Nat.zero_le _)⟩ ?_
 intro d5 fr4 w1 hI2 ih3
 obtain ⟨i, hd10, f6, f7, f8, E9, hi⟩ := hI2
 refine rk_seq <| rk_seq <| rk_reg <| qm (qi (i : Int)) rfl f8 <| qm (.slice A n c) rfl f6 <| lw_v (qi (n : Int)) (dv_len (ad := A) (l := n) (c := c) us50 (Z rfl)) <| lw_v _ (dv_lss (a := (i : Int)) (b := (n : Int)) (Z rfl) (Z rfl)) <| lw_nil ?_
 by_cases hb11 : ((i : Int)) < ((n : Int))
 · refine rk_ct (T rfl (qT hb11)) <| rk_skip <| rk_seq <| rk_block <| rk_seq <| rk_seq <| rk_reg <| qm (.slice A n c) rfl f6 <| qm (qi (i : Int)) rfl f8 ?_
   have h12 := (hx.ext E9)
   obtain ⟨g13, o14, rfl⟩ := RdI.at h12 (by first | omega | simp <;> omega)
   refine lw_v (.pointer (some ⟨g13, o14 + i, none⟩)) (dv_indexW (g := g13) (o := o14) (l := n) (c := c) (i := i) (j := (i : Int)) us50 sz2 (Z rfl) (Z rfl) (by omega) (by first | omega | simp <;> omega)) <| lw_v (qi (xs.getD i 0)) (dv_load agt2 (Z rfl) (RdI.cell h12 (by first | omega | simp <;> omega))) <| qm (qi (k + (i : Int))) rfl f7 <| lw_v _ (dv_neq (a := xs.getD i 0) (b := k + (i : Int)) (Z rfl) (Z rfl)) <| lw_nil ?_
   by_cases hb15 : (xs.getD i 0) ≠ (k + (i : Int))
   · refine rk_ct (T rfl (qT hb15)) <| rk_seq <| rk_reg <| lw_v (qi (-1)) (dv_assign C) <| lw_nil <| rk_ret Try.func36 (v := qi (-1)) (res1 Try.results36 (rv_tmp rfl rfl)) ⟨_, rfl, ?_⟩
     exact absurd ((congrArg (fun q : List Int => q.getD i 0) hm).trans (mkL_getD (by omega))) (by assumption)
   refine rk_cf (T rfl (qF hb15)) <| rk_skip <| rk_reg <| qm (qi (k + (i : Int))) rfl f7 <| lw_v _ (dv_add (a := k + (i : Int)) (b := 1) (z := (k + (i : Int)) + 1) (Z rfl) C (wr_i64 (by omega) (by omega))) <| qs (qi ((k + (i : Int)) + 1)) rfl rfl <| lw_nil <| rk_inBlock <| rk_reg <| qm (qi (i : Int)) rfl f8 <| lw_v _ (dv_add (a := (i : Int)) (b := 1) (z := (i : Int) + 1) (Z rfl) C (wr_i64 (by omega) (by omega))) <| qs (qi ((i : Int) + 1)) rfl rfl <| lw_nil <| ih3 (n - (i + 1)) _ _ (by rw [hd10]; omega) ⟨(i + 1), rfl, f6, (vi (by omega)), (vi (by omega)), E9, (by omega)⟩
 refine rk_cf (T rfl (qF hb11)) <| rk_exit rfl <| rk_seq <| rk_reg <| qm (qi (k + (i : Int))) rfl f7 <| qs (qi (k + (i : Int))) rfl rfl <| lw_nil <| rk_ret Try.func36 (v := qi (k + (i : Int))) (res1 Try.results36 (rv_tmp rfl rfl)) ⟨_, rfl, ?_⟩
 exact ⟨vi (by omega), E9⟩
end Go.Proofs.Ytmbpomcbdopgnaa.W
