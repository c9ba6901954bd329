/- Walks and plain mathematics, packed by a program of this session: declarations that the rows reach. -/
import Derived.Test.YtdanhdbanfpghaaQNear2e
set_option linter.unusedVariables false
set_option linter.unusedSimpArgs false
namespace Go.Proofs.Ytdanhdbanfpghaa.W
open Go Go.RowKit Go.Proofs.Ytdanhdbanfpghaa.Fw
attribute [local irreducible] RunK LW AW DV OE Ct
theorem co105 : callOk Try.prog 105 = true := by kernel_rfl
theorem co106 : callOk Try.prog 106 = true := by kernel_rfl
theorem co108 : callOk Try.prog 108 = true := by kernel_rfl
theorem co110 : callOk Try.prog 110 = true := by kernel_rfl
theorem co111 : callOk Try.prog 111 = true := by kernel_rfl
theorem co142 : callOk Try.prog 142 = true := by kernel_rfl
theorem co43 : callOk Try.prog 43 = true := by kernel_rfl
theorem co44 : callOk Try.prog 44 = true := by kernel_rfl
theorem co46 : callOk Try.prog 46 = true := by kernel_rfl
set_option maxHeartbeats 1000000 in
theorem cross_ok {w : World} {ax ay bx b_y px py : Int}  (hs_ : (-1000000 ≤ ax ∧ ax ≤ 1000000) ∧ (-1000000 ≤ ay ∧ ay ≤ 1000000) ∧ (-1000000 ≤ bx ∧ bx ≤ 1000000) ∧ (-1000000 ≤ b_y ∧ b_y ≤ 1000000)) (hp_ : (-1000000 ≤ px ∧ px ≤ 1000000) ∧ (-1000000 ≤ py ∧ py ≤ 1000000)) : Ct Try.prog 142 [.agg #[.int .i64 ax, .int .i64 ay], .agg #[.int .i64 bx, .int .i64 b_y], .agg #[.int .i64 px, .int .i64 py]] w fun v w1 => v = .int .i64 (crossI ax ay bx b_y px py) ∧ Ext w w1 := by
 refine ct_run (n := 30) Try.func142 rfl Try.ntmps142 rfl ?_
 have E0 : Below w.heap.size w w := Below.refl _ _
 refine rk_seq ?_
 refine rk_reg ?_
 refine lw_e (oe_box (v := .agg #[.int .i64 ax, .int .i64 ay]) (cs := #[.int .i64 ax, .int .i64 ay]) (T rfl rfl) rfl ?_)
 intro b1 w2 n3
 have N4 : w.heap.size ≤ b1 := n3.eq ▸ E0.size
 have E5 := below_ext E0 E0.size n3.ext
 refine lw_e (oe_box (v := .agg #[.int .i64 bx, .int .i64 b_y]) (cs := #[.int .i64 bx, .int .i64 b_y]) (T rfl rfl) rfl ?_)
 intro b6 w7 n8
 have N9 : w.heap.size ≤ b6 := n8.eq ▸ E5.size
 have : b1 < b6 := n8.eq ▸ lt_of_blk n3.blk
 have E10 := below_ext E5 E5.size n8.ext
 refine lw_e (oe_box (v := .agg #[.int .i64 px, .int .i64 py]) (cs := #[.int .i64 px, .int .i64 py]) (T rfl rfl) rfl ?_)
 intro b11 w12 n13
 have N14 : w.heap.size ≤ b11 := n13.eq ▸ E10.size
 have : b6 < b11 := n13.eq ▸ lt_of_blk n8.blk
 have E15 := below_ext E10 E10.size n13.ext
 refine lw_v (.int .i64 0) (dv_assign C) ?_
 refine lw_nil ?_
 refine rk_seq ?_
 refine rk_reg ?_
 refine lw_v (.pointer (some ⟨b6, 0, none⟩)) (dv_fieldAddr (a := ⟨b6, 0, none⟩) (a' := ⟨b6, 0, none⟩) fo45_0 (T rfl rfl) rfl) ?_
 have H16 := (n13.ext.blk n8.blk)
 refine lw_v (.int .i64 bx) (dv_load1 (b := b6) (o := 0) agt2 (T rfl rfl) H16 rfl) ?_
 refine lw_v (.pointer (some ⟨b1, 0, none⟩)) (dv_fieldAddr (a := ⟨b1, 0, none⟩) (a' := ⟨b1, 0, none⟩) fo45_0 (T rfl rfl) rfl) ?_
 have H17 := (n13.ext.blk (n8.ext.blk n3.blk))
 refine lw_v (.int .i64 ax) (dv_load1 (b := b1) (o := 0) agt2 (T rfl rfl) H17 rfl) ?_
 refine lw_v (.int .i64 (bx - ax)) (dv_sub (a := bx) (b := ax) (z := bx - ax) (T rfl rfl) (T rfl rfl) (wr_i64 (by omega) (by omega))) ?_
 refine lw_v (.pointer (some ⟨b11, 1, none⟩)) (dv_fieldAddr (a := ⟨b11, 0, none⟩) (a' := ⟨b11, 1, none⟩) fo45_1 (T rfl rfl) rfl) ?_
 refine lw_v (.int .i64 py) (dv_load1 (b := b11) (o := 1) agt2 (T rfl rfl) n13.blk rfl) ?_
 refine lw_v (.pointer (some ⟨b1, 1, none⟩)) (dv_fieldAddr (a := ⟨b1, 0, none⟩) (a' := ⟨b1, 1, none⟩) fo45_1 (T rfl rfl) rfl) ?_
 refine lw_v (.int .i64 ay) (dv_load1 (b := b1) (o := 1) agt2 (T rfl rfl) H17 rfl) ?_
 refine lw_v (.int .i64 (py - ay)) (dv_sub (a := py) (b := ay) (z := py - ay) (T rfl rfl) (T rfl rfl) (wr_i64 (by omega) (by omega))) ?_
 have hm18 := mul_bd (A := 2000000) (B := 2000000) (show -2000000 ≤ (bx - ax) by omega) (by omega) (show -2000000 ≤ (py - ay) by omega) (by omega)
 refine lw_v (.int .i64 ((bx - ax) * (py - ay))) (dv_mul (a := bx - ax) (b := py - ay) (z := (bx - ax) * (py - ay)) (T rfl rfl) (T rfl rfl) (wr_i64 (by omega) (by omega))) ?_
 refine lw_v (.pointer (some ⟨b6, 1, none⟩)) (dv_fieldAddr (a := ⟨b6, 0, none⟩) (a' := ⟨b6, 1, none⟩) fo45_1 (T rfl rfl) rfl) ?_
 refine lw_v (.int .i64 b_y) (dv_load1 (b := b6) (o := 1) agt2 (T rfl rfl) H16 rfl) ?_
 refine lw_v (.pointer (some ⟨b1, 1, none⟩)) (dv_fieldAddr (a := ⟨b1, 0, none⟩) (a' := ⟨b1, 1, none⟩) fo45_1 (T rfl rfl) rfl) ?_
 refine lw_v (.int .i64 ay) (dv_load1 (b := b1) (o := 1) agt2 (T rfl rfl) H17 rfl) ?_
 refine lw_v (.int .i64 (b_y - ay)) (dv_sub (a := b_y) (b := ay) (z := b_y - ay) (T rfl rfl) (T rfl rfl) (wr_i64 (by omega) (by omega))) ?_
 refine lw_v (.pointer (some ⟨b11, 0, none⟩)) (dv_fieldAddr (a := ⟨b11, 0, none⟩) (a' := ⟨b11, 0, none⟩) fo45_0 (T rfl rfl) rfl) ?_
 refine lw_v (.int .i64 px) (dv_load1 (b := b11) (o := 0) agt2 (T rfl rfl) n13.blk rfl) ?_
 refine lw_v (.pointer (some ⟨b1, 0, none⟩)) (dv_fieldAddr (a := ⟨b1, 0, none⟩) (a' := ⟨b1, 0, none⟩) fo45_0 (T rfl rfl) rfl) ?_
 refine lw_v (.int .i64 ax) (dv_load1 (b := b1) (o := 0) agt2 (T rfl rfl) H17 rfl) ?_
 refine lw_v (.int .i64 (px - ax)) (dv_sub (a := px) (b := ax) (z := px - ax) (T rfl rfl) (T rfl rfl) (wr_i64 (by omega) (by omega))) ?_
 have hm19 := mul_bd (A := 2000000) (B := 2000000) (show -2000000 ≤ (b_y - ay) by omega) (by omega) (show -2000000 ≤ (px - ax) by omega) (by omega)
 refine lw_v (.int .i64 ((b_y - ay) * (px - ax))) (dv_mul (a := b_y - ay) (b := px - ax) (z := (b_y - ay) * (px - ax)) (T rfl rfl) (T rfl rfl) (wr_i64 (by omega) (by omega))) ?_
 refine lw_v (.int .i64 (((bx - ax) * (py - ay)) - ((b_y - ay) * (px - ax)))) (dv_sub (a := (bx - ax) * (py - ay)) (b := (b_y - ay) * (px - ax)) (z := ((bx - ax) * (py - ay)) - ((b_y - ay) * (px - ax))) (T rfl rfl) (T rfl rfl) (wr_i64 (by omega) (by omega))) ?_
 refine lw_v (.int .i64 (((bx - ax) * (py - ay)) - ((b_y - ay) * (px - ax)))) (dv_assign (T rfl rfl)) ?_
 refine lw_nil ?_
 refine rk_ret Try.func142 (v := .int .i64 (((bx - ax) * (py - ay)) - ((b_y - ay) * (px - ax)))) (res1 Try.results142 (rv_tmp rfl rfl)) ⟨_, rfl, ?_⟩
 exact ⟨(vi (by rfl)), E15⟩
set_option maxHeartbeats 1000000 in
theorem near2_ok {w : World}  {ax ay bx b_y : Int} {px py : Int}  (hs_ : (-1000000 ≤ ax ∧ ax ≤ 1000000) ∧ (-1000000 ≤ ay ∧ ay ≤ 1000000) ∧ (-1000000 ≤ bx ∧ bx ≤ 1000000) ∧ (-1000000 ≤ b_y ∧ b_y ≤ 1000000)) (hp_ : (-1000000 ≤ px ∧ px ≤ 1000000) ∧ (-1000000 ≤ py ∧ py ≤ 1000000)) (hl_ : spotLt ax ay bx b_y) : Ct Try.prog 111 [.agg #[.int .i64 ax, .int .i64 ay, .int .i64 bx, .int .i64 b_y], .agg #[.int .i64 px, .int .i64 py]] w fun v w1 => ∃ nr0_ A0_ l0_ c0_ nr1_ A1_ l1_ c1_, v = .agg #[.bool nr0_, .slice A0_ l0_ c0_, .bool nr1_, .slice A1_ l1_ c1_] ∧ Ext w w1 ∧ Num 64 29 .u64 w1 nr0_ A0_ l0_ c0_ (nU ax ay bx b_y px py) (128) ∧ Num 64 29 .u64 w1 nr1_ A1_ l1_ c1_ (nD ax ay bx b_y px py) (128) := by
 refine ct_run (n := 98) Try.func111 rfl Try.ntmps111 rfl ?_
 have E0 : Below w.heap.size w w := Below.refl _ _
 refine rk_seq ?_
 refine rk_reg ?_
 refine lw_e (oe_box (v := .agg #[.int .i64 ax, .int .i64 ay, .int .i64 bx, .int .i64 b_y]) (cs := #[.int .i64 ax, .int .i64 ay, .int .i64 bx, .int .i64 b_y]) (T rfl rfl) rfl ?_)
 intro b1 w2 n3
 have N4 : w.heap.size ≤ b1 := n3.eq ▸ E0.size
 have E5 := below_ext E0 E0.size n3.ext
 refine lw_e (oe_box (v := .agg #[.int .i64 px, .int .i64 py]) (cs := #[.int .i64 px, .int .i64 py]) (T rfl rfl) rfl ?_)
 intro b6 w7 n8
 have N9 : w.heap.size ≤ b6 := n8.eq ▸ E5.size
 have : b1 < b6 := n8.eq ▸ lt_of_blk n3.blk
 have E10 := below_ext E5 E5.size n8.ext
 refine lw_e (oe_alloc ze139 ?_)
 intro b11 w12 n13
 have N14 : w.heap.size ≤ b11 := n13.eq ▸ E10.size
 have : b6 < b11 := n13.eq ▸ lt_of_blk n8.blk
 have E15 := below_ext E10 E10.size n13.ext
 refine lw_nil ?_
 refine rk_seq ?_
 refine rk_any (fun w => w.heap[b1]? = some (.cells #[.int .i64 ax, .int .i64 ay, .int .i64 bx, .int .i64 b_y] 47)) [15] mo ?_
 intro w16 d17
 have E18 := below_ext E15 E15.size d17.ext
 have H19 := (d17.ext.blk (n13.ext.blk (n8.ext.blk n3.blk)))
 refine aw_pure 0 (.pointer (some ⟨b1, 2, none⟩)) rfl (by kernel_rfl) .none H19 (fun _ => dv_fieldAddr (a := ⟨b1, 0, none⟩) (a' := ⟨b1, 2, none⟩) fo47_1 (T rfl rfl) rfl) ?_
 refine aw_pure 1 (.pointer (some ⟨b1, 2, none⟩)) rfl (by kernel_rfl) .none H19 (fun _ => dv_fieldAddr (a := ⟨b1, 2, none⟩) (a' := ⟨b1, 2, none⟩) fo45_0 (T rfl rfl) rfl) ?_
 refine aw_load 2 (.int .i64 bx) rfl (by kernel_rfl) .none H19 (fun _ s => dv_load1 (b := b1) (o := 2) agt2 (T rfl rfl) s rfl) ?_
 refine aw_pure 3 (.pointer (some ⟨b1, 0, none⟩)) rfl (by kernel_rfl) .none H19 (fun _ => dv_fieldAddr (a := ⟨b1, 0, none⟩) (a' := ⟨b1, 0, none⟩) fo47_0 (T rfl rfl) rfl) ?_
 refine aw_pure 4 (.pointer (some ⟨b1, 0, none⟩)) rfl (by kernel_rfl) .none H19 (fun _ => dv_fieldAddr (a := ⟨b1, 0, none⟩) (a' := ⟨b1, 0, none⟩) fo45_0 (T rfl rfl) rfl) ?_
 refine aw_load 5 (.int .i64 ax) rfl (by kernel_rfl) .none H19 (fun _ s => dv_load1 (b := b1) (o := 0) agt2 (T rfl rfl) s rfl) ?_
 refine aw_pure 6 (.int .i64 (bx - ax)) rfl (by kernel_rfl) .none H19 (fun _ => dv_sub (a := bx) (b := ax) (z := bx - ax) (T rfl rfl) (T rfl rfl) (wr_i64 (by omega) (by omega))) ?_
 refine aw_pure 7 (.pointer (some ⟨b1, 2, none⟩)) rfl (by kernel_rfl) .none H19 (fun _ => dv_fieldAddr (a := ⟨b1, 0, none⟩) (a' := ⟨b1, 2, none⟩) fo47_1 (T rfl rfl) rfl) ?_
 refine aw_pure 8 (.pointer (some ⟨b1, 3, none⟩)) rfl (by kernel_rfl) .none H19 (fun _ => dv_fieldAddr (a := ⟨b1, 2, none⟩) (a' := ⟨b1, 3, none⟩) fo45_1 (T rfl rfl) rfl) ?_
 refine aw_load 9 (.int .i64 b_y) rfl (by kernel_rfl) .none H19 (fun _ s => dv_load1 (b := b1) (o := 3) agt2 (T rfl rfl) s rfl) ?_
 refine aw_pure 10 (.pointer (some ⟨b1, 0, none⟩)) rfl (by kernel_rfl) .none H19 (fun _ => dv_fieldAddr (a := ⟨b1, 0, none⟩) (a' := ⟨b1, 0, none⟩) fo47_0 (T rfl rfl) rfl) ?_
 refine aw_pure 11 (.pointer (some ⟨b1, 1, none⟩)) rfl (by kernel_rfl) .none H19 (fun _ => dv_fieldAddr (a := ⟨b1, 0, none⟩) (a' := ⟨b1, 1, none⟩) fo45_1 (T rfl rfl) rfl) ?_
 refine aw_load 12 (.int .i64 ay) rfl (by kernel_rfl) .none H19 (fun _ s => dv_load1 (b := b1) (o := 1) agt2 (T rfl rfl) s rfl) ?_
 refine aw_pure 13 (.int .i64 (b_y - ay)) rfl (by kernel_rfl) .none H19 (fun _ => dv_sub (a := b_y) (b := ay) (z := b_y - ay) (T rfl rfl) (T rfl rfl) (wr_i64 (by omega) (by omega))) ?_
 refine aw_pure 14 (.int .i64 (bx - ax)) rfl (by kernel_rfl) .none H19 (fun _ => dv_assign (T rfl rfl)) ?_
 refine aw_last 15 (.int .i64 (b_y - ay)) rfl (by kernel_rfl) .none (fun _ => dv_assign (T rfl rfl)) ?_
 refine aw_done (by kernel_rfl) ?_
 refine rk_seq ?_
 refine rk_reg ?_
 refine lw_v (.int .i64 (bx - ax)) (dv_move (T rfl rfl)) ?_
 refine lw_v (.int .i64 (bx - ax)) (dv_move (T rfl rfl)) ?_
 have hm20 := mul_bd (A := 2000000) (B := 2000000) (show -2000000 ≤ (bx - ax) by omega) (by omega) (show -2000000 ≤ (bx - ax) by omega) (by omega)
 refine lw_v (.int .i64 ((bx - ax) * (bx - ax))) (dv_mul (a := bx - ax) (b := bx - ax) (z := (bx - ax) * (bx - ax)) (T rfl rfl) (T rfl rfl) (wr_i64 (by omega) (by omega))) ?_
 refine lw_v (.int .i64 (b_y - ay)) (dv_move (T rfl rfl)) ?_
 refine lw_v (.int .i64 (b_y - ay)) (dv_move (T rfl rfl)) ?_
 have hm21 := mul_bd (A := 2000000) (B := 2000000) (show -2000000 ≤ (b_y - ay) by omega) (by omega) (show -2000000 ≤ (b_y - ay) by omega) (by omega)
 refine lw_v (.int .i64 ((b_y - ay) * (b_y - ay))) (dv_mul (a := b_y - ay) (b := b_y - ay) (z := (b_y - ay) * (b_y - ay)) (T rfl rfl) (T rfl rfl) (wr_i64 (by omega) (by omega))) ?_
 refine lw_v (.int .i64 (((bx - ax) * (bx - ax)) + ((b_y - ay) * (b_y - ay)))) (dv_add (a := (bx - ax) * (bx - ax)) (b := (b_y - ay) * (b_y - ay)) (z := ((bx - ax) * (bx - ax)) + ((b_y - ay) * (b_y - ay))) (T rfl rfl) (T rfl rfl) (wr_i64 (by omega) (by omega))) ?_
 refine lw_v (.int .i64 (((bx - ax) * (bx - ax)) + ((b_y - ay) * (b_y - ay)))) (dv_assign (T rfl rfl)) ?_
 refine lw_nil ?_
 refine rk_seq ?_
 refine rk_reg ?_
 refine lw_v (.pointer (some ⟨b6, 0, none⟩)) (dv_fieldAddr (a := ⟨b6, 0, none⟩) (a' := ⟨b6, 0, none⟩) fo45_0 (T rfl rfl) rfl) ?_
 have H22 := (d17.ext.blk (n13.ext.blk n8.blk))
 refine lw_v (.int .i64 px) (dv_load1 (b := b6) (o := 0) agt2 (T rfl rfl) H22 rfl) ?_
 refine lw_v (.pointer (some ⟨b1, 0, none⟩)) (dv_fieldAddr (a := ⟨b1, 0, none⟩) (a' := ⟨b1, 0, none⟩) fo47_0 (T rfl rfl) rfl) ?_
 refine lw_v (.pointer (some ⟨b1, 0, none⟩)) (dv_fieldAddr (a := ⟨b1, 0, none⟩) (a' := ⟨b1, 0, none⟩) fo45_0 (T rfl rfl) rfl) ?_
 refine lw_v (.int .i64 ax) (dv_load1 (b := b1) (o := 0) agt2 (T rfl rfl) H19 rfl) ?_
 refine lw_v (.int .i64 (px - ax)) (dv_sub (a := px) (b := ax) (z := px - ax) (T rfl rfl) (T rfl rfl) (wr_i64 (by omega) (by omega))) ?_
 refine lw_v (.int .i64 (bx - ax)) (dv_move (T rfl rfl)) ?_
 have hm23 := mul_bd (A := 2000000) (B := 2000000) (show -2000000 ≤ (px - ax) by omega) (by omega) (show -2000000 ≤ (bx - ax) by omega) (by omega)
 refine lw_v (.int .i64 ((px - ax) * (bx - ax))) (dv_mul (a := px - ax) (b := bx - ax) (z := (px - ax) * (bx - ax)) (T rfl rfl) (T rfl rfl) (wr_i64 (by omega) (by omega))) ?_
 refine lw_v (.pointer (some ⟨b6, 1, none⟩)) (dv_fieldAddr (a := ⟨b6, 0, none⟩) (a' := ⟨b6, 1, none⟩) fo45_1 (T rfl rfl) rfl) ?_
 refine lw_v (.int .i64 py) (dv_load1 (b := b6) (o := 1) agt2 (T rfl rfl) H22 rfl) ?_
 refine lw_v (.pointer (some ⟨b1, 0, none⟩)) (dv_fieldAddr (a := ⟨b1, 0, none⟩) (a' := ⟨b1, 0, none⟩) fo47_0 (T rfl rfl) rfl) ?_
 refine lw_v (.pointer (some ⟨b1, 1, none⟩)) (dv_fieldAddr (a := ⟨b1, 0, none⟩) (a' := ⟨b1, 1, none⟩) fo45_1 (T rfl rfl) rfl) ?_
 refine lw_v (.int .i64 ay) (dv_load1 (b := b1) (o := 1) agt2 (T rfl rfl) H19 rfl) ?_
 refine lw_v (.int .i64 (py - ay)) (dv_sub (a := py) (b := ay) (z := py - ay) (T rfl rfl) (T rfl rfl) (wr_i64 (by omega) (by omega))) ?_
 refine lw_v (.int .i64 (b_y - ay)) (dv_move (T rfl rfl)) ?_
 have hm24 := mul_bd (A := 2000000) (B := 2000000) (show -2000000 ≤ (py - ay) by omega) (by omega) (show -2000000 ≤ (b_y - ay) by omega) (by omega)
 refine lw_v (.int .i64 ((py - ay) * (b_y - ay))) (dv_mul (a := py - ay) (b := b_y - ay) (z := (py - ay) * (b_y - ay)) (T rfl rfl) (T rfl rfl) (wr_i64 (by omega) (by omega))) ?_
 refine lw_v (.int .i64 (((px - ax) * (bx - ax)) + ((py - ay) * (b_y - ay)))) (dv_add (a := (px - ax) * (bx - ax)) (b := (py - ay) * (b_y - ay)) (z := ((px - ax) * (bx - ax)) + ((py - ay) * (b_y - ay))) (T rfl rfl) (T rfl rfl) (wr_i64 (by omega) (by omega))) ?_
 refine lw_v (.int .i64 (((px - ax) * (bx - ax)) + ((py - ay) * (b_y - ay)))) (dv_assign (T rfl rfl)) ?_
 refine lw_nil ?_
 refine rk_seq ?_
 refine rk_reg ?_
 refine lw_v (.pointer (some ⟨b1, 0, none⟩)) (dv_fieldAddr (a := ⟨b1, 0, none⟩) (a' := ⟨b1, 0, none⟩) fo47_0 (T rfl rfl) rfl) ?_
 refine lw_v (.agg #[.int .i64 ax, .int .i64 ay]) (dv_loads (l := [.int .i64 ax, .int .i64 ay]) agt45 sz45 (T rfl rfl) H19 rfl) ?_
 refine lw_e (oe_alloc ze45 ?_)
 intro b25 w26 n27
 have N28 : w.heap.size ≤ b25 := n27.eq ▸ E18.size
 have H29 := (d17.ext.blk n13.blk)
 have : b11 < b25 := n27.eq ▸ lt_of_blk H29
 have E30 := below_ext E18 E18.size n27.ext
 refine lw_e (oe_store (v := .agg #[.int .i64 ax, .int .i64 ay]) (vs := [.int .i64 ax, .int .i64 ay]) (l := [.int .i64 ax, .int .i64 ay]) (T rfl rfl) (T rfl rfl) sz45 rfl rfl rfl n27.blk rfl ?_)
 intro w31 s32 H33
 have E34 := below_st E30 N28 s32
 refine lw_nil ?_
 refine rk_seq ?_
 refine rk_block ?_
 refine rk_seq ?_
 refine rk_reg ?_
 refine lw_v (.int .i64 (((px - ax) * (bx - ax)) + ((py - ay) * (b_y - ay)))) (dv_move (T rfl rfl)) ?_
 refine lw_v (.bool (decide (0 < (((px - ax) * (bx - ax)) + ((py - ay) * (b_y - ay)))))) (dv_gtr (a := ((px - ax) * (bx - ax)) + ((py - ay) * (b_y - ay))) (b := 0) (T rfl rfl) C) ?_
 refine lw_v (.bool (decide (0 < (((px - ax) * (bx - ax)) + ((py - ay) * (b_y - ay)))))) (dv_move (T rfl rfl)) ?_
 by_cases hb35 : 0 < (((px - ax) * (bx - ax)) + ((py - ay) * (b_y - ay)))
 · refine lw_vy (.int .i64 (((px - ax) * (bx - ax)) + ((py - ay) * (b_y - ay)))) (d := 54) rfl rfl (congrArg Value.bool (decide_eq_true hb35)) (dv_move (T rfl rfl)) ?_
   refine lw_vy (.int .i64 (((bx - ax) * (bx - ax)) + ((b_y - ay) * (b_y - ay)))) (d := 54) rfl rfl (congrArg Value.bool (decide_eq_true hb35)) (dv_move (T rfl rfl)) ?_
   refine lw_vy (.bool (decide ((((px - ax) * (bx - ax)) + ((py - ay) * (b_y - ay))) < (((bx - ax) * (bx - ax)) + ((b_y - ay) * (b_y - ay)))))) (d := 54) rfl rfl (congrArg Value.bool (decide_eq_true hb35)) (dv_lss (a := ((px - ax) * (bx - ax)) + ((py - ay) * (b_y - ay))) (b := ((bx - ax) * (bx - ax)) + ((b_y - ay) * (b_y - ay))) (T rfl rfl) (T rfl rfl)) ?_
   refine lw_v (.bool (decide ((((px - ax) * (bx - ax)) + ((py - ay) * (b_y - ay))) < (((bx - ax) * (bx - ax)) + ((b_y - ay) * (b_y - ay)))))) (dv_pick_t (T rfl (congrArg Value.bool (decide_eq_true hb35))) (T rfl rfl)) ?_
   refine lw_v (.bool (decide ((((px - ax) * (bx - ax)) + ((py - ay) * (b_y - ay))) < (((bx - ax) * (bx - ax)) + ((b_y - ay) * (b_y - ay)))))) (dv_assign (T rfl rfl)) ?_
   refine lw_nil ?_
   by_cases hb36 : (((px - ax) * (bx - ax)) + ((py - ay) * (b_y - ay))) < (((bx - ax) * (bx - ax)) + ((b_y - ay) * (b_y - ay)))
   · refine rk_ct (T rfl (congrArg Value.bool (decide_eq_true hb36))) ?_
     refine rk_seq ?_
     refine rk_reg ?_
     refine lw_v (.pointer (some ⟨b1, 0, none⟩)) (dv_fieldAddr (a := ⟨b1, 0, none⟩) (a' := ⟨b1, 0, none⟩) fo47_0 (T rfl rfl) rfl) ?_
     have H37 := (s32.blk (n27.ext.blk H19) (by omega))
     refine lw_v (.agg #[.int .i64 ax, .int .i64 ay]) (dv_loads (l := [.int .i64 ax, .int .i64 ay]) agt45 sz45 (T rfl rfl) H37 rfl) ?_
     refine lw_v (.pointer (some ⟨b1, 2, none⟩)) (dv_fieldAddr (a := ⟨b1, 0, none⟩) (a' := ⟨b1, 2, none⟩) fo47_1 (T rfl rfl) rfl) ?_
     refine lw_v (.agg #[.int .i64 bx, .int .i64 b_y]) (dv_loads (l := [.int .i64 bx, .int .i64 b_y]) agt45 sz45 (T rfl rfl) H37 rfl) ?_
     have H38 := (s32.blk (n27.ext.blk H22) (by omega))
     refine lw_v (.agg #[.int .i64 px, .int .i64 py]) (dv_loads (l := [.int .i64 px, .int .i64 py]) agt45 sz45 (T rfl rfl) H38 rfl) ?_
     refine lw_e (oe_callf (vs := [.agg #[.int .i64 ax, .int .i64 ay], .agg #[.int .i64 bx, .int .i64 b_y], .agg #[.int .i64 px, .int .i64 py]]) co142 (ar3 (T rfl rfl) (T rfl rfl) (T rfl rfl)) (cross_ok (ax := ax) (ay := ay) (bx := bx) (b_y := b_y) (px := px) (py := py)  (by omega) (by omega)) ?_)
     rintro _ w39 ⟨rfl, e40⟩
     have E41 := below_ext E34 E34.size e40
     have := cross_rg (by omega : (-1000000 ≤ ax ∧ ax ≤ 1000000) ∧ (-1000000 ≤ ay ∧ ay ≤ 1000000) ∧ (-1000000 ≤ bx ∧ bx ≤ 1000000) ∧ (-1000000 ≤ b_y ∧ b_y ≤ 1000000)) (by omega : (-1000000 ≤ px ∧ px ≤ 1000000) ∧ (-1000000 ≤ py ∧ py ≤ 1000000))
     refine lw_e (oe_callf (vs := [.int .i64 (crossI ax ay bx b_y px py)]) co92 (ar1 (T rfl rfl)) (whole_ok  (by omega)) ?_)
     rintro _ w47 ⟨nr42, A43, n44, c45, rfl, e48, h46⟩
     have E49 := below_ext E41 E41.size e48
     have lh46 := Num.len (by decide) h46
     refine lw_e (oe_alloc ze120 ?_)
     intro b50 w51 n52
     have N53 : w.heap.size ≤ b50 := n52.eq ▸ E49.size
     have H54 := (e48.blk (e40.blk H33))
     have : b25 < b50 := n52.eq ▸ lt_of_blk H54
     have E55 := below_ext E49 E49.size n52.ext
     refine lw_e (oe_store (v := .agg #[.bool nr42, .slice A43 n44 c45]) (vs := [.bool nr42, .slice A43 n44 c45]) (l := [.bool nr42, .slice A43 n44 c45]) (T rfl rfl) (T rfl rfl) sz120 rfl rfl rfl n52.blk rfl ?_)
     intro w56 s57 H58
     have E59 := below_st E55 N53 s57
     refine lw_nil ?_
     refine rk_seq ?_
     refine rk_reg ?_
     refine lw_v (.agg #[.bool nr42, .slice A43 n44 c45]) (dv_loads (l := [.bool nr42, .slice A43 n44 c45]) agt120 sz120 (T rfl rfl) H58 rfl) ?_
     refine lw_v (.agg #[.bool nr42, .slice A43 n44 c45]) (dv_loads (l := [.bool nr42, .slice A43 n44 c45]) agt120 sz120 (T rfl rfl) H58 rfl) ?_
     have h60 := ((h46.ext n52.ext).st s57 n52.blk (by decide))
     refine lw_e (oe_callf (vs := [.agg #[.bool nr42, .slice A43 n44 c45], .agg #[.bool nr42, .slice A43 n44 c45]]) co93 (ar2 (T rfl rfl) (T rfl rfl)) (nby_ok h60 h60 (by first | decide | omega) (by first | decide | omega)) ?_)
     rintro _ w66 ⟨nr61, A62, n63, c64, rfl, e67, h65⟩
     have E68 := below_ext E59 E59.size e67
     have lh65 := Num.len (by decide) h65
     refine lw_v (.int .i64 (((bx - ax) * (bx - ax)) + ((b_y - ay) * (b_y - ay)))) (dv_move (T rfl rfl)) ?_
     refine lw_e (oe_callf (vs := [.int .i64 (((bx - ax) * (bx - ax)) + ((b_y - ay) * (b_y - ay)))]) co92 (ar1 (T rfl rfl)) (whole_ok  (by omega)) ?_)
     rintro _ w74 ⟨nr69, A70, n71, c72, rfl, e75, h73⟩
     have E76 := below_ext E68 E68.size e75
     have lh73 := Num.len (by decide) h73
     refine lw_v (.agg #[.bool nr61, .slice A62 n63 c64, .bool nr69, .slice A70 n71 c72]) (dv_build (pv := [(0, .agg #[.bool nr61, .slice A62 n63 c64]), (1, .agg #[.bool nr69, .slice A70 n71 c72])]) (l := [.bool nr61, .slice A62 n63 c64, .bool nr69, .slice A70 n71 c72]) zc139 pl139 ⟨rfl, (T rfl rfl), ⟨rfl, (T rfl rfl), trivial⟩⟩ rfl) ?_
     have H77 := (e75.blk (e67.blk (s57.blk (n52.ext.blk (e48.blk (e40.blk (s32.blk (n27.ext.blk H29) (by omega))))) (by omega))))
     refine lw_e (oe_store (v := .agg #[.bool nr61, .slice A62 n63 c64, .bool nr69, .slice A70 n71 c72]) (vs := [.bool nr61, .slice A62 n63 c64, .bool nr69, .slice A70 n71 c72]) (l := [.bool nr61, .slice A62 n63 c64, .bool nr69, .slice A70 n71 c72]) (T rfl rfl) (T rfl rfl) sz139 rfl rfl rfl H77 rfl ?_)
     intro w78 s79 H80
     have E81 := below_st E76 N14 s79
     refine lw_nil ?_
     refine rk_ret Try.func111 (v := .agg #[.bool nr61, .slice A62 n63 c64, .bool nr69, .slice A70 n71 c72]) (res1 Try.results111 (rv_cells (l := [.bool nr61, .slice A62 n63 c64, .bool nr69, .slice A70 n71 c72]) agt139 sz139 rfl rfl H80 rfl)) ⟨_, rfl, ?_⟩
     have h82 := ((h65.ext e75).st s79 H77 (by decide))
     have hdt : dotI ax ay bx b_y px py = (px - ax) * (bx - ax) + (py - ay) * (b_y - ay) := rfl
     have hln : lenI ax ay bx b_y = (bx - ax) * (bx - ax) + (b_y - ay) * (b_y - ay) := rfl
     have h83 := (h73.st s79 H77 (by decide))
     exact ⟨_, _, _, _, _, _, _, _, rfl, E81, h82.to ((by first | (exfalso; omega) | (rw [(n_mid (px := px) (py := py) (by omega) (by omega)).1]; try rfl; done) | (rw [(n_high (px := px) (py := py) (by omega)).1]; try rfl; done) | (rw [(n_low (px := px) (py := py) hl_ (by omega)).1]; try rfl; done))) (Nat.le_refl _), h83.to ((by first | (exfalso; omega) | (rw [(n_mid (px := px) (py := py) (by omega) (by omega)).2]; try rfl; done) | (rw [(n_high (px := px) (py := py) (by omega)).2]; try rfl; done) | (rw [(n_low (px := px) (py := py) hl_ (by omega)).2]; try rfl; done))) (by omega)⟩
   · refine rk_cf (T rfl (congrArg Value.bool (decide_eq_false hb36))) ?_
     refine rk_seq ?_
     refine rk_reg ?_
     refine lw_v (.int .i64 (((px - ax) * (bx - ax)) + ((py - ay) * (b_y - ay)))) (dv_move (T rfl rfl)) ?_
     refine lw_v (.int .i64 (((bx - ax) * (bx - ax)) + ((b_y - ay) * (b_y - ay)))) (dv_move (T rfl rfl)) ?_
     refine lw_v (.bool (decide ((((bx - ax) * (bx - ax)) + ((b_y - ay) * (b_y - ay))) ≤ (((px - ax) * (bx - ax)) + ((py - ay) * (b_y - ay)))))) (dv_geq (a := ((px - ax) * (bx - ax)) + ((py - ay) * (b_y - ay))) (b := ((bx - ax) * (bx - ax)) + ((b_y - ay) * (b_y - ay))) (T rfl rfl) (T rfl rfl)) ?_
     refine lw_v (.bool (decide ((((bx - ax) * (bx - ax)) + ((b_y - ay) * (b_y - ay))) ≤ (((px - ax) * (bx - ax)) + ((py - ay) * (b_y - ay)))))) (dv_assign (T rfl rfl)) ?_
     refine lw_nil ?_
     by_cases hb84 : (((bx - ax) * (bx - ax)) + ((b_y - ay) * (b_y - ay))) ≤ (((px - ax) * (bx - ax)) + ((py - ay) * (b_y - ay)))
     · refine rk_ct (T rfl (congrArg Value.bool (decide_eq_true hb84))) ?_
       refine rk_reg ?_
       refine lw_v (.pointer (some ⟨b1, 2, none⟩)) (dv_fieldAddr (a := ⟨b1, 0, none⟩) (a' := ⟨b1, 2, none⟩) fo47_1 (T rfl rfl) rfl) ?_
       have H85 := (s32.blk (n27.ext.blk H19) (by omega))
       refine lw_v (.agg #[.int .i64 bx, .int .i64 b_y]) (dv_loads (l := [.int .i64 bx, .int .i64 b_y]) agt45 sz45 (T rfl rfl) H85 rfl) ?_
       refine lw_e (oe_store (v := .agg #[.int .i64 bx, .int .i64 b_y]) (vs := [.int .i64 bx, .int .i64 b_y]) (l := [.int .i64 bx, .int .i64 b_y]) (T rfl rfl) (T rfl rfl) sz45 rfl rfl rfl H33 rfl ?_)
       intro w86 s87 H88
       have E89 := below_st E34 N28 s87
       refine lw_nil ?_
       refine rk_inBlock ?_
       refine rk_seq ?_
       refine rk_any (fun w => w.heap[b6]? = some (.cells #[.int .i64 px, .int .i64 py] 45) ∧ w.heap[b25]? = some (.cells #[.int .i64 bx, .int .i64 b_y] 45)) [11] mo ?_
       intro w90 d91
       have E92 := below_ext E89 E89.size d91.ext
       have H93 := (d91.ext.blk (s87.blk (s32.blk (n27.ext.blk H22) (by omega)) (by omega)))
       have H94 := (d91.ext.blk H88)
       refine aw_pure 0 (.pointer (some ⟨b6, 0, none⟩)) rfl (by kernel_rfl) .none ⟨H93, H94⟩ (fun _ => dv_fieldAddr (a := ⟨b6, 0, none⟩) (a' := ⟨b6, 0, none⟩) fo45_0 (T rfl rfl) rfl) ?_
       refine aw_load 1 (.int .i64 px) rfl (by kernel_rfl) .none ⟨H93, H94⟩ (fun _ s => dv_load1 (b := b6) (o := 0) agt2 (T rfl rfl) s.1 rfl) ?_
       refine aw_pure 2 (.pointer (some ⟨b25, 0, none⟩)) rfl (by kernel_rfl) .none ⟨H93, H94⟩ (fun _ => dv_fieldAddr (a := ⟨b25, 0, none⟩) (a' := ⟨b25, 0, none⟩) fo45_0 (T rfl rfl) rfl) ?_
       refine aw_load 3 (.int .i64 bx) rfl (by kernel_rfl) .none ⟨H93, H94⟩ (fun _ s => dv_load1 (b := b25) (o := 0) agt2 (T rfl rfl) s.2 rfl) ?_
       refine aw_pure 4 (.int .i64 (px - bx)) rfl (by kernel_rfl) .none ⟨H93, H94⟩ (fun _ => dv_sub (a := px) (b := bx) (z := px - bx) (T rfl rfl) (T rfl rfl) (wr_i64 (by omega) (by omega))) ?_
       refine aw_pure 5 (.pointer (some ⟨b6, 1, none⟩)) rfl (by kernel_rfl) .none ⟨H93, H94⟩ (fun _ => dv_fieldAddr (a := ⟨b6, 0, none⟩) (a' := ⟨b6, 1, none⟩) fo45_1 (T rfl rfl) rfl) ?_
       refine aw_load 6 (.int .i64 py) rfl (by kernel_rfl) .none ⟨H93, H94⟩ (fun _ s => dv_load1 (b := b6) (o := 1) agt2 (T rfl rfl) s.1 rfl) ?_
       refine aw_pure 7 (.pointer (some ⟨b25, 1, none⟩)) rfl (by kernel_rfl) .none ⟨H93, H94⟩ (fun _ => dv_fieldAddr (a := ⟨b25, 0, none⟩) (a' := ⟨b25, 1, none⟩) fo45_1 (T rfl rfl) rfl) ?_
       refine aw_load 8 (.int .i64 b_y) rfl (by kernel_rfl) .none ⟨H93, H94⟩ (fun _ s => dv_load1 (b := b25) (o := 1) agt2 (T rfl rfl) s.2 rfl) ?_
       refine aw_pure 9 (.int .i64 (py - b_y)) rfl (by kernel_rfl) .none ⟨H93, H94⟩ (fun _ => dv_sub (a := py) (b := b_y) (z := py - b_y) (T rfl rfl) (T rfl rfl) (wr_i64 (by omega) (by omega))) ?_
       refine aw_pure 10 (.int .i64 (px - bx)) rfl (by kernel_rfl) .none ⟨H93, H94⟩ (fun _ => dv_assign (T rfl rfl)) ?_
       refine aw_last 11 (.int .i64 (py - b_y)) rfl (by kernel_rfl) .none (fun _ => dv_assign (T rfl rfl)) ?_
       refine aw_done (by kernel_rfl) ?_
       refine rk_seq ?_
       refine rk_reg ?_
       refine lw_v (.int .i64 (px - bx)) (dv_move (T rfl rfl)) ?_
       refine lw_v (.int .i64 (px - bx)) (dv_move (T rfl rfl)) ?_
       have hm95 := mul_bd (A := 2000000) (B := 2000000) (show -2000000 ≤ (px - bx) by omega) (by omega) (show -2000000 ≤ (px - bx) by omega) (by omega)
       refine lw_v (.int .i64 ((px - bx) * (px - bx))) (dv_mul (a := px - bx) (b := px - bx) (z := (px - bx) * (px - bx)) (T rfl rfl) (T rfl rfl) (wr_i64 (by omega) (by omega))) ?_
       refine lw_v (.int .i64 (py - b_y)) (dv_move (T rfl rfl)) ?_
       refine lw_v (.int .i64 (py - b_y)) (dv_move (T rfl rfl)) ?_
       have hm96 := mul_bd (A := 2000000) (B := 2000000) (show -2000000 ≤ (py - b_y) by omega) (by omega) (show -2000000 ≤ (py - b_y) by omega) (by omega)
       refine lw_v (.int .i64 ((py - b_y) * (py - b_y))) (dv_mul (a := py - b_y) (b := py - b_y) (z := (py - b_y) * (py - b_y)) (T rfl rfl) (T rfl rfl) (wr_i64 (by omega) (by omega))) ?_
       refine lw_v (.int .i64 (((px - bx) * (px - bx)) + ((py - b_y) * (py - b_y)))) (dv_add (a := (px - bx) * (px - bx)) (b := (py - b_y) * (py - b_y)) (z := ((px - bx) * (px - bx)) + ((py - b_y) * (py - b_y))) (T rfl rfl) (T rfl rfl) (wr_i64 (by omega) (by omega))) ?_
       refine lw_e (oe_callf (vs := [.int .i64 (((px - bx) * (px - bx)) + ((py - b_y) * (py - b_y)))]) co92 (ar1 (T rfl rfl)) (whole_ok  (by omega)) ?_)
       rintro _ w102 ⟨nr97, A98, n99, c100, rfl, e103, h101⟩
       have E104 := below_ext E92 E92.size e103
       have lh101 := Num.len (by decide) h101
       refine lw_e (oe_callf (vs := [.int .i64 1]) co92 (ar1 C) (whole_ok  (by omega)) ?_)
       rintro _ w110 ⟨nr105, A106, n107, c108, rfl, e111, h109⟩
       have E112 := below_ext E104 E104.size e111
       have lh109 := Num.len (by decide) h109
       refine lw_v (.agg #[.bool nr97, .slice A98 n99 c100, .bool nr105, .slice A106 n107 c108]) (dv_build (pv := [(0, .agg #[.bool nr97, .slice A98 n99 c100]), (1, .agg #[.bool nr105, .slice A106 n107 c108])]) (l := [.bool nr97, .slice A98 n99 c100, .bool nr105, .slice A106 n107 c108]) zc139 pl139 ⟨rfl, (T rfl rfl), ⟨rfl, (T rfl rfl), trivial⟩⟩ rfl) ?_
       have H113 := (e111.blk (e103.blk (d91.ext.blk (s87.blk (s32.blk (n27.ext.blk H29) (by omega)) (by omega)))))
       refine lw_e (oe_store (v := .agg #[.bool nr97, .slice A98 n99 c100, .bool nr105, .slice A106 n107 c108]) (vs := [.bool nr97, .slice A98 n99 c100, .bool nr105, .slice A106 n107 c108]) (l := [.bool nr97, .slice A98 n99 c100, .bool nr105, .slice A106 n107 c108]) (T rfl rfl) (T rfl rfl) sz139 rfl rfl rfl H113 rfl ?_)
       intro w114 s115 H116
       have E117 := below_st E112 N14 s115
       refine lw_nil ?_
       refine rk_ret Try.func111 (v := .agg #[.bool nr97, .slice A98 n99 c100, .bool nr105, .slice A106 n107 c108]) (res1 Try.results111 (rv_cells (l := [.bool nr97, .slice A98 n99 c100, .bool nr105, .slice A106 n107 c108]) agt139 sz139 rfl rfl H116 rfl)) ⟨_, rfl, ?_⟩
       have h118 := ((h101.ext e111).st s115 H113 (by decide))
       have hdt : dotI ax ay bx b_y px py = (px - ax) * (bx - ax) + (py - ay) * (b_y - ay) := rfl
       have hln : lenI ax ay bx b_y = (bx - ax) * (bx - ax) + (b_y - ay) * (b_y - ay) := rfl
       have h119 := (h109.st s115 H113 (by decide))
       exact ⟨_, _, _, _, _, _, _, _, rfl, E117, h118.to ((by first | (exfalso; omega) | (rw [(n_mid (px := px) (py := py) (by omega) (by omega)).1]; try rfl; done) | (rw [(n_high (px := px) (py := py) (by omega)).1]; try rfl; done) | (rw [(n_low (px := px) (py := py) hl_ (by omega)).1]; try rfl; done))) (by omega), h119.to ((by first | (exfalso; omega) | (rw [(n_mid (px := px) (py := py) (by omega) (by omega)).2]; try rfl; done) | (rw [(n_high (px := px) (py := py) (by omega)).2]; try rfl; done) | (rw [(n_low (px := px) (py := py) hl_ (by omega)).2]; try rfl; done))) (by omega)⟩
     · refine rk_cf (T rfl (congrArg Value.bool (decide_eq_false hb84))) ?_
       refine rk_skip ?_
       refine rk_inBlock ?_
       refine rk_seq ?_
       refine rk_any (fun w => w.heap[b6]? = some (.cells #[.int .i64 px, .int .i64 py] 45) ∧ w.heap[b25]? = some (.cells #[.int .i64 ax, .int .i64 ay] 45)) [11] mo ?_
       intro w120 d121
       have E122 := below_ext E34 E34.size d121.ext
       have H123 := (d121.ext.blk (s32.blk (n27.ext.blk H22) (by omega)))
       have H124 := (d121.ext.blk H33)
       refine aw_pure 0 (.pointer (some ⟨b6, 0, none⟩)) rfl (by kernel_rfl) .none ⟨H123, H124⟩ (fun _ => dv_fieldAddr (a := ⟨b6, 0, none⟩) (a' := ⟨b6, 0, none⟩) fo45_0 (T rfl rfl) rfl) ?_
       refine aw_load 1 (.int .i64 px) rfl (by kernel_rfl) .none ⟨H123, H124⟩ (fun _ s => dv_load1 (b := b6) (o := 0) agt2 (T rfl rfl) s.1 rfl) ?_
       refine aw_pure 2 (.pointer (some ⟨b25, 0, none⟩)) rfl (by kernel_rfl) .none ⟨H123, H124⟩ (fun _ => dv_fieldAddr (a := ⟨b25, 0, none⟩) (a' := ⟨b25, 0, none⟩) fo45_0 (T rfl rfl) rfl) ?_
       refine aw_load 3 (.int .i64 ax) rfl (by kernel_rfl) .none ⟨H123, H124⟩ (fun _ s => dv_load1 (b := b25) (o := 0) agt2 (T rfl rfl) s.2 rfl) ?_
       refine aw_pure 4 (.int .i64 (px - ax)) rfl (by kernel_rfl) .none ⟨H123, H124⟩ (fun _ => dv_sub (a := px) (b := ax) (z := px - ax) (T rfl rfl) (T rfl rfl) (wr_i64 (by omega) (by omega))) ?_
       refine aw_pure 5 (.pointer (some ⟨b6, 1, none⟩)) rfl (by kernel_rfl) .none ⟨H123, H124⟩ (fun _ => dv_fieldAddr (a := ⟨b6, 0, none⟩) (a' := ⟨b6, 1, none⟩) fo45_1 (T rfl rfl) rfl) ?_
       refine aw_load 6 (.int .i64 py) rfl (by kernel_rfl) .none ⟨H123, H124⟩ (fun _ s => dv_load1 (b := b6) (o := 1) agt2 (T rfl rfl) s.1 rfl) ?_
       refine aw_pure 7 (.pointer (some ⟨b25, 1, none⟩)) rfl (by kernel_rfl) .none ⟨H123, H124⟩ (fun _ => dv_fieldAddr (a := ⟨b25, 0, none⟩) (a' := ⟨b25, 1, none⟩) fo45_1 (T rfl rfl) rfl) ?_
       refine aw_load 8 (.int .i64 ay) rfl (by kernel_rfl) .none ⟨H123, H124⟩ (fun _ s => dv_load1 (b := b25) (o := 1) agt2 (T rfl rfl) s.2 rfl) ?_
       refine aw_pure 9 (.int .i64 (py - ay)) rfl (by kernel_rfl) .none ⟨H123, H124⟩ (fun _ => dv_sub (a := py) (b := ay) (z := py - ay) (T rfl rfl) (T rfl rfl) (wr_i64 (by omega) (by omega))) ?_
       refine aw_pure 10 (.int .i64 (px - ax)) rfl (by kernel_rfl) .none ⟨H123, H124⟩ (fun _ => dv_assign (T rfl rfl)) ?_
       refine aw_last 11 (.int .i64 (py - ay)) rfl (by kernel_rfl) .none (fun _ => dv_assign (T rfl rfl)) ?_
       refine aw_done (by kernel_rfl) ?_
       refine rk_seq ?_
       refine rk_reg ?_
       refine lw_v (.int .i64 (px - ax)) (dv_move (T rfl rfl)) ?_
       refine lw_v (.int .i64 (px - ax)) (dv_move (T rfl rfl)) ?_
       have hm125 := mul_bd (A := 2000000) (B := 2000000) (show -2000000 ≤ (px - ax) by omega) (by omega) (show -2000000 ≤ (px - ax) by omega) (by omega)
       refine lw_v (.int .i64 ((px - ax) * (px - ax))) (dv_mul (a := px - ax) (b := px - ax) (z := (px - ax) * (px - ax)) (T rfl rfl) (T rfl rfl) (wr_i64 (by omega) (by omega))) ?_
       refine lw_v (.int .i64 (py - ay)) (dv_move (T rfl rfl)) ?_
       refine lw_v (.int .i64 (py - ay)) (dv_move (T rfl rfl)) ?_
       have hm126 := mul_bd (A := 2000000) (B := 2000000) (show -2000000 ≤ (py - ay) by omega) (by omega) (show -2000000 ≤ (py - ay) by omega) (by omega)
       refine lw_v (.int .i64 ((py - ay) * (py - ay))) (dv_mul (a := py - ay) (b := py - ay) (z := (py - ay) * (py - ay)) (T rfl rfl) (T rfl rfl) (wr_i64 (by omega) (by omega))) ?_
       refine lw_v (.int .i64 (((px - ax) * (px - ax)) + ((py - ay) * (py - ay)))) (dv_add (a := (px - ax) * (px - ax)) (b := (py - ay) * (py - ay)) (z := ((px - ax) * (px - ax)) + ((py - ay) * (py - ay))) (T rfl rfl) (T rfl rfl) (wr_i64 (by omega) (by omega))) ?_
       refine lw_e (oe_callf (vs := [.int .i64 (((px - ax) * (px - ax)) + ((py - ay) * (py - ay)))]) co92 (ar1 (T rfl rfl)) (whole_ok  (by omega)) ?_)
       rintro _ w132 ⟨nr127, A128, n129, c130, rfl, e133, h131⟩
       have E134 := below_ext E122 E122.size e133
       have lh131 := Num.len (by decide) h131
       refine lw_e (oe_callf (vs := [.int .i64 1]) co92 (ar1 C) (whole_ok  (by omega)) ?_)
       rintro _ w140 ⟨nr135, A136, n137, c138, rfl, e141, h139⟩
       have E142 := below_ext E134 E134.size e141
       have lh139 := Num.len (by decide) h139
       refine lw_v (.agg #[.bool nr127, .slice A128 n129 c130, .bool nr135, .slice A136 n137 c138]) (dv_build (pv := [(0, .agg #[.bool nr127, .slice A128 n129 c130]), (1, .agg #[.bool nr135, .slice A136 n137 c138])]) (l := [.bool nr127, .slice A128 n129 c130, .bool nr135, .slice A136 n137 c138]) zc139 pl139 ⟨rfl, (T rfl rfl), ⟨rfl, (T rfl rfl), trivial⟩⟩ rfl) ?_
       have H143 := (e141.blk (e133.blk (d121.ext.blk (s32.blk (n27.ext.blk H29) (by omega)))))
       refine lw_e (oe_store (v := .agg #[.bool nr127, .slice A128 n129 c130, .bool nr135, .slice A136 n137 c138]) (vs := [.bool nr127, .slice A128 n129 c130, .bool nr135, .slice A136 n137 c138]) (l := [.bool nr127, .slice A128 n129 c130, .bool nr135, .slice A136 n137 c138]) (T rfl rfl) (T rfl rfl) sz139 rfl rfl rfl H143 rfl ?_)
       intro w144 s145 H146
       have E147 := below_st E142 N14 s145
       refine lw_nil ?_
       refine rk_ret Try.func111 (v := .agg #[.bool nr127, .slice A128 n129 c130, .bool nr135, .slice A136 n137 c138]) (res1 Try.results111 (rv_cells (l := [.bool nr127, .slice A128 n129 c130, .bool nr135, .slice A136 n137 c138]) agt139 sz139 rfl rfl H146 rfl)) ⟨_, rfl, ?_⟩
       have h148 := ((h131.ext e141).st s145 H143 (by decide))
       have hdt : dotI ax ay bx b_y px py = (px - ax) * (bx - ax) + (py - ay) * (b_y - ay) := rfl
       have hln : lenI ax ay bx b_y = (bx - ax) * (bx - ax) + (b_y - ay) * (b_y - ay) := rfl
       have h149 := (h139.st s145 H143 (by decide))
       exact ⟨_, _, _, _, _, _, _, _, rfl, E147, h148.to ((by first | (exfalso; omega) | (rw [(n_mid (px := px) (py := py) (by omega) (by omega)).1]; try rfl; done) | (rw [(n_high (px := px) (py := py) (by omega)).1]; try rfl; done) | (rw [(n_low (px := px) (py := py) hl_ (by omega)).1]; try rfl; done))) (by omega), h149.to ((by first | (exfalso; omega) | (rw [(n_mid (px := px) (py := py) (by omega) (by omega)).2]; try rfl; done) | (rw [(n_high (px := px) (py := py) (by omega)).2]; try rfl; done) | (rw [(n_low (px := px) (py := py) hl_ (by omega)).2]; try rfl; done))) (by omega)⟩
 · refine lw_no (d := 54) rfl rfl (congrArg Value.bool (decide_eq_false hb35)) ?_
   refine lw_no (d := 54) rfl rfl (congrArg Value.bool (decide_eq_false hb35)) ?_
   refine lw_no (d := 54) rfl rfl (congrArg Value.bool (decide_eq_false hb35)) ?_
   refine lw_v (.bool false) (dv_pick_f (T rfl (congrArg Value.bool (decide_eq_false hb35))) C) ?_
   refine lw_v (.bool false) (dv_assign (T rfl rfl)) ?_
   refine lw_nil ?_
   refine rk_cf (T rfl rfl) ?_
   refine rk_seq ?_
   refine rk_reg ?_
   refine lw_v (.int .i64 (((px - ax) * (bx - ax)) + ((py - ay) * (b_y - ay)))) (dv_move (T rfl rfl)) ?_
   refine lw_v (.int .i64 (((bx - ax) * (bx - ax)) + ((b_y - ay) * (b_y - ay)))) (dv_move (T rfl rfl)) ?_
   refine lw_v (.bool (decide ((((bx - ax) * (bx - ax)) + ((b_y - ay) * (b_y - ay))) ≤ (((px - ax) * (bx - ax)) + ((py - ay) * (b_y - ay)))))) (dv_geq (a := ((px - ax) * (bx - ax)) + ((py - ay) * (b_y - ay))) (b := ((bx - ax) * (bx - ax)) + ((b_y - ay) * (b_y - ay))) (T rfl rfl) (T rfl rfl)) ?_
   refine lw_v (.bool (decide ((((bx - ax) * (bx - ax)) + ((b_y - ay) * (b_y - ay))) ≤ (((px - ax) * (bx - ax)) + ((py - ay) * (b_y - ay)))))) (dv_assign (T rfl rfl)) ?_
   refine lw_nil ?_
   by_cases hb150 : (((bx - ax) * (bx - ax)) + ((b_y - ay) * (b_y - ay))) ≤ (((px - ax) * (bx - ax)) + ((py - ay) * (b_y - ay)))
   · refine rk_ct (T rfl (congrArg Value.bool (decide_eq_true hb150))) ?_
     refine rk_reg ?_
     refine lw_v (.pointer (some ⟨b1, 2, none⟩)) (dv_fieldAddr (a := ⟨b1, 0, none⟩) (a' := ⟨b1, 2, none⟩) fo47_1 (T rfl rfl) rfl) ?_
     have H151 := (s32.blk (n27.ext.blk H19) (by omega))
     refine lw_v (.agg #[.int .i64 bx, .int .i64 b_y]) (dv_loads (l := [.int .i64 bx, .int .i64 b_y]) agt45 sz45 (T rfl rfl) H151 rfl) ?_
     refine lw_e (oe_store (v := .agg #[.int .i64 bx, .int .i64 b_y]) (vs := [.int .i64 bx, .int .i64 b_y]) (l := [.int .i64 bx, .int .i64 b_y]) (T rfl rfl) (T rfl rfl) sz45 rfl rfl rfl H33 rfl ?_)
     intro w152 s153 H154
     have E155 := below_st E34 N28 s153
     refine lw_nil ?_
     refine rk_inBlock ?_
     refine rk_seq ?_
     refine rk_any (fun w => w.heap[b6]? = some (.cells #[.int .i64 px, .int .i64 py] 45) ∧ w.heap[b25]? = some (.cells #[.int .i64 bx, .int .i64 b_y] 45)) [11] mo ?_
     intro w156 d157
     have E158 := below_ext E155 E155.size d157.ext
     have H159 := (d157.ext.blk (s153.blk (s32.blk (n27.ext.blk H22) (by omega)) (by omega)))
     have H160 := (d157.ext.blk H154)
     refine aw_pure 0 (.pointer (some ⟨b6, 0, none⟩)) rfl (by kernel_rfl) .none ⟨H159, H160⟩ (fun _ => dv_fieldAddr (a := ⟨b6, 0, none⟩) (a' := ⟨b6, 0, none⟩) fo45_0 (T rfl rfl) rfl) ?_
     refine aw_load 1 (.int .i64 px) rfl (by kernel_rfl) .none ⟨H159, H160⟩ (fun _ s => dv_load1 (b := b6) (o := 0) agt2 (T rfl rfl) s.1 rfl) ?_
     refine aw_pure 2 (.pointer (some ⟨b25, 0, none⟩)) rfl (by kernel_rfl) .none ⟨H159, H160⟩ (fun _ => dv_fieldAddr (a := ⟨b25, 0, none⟩) (a' := ⟨b25, 0, none⟩) fo45_0 (T rfl rfl) rfl) ?_
     refine aw_load 3 (.int .i64 bx) rfl (by kernel_rfl) .none ⟨H159, H160⟩ (fun _ s => dv_load1 (b := b25) (o := 0) agt2 (T rfl rfl) s.2 rfl) ?_
     refine aw_pure 4 (.int .i64 (px - bx)) rfl (by kernel_rfl) .none ⟨H159, H160⟩ (fun _ => dv_sub (a := px) (b := bx) (z := px - bx) (T rfl rfl) (T rfl rfl) (wr_i64 (by omega) (by omega))) ?_
     refine aw_pure 5 (.pointer (some ⟨b6, 1, none⟩)) rfl (by kernel_rfl) .none ⟨H159, H160⟩ (fun _ => dv_fieldAddr (a := ⟨b6, 0, none⟩) (a' := ⟨b6, 1, none⟩) fo45_1 (T rfl rfl) rfl) ?_
     refine aw_load 6 (.int .i64 py) rfl (by kernel_rfl) .none ⟨H159, H160⟩ (fun _ s => dv_load1 (b := b6) (o := 1) agt2 (T rfl rfl) s.1 rfl) ?_
     refine aw_pure 7 (.pointer (some ⟨b25, 1, none⟩)) rfl (by kernel_rfl) .none ⟨H159, H160⟩ (fun _ => dv_fieldAddr (a := ⟨b25, 0, none⟩) (a' := ⟨b25, 1, none⟩) fo45_1 (T rfl rfl) rfl) ?_
     refine aw_load 8 (.int .i64 b_y) rfl (by kernel_rfl) .none ⟨H159, H160⟩ (fun _ s => dv_load1 (b := b25) (o := 1) agt2 (T rfl rfl) s.2 rfl) ?_
     refine aw_pure 9 (.int .i64 (py - b_y)) rfl (by kernel_rfl) .none ⟨H159, H160⟩ (fun _ => dv_sub (a := py) (b := b_y) (z := py - b_y) (T rfl rfl) (T rfl rfl) (wr_i64 (by omega) (by omega))) ?_
     refine aw_pure 10 (.int .i64 (px - bx)) rfl (by kernel_rfl) .none ⟨H159, H160⟩ (fun _ => dv_assign (T rfl rfl)) ?_
     refine aw_last 11 (.int .i64 (py - b_y)) rfl (by kernel_rfl) .none (fun _ => dv_assign (T rfl rfl)) ?_
     refine aw_done (by kernel_rfl) ?_
     refine rk_seq ?_
     refine rk_reg ?_
     refine lw_v (.int .i64 (px - bx)) (dv_move (T rfl rfl)) ?_
     refine lw_v (.int .i64 (px - bx)) (dv_move (T rfl rfl)) ?_
     have hm161 := mul_bd (A := 2000000) (B := 2000000) (show -2000000 ≤ (px - bx) by omega) (by omega) (show -2000000 ≤ (px - bx) by omega) (by omega)
     refine lw_v (.int .i64 ((px - bx) * (px - bx))) (dv_mul (a := px - bx) (b := px - bx) (z := (px - bx) * (px - bx)) (T rfl rfl) (T rfl rfl) (wr_i64 (by omega) (by omega))) ?_
     refine lw_v (.int .i64 (py - b_y)) (dv_move (T rfl rfl)) ?_
     refine lw_v (.int .i64 (py - b_y)) (dv_move (T rfl rfl)) ?_
     have hm162 := mul_bd (A := 2000000) (B := 2000000) (show -2000000 ≤ (py - b_y) by omega) (by omega) (show -2000000 ≤ (py - b_y) by omega) (by omega)
     refine lw_v (.int .i64 ((py - b_y) * (py - b_y))) (dv_mul (a := py - b_y) (b := py - b_y) (z := (py - b_y) * (py - b_y)) (T rfl rfl) (T rfl rfl) (wr_i64 (by omega) (by omega))) ?_
     refine lw_v (.int .i64 (((px - bx) * (px - bx)) + ((py - b_y) * (py - b_y)))) (dv_add (a := (px - bx) * (px - bx)) (b := (py - b_y) * (py - b_y)) (z := ((px - bx) * (px - bx)) + ((py - b_y) * (py - b_y))) (T rfl rfl) (T rfl rfl) (wr_i64 (by omega) (by omega))) ?_
     refine lw_e (oe_callf (vs := [.int .i64 (((px - bx) * (px - bx)) + ((py - b_y) * (py - b_y)))]) co92 (ar1 (T rfl rfl)) (whole_ok  (by omega)) ?_)
     rintro _ w168 ⟨nr163, A164, n165, c166, rfl, e169, h167⟩
     have E170 := below_ext E158 E158.size e169
     have lh167 := Num.len (by decide) h167
     refine lw_e (oe_callf (vs := [.int .i64 1]) co92 (ar1 C) (whole_ok  (by omega)) ?_)
     rintro _ w176 ⟨nr171, A172, n173, c174, rfl, e177, h175⟩
     have E178 := below_ext E170 E170.size e177
     have lh175 := Num.len (by decide) h175
     refine lw_v (.agg #[.bool nr163, .slice A164 n165 c166, .bool nr171, .slice A172 n173 c174]) (dv_build (pv := [(0, .agg #[.bool nr163, .slice A164 n165 c166]), (1, .agg #[.bool nr171, .slice A172 n173 c174])]) (l := [.bool nr163, .slice A164 n165 c166, .bool nr171, .slice A172 n173 c174]) zc139 pl139 ⟨rfl, (T rfl rfl), ⟨rfl, (T rfl rfl), trivial⟩⟩ rfl) ?_
     have H179 := (e177.blk (e169.blk (d157.ext.blk (s153.blk (s32.blk (n27.ext.blk H29) (by omega)) (by omega)))))
     refine lw_e (oe_store (v := .agg #[.bool nr163, .slice A164 n165 c166, .bool nr171, .slice A172 n173 c174]) (vs := [.bool nr163, .slice A164 n165 c166, .bool nr171, .slice A172 n173 c174]) (l := [.bool nr163, .slice A164 n165 c166, .bool nr171, .slice A172 n173 c174]) (T rfl rfl) (T rfl rfl) sz139 rfl rfl rfl H179 rfl ?_)
     intro w180 s181 H182
     have E183 := below_st E178 N14 s181
     refine lw_nil ?_
     refine rk_ret Try.func111 (v := .agg #[.bool nr163, .slice A164 n165 c166, .bool nr171, .slice A172 n173 c174]) (res1 Try.results111 (rv_cells (l := [.bool nr163, .slice A164 n165 c166, .bool nr171, .slice A172 n173 c174]) agt139 sz139 rfl rfl H182 rfl)) ⟨_, rfl, ?_⟩
     have h184 := ((h167.ext e177).st s181 H179 (by decide))
     have hdt : dotI ax ay bx b_y px py = (px - ax) * (bx - ax) + (py - ay) * (b_y - ay) := rfl
     have hln : lenI ax ay bx b_y = (bx - ax) * (bx - ax) + (b_y - ay) * (b_y - ay) := rfl
     have h185 := (h175.st s181 H179 (by decide))
     exact ⟨_, _, _, _, _, _, _, _, rfl, E183, h184.to ((by first | (exfalso; omega) | (rw [(n_mid (px := px) (py := py) (by omega) (by omega)).1]; try rfl; done) | (rw [(n_high (px := px) (py := py) (by omega)).1]; try rfl; done) | (rw [(n_low (px := px) (py := py) hl_ (by omega)).1]; try rfl; done))) (by omega), h185.to ((by first | (exfalso; omega) | (rw [(n_mid (px := px) (py := py) (by omega) (by omega)).2]; try rfl; done) | (rw [(n_high (px := px) (py := py) (by omega)).2]; try rfl; done) | (rw [(n_low (px := px) (py := py) hl_ (by omega)).2]; try rfl; done))) (by omega)⟩
   · refine rk_cf (T rfl (congrArg Value.bool (decide_eq_false hb150))) ?_
     refine rk_skip ?_
     refine rk_inBlock ?_
     refine rk_seq ?_
     refine rk_any (fun w => w.heap[b6]? = some (.cells #[.int .i64 px, .int .i64 py] 45) ∧ w.heap[b25]? = some (.cells #[.int .i64 ax, .int .i64 ay] 45)) [11] mo ?_
     intro w186 d187
     have E188 := below_ext E34 E34.size d187.ext
     have H189 := (d187.ext.blk (s32.blk (n27.ext.blk H22) (by omega)))
     have H190 := (d187.ext.blk H33)
     refine aw_pure 0 (.pointer (some ⟨b6, 0, none⟩)) rfl (by kernel_rfl) .none ⟨H189, H190⟩ (fun _ => dv_fieldAddr (a := ⟨b6, 0, none⟩) (a' := ⟨b6, 0, none⟩) fo45_0 (T rfl rfl) rfl) ?_
     refine aw_load 1 (.int .i64 px) rfl (by kernel_rfl) .none ⟨H189, H190⟩ (fun _ s => dv_load1 (b := b6) (o := 0) agt2 (T rfl rfl) s.1 rfl) ?_
     refine aw_pure 2 (.pointer (some ⟨b25, 0, none⟩)) rfl (by kernel_rfl) .none ⟨H189, H190⟩ (fun _ => dv_fieldAddr (a := ⟨b25, 0, none⟩) (a' := ⟨b25, 0, none⟩) fo45_0 (T rfl rfl) rfl) ?_
     refine aw_load 3 (.int .i64 ax) rfl (by kernel_rfl) .none ⟨H189, H190⟩ (fun _ s => dv_load1 (b := b25) (o := 0) agt2 (T rfl rfl) s.2 rfl) ?_
     refine aw_pure 4 (.int .i64 (px - ax)) rfl (by kernel_rfl) .none ⟨H189, H190⟩ (fun _ => dv_sub (a := px) (b := ax) (z := px - ax) (T rfl rfl) (T rfl rfl) (wr_i64 (by omega) (by omega))) ?_
     refine aw_pure 5 (.pointer (some ⟨b6, 1, none⟩)) rfl (by kernel_rfl) .none ⟨H189, H190⟩ (fun _ => dv_fieldAddr (a := ⟨b6, 0, none⟩) (a' := ⟨b6, 1, none⟩) fo45_1 (T rfl rfl) rfl) ?_
     refine aw_load 6 (.int .i64 py) rfl (by kernel_rfl) .none ⟨H189, H190⟩ (fun _ s => dv_load1 (b := b6) (o := 1) agt2 (T rfl rfl) s.1 rfl) ?_
     refine aw_pure 7 (.pointer (some ⟨b25, 1, none⟩)) rfl (by kernel_rfl) .none ⟨H189, H190⟩ (fun _ => dv_fieldAddr (a := ⟨b25, 0, none⟩) (a' := ⟨b25, 1, none⟩) fo45_1 (T rfl rfl) rfl) ?_
     refine aw_load 8 (.int .i64 ay) rfl (by kernel_rfl) .none ⟨H189, H190⟩ (fun _ s => dv_load1 (b := b25) (o := 1) agt2 (T rfl rfl) s.2 rfl) ?_
     refine aw_pure 9 (.int .i64 (py - ay)) rfl (by kernel_rfl) .none ⟨H189, H190⟩ (fun _ => dv_sub (a := py) (b := ay) (z := py - ay) (T rfl rfl) (T rfl rfl) (wr_i64 (by omega) (by omega))) ?_
     refine aw_pure 10 (.int .i64 (px - ax)) rfl (by kernel_rfl) .none ⟨H189, H190⟩ (fun _ => dv_assign (T rfl rfl)) ?_
     refine aw_last 11 (.int .i64 (py - ay)) rfl (by kernel_rfl) .none (fun _ => dv_assign (T rfl rfl)) ?_
     refine aw_done (by kernel_rfl) ?_
     refine rk_seq ?_
     refine rk_reg ?_
     refine lw_v (.int .i64 (px - ax)) (dv_move (T rfl rfl)) ?_
     refine lw_v (.int .i64 (px - ax)) (dv_move (T rfl rfl)) ?_
     have hm191 := mul_bd (A := 2000000) (B := 2000000) (show -2000000 ≤ (px - ax) by omega) (by omega) (show -2000000 ≤ (px - ax) by omega) (by omega)
     refine lw_v (.int .i64 ((px - ax) * (px - ax))) (dv_mul (a := px - ax) (b := px - ax) (z := (px - ax) * (px - ax)) (T rfl rfl) (T rfl rfl) (wr_i64 (by omega) (by omega))) ?_
     refine lw_v (.int .i64 (py - ay)) (dv_move (T rfl rfl)) ?_
     refine lw_v (.int .i64 (py - ay)) (dv_move (T rfl rfl)) ?_
     have hm192 := mul_bd (A := 2000000) (B := 2000000) (show -2000000 ≤ (py - ay) by omega) (by omega) (show -2000000 ≤ (py - ay) by omega) (by omega)
     refine lw_v (.int .i64 ((py - ay) * (py - ay))) (dv_mul (a := py - ay) (b := py - ay) (z := (py - ay) * (py - ay)) (T rfl rfl) (T rfl rfl) (wr_i64 (by omega) (by omega))) ?_
     refine lw_v (.int .i64 (((px - ax) * (px - ax)) + ((py - ay) * (py - ay)))) (dv_add (a := (px - ax) * (px - ax)) (b := (py - ay) * (py - ay)) (z := ((px - ax) * (px - ax)) + ((py - ay) * (py - ay))) (T rfl rfl) (T rfl rfl) (wr_i64 (by omega) (by omega))) ?_
     refine lw_e (oe_callf (vs := [.int .i64 (((px - ax) * (px - ax)) + ((py - ay) * (py - ay)))]) co92 (ar1 (T rfl rfl)) (whole_ok  (by omega)) ?_)
     rintro _ w198 ⟨nr193, A194, n195, c196, rfl, e199, h197⟩
     have E200 := below_ext E188 E188.size e199
     have lh197 := Num.len (by decide) h197
     refine lw_e (oe_callf (vs := [.int .i64 1]) co92 (ar1 C) (whole_ok  (by omega)) ?_)
     rintro _ w206 ⟨nr201, A202, n203, c204, rfl, e207, h205⟩
     have E208 := below_ext E200 E200.size e207
     have lh205 := Num.len (by decide) h205
     refine lw_v (.agg #[.bool nr193, .slice A194 n195 c196, .bool nr201, .slice A202 n203 c204]) (dv_build (pv := [(0, .agg #[.bool nr193, .slice A194 n195 c196]), (1, .agg #[.bool nr201, .slice A202 n203 c204])]) (l := [.bool nr193, .slice A194 n195 c196, .bool nr201, .slice A202 n203 c204]) zc139 pl139 ⟨rfl, (T rfl rfl), ⟨rfl, (T rfl rfl), trivial⟩⟩ rfl) ?_
     have H209 := (e207.blk (e199.blk (d187.ext.blk (s32.blk (n27.ext.blk H29) (by omega)))))
     refine lw_e (oe_store (v := .agg #[.bool nr193, .slice A194 n195 c196, .bool nr201, .slice A202 n203 c204]) (vs := [.bool nr193, .slice A194 n195 c196, .bool nr201, .slice A202 n203 c204]) (l := [.bool nr193, .slice A194 n195 c196, .bool nr201, .slice A202 n203 c204]) (T rfl rfl) (T rfl rfl) sz139 rfl rfl rfl H209 rfl ?_)
     intro w210 s211 H212
     have E213 := below_st E208 N14 s211
     refine lw_nil ?_
     refine rk_ret Try.func111 (v := .agg #[.bool nr193, .slice A194 n195 c196, .bool nr201, .slice A202 n203 c204]) (res1 Try.results111 (rv_cells (l := [.bool nr193, .slice A194 n195 c196, .bool nr201, .slice A202 n203 c204]) agt139 sz139 rfl rfl H212 rfl)) ⟨_, rfl, ?_⟩
     have h214 := ((h197.ext e207).st s211 H209 (by decide))
     have hdt : dotI ax ay bx b_y px py = (px - ax) * (bx - ax) + (py - ay) * (b_y - ay) := rfl
     have hln : lenI ax ay bx b_y = (bx - ax) * (bx - ax) + (b_y - ay) * (b_y - ay) := rfl
     have h215 := (h205.st s211 H209 (by decide))
     exact ⟨_, _, _, _, _, _, _, _, rfl, E213, h214.to ((by first | (exfalso; omega) | (rw [(n_mid (px := px) (py := py) (by omega) (by omega)).1]; try rfl; done) | (rw [(n_high (px := px) (py := py) (by omega)).1]; try rfl; done) | (rw [(n_low (px := px) (py := py) hl_ (by omega)).1]; try rfl; done))) (by omega), h215.to ((by first | (exfalso; omega) | (rw [(n_mid (px := px) (py := py) (by omega) (by omega)).2]; try rfl; done) | (rw [(n_high (px := px) (py := py) (by omega)).2]; try rfl; done) | (rw [(n_low (px := px) (py := py) hl_ (by omega)).2]; try rfl; done))) (by omega)⟩
set_option maxHeartbeats 1000000 in
theorem l4Near2_ok {w : World}  {ax ay bx b_y : Int} {px py : Int}  (hs_ : (-1000000 ≤ ax ∧ ax ≤ 1000000) ∧ (-1000000 ≤ ay ∧ ay ≤ 1000000) ∧ (-1000000 ≤ bx ∧ bx ≤ 1000000) ∧ (-1000000 ≤ b_y ∧ b_y ≤ 1000000)) (hp_ : (-1000000 ≤ px ∧ px ≤ 1000000) ∧ (-1000000 ≤ py ∧ py ≤ 1000000)) (hl_ : spotLt ax ay bx b_y) : Ct Try.prog 110 [.agg #[.int .i64 ax, .int .i64 ay, .int .i64 bx, .int .i64 b_y], .agg #[.int .i64 px, .int .i64 py]] w fun v w1 => ∃ nr0_ A0_ l0_ c0_ nr1_ A1_ l1_ c1_, v = .agg #[.bool nr0_, .slice A0_ l0_ c0_, .bool nr1_, .slice A1_ l1_ c1_] ∧ Ext w w1 ∧ Num 32 183 .u32 w1 nr0_ A0_ l0_ c0_ (rUp (nU ax ay bx b_y px py) (nD ax ay bx b_y px py)) (128) ∧ Num 32 183 .u32 w1 nr1_ A1_ l1_ c1_ (rDn (nU ax ay bx b_y px py) (nD ax ay bx b_y px py)) (128) := by
 refine ct_run (n := 105) Try.func110 rfl Try.ntmps110 rfl ?_
 have E0 : Below w.heap.size w w := Below.refl _ _
 refine rk_seq ?_
 refine rk_reg ?_
 refine lw_e (oe_box (v := .agg #[.int .i64 ax, .int .i64 ay, .int .i64 bx, .int .i64 b_y]) (cs := #[.int .i64 ax, .int .i64 ay, .int .i64 bx, .int .i64 b_y]) (T rfl rfl) rfl ?_)
 intro b1 w2 n3
 have N4 : w.heap.size ≤ b1 := n3.eq ▸ E0.size
 have E5 := below_ext E0 E0.size n3.ext
 refine lw_e (oe_box (v := .agg #[.int .i64 px, .int .i64 py]) (cs := #[.int .i64 px, .int .i64 py]) (T rfl rfl) rfl ?_)
 intro b6 w7 n8
 have N9 : w.heap.size ≤ b6 := n8.eq ▸ E5.size
 have : b1 < b6 := n8.eq ▸ lt_of_blk n3.blk
 have E10 := below_ext E5 E5.size n8.ext
 refine lw_e (oe_alloc ze136 ?_)
 intro b11 w12 n13
 have N14 : w.heap.size ≤ b11 := n13.eq ▸ E10.size
 have : b6 < b11 := n13.eq ▸ lt_of_blk n8.blk
 have E15 := below_ext E10 E10.size n13.ext
 refine lw_nil ?_
 refine rk_seq ?_
 refine rk_reg ?_
 refine lw_v (.pointer (some ⟨b1, 2, none⟩)) (dv_fieldAddr (a := ⟨b1, 0, none⟩) (a' := ⟨b1, 2, none⟩) fo47_1 (T rfl rfl) rfl) ?_
 refine lw_v (.pointer (some ⟨b1, 2, none⟩)) (dv_fieldAddr (a := ⟨b1, 2, none⟩) (a' := ⟨b1, 2, none⟩) fo45_0 (T rfl rfl) rfl) ?_
 have H16 := (n13.ext.blk (n8.ext.blk n3.blk))
 refine lw_v (.int .i64 bx) (dv_load1 (b := b1) (o := 2) agt2 (T rfl rfl) H16 rfl) ?_
 refine lw_v (.pointer (some ⟨b1, 0, none⟩)) (dv_fieldAddr (a := ⟨b1, 0, none⟩) (a' := ⟨b1, 0, none⟩) fo47_0 (T rfl rfl) rfl) ?_
 refine lw_v (.pointer (some ⟨b1, 0, none⟩)) (dv_fieldAddr (a := ⟨b1, 0, none⟩) (a' := ⟨b1, 0, none⟩) fo45_0 (T rfl rfl) rfl) ?_
 refine lw_v (.int .i64 ax) (dv_load1 (b := b1) (o := 0) agt2 (T rfl rfl) H16 rfl) ?_
 refine lw_v (.int .i64 (bx - ax)) (dv_sub (a := bx) (b := ax) (z := bx - ax) (T rfl rfl) (T rfl rfl) (wr_i64 (by omega) (by omega))) ?_
 refine lw_v (.int .i64 (bx - ax)) (dv_assign (T rfl rfl)) ?_
 refine lw_nil ?_
 refine rk_seq ?_
 refine rk_reg ?_
 refine lw_v (.pointer (some ⟨b1, 2, none⟩)) (dv_fieldAddr (a := ⟨b1, 0, none⟩) (a' := ⟨b1, 2, none⟩) fo47_1 (T rfl rfl) rfl) ?_
 refine lw_v (.pointer (some ⟨b1, 3, none⟩)) (dv_fieldAddr (a := ⟨b1, 2, none⟩) (a' := ⟨b1, 3, none⟩) fo45_1 (T rfl rfl) rfl) ?_
 refine lw_v (.int .i64 b_y) (dv_load1 (b := b1) (o := 3) agt2 (T rfl rfl) H16 rfl) ?_
 refine lw_v (.pointer (some ⟨b1, 0, none⟩)) (dv_fieldAddr (a := ⟨b1, 0, none⟩) (a' := ⟨b1, 0, none⟩) fo47_0 (T rfl rfl) rfl) ?_
 refine lw_v (.pointer (some ⟨b1, 1, none⟩)) (dv_fieldAddr (a := ⟨b1, 0, none⟩) (a' := ⟨b1, 1, none⟩) fo45_1 (T rfl rfl) rfl) ?_
 refine lw_v (.int .i64 ay) (dv_load1 (b := b1) (o := 1) agt2 (T rfl rfl) H16 rfl) ?_
 refine lw_v (.int .i64 (b_y - ay)) (dv_sub (a := b_y) (b := ay) (z := b_y - ay) (T rfl rfl) (T rfl rfl) (wr_i64 (by omega) (by omega))) ?_
 refine lw_v (.int .i64 (b_y - ay)) (dv_assign (T rfl rfl)) ?_
 refine lw_nil ?_
 refine rk_seq ?_
 refine rk_reg ?_
 refine lw_v (.pointer (some ⟨b6, 0, none⟩)) (dv_fieldAddr (a := ⟨b6, 0, none⟩) (a' := ⟨b6, 0, none⟩) fo45_0 (T rfl rfl) rfl) ?_
 have H17 := (n13.ext.blk n8.blk)
 refine lw_v (.int .i64 px) (dv_load1 (b := b6) (o := 0) agt2 (T rfl rfl) H17 rfl) ?_
 refine lw_v (.pointer (some ⟨b1, 0, none⟩)) (dv_fieldAddr (a := ⟨b1, 0, none⟩) (a' := ⟨b1, 0, none⟩) fo47_0 (T rfl rfl) rfl) ?_
 refine lw_v (.pointer (some ⟨b1, 0, none⟩)) (dv_fieldAddr (a := ⟨b1, 0, none⟩) (a' := ⟨b1, 0, none⟩) fo45_0 (T rfl rfl) rfl) ?_
 refine lw_v (.int .i64 ax) (dv_load1 (b := b1) (o := 0) agt2 (T rfl rfl) H16 rfl) ?_
 refine lw_v (.int .i64 (px - ax)) (dv_sub (a := px) (b := ax) (z := px - ax) (T rfl rfl) (T rfl rfl) (wr_i64 (by omega) (by omega))) ?_
 refine lw_v (.int .i64 (px - ax)) (dv_assign (T rfl rfl)) ?_
 refine lw_nil ?_
 refine rk_seq ?_
 refine rk_reg ?_
 refine lw_v (.pointer (some ⟨b6, 1, none⟩)) (dv_fieldAddr (a := ⟨b6, 0, none⟩) (a' := ⟨b6, 1, none⟩) fo45_1 (T rfl rfl) rfl) ?_
 refine lw_v (.int .i64 py) (dv_load1 (b := b6) (o := 1) agt2 (T rfl rfl) H17 rfl) ?_
 refine lw_v (.pointer (some ⟨b1, 0, none⟩)) (dv_fieldAddr (a := ⟨b1, 0, none⟩) (a' := ⟨b1, 0, none⟩) fo47_0 (T rfl rfl) rfl) ?_
 refine lw_v (.pointer (some ⟨b1, 1, none⟩)) (dv_fieldAddr (a := ⟨b1, 0, none⟩) (a' := ⟨b1, 1, none⟩) fo45_1 (T rfl rfl) rfl) ?_
 refine lw_v (.int .i64 ay) (dv_load1 (b := b1) (o := 1) agt2 (T rfl rfl) H16 rfl) ?_
 refine lw_v (.int .i64 (py - ay)) (dv_sub (a := py) (b := ay) (z := py - ay) (T rfl rfl) (T rfl rfl) (wr_i64 (by omega) (by omega))) ?_
 refine lw_v (.int .i64 (py - ay)) (dv_assign (T rfl rfl)) ?_
 refine lw_nil ?_
 refine rk_seq ?_
 refine rk_reg ?_
 refine lw_v (.int .i64 (px - ax)) (dv_move (T rfl rfl)) ?_
 refine lw_v (.int .i64 (bx - ax)) (dv_move (T rfl rfl)) ?_
 have hm18 := mul_bd (A := 2000000) (B := 2000000) (show -2000000 ≤ (px - ax) by omega) (by omega) (show -2000000 ≤ (bx - ax) by omega) (by omega)
 refine lw_v (.int .i64 ((px - ax) * (bx - ax))) (dv_mul (a := px - ax) (b := bx - ax) (z := (px - ax) * (bx - ax)) (T rfl rfl) (T rfl rfl) (wr_i64 (by omega) (by omega))) ?_
 refine lw_v (.int .i64 (py - ay)) (dv_move (T rfl rfl)) ?_
 refine lw_v (.int .i64 (b_y - ay)) (dv_move (T rfl rfl)) ?_
 have hm19 := mul_bd (A := 2000000) (B := 2000000) (show -2000000 ≤ (py - ay) by omega) (by omega) (show -2000000 ≤ (b_y - ay) by omega) (by omega)
 refine lw_v (.int .i64 ((py - ay) * (b_y - ay))) (dv_mul (a := py - ay) (b := b_y - ay) (z := (py - ay) * (b_y - ay)) (T rfl rfl) (T rfl rfl) (wr_i64 (by omega) (by omega))) ?_
 refine lw_v (.int .i64 (((px - ax) * (bx - ax)) + ((py - ay) * (b_y - ay)))) (dv_add (a := (px - ax) * (bx - ax)) (b := (py - ay) * (b_y - ay)) (z := ((px - ax) * (bx - ax)) + ((py - ay) * (b_y - ay))) (T rfl rfl) (T rfl rfl) (wr_i64 (by omega) (by omega))) ?_
 refine lw_v (.int .i64 (((px - ax) * (bx - ax)) + ((py - ay) * (b_y - ay)))) (dv_assign (T rfl rfl)) ?_
 refine lw_nil ?_
 refine rk_seq ?_
 refine rk_reg ?_
 refine lw_v (.int .i64 (bx - ax)) (dv_move (T rfl rfl)) ?_
 refine lw_v (.int .i64 (bx - ax)) (dv_move (T rfl rfl)) ?_
 have hm20 := mul_bd (A := 2000000) (B := 2000000) (show -2000000 ≤ (bx - ax) by omega) (by omega) (show -2000000 ≤ (bx - ax) by omega) (by omega)
 refine lw_v (.int .i64 ((bx - ax) * (bx - ax))) (dv_mul (a := bx - ax) (b := bx - ax) (z := (bx - ax) * (bx - ax)) (T rfl rfl) (T rfl rfl) (wr_i64 (by omega) (by omega))) ?_
 refine lw_v (.int .i64 (b_y - ay)) (dv_move (T rfl rfl)) ?_
 refine lw_v (.int .i64 (b_y - ay)) (dv_move (T rfl rfl)) ?_
 have hm21 := mul_bd (A := 2000000) (B := 2000000) (show -2000000 ≤ (b_y - ay) by omega) (by omega) (show -2000000 ≤ (b_y - ay) by omega) (by omega)
 refine lw_v (.int .i64 ((b_y - ay) * (b_y - ay))) (dv_mul (a := b_y - ay) (b := b_y - ay) (z := (b_y - ay) * (b_y - ay)) (T rfl rfl) (T rfl rfl) (wr_i64 (by omega) (by omega))) ?_
 refine lw_v (.int .i64 (((bx - ax) * (bx - ax)) + ((b_y - ay) * (b_y - ay)))) (dv_add (a := (bx - ax) * (bx - ax)) (b := (b_y - ay) * (b_y - ay)) (z := ((bx - ax) * (bx - ax)) + ((b_y - ay) * (b_y - ay))) (T rfl rfl) (T rfl rfl) (wr_i64 (by omega) (by omega))) ?_
 refine lw_v (.int .i64 (((bx - ax) * (bx - ax)) + ((b_y - ay) * (b_y - ay)))) (dv_assign (T rfl rfl)) ?_
 refine lw_nil ?_
 refine rk_seq ?_
 refine rk_seq ?_
 refine rk_reg ?_
 refine lw_v (.int .i64 (((px - ax) * (bx - ax)) + ((py - ay) * (b_y - ay)))) (dv_move (T rfl rfl)) ?_
 refine lw_v (.bool (decide ((((px - ax) * (bx - ax)) + ((py - ay) * (b_y - ay))) ≤ 0))) (dv_leq (a := ((px - ax) * (bx - ax)) + ((py - ay) * (b_y - ay))) (b := 0) (T rfl rfl) C) ?_
 refine lw_nil ?_
 by_cases hb22 : (((px - ax) * (bx - ax)) + ((py - ay) * (b_y - ay))) ≤ 0
 · refine rk_ct (T rfl (congrArg Value.bool (decide_eq_true hb22))) ?_
   refine rk_seq ?_
   refine rk_reg ?_
   refine lw_v (.int .i64 (px - ax)) (dv_move (T rfl rfl)) ?_
   refine lw_v (.int .i64 (px - ax)) (dv_move (T rfl rfl)) ?_
   have hm23 := mul_bd (A := 2000000) (B := 2000000) (show -2000000 ≤ (px - ax) by omega) (by omega) (show -2000000 ≤ (px - ax) by omega) (by omega)
   refine lw_v (.int .i64 ((px - ax) * (px - ax))) (dv_mul (a := px - ax) (b := px - ax) (z := (px - ax) * (px - ax)) (T rfl rfl) (T rfl rfl) (wr_i64 (by omega) (by omega))) ?_
   refine lw_v (.int .i64 (py - ay)) (dv_move (T rfl rfl)) ?_
   refine lw_v (.int .i64 (py - ay)) (dv_move (T rfl rfl)) ?_
   have hm24 := mul_bd (A := 2000000) (B := 2000000) (show -2000000 ≤ (py - ay) by omega) (by omega) (show -2000000 ≤ (py - ay) by omega) (by omega)
   refine lw_v (.int .i64 ((py - ay) * (py - ay))) (dv_mul (a := py - ay) (b := py - ay) (z := (py - ay) * (py - ay)) (T rfl rfl) (T rfl rfl) (wr_i64 (by omega) (by omega))) ?_
   refine lw_v (.int .i64 (((px - ax) * (px - ax)) + ((py - ay) * (py - ay)))) (dv_add (a := (px - ax) * (px - ax)) (b := (py - ay) * (py - ay)) (z := ((px - ax) * (px - ax)) + ((py - ay) * (py - ay))) (T rfl rfl) (T rfl rfl) (wr_i64 (by omega) (by omega))) ?_
   refine lw_e (oe_callf (vs := [.int .i64 (((px - ax) * (px - ax)) + ((py - ay) * (py - ay)))]) co100 (ar1 (T rfl rfl)) (l1Int_ok  (by omega)) ?_)
   rintro _ w30 ⟨nr25, A26, n27, c28, rfl, e31, h29⟩
   have E32 := below_ext E15 E15.size e31
   have lh29 := Num.len (by decide) h29
   refine lw_e (oe_callf (vs := [.int .i64 1]) co100 (ar1 C) (l1Int_ok  (by omega)) ?_)
   rintro _ w38 ⟨nr33, A34, n35, c36, rfl, e39, h37⟩
   have E40 := below_ext E32 E32.size e39
   have lh37 := Num.len (by decide) h37
   refine lw_v (.agg #[.bool nr25, .slice A26 n27 c28, .bool nr33, .slice A34 n35 c36]) (dv_build (pv := [(0, .agg #[.bool nr25, .slice A26 n27 c28]), (1, .agg #[.bool nr33, .slice A34 n35 c36])]) (l := [.bool nr25, .slice A26 n27 c28, .bool nr33, .slice A34 n35 c36]) zc136 pl136 ⟨rfl, (T rfl rfl), ⟨rfl, (T rfl rfl), trivial⟩⟩ rfl) ?_
   have H41 := (e39.blk (e31.blk n13.blk))
   refine lw_e (oe_store (v := .agg #[.bool nr25, .slice A26 n27 c28, .bool nr33, .slice A34 n35 c36]) (vs := [.bool nr25, .slice A26 n27 c28, .bool nr33, .slice A34 n35 c36]) (l := [.bool nr25, .slice A26 n27 c28, .bool nr33, .slice A34 n35 c36]) (T rfl rfl) (T rfl rfl) sz136 rfl rfl rfl H41 rfl ?_)
   intro w42 s43 H44
   have E45 := below_st E40 N14 s43
   refine lw_nil ?_
   refine rk_ret Try.func110 (v := .agg #[.bool nr25, .slice A26 n27 c28, .bool nr33, .slice A34 n35 c36]) (res1 Try.results110 (rv_cells (l := [.bool nr25, .slice A26 n27 c28, .bool nr33, .slice A34 n35 c36]) agt136 sz136 rfl rfl H44 rfl)) ⟨_, rfl, ?_⟩
   have h46 := ((h29.ext e39).st s43 H41 (by decide))
   have hdt : dotI ax ay bx b_y px py = (px - ax) * (bx - ax) + (py - ay) * (b_y - ay) := rfl
   have hln : lenI ax ay bx b_y = (bx - ax) * (bx - ax) + (b_y - ay) * (b_y - ay) := rfl
   have h47 := (h37.st s43 H41 (by decide))
   exact ⟨_, _, _, _, _, _, _, _, rfl, E45, h46.to ((by first | (exfalso; omega) | (rw [(n_mid (px := px) (py := py) (by omega) (by omega)).1, (n_mid (px := px) (py := py) (by omega) (by omega)).2]; try rfl; done) | (rw [(n_high (px := px) (py := py) (by omega)).1, (n_high (px := px) (py := py) (by omega)).2, rUp_one]; try rfl; done) | (rw [(n_low (px := px) (py := py) hl_ (by omega)).1, (n_low (px := px) (py := py) hl_ (by omega)).2, rUp_one]; try rfl; done))) (by omega), h47.to ((by first | (exfalso; omega) | (rw [(n_mid (px := px) (py := py) (by omega) (by omega)).1, (n_mid (px := px) (py := py) (by omega) (by omega)).2]; try rfl; done) | (rw [(n_high (px := px) (py := py) (by omega)).1, (n_high (px := px) (py := py) (by omega)).2, rDn_one]; try rfl; done) | (rw [(n_low (px := px) (py := py) hl_ (by omega)).1, (n_low (px := px) (py := py) hl_ (by omega)).2, rDn_one]; try rfl; done))) (by omega)⟩
 · refine rk_cf (T rfl (congrArg Value.bool (decide_eq_false hb22))) ?_
   refine rk_skip ?_
   refine rk_seq ?_
   refine rk_seq ?_
   refine rk_reg ?_
   refine lw_v (.int .i64 (((px - ax) * (bx - ax)) + ((py - ay) * (b_y - ay)))) (dv_move (T rfl rfl)) ?_
   refine lw_v (.int .i64 (((bx - ax) * (bx - ax)) + ((b_y - ay) * (b_y - ay)))) (dv_move (T rfl rfl)) ?_
   refine lw_v (.bool (decide ((((bx - ax) * (bx - ax)) + ((b_y - ay) * (b_y - ay))) ≤ (((px - ax) * (bx - ax)) + ((py - ay) * (b_y - ay)))))) (dv_geq (a := ((px - ax) * (bx - ax)) + ((py - ay) * (b_y - ay))) (b := ((bx - ax) * (bx - ax)) + ((b_y - ay) * (b_y - ay))) (T rfl rfl) (T rfl rfl)) ?_
   refine lw_nil ?_
   by_cases hb48 : (((bx - ax) * (bx - ax)) + ((b_y - ay) * (b_y - ay))) ≤ (((px - ax) * (bx - ax)) + ((py - ay) * (b_y - ay)))
   · refine rk_ct (T rfl (congrArg Value.bool (decide_eq_true hb48))) ?_
     refine rk_seq ?_
     refine rk_reg ?_
     refine lw_v (.pointer (some ⟨b6, 0, none⟩)) (dv_fieldAddr (a := ⟨b6, 0, none⟩) (a' := ⟨b6, 0, none⟩) fo45_0 (T rfl rfl) rfl) ?_
     refine lw_v (.int .i64 px) (dv_load1 (b := b6) (o := 0) agt2 (T rfl rfl) H17 rfl) ?_
     refine lw_v (.pointer (some ⟨b1, 2, none⟩)) (dv_fieldAddr (a := ⟨b1, 0, none⟩) (a' := ⟨b1, 2, none⟩) fo47_1 (T rfl rfl) rfl) ?_
     refine lw_v (.pointer (some ⟨b1, 2, none⟩)) (dv_fieldAddr (a := ⟨b1, 2, none⟩) (a' := ⟨b1, 2, none⟩) fo45_0 (T rfl rfl) rfl) ?_
     refine lw_v (.int .i64 bx) (dv_load1 (b := b1) (o := 2) agt2 (T rfl rfl) H16 rfl) ?_
     refine lw_v (.int .i64 (px - bx)) (dv_sub (a := px) (b := bx) (z := px - bx) (T rfl rfl) (T rfl rfl) (wr_i64 (by omega) (by omega))) ?_
     refine lw_v (.int .i64 (px - bx)) (dv_assign (T rfl rfl)) ?_
     refine lw_nil ?_
     refine rk_seq ?_
     refine rk_reg ?_
     refine lw_v (.pointer (some ⟨b6, 1, none⟩)) (dv_fieldAddr (a := ⟨b6, 0, none⟩) (a' := ⟨b6, 1, none⟩) fo45_1 (T rfl rfl) rfl) ?_
     refine lw_v (.int .i64 py) (dv_load1 (b := b6) (o := 1) agt2 (T rfl rfl) H17 rfl) ?_
     refine lw_v (.pointer (some ⟨b1, 2, none⟩)) (dv_fieldAddr (a := ⟨b1, 0, none⟩) (a' := ⟨b1, 2, none⟩) fo47_1 (T rfl rfl) rfl) ?_
     refine lw_v (.pointer (some ⟨b1, 3, none⟩)) (dv_fieldAddr (a := ⟨b1, 2, none⟩) (a' := ⟨b1, 3, none⟩) fo45_1 (T rfl rfl) rfl) ?_
     refine lw_v (.int .i64 b_y) (dv_load1 (b := b1) (o := 3) agt2 (T rfl rfl) H16 rfl) ?_
     refine lw_v (.int .i64 (py - b_y)) (dv_sub (a := py) (b := b_y) (z := py - b_y) (T rfl rfl) (T rfl rfl) (wr_i64 (by omega) (by omega))) ?_
     refine lw_v (.int .i64 (py - b_y)) (dv_assign (T rfl rfl)) ?_
     refine lw_nil ?_
     refine rk_seq ?_
     refine rk_reg ?_
     refine lw_v (.int .i64 (px - bx)) (dv_move (T rfl rfl)) ?_
     refine lw_v (.int .i64 (px - bx)) (dv_move (T rfl rfl)) ?_
     have hm49 := mul_bd (A := 2000000) (B := 2000000) (show -2000000 ≤ (px - bx) by omega) (by omega) (show -2000000 ≤ (px - bx) by omega) (by omega)
     refine lw_v (.int .i64 ((px - bx) * (px - bx))) (dv_mul (a := px - bx) (b := px - bx) (z := (px - bx) * (px - bx)) (T rfl rfl) (T rfl rfl) (wr_i64 (by omega) (by omega))) ?_
     refine lw_v (.int .i64 (py - b_y)) (dv_move (T rfl rfl)) ?_
     refine lw_v (.int .i64 (py - b_y)) (dv_move (T rfl rfl)) ?_
     have hm50 := mul_bd (A := 2000000) (B := 2000000) (show -2000000 ≤ (py - b_y) by omega) (by omega) (show -2000000 ≤ (py - b_y) by omega) (by omega)
     refine lw_v (.int .i64 ((py - b_y) * (py - b_y))) (dv_mul (a := py - b_y) (b := py - b_y) (z := (py - b_y) * (py - b_y)) (T rfl rfl) (T rfl rfl) (wr_i64 (by omega) (by omega))) ?_
     refine lw_v (.int .i64 (((px - bx) * (px - bx)) + ((py - b_y) * (py - b_y)))) (dv_add (a := (px - bx) * (px - bx)) (b := (py - b_y) * (py - b_y)) (z := ((px - bx) * (px - bx)) + ((py - b_y) * (py - b_y))) (T rfl rfl) (T rfl rfl) (wr_i64 (by omega) (by omega))) ?_
     refine lw_e (oe_callf (vs := [.int .i64 (((px - bx) * (px - bx)) + ((py - b_y) * (py - b_y)))]) co100 (ar1 (T rfl rfl)) (l1Int_ok  (by omega)) ?_)
     rintro _ w56 ⟨nr51, A52, n53, c54, rfl, e57, h55⟩
     have E58 := below_ext E15 E15.size e57
     have lh55 := Num.len (by decide) h55
     refine lw_e (oe_callf (vs := [.int .i64 1]) co100 (ar1 C) (l1Int_ok  (by omega)) ?_)
     rintro _ w64 ⟨nr59, A60, n61, c62, rfl, e65, h63⟩
     have E66 := below_ext E58 E58.size e65
     have lh63 := Num.len (by decide) h63
     refine lw_v (.agg #[.bool nr51, .slice A52 n53 c54, .bool nr59, .slice A60 n61 c62]) (dv_build (pv := [(0, .agg #[.bool nr51, .slice A52 n53 c54]), (1, .agg #[.bool nr59, .slice A60 n61 c62])]) (l := [.bool nr51, .slice A52 n53 c54, .bool nr59, .slice A60 n61 c62]) zc136 pl136 ⟨rfl, (T rfl rfl), ⟨rfl, (T rfl rfl), trivial⟩⟩ rfl) ?_
     have H67 := (e65.blk (e57.blk n13.blk))
     refine lw_e (oe_store (v := .agg #[.bool nr51, .slice A52 n53 c54, .bool nr59, .slice A60 n61 c62]) (vs := [.bool nr51, .slice A52 n53 c54, .bool nr59, .slice A60 n61 c62]) (l := [.bool nr51, .slice A52 n53 c54, .bool nr59, .slice A60 n61 c62]) (T rfl rfl) (T rfl rfl) sz136 rfl rfl rfl H67 rfl ?_)
     intro w68 s69 H70
     have E71 := below_st E66 N14 s69
     refine lw_nil ?_
     refine rk_ret Try.func110 (v := .agg #[.bool nr51, .slice A52 n53 c54, .bool nr59, .slice A60 n61 c62]) (res1 Try.results110 (rv_cells (l := [.bool nr51, .slice A52 n53 c54, .bool nr59, .slice A60 n61 c62]) agt136 sz136 rfl rfl H70 rfl)) ⟨_, rfl, ?_⟩
     have h72 := ((h55.ext e65).st s69 H67 (by decide))
     have hdt : dotI ax ay bx b_y px py = (px - ax) * (bx - ax) + (py - ay) * (b_y - ay) := rfl
     have hln : lenI ax ay bx b_y = (bx - ax) * (bx - ax) + (b_y - ay) * (b_y - ay) := rfl
     have h73 := (h63.st s69 H67 (by decide))
     exact ⟨_, _, _, _, _, _, _, _, rfl, E71, h72.to ((by first | (exfalso; omega) | (rw [(n_mid (px := px) (py := py) (by omega) (by omega)).1, (n_mid (px := px) (py := py) (by omega) (by omega)).2]; try rfl; done) | (rw [(n_high (px := px) (py := py) (by omega)).1, (n_high (px := px) (py := py) (by omega)).2, rUp_one]; try rfl; done) | (rw [(n_low (px := px) (py := py) hl_ (by omega)).1, (n_low (px := px) (py := py) hl_ (by omega)).2, rUp_one]; try rfl; done))) (by omega), h73.to ((by first | (exfalso; omega) | (rw [(n_mid (px := px) (py := py) (by omega) (by omega)).1, (n_mid (px := px) (py := py) (by omega) (by omega)).2]; try rfl; done) | (rw [(n_high (px := px) (py := py) (by omega)).1, (n_high (px := px) (py := py) (by omega)).2, rDn_one]; try rfl; done) | (rw [(n_low (px := px) (py := py) hl_ (by omega)).1, (n_low (px := px) (py := py) hl_ (by omega)).2, rDn_one]; try rfl; done))) (by omega)⟩
   · refine rk_cf (T rfl (congrArg Value.bool (decide_eq_false hb48))) ?_
     refine rk_skip ?_
     refine rk_seq ?_
     refine rk_reg ?_
     refine lw_v (.int .i64 (bx - ax)) (dv_move (T rfl rfl)) ?_
     refine lw_v (.int .i64 (py - ay)) (dv_move (T rfl rfl)) ?_
     have hm74 := mul_bd (A := 2000000) (B := 2000000) (show -2000000 ≤ (bx - ax) by omega) (by omega) (show -2000000 ≤ (py - ay) by omega) (by omega)
     refine lw_v (.int .i64 ((bx - ax) * (py - ay))) (dv_mul (a := bx - ax) (b := py - ay) (z := (bx - ax) * (py - ay)) (T rfl rfl) (T rfl rfl) (wr_i64 (by omega) (by omega))) ?_
     refine lw_v (.int .i64 (b_y - ay)) (dv_move (T rfl rfl)) ?_
     refine lw_v (.int .i64 (px - ax)) (dv_move (T rfl rfl)) ?_
     have hm75 := mul_bd (A := 2000000) (B := 2000000) (show -2000000 ≤ (b_y - ay) by omega) (by omega) (show -2000000 ≤ (px - ax) by omega) (by omega)
     refine lw_v (.int .i64 ((b_y - ay) * (px - ax))) (dv_mul (a := b_y - ay) (b := px - ax) (z := (b_y - ay) * (px - ax)) (T rfl rfl) (T rfl rfl) (wr_i64 (by omega) (by omega))) ?_
     refine lw_v (.int .i64 (((bx - ax) * (py - ay)) - ((b_y - ay) * (px - ax)))) (dv_sub (a := (bx - ax) * (py - ay)) (b := (b_y - ay) * (px - ax)) (z := ((bx - ax) * (py - ay)) - ((b_y - ay) * (px - ax))) (T rfl rfl) (T rfl rfl) (wr_i64 (by omega) (by omega))) ?_
     refine lw_e (oe_callf (vs := [.int .i64 (((bx - ax) * (py - ay)) - ((b_y - ay) * (px - ax)))]) co100 (ar1 (T rfl rfl)) (l1Int_ok  (by omega)) ?_)
     rintro _ w81 ⟨nr76, A77, n78, c79, rfl, e82, h80⟩
     have E83 := below_ext E15 E15.size e82
     have lh80 := Num.len (by decide) h80
     refine lw_e (oe_alloc ze100 ?_)
     intro b84 w85 n86
     have N87 : w.heap.size ≤ b84 := n86.eq ▸ E83.size
     have H88 := (e82.blk n13.blk)
     have : b11 < b84 := n86.eq ▸ lt_of_blk H88
     have E89 := below_ext E83 E83.size n86.ext
     refine lw_e (oe_store (v := .agg #[.bool nr76, .slice A77 n78 c79]) (vs := [.bool nr76, .slice A77 n78 c79]) (l := [.bool nr76, .slice A77 n78 c79]) (T rfl rfl) (T rfl rfl) sz100 rfl rfl rfl n86.blk rfl ?_)
     intro w90 s91 H92
     have E93 := below_st E89 N87 s91
     refine lw_nil ?_
     refine rk_seq ?_
     refine rk_reg ?_
     refine lw_v (.agg #[.bool nr76, .slice A77 n78 c79]) (dv_loads (l := [.bool nr76, .slice A77 n78 c79]) agt100 sz100 (T rfl rfl) H92 rfl) ?_
     refine lw_v (.agg #[.bool nr76, .slice A77 n78 c79]) (dv_loads (l := [.bool nr76, .slice A77 n78 c79]) agt100 sz100 (T rfl rfl) H92 rfl) ?_
     have h94 := ((h80.ext n86.ext).st s91 n86.blk (by decide))
     refine lw_e (oe_callf (vs := [.agg #[.bool nr76, .slice A77 n78 c79], .agg #[.bool nr76, .slice A77 n78 c79]]) co99 (ar2 (T rfl rfl) (T rfl rfl)) (l1Mul_ok h94 h94 (by first | decide | omega) (by first | decide | omega)) ?_)
     rintro _ w100 ⟨nr95, A96, n97, c98, rfl, e101, h99⟩
     have E102 := below_ext E93 E93.size e101
     have lh99 := Num.len (by decide) h99
     refine lw_v (.int .i64 (((bx - ax) * (bx - ax)) + ((b_y - ay) * (b_y - ay)))) (dv_move (T rfl rfl)) ?_
     refine lw_e (oe_callf (vs := [.int .i64 (((bx - ax) * (bx - ax)) + ((b_y - ay) * (b_y - ay)))]) co100 (ar1 (T rfl rfl)) (l1Int_ok  (by omega)) ?_)
     rintro _ w108 ⟨nr103, A104, n105, c106, rfl, e109, h107⟩
     have E110 := below_ext E102 E102.size e109
     have lh107 := Num.len (by decide) h107
     have h111 := (h99.ext e109)
     refine lw_e (oe_callf (vs := [.agg #[.bool nr95, .slice A96 n97 c98], .agg #[.bool nr103, .slice A104 n105 c106]]) co106 (ar2 (T rfl rfl) (T rfl rfl)) (l2Make_ok h111 h107 (by first | decide | omega) (by first | decide | omega) (by exact Int.ne_of_gt (lenI_pos hl_))) ?_)
     rintro _ w122 ⟨nr112, A113, n114, c115, nr116, A117, n118, c119, rfl, e123, h120, h121⟩
     have E124 := below_ext E110 E110.size e123
     have lh120 := Num.len (by decide) h120
     have lh121 := Num.len (by decide) h121
     have H125 := (e123.blk (e109.blk (e101.blk (s91.blk (n86.ext.blk H88) (by omega)))))
     refine lw_e (oe_store (v := .agg #[.bool nr112, .slice A113 n114 c115, .bool nr116, .slice A117 n118 c119]) (vs := [.bool nr112, .slice A113 n114 c115, .bool nr116, .slice A117 n118 c119]) (l := [.bool nr112, .slice A113 n114 c115, .bool nr116, .slice A117 n118 c119]) (T rfl rfl) (T rfl rfl) sz136 rfl rfl rfl H125 rfl ?_)
     intro w126 s127 H128
     have E129 := below_st E124 N14 s127
     refine lw_nil ?_
     refine rk_ret Try.func110 (v := .agg #[.bool nr112, .slice A113 n114 c115, .bool nr116, .slice A117 n118 c119]) (res1 Try.results110 (rv_cells (l := [.bool nr112, .slice A113 n114 c115, .bool nr116, .slice A117 n118 c119]) agt136 sz136 rfl rfl H128 rfl)) ⟨_, rfl, ?_⟩
     have h130 := (h120.st s127 H125 (by decide))
     have hdt : dotI ax ay bx b_y px py = (px - ax) * (bx - ax) + (py - ay) * (b_y - ay) := rfl
     have hln : lenI ax ay bx b_y = (bx - ax) * (bx - ax) + (b_y - ay) * (b_y - ay) := rfl
     have h131 := (h121.st s127 H125 (by decide))
     exact ⟨_, _, _, _, _, _, _, _, rfl, E129, h130.to ((by first | (exfalso; omega) | (rw [(n_mid (px := px) (py := py) (by omega) (by omega)).1, (n_mid (px := px) (py := py) (by omega) (by omega)).2]; try rfl; done) | (rw [(n_high (px := px) (py := py) (by omega)).1, (n_high (px := px) (py := py) (by omega)).2, rUp_one]; try rfl; done) | (rw [(n_low (px := px) (py := py) hl_ (by omega)).1, (n_low (px := px) (py := py) hl_ (by omega)).2, rUp_one]; try rfl; done))) (Nat.le_refl _), h131.to ((by first | (exfalso; omega) | (rw [(n_mid (px := px) (py := py) (by omega) (by omega)).1, (n_mid (px := px) (py := py) (by omega) (by omega)).2]; try rfl; done) | (rw [(n_high (px := px) (py := py) (by omega)).1, (n_high (px := px) (py := py) (by omega)).2, rDn_one]; try rfl; done) | (rw [(n_low (px := px) (py := py) hl_ (by omega)).1, (n_low (px := px) (py := py) hl_ (by omega)).2, rDn_one]; try rfl; done))) (by omega)⟩
set_option maxHeartbeats 1000000 in
theorem iNear2_ok {w : World} {ax ay bx b_y px py : Int}   : Ct Try.prog 46 [.agg #[.int .i64 ax, .int .i64 ay, .int .i64 bx, .int .i64 b_y], .agg #[.int .i64 px, .int .i64 py]] w fun v w1 => v = .tuple #[.agg #[.int .u64 (wv3 (pkz (segOk ax ay bx b_y ∧ spotOk px py ∧ rFit (nU ax ay bx b_y px py) (nD ax ay bx b_y px py)) (rUp (nU ax ay bx b_y px py) (nD ax ay bx b_y px py)))), .int .u64 (wv2 (pkz (segOk ax ay bx b_y ∧ spotOk px py ∧ rFit (nU ax ay bx b_y px py) (nD ax ay bx b_y px py)) (rUp (nU ax ay bx b_y px py) (nD ax ay bx b_y px py)))), .int .u64 (wv1 (pkz (segOk ax ay bx b_y ∧ spotOk px py ∧ rFit (nU ax ay bx b_y px py) (nD ax ay bx b_y px py)) (rUp (nU ax ay bx b_y px py) (nD ax ay bx b_y px py)))), .int .u64 (wv0 (pkz (segOk ax ay bx b_y ∧ spotOk px py ∧ rFit (nU ax ay bx b_y px py) (nD ax ay bx b_y px py)) (rUp (nU ax ay bx b_y px py) (nD ax ay bx b_y px py)))), .int .u64 (wv3 (pkz (segOk ax ay bx b_y ∧ spotOk px py ∧ rFit (nU ax ay bx b_y px py) (nD ax ay bx b_y px py)) (rDn (nU ax ay bx b_y px py) (nD ax ay bx b_y px py)))), .int .u64 (wv2 (pkz (segOk ax ay bx b_y ∧ spotOk px py ∧ rFit (nU ax ay bx b_y px py) (nD ax ay bx b_y px py)) (rDn (nU ax ay bx b_y px py) (nD ax ay bx b_y px py)))), .int .u64 (wv1 (pkz (segOk ax ay bx b_y ∧ spotOk px py ∧ rFit (nU ax ay bx b_y px py) (nD ax ay bx b_y px py)) (rDn (nU ax ay bx b_y px py) (nD ax ay bx b_y px py)))), .int .u64 (wv0 (pkz (segOk ax ay bx b_y ∧ spotOk px py ∧ rFit (nU ax ay bx b_y px py) (nD ax ay bx b_y px py)) (rDn (nU ax ay bx b_y px py) (nD ax ay bx b_y px py))))], .bool (decide (segOk ax ay bx b_y ∧ spotOk px py ∧ rFit (nU ax ay bx b_y px py) (nD ax ay bx b_y px py)))] ∧ Ext w w1 := by
 refine ct_run (n := 21) Try.func46 rfl Try.ntmps46 rfl ?_
 have E0 : Below w.heap.size w w := Below.refl _ _
 refine rk_seq ?_
 refine rk_reg ?_
 refine lw_e (oe_box (v := .agg #[.int .i64 ax, .int .i64 ay, .int .i64 bx, .int .i64 b_y]) (cs := #[.int .i64 ax, .int .i64 ay, .int .i64 bx, .int .i64 b_y]) (T rfl rfl) rfl ?_)
 intro b1 w2 n3
 have N4 : w.heap.size ≤ b1 := n3.eq ▸ E0.size
 have E5 := below_ext E0 E0.size n3.ext
 refine lw_e (oe_box (v := .agg #[.int .i64 px, .int .i64 py]) (cs := #[.int .i64 px, .int .i64 py]) (T rfl rfl) rfl ?_)
 intro b6 w7 n8
 have N9 : w.heap.size ≤ b6 := n8.eq ▸ E5.size
 have : b1 < b6 := n8.eq ▸ lt_of_blk n3.blk
 have E10 := below_ext E5 E5.size n8.ext
 refine lw_e (oe_alloc ze68 ?_)
 intro b11 w12 n13
 have N14 : w.heap.size ≤ b11 := n13.eq ▸ E10.size
 have : b6 < b11 := n13.eq ▸ lt_of_blk n8.blk
 have E15 := below_ext E10 E10.size n13.ext
 refine lw_v (.bool false) (dv_assign C) ?_
 refine lw_nil ?_
 refine rk_seq ?_
 refine rk_seq ?_
 refine rk_reg ?_
 have H16 := (n13.ext.blk (n8.ext.blk n3.blk))
 refine lw_v (.agg #[.int .i64 ax, .int .i64 ay, .int .i64 bx, .int .i64 b_y]) (dv_loads (l := [.int .i64 ax, .int .i64 ay, .int .i64 bx, .int .i64 b_y]) agt47 sz47 (T rfl rfl) H16 rfl) ?_
 refine lw_e (oe_callf (vs := [.agg #[.int .i64 ax, .int .i64 ay, .int .i64 bx, .int .i64 b_y]]) co30 (ar1 (T rfl rfl)) (iSegOk_ok (ax := ax) (ay := ay) (bx := bx) (b_y := b_y)  ) ?_)
 rintro _ w17 ⟨rfl, e18⟩
 have E19 := below_ext E15 E15.size e18
 refine lw_v (.bool (decide (¬ (segOk ax ay bx b_y)))) (dv_notd (p := segOk ax ay bx b_y) (T rfl rfl)) ?_
 refine lw_v (.bool (decide (¬ (segOk ax ay bx b_y)))) (dv_move (T rfl rfl)) ?_
 by_cases hb20 : segOk ax ay bx b_y
 · have := segOk_rg hb20
   have := hb20.2.2
   have H21 := (e18.blk (n13.ext.blk n8.blk))
   refine lw_vy (.agg #[.int .i64 px, .int .i64 py]) (d := 9) rfl rfl (congrArg Value.bool (decide_eq_false (not_not_intro hb20))) (dv_loads (l := [.int .i64 px, .int .i64 py]) agt45 sz45 (T rfl rfl) H21 rfl) ?_
   refine lw_ey (d := 9) rfl rfl (congrArg Value.bool (decide_eq_false (not_not_intro hb20))) (oe_callf (vs := [.agg #[.int .i64 px, .int .i64 py]]) co31 (ar1 (T rfl rfl)) (iSpotOk_ok (x := px) (y := py)  ) ?_)
   rintro _ w22 ⟨rfl, e23⟩
   have E24 := below_ext E19 E19.size e23
   refine lw_vy (.bool (decide (¬ (spotOk px py)))) (d := 9) rfl rfl (congrArg Value.bool (decide_eq_false (not_not_intro hb20))) (dv_notd (p := spotOk px py) (T rfl rfl)) ?_
   refine lw_v (.bool (decide (¬ (spotOk px py)))) (dv_pick_f (T rfl (congrArg Value.bool (decide_eq_false (not_not_intro hb20)))) (T rfl rfl)) ?_
   refine lw_nil ?_
   by_cases hb25 : spotOk px py
   · have := spotOk_rg hb25
     refine rk_cf (T rfl (congrArg Value.bool (decide_eq_false (not_not_intro hb25)))) ?_
     refine rk_skip ?_
     refine rk_seq ?_
     refine rk_reg ?_
     have H26 := (e23.blk (e18.blk H16))
     refine lw_v (.agg #[.int .i64 ax, .int .i64 ay, .int .i64 bx, .int .i64 b_y]) (dv_loads (l := [.int .i64 ax, .int .i64 ay, .int .i64 bx, .int .i64 b_y]) agt47 sz47 (T rfl rfl) H26 rfl) ?_
     have H27 := (e23.blk H21)
     refine lw_v (.agg #[.int .i64 px, .int .i64 py]) (dv_loads (l := [.int .i64 px, .int .i64 py]) agt45 sz45 (T rfl rfl) H27 rfl) ?_
     refine lw_e (oe_callf (vs := [.agg #[.int .i64 ax, .int .i64 ay, .int .i64 bx, .int .i64 b_y], .agg #[.int .i64 px, .int .i64 py]]) co111 (ar2 (T rfl rfl) (T rfl rfl)) (near2_ok   (by omega) (by omega) (by assumption)) ?_)
     rintro _ w38 ⟨nr28, A29, n30, c31, nr32, A33, n34, c35, rfl, e39, h36, h37⟩
     have E40 := below_ext E24 E24.size e39
     have lh36 := Num.len (by decide) h36
     have lh37 := Num.len (by decide) h37
     refine lw_e (oe_callf (vs := [.agg #[.bool nr28, .slice A29 n30 c31, .bool nr32, .slice A33 n34 c35]]) co108 (ar1 (T rfl rfl)) (told_ok h36 h37 (by first | decide | omega) (by first | decide | omega) ) ?_)
     rintro _ w41 ⟨rfl, e42⟩
     have E43 := below_ext E40 E40.size e42
     refine lw_v (.agg #[.int .u64 (wv3 (pkz (rFit (nU ax ay bx b_y px py) (nD ax ay bx b_y px py)) (rUp (nU ax ay bx b_y px py) (nD ax ay bx b_y px py)))), .int .u64 (wv2 (pkz (rFit (nU ax ay bx b_y px py) (nD ax ay bx b_y px py)) (rUp (nU ax ay bx b_y px py) (nD ax ay bx b_y px py)))), .int .u64 (wv1 (pkz (rFit (nU ax ay bx b_y px py) (nD ax ay bx b_y px py)) (rUp (nU ax ay bx b_y px py) (nD ax ay bx b_y px py)))), .int .u64 (wv0 (pkz (rFit (nU ax ay bx b_y px py) (nD ax ay bx b_y px py)) (rUp (nU ax ay bx b_y px py) (nD ax ay bx b_y px py)))), .int .u64 (wv3 (pkz (rFit (nU ax ay bx b_y px py) (nD ax ay bx b_y px py)) (rDn (nU ax ay bx b_y px py) (nD ax ay bx b_y px py)))), .int .u64 (wv2 (pkz (rFit (nU ax ay bx b_y px py) (nD ax ay bx b_y px py)) (rDn (nU ax ay bx b_y px py) (nD ax ay bx b_y px py)))), .int .u64 (wv1 (pkz (rFit (nU ax ay bx b_y px py) (nD ax ay bx b_y px py)) (rDn (nU ax ay bx b_y px py) (nD ax ay bx b_y px py)))), .int .u64 (wv0 (pkz (rFit (nU ax ay bx b_y px py) (nD ax ay bx b_y px py)) (rDn (nU ax ay bx b_y px py) (nD ax ay bx b_y px py))))]) (dv_extract (vs := #[.agg #[.int .u64 (wv3 (pkz (rFit (nU ax ay bx b_y px py) (nD ax ay bx b_y px py)) (rUp (nU ax ay bx b_y px py) (nD ax ay bx b_y px py)))), .int .u64 (wv2 (pkz (rFit (nU ax ay bx b_y px py) (nD ax ay bx b_y px py)) (rUp (nU ax ay bx b_y px py) (nD ax ay bx b_y px py)))), .int .u64 (wv1 (pkz (rFit (nU ax ay bx b_y px py) (nD ax ay bx b_y px py)) (rUp (nU ax ay bx b_y px py) (nD ax ay bx b_y px py)))), .int .u64 (wv0 (pkz (rFit (nU ax ay bx b_y px py) (nD ax ay bx b_y px py)) (rUp (nU ax ay bx b_y px py) (nD ax ay bx b_y px py)))), .int .u64 (wv3 (pkz (rFit (nU ax ay bx b_y px py) (nD ax ay bx b_y px py)) (rDn (nU ax ay bx b_y px py) (nD ax ay bx b_y px py)))), .int .u64 (wv2 (pkz (rFit (nU ax ay bx b_y px py) (nD ax ay bx b_y px py)) (rDn (nU ax ay bx b_y px py) (nD ax ay bx b_y px py)))), .int .u64 (wv1 (pkz (rFit (nU ax ay bx b_y px py) (nD ax ay bx b_y px py)) (rDn (nU ax ay bx b_y px py) (nD ax ay bx b_y px py)))), .int .u64 (wv0 (pkz (rFit (nU ax ay bx b_y px py) (nD ax ay bx b_y px py)) (rDn (nU ax ay bx b_y px py) (nD ax ay bx b_y px py))))], .bool (decide (rFit (nU ax ay bx b_y px py) (nD ax ay bx b_y px py)))]) (T rfl rfl) rfl) ?_
     refine lw_v (.bool (decide (rFit (nU ax ay bx b_y px py) (nD ax ay bx b_y px py)))) (dv_extract (vs := #[.agg #[.int .u64 (wv3 (pkz (rFit (nU ax ay bx b_y px py) (nD ax ay bx b_y px py)) (rUp (nU ax ay bx b_y px py) (nD ax ay bx b_y px py)))), .int .u64 (wv2 (pkz (rFit (nU ax ay bx b_y px py) (nD ax ay bx b_y px py)) (rUp (nU ax ay bx b_y px py) (nD ax ay bx b_y px py)))), .int .u64 (wv1 (pkz (rFit (nU ax ay bx b_y px py) (nD ax ay bx b_y px py)) (rUp (nU ax ay bx b_y px py) (nD ax ay bx b_y px py)))), .int .u64 (wv0 (pkz (rFit (nU ax ay bx b_y px py) (nD ax ay bx b_y px py)) (rUp (nU ax ay bx b_y px py) (nD ax ay bx b_y px py)))), .int .u64 (wv3 (pkz (rFit (nU ax ay bx b_y px py) (nD ax ay bx b_y px py)) (rDn (nU ax ay bx b_y px py) (nD ax ay bx b_y px py)))), .int .u64 (wv2 (pkz (rFit (nU ax ay bx b_y px py) (nD ax ay bx b_y px py)) (rDn (nU ax ay bx b_y px py) (nD ax ay bx b_y px py)))), .int .u64 (wv1 (pkz (rFit (nU ax ay bx b_y px py) (nD ax ay bx b_y px py)) (rDn (nU ax ay bx b_y px py) (nD ax ay bx b_y px py)))), .int .u64 (wv0 (pkz (rFit (nU ax ay bx b_y px py) (nD ax ay bx b_y px py)) (rDn (nU ax ay bx b_y px py) (nD ax ay bx b_y px py))))], .bool (decide (rFit (nU ax ay bx b_y px py) (nD ax ay bx b_y px py)))]) (T rfl rfl) rfl) ?_
     have H44 := (e42.blk (e39.blk (e23.blk (e18.blk n13.blk))))
     refine lw_e (oe_store (v := .agg #[.int .u64 (wv3 (pkz (rFit (nU ax ay bx b_y px py) (nD ax ay bx b_y px py)) (rUp (nU ax ay bx b_y px py) (nD ax ay bx b_y px py)))), .int .u64 (wv2 (pkz (rFit (nU ax ay bx b_y px py) (nD ax ay bx b_y px py)) (rUp (nU ax ay bx b_y px py) (nD ax ay bx b_y px py)))), .int .u64 (wv1 (pkz (rFit (nU ax ay bx b_y px py) (nD ax ay bx b_y px py)) (rUp (nU ax ay bx b_y px py) (nD ax ay bx b_y px py)))), .int .u64 (wv0 (pkz (rFit (nU ax ay bx b_y px py) (nD ax ay bx b_y px py)) (rUp (nU ax ay bx b_y px py) (nD ax ay bx b_y px py)))), .int .u64 (wv3 (pkz (rFit (nU ax ay bx b_y px py) (nD ax ay bx b_y px py)) (rDn (nU ax ay bx b_y px py) (nD ax ay bx b_y px py)))), .int .u64 (wv2 (pkz (rFit (nU ax ay bx b_y px py) (nD ax ay bx b_y px py)) (rDn (nU ax ay bx b_y px py) (nD ax ay bx b_y px py)))), .int .u64 (wv1 (pkz (rFit (nU ax ay bx b_y px py) (nD ax ay bx b_y px py)) (rDn (nU ax ay bx b_y px py) (nD ax ay bx b_y px py)))), .int .u64 (wv0 (pkz (rFit (nU ax ay bx b_y px py) (nD ax ay bx b_y px py)) (rDn (nU ax ay bx b_y px py) (nD ax ay bx b_y px py))))]) (vs := [.int .u64 (wv3 (pkz (rFit (nU ax ay bx b_y px py) (nD ax ay bx b_y px py)) (rUp (nU ax ay bx b_y px py) (nD ax ay bx b_y px py)))), .int .u64 (wv2 (pkz (rFit (nU ax ay bx b_y px py) (nD ax ay bx b_y px py)) (rUp (nU ax ay bx b_y px py) (nD ax ay bx b_y px py)))), .int .u64 (wv1 (pkz (rFit (nU ax ay bx b_y px py) (nD ax ay bx b_y px py)) (rUp (nU ax ay bx b_y px py) (nD ax ay bx b_y px py)))), .int .u64 (wv0 (pkz (rFit (nU ax ay bx b_y px py) (nD ax ay bx b_y px py)) (rUp (nU ax ay bx b_y px py) (nD ax ay bx b_y px py)))), .int .u64 (wv3 (pkz (rFit (nU ax ay bx b_y px py) (nD ax ay bx b_y px py)) (rDn (nU ax ay bx b_y px py) (nD ax ay bx b_y px py)))), .int .u64 (wv2 (pkz (rFit (nU ax ay bx b_y px py) (nD ax ay bx b_y px py)) (rDn (nU ax ay bx b_y px py) (nD ax ay bx b_y px py)))), .int .u64 (wv1 (pkz (rFit (nU ax ay bx b_y px py) (nD ax ay bx b_y px py)) (rDn (nU ax ay bx b_y px py) (nD ax ay bx b_y px py)))), .int .u64 (wv0 (pkz (rFit (nU ax ay bx b_y px py) (nD ax ay bx b_y px py)) (rDn (nU ax ay bx b_y px py) (nD ax ay bx b_y px py))))]) (l := [.int .u64 (wv3 (pkz (rFit (nU ax ay bx b_y px py) (nD ax ay bx b_y px py)) (rUp (nU ax ay bx b_y px py) (nD ax ay bx b_y px py)))), .int .u64 (wv2 (pkz (rFit (nU ax ay bx b_y px py) (nD ax ay bx b_y px py)) (rUp (nU ax ay bx b_y px py) (nD ax ay bx b_y px py)))), .int .u64 (wv1 (pkz (rFit (nU ax ay bx b_y px py) (nD ax ay bx b_y px py)) (rUp (nU ax ay bx b_y px py) (nD ax ay bx b_y px py)))), .int .u64 (wv0 (pkz (rFit (nU ax ay bx b_y px py) (nD ax ay bx b_y px py)) (rUp (nU ax ay bx b_y px py) (nD ax ay bx b_y px py)))), .int .u64 (wv3 (pkz (rFit (nU ax ay bx b_y px py) (nD ax ay bx b_y px py)) (rDn (nU ax ay bx b_y px py) (nD ax ay bx b_y px py)))), .int .u64 (wv2 (pkz (rFit (nU ax ay bx b_y px py) (nD ax ay bx b_y px py)) (rDn (nU ax ay bx b_y px py) (nD ax ay bx b_y px py)))), .int .u64 (wv1 (pkz (rFit (nU ax ay bx b_y px py) (nD ax ay bx b_y px py)) (rDn (nU ax ay bx b_y px py) (nD ax ay bx b_y px py)))), .int .u64 (wv0 (pkz (rFit (nU ax ay bx b_y px py) (nD ax ay bx b_y px py)) (rDn (nU ax ay bx b_y px py) (nD ax ay bx b_y px py))))]) (T rfl rfl) (T rfl rfl) sz68 rfl rfl rfl H44 rfl ?_)
     intro w45 s46 H47
     have E48 := below_st E43 N14 s46
     refine lw_v (.bool (decide (rFit (nU ax ay bx b_y px py) (nD ax ay bx b_y px py)))) (dv_assign (T rfl rfl)) ?_
     refine lw_nil ?_
     refine rk_ret Try.func46 (v := .tuple #[.agg #[.int .u64 (wv3 (pkz (rFit (nU ax ay bx b_y px py) (nD ax ay bx b_y px py)) (rUp (nU ax ay bx b_y px py) (nD ax ay bx b_y px py)))), .int .u64 (wv2 (pkz (rFit (nU ax ay bx b_y px py) (nD ax ay bx b_y px py)) (rUp (nU ax ay bx b_y px py) (nD ax ay bx b_y px py)))), .int .u64 (wv1 (pkz (rFit (nU ax ay bx b_y px py) (nD ax ay bx b_y px py)) (rUp (nU ax ay bx b_y px py) (nD ax ay bx b_y px py)))), .int .u64 (wv0 (pkz (rFit (nU ax ay bx b_y px py) (nD ax ay bx b_y px py)) (rUp (nU ax ay bx b_y px py) (nD ax ay bx b_y px py)))), .int .u64 (wv3 (pkz (rFit (nU ax ay bx b_y px py) (nD ax ay bx b_y px py)) (rDn (nU ax ay bx b_y px py) (nD ax ay bx b_y px py)))), .int .u64 (wv2 (pkz (rFit (nU ax ay bx b_y px py) (nD ax ay bx b_y px py)) (rDn (nU ax ay bx b_y px py) (nD ax ay bx b_y px py)))), .int .u64 (wv1 (pkz (rFit (nU ax ay bx b_y px py) (nD ax ay bx b_y px py)) (rDn (nU ax ay bx b_y px py) (nD ax ay bx b_y px py)))), .int .u64 (wv0 (pkz (rFit (nU ax ay bx b_y px py) (nD ax ay bx b_y px py)) (rDn (nU ax ay bx b_y px py) (nD ax ay bx b_y px py))))], .bool (decide (rFit (nU ax ay bx b_y px py) (nD ax ay bx b_y px py)))]) (res2 Try.results46 (rv_cells (l := [.int .u64 (wv3 (pkz (rFit (nU ax ay bx b_y px py) (nD ax ay bx b_y px py)) (rUp (nU ax ay bx b_y px py) (nD ax ay bx b_y px py)))), .int .u64 (wv2 (pkz (rFit (nU ax ay bx b_y px py) (nD ax ay bx b_y px py)) (rUp (nU ax ay bx b_y px py) (nD ax ay bx b_y px py)))), .int .u64 (wv1 (pkz (rFit (nU ax ay bx b_y px py) (nD ax ay bx b_y px py)) (rUp (nU ax ay bx b_y px py) (nD ax ay bx b_y px py)))), .int .u64 (wv0 (pkz (rFit (nU ax ay bx b_y px py) (nD ax ay bx b_y px py)) (rUp (nU ax ay bx b_y px py) (nD ax ay bx b_y px py)))), .int .u64 (wv3 (pkz (rFit (nU ax ay bx b_y px py) (nD ax ay bx b_y px py)) (rDn (nU ax ay bx b_y px py) (nD ax ay bx b_y px py)))), .int .u64 (wv2 (pkz (rFit (nU ax ay bx b_y px py) (nD ax ay bx b_y px py)) (rDn (nU ax ay bx b_y px py) (nD ax ay bx b_y px py)))), .int .u64 (wv1 (pkz (rFit (nU ax ay bx b_y px py) (nD ax ay bx b_y px py)) (rDn (nU ax ay bx b_y px py) (nD ax ay bx b_y px py)))), .int .u64 (wv0 (pkz (rFit (nU ax ay bx b_y px py) (nD ax ay bx b_y px py)) (rDn (nU ax ay bx b_y px py) (nD ax ay bx b_y px py))))]) agt68 sz68 rfl rfl H47 rfl) (rv_tmp rfl rfl)) ⟨_, rfl, ?_⟩
     have hi : (rFit (nU ax ay bx b_y px py) (nD ax ay bx b_y px py)) ↔ (segOk ax ay bx b_y ∧ spotOk px py ∧ rFit (nU ax ay bx b_y px py) (nD ax ay bx b_y px py)) := by have h1 : segOk ax ay bx b_y := (by first | assumption | simpa using ‹_›); have h2 : spotOk px py := (by first | assumption | simpa using ‹_›); first | exact ⟨fun hh => ⟨h1, h2, hh⟩, fun hh => hh.2.2⟩ | exact ⟨fun hh => ⟨h1, h2, (Int.ne_of_gt (nD_pos h1.2.2)), hh⟩, fun hh => hh.2.2.2⟩
     exact ⟨(tu2 (ag8 (vi (by rw [pkz_iff hi])) (vi (by rw [pkz_iff hi])) (vi (by rw [pkz_iff hi])) (vi (by rw [pkz_iff hi])) (vi (by rw [pkz_iff hi])) (vi (by rw [pkz_iff hi])) (vi (by rw [pkz_iff hi])) (vi (by rw [pkz_iff hi]))) (vb hi)), E48⟩
   · refine rk_ct (T rfl (congrArg Value.bool (decide_eq_true hb25))) ?_
     refine rk_seq ?_
     refine rk_reg ?_
     refine lw_v (.agg #[.int .u64 0, .int .u64 0, .int .u64 0, .int .u64 0, .int .u64 0, .int .u64 0, .int .u64 0, .int .u64 0]) (dv_build (pv := []) (l := [.int .u64 0, .int .u64 0, .int .u64 0, .int .u64 0, .int .u64 0, .int .u64 0, .int .u64 0, .int .u64 0]) zc68 pl68 trivial rfl) ?_
     have H49 := (e23.blk (e18.blk n13.blk))
     refine lw_e (oe_store (v := .agg #[.int .u64 0, .int .u64 0, .int .u64 0, .int .u64 0, .int .u64 0, .int .u64 0, .int .u64 0, .int .u64 0]) (vs := [.int .u64 0, .int .u64 0, .int .u64 0, .int .u64 0, .int .u64 0, .int .u64 0, .int .u64 0, .int .u64 0]) (l := [.int .u64 0, .int .u64 0, .int .u64 0, .int .u64 0, .int .u64 0, .int .u64 0, .int .u64 0, .int .u64 0]) (T rfl rfl) (T rfl rfl) sz68 rfl rfl rfl H49 rfl ?_)
     intro w50 s51 H52
     have E53 := below_st E24 N14 s51
     refine lw_v (.bool false) (dv_assign C) ?_
     refine lw_nil ?_
     refine rk_ret Try.func46 (v := .tuple #[.agg #[.int .u64 0, .int .u64 0, .int .u64 0, .int .u64 0, .int .u64 0, .int .u64 0, .int .u64 0, .int .u64 0], .bool false]) (res2 Try.results46 (rv_cells (l := [.int .u64 0, .int .u64 0, .int .u64 0, .int .u64 0, .int .u64 0, .int .u64 0, .int .u64 0, .int .u64 0]) agt68 sz68 rfl rfl H52 rfl) (rv_tmp rfl rfl)) ⟨_, rfl, ?_⟩
     have hS : ¬ (segOk ax ay bx b_y ∧ spotOk px py ∧ rFit (nU ax ay bx b_y px py) (nD ax ay bx b_y px py)) := by first | (intro hh; exact absurd hh.1 (by assumption)) | (intro hh; exact absurd hh.2.1 (by assumption)) | (intro hh; exact absurd (⟨hh.1, hh.2.1⟩ : _ ∧ _) (by assumption))
     exact ⟨(tu2 (ag8 (vi (wf3 hS)) (vi (wf2 hS)) (vi (wf1 hS)) (vi (wf0 hS)) (vi (wf3 hS)) (vi (wf2 hS)) (vi (wf1 hS)) (vi (wf0 hS))) (vf hS)), E53⟩
 · refine lw_no (d := 9) rfl rfl (congrArg Value.bool (decide_eq_true hb20)) ?_
   refine lw_no (d := 9) rfl rfl (congrArg Value.bool (decide_eq_true hb20)) ?_
   refine lw_no (d := 9) rfl rfl (congrArg Value.bool (decide_eq_true hb20)) ?_
   refine lw_v (.bool true) (dv_pick_t (T rfl (congrArg Value.bool (decide_eq_true hb20))) C) ?_
   refine lw_nil ?_
   refine rk_ct (T rfl rfl) ?_
   refine rk_seq ?_
   refine rk_reg ?_
   refine lw_v (.agg #[.int .u64 0, .int .u64 0, .int .u64 0, .int .u64 0, .int .u64 0, .int .u64 0, .int .u64 0, .int .u64 0]) (dv_build (pv := []) (l := [.int .u64 0, .int .u64 0, .int .u64 0, .int .u64 0, .int .u64 0, .int .u64 0, .int .u64 0, .int .u64 0]) zc68 pl68 trivial rfl) ?_
   have H54 := (e18.blk n13.blk)
   refine lw_e (oe_store (v := .agg #[.int .u64 0, .int .u64 0, .int .u64 0, .int .u64 0, .int .u64 0, .int .u64 0, .int .u64 0, .int .u64 0]) (vs := [.int .u64 0, .int .u64 0, .int .u64 0, .int .u64 0, .int .u64 0, .int .u64 0, .int .u64 0, .int .u64 0]) (l := [.int .u64 0, .int .u64 0, .int .u64 0, .int .u64 0, .int .u64 0, .int .u64 0, .int .u64 0, .int .u64 0]) (T rfl rfl) (T rfl rfl) sz68 rfl rfl rfl H54 rfl ?_)
   intro w55 s56 H57
   have E58 := below_st E19 N14 s56
   refine lw_v (.bool false) (dv_assign C) ?_
   refine lw_nil ?_
   refine rk_ret Try.func46 (v := .tuple #[.agg #[.int .u64 0, .int .u64 0, .int .u64 0, .int .u64 0, .int .u64 0, .int .u64 0, .int .u64 0, .int .u64 0], .bool false]) (res2 Try.results46 (rv_cells (l := [.int .u64 0, .int .u64 0, .int .u64 0, .int .u64 0, .int .u64 0, .int .u64 0, .int .u64 0, .int .u64 0]) agt68 sz68 rfl rfl H57 rfl) (rv_tmp rfl rfl)) ⟨_, rfl, ?_⟩
   have hS : ¬ (segOk ax ay bx b_y ∧ spotOk px py ∧ rFit (nU ax ay bx b_y px py) (nD ax ay bx b_y px py)) := by first | (intro hh; exact absurd hh.1 (by assumption)) | (intro hh; exact absurd hh.2.1 (by assumption)) | (intro hh; exact absurd (⟨hh.1, hh.2.1⟩ : _ ∧ _) (by assumption))
   exact ⟨(tu2 (ag8 (vi (wf3 hS)) (vi (wf2 hS)) (vi (wf1 hS)) (vi (wf0 hS)) (vi (wf3 hS)) (vi (wf2 hS)) (vi (wf1 hS)) (vi (wf0 hS))) (vf hS)), E58⟩
set_option maxHeartbeats 1000000 in
theorem sNear2_ok {w : World} {ax ay bx b_y px py : Int}   : Ct Try.prog 44 [.agg #[.int .i64 ax, .int .i64 ay, .int .i64 bx, .int .i64 b_y], .agg #[.int .i64 px, .int .i64 py]] w fun v w1 => v = .tuple #[.agg #[.int .u64 (wv3 (pkz (segOk ax ay bx b_y ∧ spotOk px py ∧ rFit (nU ax ay bx b_y px py) (nD ax ay bx b_y px py)) (rUp (nU ax ay bx b_y px py) (nD ax ay bx b_y px py)))), .int .u64 (wv2 (pkz (segOk ax ay bx b_y ∧ spotOk px py ∧ rFit (nU ax ay bx b_y px py) (nD ax ay bx b_y px py)) (rUp (nU ax ay bx b_y px py) (nD ax ay bx b_y px py)))), .int .u64 (wv1 (pkz (segOk ax ay bx b_y ∧ spotOk px py ∧ rFit (nU ax ay bx b_y px py) (nD ax ay bx b_y px py)) (rUp (nU ax ay bx b_y px py) (nD ax ay bx b_y px py)))), .int .u64 (wv0 (pkz (segOk ax ay bx b_y ∧ spotOk px py ∧ rFit (nU ax ay bx b_y px py) (nD ax ay bx b_y px py)) (rUp (nU ax ay bx b_y px py) (nD ax ay bx b_y px py)))), .int .u64 (wv3 (pkz (segOk ax ay bx b_y ∧ spotOk px py ∧ rFit (nU ax ay bx b_y px py) (nD ax ay bx b_y px py)) (rDn (nU ax ay bx b_y px py) (nD ax ay bx b_y px py)))), .int .u64 (wv2 (pkz (segOk ax ay bx b_y ∧ spotOk px py ∧ rFit (nU ax ay bx b_y px py) (nD ax ay bx b_y px py)) (rDn (nU ax ay bx b_y px py) (nD ax ay bx b_y px py)))), .int .u64 (wv1 (pkz (segOk ax ay bx b_y ∧ spotOk px py ∧ rFit (nU ax ay bx b_y px py) (nD ax ay bx b_y px py)) (rDn (nU ax ay bx b_y px py) (nD ax ay bx b_y px py)))), .int .u64 (wv0 (pkz (segOk ax ay bx b_y ∧ spotOk px py ∧ rFit (nU ax ay bx b_y px py) (nD ax ay bx b_y px py)) (rDn (nU ax ay bx b_y px py) (nD ax ay bx b_y px py))))], .bool (decide (segOk ax ay bx b_y ∧ spotOk px py ∧ rFit (nU ax ay bx b_y px py) (nD ax ay bx b_y px py)))] ∧ Ext w w1 := by
 refine ct_run (n := 21) Try.func44 rfl Try.ntmps44 rfl ?_
 have E0 : Below w.heap.size w w := Below.refl _ _
 refine rk_seq ?_
 refine rk_reg ?_
 refine lw_e (oe_box (v := .agg #[.int .i64 ax, .int .i64 ay, .int .i64 bx, .int .i64 b_y]) (cs := #[.int .i64 ax, .int .i64 ay, .int .i64 bx, .int .i64 b_y]) (T rfl rfl) rfl ?_)
 intro b1 w2 n3
 have N4 : w.heap.size ≤ b1 := n3.eq ▸ E0.size
 have E5 := below_ext E0 E0.size n3.ext
 refine lw_e (oe_box (v := .agg #[.int .i64 px, .int .i64 py]) (cs := #[.int .i64 px, .int .i64 py]) (T rfl rfl) rfl ?_)
 intro b6 w7 n8
 have N9 : w.heap.size ≤ b6 := n8.eq ▸ E5.size
 have : b1 < b6 := n8.eq ▸ lt_of_blk n3.blk
 have E10 := below_ext E5 E5.size n8.ext
 refine lw_e (oe_alloc ze68 ?_)
 intro b11 w12 n13
 have N14 : w.heap.size ≤ b11 := n13.eq ▸ E10.size
 have : b6 < b11 := n13.eq ▸ lt_of_blk n8.blk
 have E15 := below_ext E10 E10.size n13.ext
 refine lw_v (.bool false) (dv_assign C) ?_
 refine lw_nil ?_
 refine rk_seq ?_
 refine rk_seq ?_
 refine rk_reg ?_
 have H16 := (n13.ext.blk (n8.ext.blk n3.blk))
 refine lw_v (.agg #[.int .i64 ax, .int .i64 ay, .int .i64 bx, .int .i64 b_y]) (dv_loads (l := [.int .i64 ax, .int .i64 ay, .int .i64 bx, .int .i64 b_y]) agt47 sz47 (T rfl rfl) H16 rfl) ?_
 refine lw_e (oe_callf (vs := [.agg #[.int .i64 ax, .int .i64 ay, .int .i64 bx, .int .i64 b_y]]) co65 (ar1 (T rfl rfl)) (sSegOk_ok (ax := ax) (ay := ay) (bx := bx) (b_y := b_y)  ) ?_)
 rintro _ w17 ⟨rfl, e18⟩
 have E19 := below_ext E15 E15.size e18
 refine lw_v (.bool (decide (¬ (segOk ax ay bx b_y)))) (dv_notd (p := segOk ax ay bx b_y) (T rfl rfl)) ?_
 refine lw_v (.bool (decide (¬ (segOk ax ay bx b_y)))) (dv_move (T rfl rfl)) ?_
 by_cases hb20 : segOk ax ay bx b_y
 · have := segOk_rg hb20
   have := hb20.2.2
   have H21 := (e18.blk (n13.ext.blk n8.blk))
   refine lw_vy (.agg #[.int .i64 px, .int .i64 py]) (d := 9) rfl rfl (congrArg Value.bool (decide_eq_false (not_not_intro hb20))) (dv_loads (l := [.int .i64 px, .int .i64 py]) agt45 sz45 (T rfl rfl) H21 rfl) ?_
   refine lw_ey (d := 9) rfl rfl (congrArg Value.bool (decide_eq_false (not_not_intro hb20))) (oe_callf (vs := [.agg #[.int .i64 px, .int .i64 py]]) co109 (ar1 (T rfl rfl)) (sSpotOk_ok (x := px) (y := py)  ) ?_)
   rintro _ w22 ⟨rfl, e23⟩
   have E24 := below_ext E19 E19.size e23
   refine lw_vy (.bool (decide (¬ (spotOk px py)))) (d := 9) rfl rfl (congrArg Value.bool (decide_eq_false (not_not_intro hb20))) (dv_notd (p := spotOk px py) (T rfl rfl)) ?_
   refine lw_v (.bool (decide (¬ (spotOk px py)))) (dv_pick_f (T rfl (congrArg Value.bool (decide_eq_false (not_not_intro hb20)))) (T rfl rfl)) ?_
   refine lw_nil ?_
   by_cases hb25 : spotOk px py
   · have := spotOk_rg hb25
     refine rk_cf (T rfl (congrArg Value.bool (decide_eq_false (not_not_intro hb25)))) ?_
     refine rk_skip ?_
     refine rk_seq ?_
     refine rk_reg ?_
     have H26 := (e23.blk (e18.blk H16))
     refine lw_v (.agg #[.int .i64 ax, .int .i64 ay, .int .i64 bx, .int .i64 b_y]) (dv_loads (l := [.int .i64 ax, .int .i64 ay, .int .i64 bx, .int .i64 b_y]) agt47 sz47 (T rfl rfl) H26 rfl) ?_
     have H27 := (e23.blk H21)
     refine lw_v (.agg #[.int .i64 px, .int .i64 py]) (dv_loads (l := [.int .i64 px, .int .i64 py]) agt45 sz45 (T rfl rfl) H27 rfl) ?_
     refine lw_e (oe_callf (vs := [.agg #[.int .i64 ax, .int .i64 ay, .int .i64 bx, .int .i64 b_y], .agg #[.int .i64 px, .int .i64 py]]) co110 (ar2 (T rfl rfl) (T rfl rfl)) (l4Near2_ok   (by omega) (by omega) (by assumption)) ?_)
     rintro _ w38 ⟨nr28, A29, n30, c31, nr32, A33, n34, c35, rfl, e39, h36, h37⟩
     have E40 := below_ext E24 E24.size e39
     have lh36 := Num.len (by decide) h36
     have lh37 := Num.len (by decide) h37
     refine lw_e (oe_callf (vs := [.agg #[.bool nr28, .slice A29 n30 c31, .bool nr32, .slice A33 n34 c35]]) co105 (ar1 (T rfl rfl)) (l2Ratio_ok h36 h37 (by first | decide | omega) (by first | decide | omega) ) ?_)
     rintro _ w41 ⟨rfl, e42⟩
     have E43 := below_ext E40 E40.size e42
     refine lw_v (.agg #[.int .u64 (wv3 (pkz (fits (rUp (nU ax ay bx b_y px py) (nD ax ay bx b_y px py)) ∧ fits (rDn (nU ax ay bx b_y px py) (nD ax ay bx b_y px py))) (rUp (nU ax ay bx b_y px py) (nD ax ay bx b_y px py)))), .int .u64 (wv2 (pkz (fits (rUp (nU ax ay bx b_y px py) (nD ax ay bx b_y px py)) ∧ fits (rDn (nU ax ay bx b_y px py) (nD ax ay bx b_y px py))) (rUp (nU ax ay bx b_y px py) (nD ax ay bx b_y px py)))), .int .u64 (wv1 (pkz (fits (rUp (nU ax ay bx b_y px py) (nD ax ay bx b_y px py)) ∧ fits (rDn (nU ax ay bx b_y px py) (nD ax ay bx b_y px py))) (rUp (nU ax ay bx b_y px py) (nD ax ay bx b_y px py)))), .int .u64 (wv0 (pkz (fits (rUp (nU ax ay bx b_y px py) (nD ax ay bx b_y px py)) ∧ fits (rDn (nU ax ay bx b_y px py) (nD ax ay bx b_y px py))) (rUp (nU ax ay bx b_y px py) (nD ax ay bx b_y px py)))), .int .u64 (wv3 (pkz (fits (rUp (nU ax ay bx b_y px py) (nD ax ay bx b_y px py)) ∧ fits (rDn (nU ax ay bx b_y px py) (nD ax ay bx b_y px py))) (rDn (nU ax ay bx b_y px py) (nD ax ay bx b_y px py)))), .int .u64 (wv2 (pkz (fits (rUp (nU ax ay bx b_y px py) (nD ax ay bx b_y px py)) ∧ fits (rDn (nU ax ay bx b_y px py) (nD ax ay bx b_y px py))) (rDn (nU ax ay bx b_y px py) (nD ax ay bx b_y px py)))), .int .u64 (wv1 (pkz (fits (rUp (nU ax ay bx b_y px py) (nD ax ay bx b_y px py)) ∧ fits (rDn (nU ax ay bx b_y px py) (nD ax ay bx b_y px py))) (rDn (nU ax ay bx b_y px py) (nD ax ay bx b_y px py)))), .int .u64 (wv0 (pkz (fits (rUp (nU ax ay bx b_y px py) (nD ax ay bx b_y px py)) ∧ fits (rDn (nU ax ay bx b_y px py) (nD ax ay bx b_y px py))) (rDn (nU ax ay bx b_y px py) (nD ax ay bx b_y px py))))]) (dv_extract (vs := #[.agg #[.int .u64 (wv3 (pkz (fits (rUp (nU ax ay bx b_y px py) (nD ax ay bx b_y px py)) ∧ fits (rDn (nU ax ay bx b_y px py) (nD ax ay bx b_y px py))) (rUp (nU ax ay bx b_y px py) (nD ax ay bx b_y px py)))), .int .u64 (wv2 (pkz (fits (rUp (nU ax ay bx b_y px py) (nD ax ay bx b_y px py)) ∧ fits (rDn (nU ax ay bx b_y px py) (nD ax ay bx b_y px py))) (rUp (nU ax ay bx b_y px py) (nD ax ay bx b_y px py)))), .int .u64 (wv1 (pkz (fits (rUp (nU ax ay bx b_y px py) (nD ax ay bx b_y px py)) ∧ fits (rDn (nU ax ay bx b_y px py) (nD ax ay bx b_y px py))) (rUp (nU ax ay bx b_y px py) (nD ax ay bx b_y px py)))), .int .u64 (wv0 (pkz (fits (rUp (nU ax ay bx b_y px py) (nD ax ay bx b_y px py)) ∧ fits (rDn (nU ax ay bx b_y px py) (nD ax ay bx b_y px py))) (rUp (nU ax ay bx b_y px py) (nD ax ay bx b_y px py)))), .int .u64 (wv3 (pkz (fits (rUp (nU ax ay bx b_y px py) (nD ax ay bx b_y px py)) ∧ fits (rDn (nU ax ay bx b_y px py) (nD ax ay bx b_y px py))) (rDn (nU ax ay bx b_y px py) (nD ax ay bx b_y px py)))), .int .u64 (wv2 (pkz (fits (rUp (nU ax ay bx b_y px py) (nD ax ay bx b_y px py)) ∧ fits (rDn (nU ax ay bx b_y px py) (nD ax ay bx b_y px py))) (rDn (nU ax ay bx b_y px py) (nD ax ay bx b_y px py)))), .int .u64 (wv1 (pkz (fits (rUp (nU ax ay bx b_y px py) (nD ax ay bx b_y px py)) ∧ fits (rDn (nU ax ay bx b_y px py) (nD ax ay bx b_y px py))) (rDn (nU ax ay bx b_y px py) (nD ax ay bx b_y px py)))), .int .u64 (wv0 (pkz (fits (rUp (nU ax ay bx b_y px py) (nD ax ay bx b_y px py)) ∧ fits (rDn (nU ax ay bx b_y px py) (nD ax ay bx b_y px py))) (rDn (nU ax ay bx b_y px py) (nD ax ay bx b_y px py))))], .bool (decide (fits (rUp (nU ax ay bx b_y px py) (nD ax ay bx b_y px py)) ∧ fits (rDn (nU ax ay bx b_y px py) (nD ax ay bx b_y px py))))]) (T rfl rfl) rfl) ?_
     refine lw_v (.bool (decide (fits (rUp (nU ax ay bx b_y px py) (nD ax ay bx b_y px py)) ∧ fits (rDn (nU ax ay bx b_y px py) (nD ax ay bx b_y px py))))) (dv_extract (vs := #[.agg #[.int .u64 (wv3 (pkz (fits (rUp (nU ax ay bx b_y px py) (nD ax ay bx b_y px py)) ∧ fits (rDn (nU ax ay bx b_y px py) (nD ax ay bx b_y px py))) (rUp (nU ax ay bx b_y px py) (nD ax ay bx b_y px py)))), .int .u64 (wv2 (pkz (fits (rUp (nU ax ay bx b_y px py) (nD ax ay bx b_y px py)) ∧ fits (rDn (nU ax ay bx b_y px py) (nD ax ay bx b_y px py))) (rUp (nU ax ay bx b_y px py) (nD ax ay bx b_y px py)))), .int .u64 (wv1 (pkz (fits (rUp (nU ax ay bx b_y px py) (nD ax ay bx b_y px py)) ∧ fits (rDn (nU ax ay bx b_y px py) (nD ax ay bx b_y px py))) (rUp (nU ax ay bx b_y px py) (nD ax ay bx b_y px py)))), .int .u64 (wv0 (pkz (fits (rUp (nU ax ay bx b_y px py) (nD ax ay bx b_y px py)) ∧ fits (rDn (nU ax ay bx b_y px py) (nD ax ay bx b_y px py))) (rUp (nU ax ay bx b_y px py) (nD ax ay bx b_y px py)))), .int .u64 (wv3 (pkz (fits (rUp (nU ax ay bx b_y px py) (nD ax ay bx b_y px py)) ∧ fits (rDn (nU ax ay bx b_y px py) (nD ax ay bx b_y px py))) (rDn (nU ax ay bx b_y px py) (nD ax ay bx b_y px py)))), .int .u64 (wv2 (pkz (fits (rUp (nU ax ay bx b_y px py) (nD ax ay bx b_y px py)) ∧ fits (rDn (nU ax ay bx b_y px py) (nD ax ay bx b_y px py))) (rDn (nU ax ay bx b_y px py) (nD ax ay bx b_y px py)))), .int .u64 (wv1 (pkz (fits (rUp (nU ax ay bx b_y px py) (nD ax ay bx b_y px py)) ∧ fits (rDn (nU ax ay bx b_y px py) (nD ax ay bx b_y px py))) (rDn (nU ax ay bx b_y px py) (nD ax ay bx b_y px py)))), .int .u64 (wv0 (pkz (fits (rUp (nU ax ay bx b_y px py) (nD ax ay bx b_y px py)) ∧ fits (rDn (nU ax ay bx b_y px py) (nD ax ay bx b_y px py))) (rDn (nU ax ay bx b_y px py) (nD ax ay bx b_y px py))))], .bool (decide (fits (rUp (nU ax ay bx b_y px py) (nD ax ay bx b_y px py)) ∧ fits (rDn (nU ax ay bx b_y px py) (nD ax ay bx b_y px py))))]) (T rfl rfl) rfl) ?_
     have H44 := (e42.blk (e39.blk (e23.blk (e18.blk n13.blk))))
     refine lw_e (oe_store (v := .agg #[.int .u64 (wv3 (pkz (fits (rUp (nU ax ay bx b_y px py) (nD ax ay bx b_y px py)) ∧ fits (rDn (nU ax ay bx b_y px py) (nD ax ay bx b_y px py))) (rUp (nU ax ay bx b_y px py) (nD ax ay bx b_y px py)))), .int .u64 (wv2 (pkz (fits (rUp (nU ax ay bx b_y px py) (nD ax ay bx b_y px py)) ∧ fits (rDn (nU ax ay bx b_y px py) (nD ax ay bx b_y px py))) (rUp (nU ax ay bx b_y px py) (nD ax ay bx b_y px py)))), .int .u64 (wv1 (pkz (fits (rUp (nU ax ay bx b_y px py) (nD ax ay bx b_y px py)) ∧ fits (rDn (nU ax ay bx b_y px py) (nD ax ay bx b_y px py))) (rUp (nU ax ay bx b_y px py) (nD ax ay bx b_y px py)))), .int .u64 (wv0 (pkz (fits (rUp (nU ax ay bx b_y px py) (nD ax ay bx b_y px py)) ∧ fits (rDn (nU ax ay bx b_y px py) (nD ax ay bx b_y px py))) (rUp (nU ax ay bx b_y px py) (nD ax ay bx b_y px py)))), .int .u64 (wv3 (pkz (fits (rUp (nU ax ay bx b_y px py) (nD ax ay bx b_y px py)) ∧ fits (rDn (nU ax ay bx b_y px py) (nD ax ay bx b_y px py))) (rDn (nU ax ay bx b_y px py) (nD ax ay bx b_y px py)))), .int .u64 (wv2 (pkz (fits (rUp (nU ax ay bx b_y px py) (nD ax ay bx b_y px py)) ∧ fits (rDn (nU ax ay bx b_y px py) (nD ax ay bx b_y px py))) (rDn (nU ax ay bx b_y px py) (nD ax ay bx b_y px py)))), .int .u64 (wv1 (pkz (fits (rUp (nU ax ay bx b_y px py) (nD ax ay bx b_y px py)) ∧ fits (rDn (nU ax ay bx b_y px py) (nD ax ay bx b_y px py))) (rDn (nU ax ay bx b_y px py) (nD ax ay bx b_y px py)))), .int .u64 (wv0 (pkz (fits (rUp (nU ax ay bx b_y px py) (nD ax ay bx b_y px py)) ∧ fits (rDn (nU ax ay bx b_y px py) (nD ax ay bx b_y px py))) (rDn (nU ax ay bx b_y px py) (nD ax ay bx b_y px py))))]) (vs := [.int .u64 (wv3 (pkz (fits (rUp (nU ax ay bx b_y px py) (nD ax ay bx b_y px py)) ∧ fits (rDn (nU ax ay bx b_y px py) (nD ax ay bx b_y px py))) (rUp (nU ax ay bx b_y px py) (nD ax ay bx b_y px py)))), .int .u64 (wv2 (pkz (fits (rUp (nU ax ay bx b_y px py) (nD ax ay bx b_y px py)) ∧ fits (rDn (nU ax ay bx b_y px py) (nD ax ay bx b_y px py))) (rUp (nU ax ay bx b_y px py) (nD ax ay bx b_y px py)))), .int .u64 (wv1 (pkz (fits (rUp (nU ax ay bx b_y px py) (nD ax ay bx b_y px py)) ∧ fits (rDn (nU ax ay bx b_y px py) (nD ax ay bx b_y px py))) (rUp (nU ax ay bx b_y px py) (nD ax ay bx b_y px py)))), .int .u64 (wv0 (pkz (fits (rUp (nU ax ay bx b_y px py) (nD ax ay bx b_y px py)) ∧ fits (rDn (nU ax ay bx b_y px py) (nD ax ay bx b_y px py))) (rUp (nU ax ay bx b_y px py) (nD ax ay bx b_y px py)))), .int .u64 (wv3 (pkz (fits (rUp (nU ax ay bx b_y px py) (nD ax ay bx b_y px py)) ∧ fits (rDn (nU ax ay bx b_y px py) (nD ax ay bx b_y px py))) (rDn (nU ax ay bx b_y px py) (nD ax ay bx b_y px py)))), .int .u64 (wv2 (pkz (fits (rUp (nU ax ay bx b_y px py) (nD ax ay bx b_y px py)) ∧ fits (rDn (nU ax ay bx b_y px py) (nD ax ay bx b_y px py))) (rDn (nU ax ay bx b_y px py) (nD ax ay bx b_y px py)))), .int .u64 (wv1 (pkz (fits (rUp (nU ax ay bx b_y px py) (nD ax ay bx b_y px py)) ∧ fits (rDn (nU ax ay bx b_y px py) (nD ax ay bx b_y px py))) (rDn (nU ax ay bx b_y px py) (nD ax ay bx b_y px py)))), .int .u64 (wv0 (pkz (fits (rUp (nU ax ay bx b_y px py) (nD ax ay bx b_y px py)) ∧ fits (rDn (nU ax ay bx b_y px py) (nD ax ay bx b_y px py))) (rDn (nU ax ay bx b_y px py) (nD ax ay bx b_y px py))))]) (l := [.int .u64 (wv3 (pkz (fits (rUp (nU ax ay bx b_y px py) (nD ax ay bx b_y px py)) ∧ fits (rDn (nU ax ay bx b_y px py) (nD ax ay bx b_y px py))) (rUp (nU ax ay bx b_y px py) (nD ax ay bx b_y px py)))), .int .u64 (wv2 (pkz (fits (rUp (nU ax ay bx b_y px py) (nD ax ay bx b_y px py)) ∧ fits (rDn (nU ax ay bx b_y px py) (nD ax ay bx b_y px py))) (rUp (nU ax ay bx b_y px py) (nD ax ay bx b_y px py)))), .int .u64 (wv1 (pkz (fits (rUp (nU ax ay bx b_y px py) (nD ax ay bx b_y px py)) ∧ fits (rDn (nU ax ay bx b_y px py) (nD ax ay bx b_y px py))) (rUp (nU ax ay bx b_y px py) (nD ax ay bx b_y px py)))), .int .u64 (wv0 (pkz (fits (rUp (nU ax ay bx b_y px py) (nD ax ay bx b_y px py)) ∧ fits (rDn (nU ax ay bx b_y px py) (nD ax ay bx b_y px py))) (rUp (nU ax ay bx b_y px py) (nD ax ay bx b_y px py)))), .int .u64 (wv3 (pkz (fits (rUp (nU ax ay bx b_y px py) (nD ax ay bx b_y px py)) ∧ fits (rDn (nU ax ay bx b_y px py) (nD ax ay bx b_y px py))) (rDn (nU ax ay bx b_y px py) (nD ax ay bx b_y px py)))), .int .u64 (wv2 (pkz (fits (rUp (nU ax ay bx b_y px py) (nD ax ay bx b_y px py)) ∧ fits (rDn (nU ax ay bx b_y px py) (nD ax ay bx b_y px py))) (rDn (nU ax ay bx b_y px py) (nD ax ay bx b_y px py)))), .int .u64 (wv1 (pkz (fits (rUp (nU ax ay bx b_y px py) (nD ax ay bx b_y px py)) ∧ fits (rDn (nU ax ay bx b_y px py) (nD ax ay bx b_y px py))) (rDn (nU ax ay bx b_y px py) (nD ax ay bx b_y px py)))), .int .u64 (wv0 (pkz (fits (rUp (nU ax ay bx b_y px py) (nD ax ay bx b_y px py)) ∧ fits (rDn (nU ax ay bx b_y px py) (nD ax ay bx b_y px py))) (rDn (nU ax ay bx b_y px py) (nD ax ay bx b_y px py))))]) (T rfl rfl) (T rfl rfl) sz68 rfl rfl rfl H44 rfl ?_)
     intro w45 s46 H47
     have E48 := below_st E43 N14 s46
     refine lw_v (.bool (decide (fits (rUp (nU ax ay bx b_y px py) (nD ax ay bx b_y px py)) ∧ fits (rDn (nU ax ay bx b_y px py) (nD ax ay bx b_y px py))))) (dv_assign (T rfl rfl)) ?_
     refine lw_nil ?_
     refine rk_ret Try.func44 (v := .tuple #[.agg #[.int .u64 (wv3 (pkz (fits (rUp (nU ax ay bx b_y px py) (nD ax ay bx b_y px py)) ∧ fits (rDn (nU ax ay bx b_y px py) (nD ax ay bx b_y px py))) (rUp (nU ax ay bx b_y px py) (nD ax ay bx b_y px py)))), .int .u64 (wv2 (pkz (fits (rUp (nU ax ay bx b_y px py) (nD ax ay bx b_y px py)) ∧ fits (rDn (nU ax ay bx b_y px py) (nD ax ay bx b_y px py))) (rUp (nU ax ay bx b_y px py) (nD ax ay bx b_y px py)))), .int .u64 (wv1 (pkz (fits (rUp (nU ax ay bx b_y px py) (nD ax ay bx b_y px py)) ∧ fits (rDn (nU ax ay bx b_y px py) (nD ax ay bx b_y px py))) (rUp (nU ax ay bx b_y px py) (nD ax ay bx b_y px py)))), .int .u64 (wv0 (pkz (fits (rUp (nU ax ay bx b_y px py) (nD ax ay bx b_y px py)) ∧ fits (rDn (nU ax ay bx b_y px py) (nD ax ay bx b_y px py))) (rUp (nU ax ay bx b_y px py) (nD ax ay bx b_y px py)))), .int .u64 (wv3 (pkz (fits (rUp (nU ax ay bx b_y px py) (nD ax ay bx b_y px py)) ∧ fits (rDn (nU ax ay bx b_y px py) (nD ax ay bx b_y px py))) (rDn (nU ax ay bx b_y px py) (nD ax ay bx b_y px py)))), .int .u64 (wv2 (pkz (fits (rUp (nU ax ay bx b_y px py) (nD ax ay bx b_y px py)) ∧ fits (rDn (nU ax ay bx b_y px py) (nD ax ay bx b_y px py))) (rDn (nU ax ay bx b_y px py) (nD ax ay bx b_y px py)))), .int .u64 (wv1 (pkz (fits (rUp (nU ax ay bx b_y px py) (nD ax ay bx b_y px py)) ∧ fits (rDn (nU ax ay bx b_y px py) (nD ax ay bx b_y px py))) (rDn (nU ax ay bx b_y px py) (nD ax ay bx b_y px py)))), .int .u64 (wv0 (pkz (fits (rUp (nU ax ay bx b_y px py) (nD ax ay bx b_y px py)) ∧ fits (rDn (nU ax ay bx b_y px py) (nD ax ay bx b_y px py))) (rDn (nU ax ay bx b_y px py) (nD ax ay bx b_y px py))))], .bool (decide (fits (rUp (nU ax ay bx b_y px py) (nD ax ay bx b_y px py)) ∧ fits (rDn (nU ax ay bx b_y px py) (nD ax ay bx b_y px py))))]) (res2 Try.results44 (rv_cells (l := [.int .u64 (wv3 (pkz (fits (rUp (nU ax ay bx b_y px py) (nD ax ay bx b_y px py)) ∧ fits (rDn (nU ax ay bx b_y px py) (nD ax ay bx b_y px py))) (rUp (nU ax ay bx b_y px py) (nD ax ay bx b_y px py)))), .int .u64 (wv2 (pkz (fits (rUp (nU ax ay bx b_y px py) (nD ax ay bx b_y px py)) ∧ fits (rDn (nU ax ay bx b_y px py) (nD ax ay bx b_y px py))) (rUp (nU ax ay bx b_y px py) (nD ax ay bx b_y px py)))), .int .u64 (wv1 (pkz (fits (rUp (nU ax ay bx b_y px py) (nD ax ay bx b_y px py)) ∧ fits (rDn (nU ax ay bx b_y px py) (nD ax ay bx b_y px py))) (rUp (nU ax ay bx b_y px py) (nD ax ay bx b_y px py)))), .int .u64 (wv0 (pkz (fits (rUp (nU ax ay bx b_y px py) (nD ax ay bx b_y px py)) ∧ fits (rDn (nU ax ay bx b_y px py) (nD ax ay bx b_y px py))) (rUp (nU ax ay bx b_y px py) (nD ax ay bx b_y px py)))), .int .u64 (wv3 (pkz (fits (rUp (nU ax ay bx b_y px py) (nD ax ay bx b_y px py)) ∧ fits (rDn (nU ax ay bx b_y px py) (nD ax ay bx b_y px py))) (rDn (nU ax ay bx b_y px py) (nD ax ay bx b_y px py)))), .int .u64 (wv2 (pkz (fits (rUp (nU ax ay bx b_y px py) (nD ax ay bx b_y px py)) ∧ fits (rDn (nU ax ay bx b_y px py) (nD ax ay bx b_y px py))) (rDn (nU ax ay bx b_y px py) (nD ax ay bx b_y px py)))), .int .u64 (wv1 (pkz (fits (rUp (nU ax ay bx b_y px py) (nD ax ay bx b_y px py)) ∧ fits (rDn (nU ax ay bx b_y px py) (nD ax ay bx b_y px py))) (rDn (nU ax ay bx b_y px py) (nD ax ay bx b_y px py)))), .int .u64 (wv0 (pkz (fits (rUp (nU ax ay bx b_y px py) (nD ax ay bx b_y px py)) ∧ fits (rDn (nU ax ay bx b_y px py) (nD ax ay bx b_y px py))) (rDn (nU ax ay bx b_y px py) (nD ax ay bx b_y px py))))]) agt68 sz68 rfl rfl H47 rfl) (rv_tmp rfl rfl)) ⟨_, rfl, ?_⟩
     have hi : (fits (rUp (nU ax ay bx b_y px py) (nD ax ay bx b_y px py)) ∧ fits (rDn (nU ax ay bx b_y px py) (nD ax ay bx b_y px py))) ↔ (segOk ax ay bx b_y ∧ spotOk px py ∧ rFit (nU ax ay bx b_y px py) (nD ax ay bx b_y px py)) := by have h1 : segOk ax ay bx b_y := (by first | assumption | simpa using ‹_›); have h2 : spotOk px py := (by first | assumption | simpa using ‹_›); first | exact ⟨fun hh => ⟨h1, h2, hh⟩, fun hh => hh.2.2⟩ | exact ⟨fun hh => ⟨h1, h2, (Int.ne_of_gt (nD_pos h1.2.2)), hh⟩, fun hh => hh.2.2.2⟩
     exact ⟨(tu2 (ag8 (vi (by rw [pkz_iff hi])) (vi (by rw [pkz_iff hi])) (vi (by rw [pkz_iff hi])) (vi (by rw [pkz_iff hi])) (vi (by rw [pkz_iff hi])) (vi (by rw [pkz_iff hi])) (vi (by rw [pkz_iff hi])) (vi (by rw [pkz_iff hi]))) (vb hi)), E48⟩
   · refine rk_ct (T rfl (congrArg Value.bool (decide_eq_true hb25))) ?_
     refine rk_seq ?_
     refine rk_reg ?_
     refine lw_v (.agg #[.int .u64 0, .int .u64 0, .int .u64 0, .int .u64 0, .int .u64 0, .int .u64 0, .int .u64 0, .int .u64 0]) (dv_build (pv := []) (l := [.int .u64 0, .int .u64 0, .int .u64 0, .int .u64 0, .int .u64 0, .int .u64 0, .int .u64 0, .int .u64 0]) zc68 pl68 trivial rfl) ?_
     have H49 := (e23.blk (e18.blk n13.blk))
     refine lw_e (oe_store (v := .agg #[.int .u64 0, .int .u64 0, .int .u64 0, .int .u64 0, .int .u64 0, .int .u64 0, .int .u64 0, .int .u64 0]) (vs := [.int .u64 0, .int .u64 0, .int .u64 0, .int .u64 0, .int .u64 0, .int .u64 0, .int .u64 0, .int .u64 0]) (l := [.int .u64 0, .int .u64 0, .int .u64 0, .int .u64 0, .int .u64 0, .int .u64 0, .int .u64 0, .int .u64 0]) (T rfl rfl) (T rfl rfl) sz68 rfl rfl rfl H49 rfl ?_)
     intro w50 s51 H52
     have E53 := below_st E24 N14 s51
     refine lw_v (.bool false) (dv_assign C) ?_
     refine lw_nil ?_
     refine rk_ret Try.func44 (v := .tuple #[.agg #[.int .u64 0, .int .u64 0, .int .u64 0, .int .u64 0, .int .u64 0, .int .u64 0, .int .u64 0, .int .u64 0], .bool false]) (res2 Try.results44 (rv_cells (l := [.int .u64 0, .int .u64 0, .int .u64 0, .int .u64 0, .int .u64 0, .int .u64 0, .int .u64 0, .int .u64 0]) agt68 sz68 rfl rfl H52 rfl) (rv_tmp rfl rfl)) ⟨_, rfl, ?_⟩
     have hS : ¬ (segOk ax ay bx b_y ∧ spotOk px py ∧ rFit (nU ax ay bx b_y px py) (nD ax ay bx b_y px py)) := by first | (intro hh; exact absurd hh.1 (by assumption)) | (intro hh; exact absurd hh.2.1 (by assumption)) | (intro hh; exact absurd (⟨hh.1, hh.2.1⟩ : _ ∧ _) (by assumption))
     exact ⟨(tu2 (ag8 (vi (wf3 hS)) (vi (wf2 hS)) (vi (wf1 hS)) (vi (wf0 hS)) (vi (wf3 hS)) (vi (wf2 hS)) (vi (wf1 hS)) (vi (wf0 hS))) (vf hS)), E53⟩
 · refine lw_no (d := 9) rfl rfl (congrArg Value.bool (decide_eq_true hb20)) ?_
   refine lw_no (d := 9) rfl rfl (congrArg Value.bool (decide_eq_true hb20)) ?_
   refine lw_no (d := 9) rfl rfl (congrArg Value.bool (decide_eq_true hb20)) ?_
   refine lw_v (.bool true) (dv_pick_t (T rfl (congrArg Value.bool (decide_eq_true hb20))) C) ?_
   refine lw_nil ?_
   refine rk_ct (T rfl rfl) ?_
   refine rk_seq ?_
   refine rk_reg ?_
   refine lw_v (.agg #[.int .u64 0, .int .u64 0, .int .u64 0, .int .u64 0, .int .u64 0, .int .u64 0, .int .u64 0, .int .u64 0]) (dv_build (pv := []) (l := [.int .u64 0, .int .u64 0, .int .u64 0, .int .u64 0, .int .u64 0, .int .u64 0, .int .u64 0, .int .u64 0]) zc68 pl68 trivial rfl) ?_
   have H54 := (e18.blk n13.blk)
   refine lw_e (oe_store (v := .agg #[.int .u64 0, .int .u64 0, .int .u64 0, .int .u64 0, .int .u64 0, .int .u64 0, .int .u64 0, .int .u64 0]) (vs := [.int .u64 0, .int .u64 0, .int .u64 0, .int .u64 0, .int .u64 0, .int .u64 0, .int .u64 0, .int .u64 0]) (l := [.int .u64 0, .int .u64 0, .int .u64 0, .int .u64 0, .int .u64 0, .int .u64 0, .int .u64 0, .int .u64 0]) (T rfl rfl) (T rfl rfl) sz68 rfl rfl rfl H54 rfl ?_)
   intro w55 s56 H57
   have E58 := below_st E19 N14 s56
   refine lw_v (.bool false) (dv_assign C) ?_
   refine lw_nil ?_
   refine rk_ret Try.func44 (v := .tuple #[.agg #[.int .u64 0, .int .u64 0, .int .u64 0, .int .u64 0, .int .u64 0, .int .u64 0, .int .u64 0, .int .u64 0], .bool false]) (res2 Try.results44 (rv_cells (l := [.int .u64 0, .int .u64 0, .int .u64 0, .int .u64 0, .int .u64 0, .int .u64 0, .int .u64 0, .int .u64 0]) agt68 sz68 rfl rfl H57 rfl) (rv_tmp rfl rfl)) ⟨_, rfl, ?_⟩
   have hS : ¬ (segOk ax ay bx b_y ∧ spotOk px py ∧ rFit (nU ax ay bx b_y px py) (nD ax ay bx b_y px py)) := by first | (intro hh; exact absurd hh.1 (by assumption)) | (intro hh; exact absurd hh.2.1 (by assumption)) | (intro hh; exact absurd (⟨hh.1, hh.2.1⟩ : _ ∧ _) (by assumption))
   exact ⟨(tu2 (ag8 (vi (wf3 hS)) (vi (wf2 hS)) (vi (wf1 hS)) (vi (wf0 hS)) (vi (wf3 hS)) (vi (wf2 hS)) (vi (wf1 hS)) (vi (wf0 hS))) (vf hS)), E58⟩
set_option maxHeartbeats 1000000 in
theorem lawNear2_ok {w : World} {ax ay bx b_y px py : Int}  (iax_ : -9223372036854775808 ≤ ax ∧ ax ≤ 9223372036854775807) (iay_ : -9223372036854775808 ≤ ay ∧ ay ≤ 9223372036854775807) (ibx_ : -9223372036854775808 ≤ bx ∧ bx ≤ 9223372036854775807) (ib_y_ : -9223372036854775808 ≤ b_y ∧ b_y ≤ 9223372036854775807) (ipx_ : -9223372036854775808 ≤ px ∧ px ≤ 9223372036854775807) (ipy_ : -9223372036854775808 ≤ py ∧ py ≤ 9223372036854775807) : Ct Try.prog 11 [.agg #[.int .i64 ax, .int .i64 ay, .int .i64 bx, .int .i64 b_y], .agg #[.int .i64 px, .int .i64 py]] w fun v w1 => v = .bool true ∧ Ext w w1 := by
 refine ct_run (n := 34) Try.func11 rfl Try.ntmps11 rfl ?_
 have E0 : Below w.heap.size w w := Below.refl _ _
 refine rk_seq ?_
 refine rk_reg ?_
 refine lw_e (oe_box (v := .agg #[.int .i64 ax, .int .i64 ay, .int .i64 bx, .int .i64 b_y]) (cs := #[.int .i64 ax, .int .i64 ay, .int .i64 bx, .int .i64 b_y]) (T rfl rfl) rfl ?_)
 intro b1 w2 n3
 have N4 : w.heap.size ≤ b1 := n3.eq ▸ E0.size
 have E5 := below_ext E0 E0.size n3.ext
 refine lw_e (oe_box (v := .agg #[.int .i64 px, .int .i64 py]) (cs := #[.int .i64 px, .int .i64 py]) (T rfl rfl) rfl ?_)
 intro b6 w7 n8
 have N9 : w.heap.size ≤ b6 := n8.eq ▸ E5.size
 have : b1 < b6 := n8.eq ▸ lt_of_blk n3.blk
 have E10 := below_ext E5 E5.size n8.ext
 refine lw_v (.bool false) (dv_assign C) ?_
 refine lw_nil ?_
 refine rk_seq ?_
 have H11 := (n8.ext.blk n3.blk)
 have : b1 < w7.heap.size := lt_of_blk H11
 have : b6 < w7.heap.size := lt_of_blk n8.blk
 have : w.heap.size ≤ w7.heap.size := E10.size
 refine rk_par2 [fun vq wq_ => vq = .agg #[.int .i64 ax, .int .i64 ay, .int .i64 bx, .int .i64 b_y], fun vq wq_ => vq = .agg #[.int .i64 ax, .int .i64 ay, .int .i64 bx, .int .i64 b_y], fun vq wq_ => vq = .agg #[.int .i64 px, .int .i64 py], fun vq wq_ => vq = .agg #[.int .i64 px, .int .i64 py], fun vq wq_ => vq = .tuple #[.agg #[.int .u64 (wv3 (pkz (segOk ax ay bx b_y ∧ spotOk px py ∧ rFit (nU ax ay bx b_y px py) (nD ax ay bx b_y px py)) (rUp (nU ax ay bx b_y px py) (nD ax ay bx b_y px py)))), .int .u64 (wv2 (pkz (segOk ax ay bx b_y ∧ spotOk px py ∧ rFit (nU ax ay bx b_y px py) (nD ax ay bx b_y px py)) (rUp (nU ax ay bx b_y px py) (nD ax ay bx b_y px py)))), .int .u64 (wv1 (pkz (segOk ax ay bx b_y ∧ spotOk px py ∧ rFit (nU ax ay bx b_y px py) (nD ax ay bx b_y px py)) (rUp (nU ax ay bx b_y px py) (nD ax ay bx b_y px py)))), .int .u64 (wv0 (pkz (segOk ax ay bx b_y ∧ spotOk px py ∧ rFit (nU ax ay bx b_y px py) (nD ax ay bx b_y px py)) (rUp (nU ax ay bx b_y px py) (nD ax ay bx b_y px py)))), .int .u64 (wv3 (pkz (segOk ax ay bx b_y ∧ spotOk px py ∧ rFit (nU ax ay bx b_y px py) (nD ax ay bx b_y px py)) (rDn (nU ax ay bx b_y px py) (nD ax ay bx b_y px py)))), .int .u64 (wv2 (pkz (segOk ax ay bx b_y ∧ spotOk px py ∧ rFit (nU ax ay bx b_y px py) (nD ax ay bx b_y px py)) (rDn (nU ax ay bx b_y px py) (nD ax ay bx b_y px py)))), .int .u64 (wv1 (pkz (segOk ax ay bx b_y ∧ spotOk px py ∧ rFit (nU ax ay bx b_y px py) (nD ax ay bx b_y px py)) (rDn (nU ax ay bx b_y px py) (nD ax ay bx b_y px py)))), .int .u64 (wv0 (pkz (segOk ax ay bx b_y ∧ spotOk px py ∧ rFit (nU ax ay bx b_y px py) (nD ax ay bx b_y px py)) (rDn (nU ax ay bx b_y px py) (nD ax ay bx b_y px py))))], .bool (decide (segOk ax ay bx b_y ∧ spotOk px py ∧ rFit (nU ax ay bx b_y px py) (nD ax ay bx b_y px py)))], fun vq wq_ => vq = .tuple #[.agg #[.int .u64 (wv3 (pkz (segOk ax ay bx b_y ∧ spotOk px py ∧ rFit (nU ax ay bx b_y px py) (nD ax ay bx b_y px py)) (rUp (nU ax ay bx b_y px py) (nD ax ay bx b_y px py)))), .int .u64 (wv2 (pkz (segOk ax ay bx b_y ∧ spotOk px py ∧ rFit (nU ax ay bx b_y px py) (nD ax ay bx b_y px py)) (rUp (nU ax ay bx b_y px py) (nD ax ay bx b_y px py)))), .int .u64 (wv1 (pkz (segOk ax ay bx b_y ∧ spotOk px py ∧ rFit (nU ax ay bx b_y px py) (nD ax ay bx b_y px py)) (rUp (nU ax ay bx b_y px py) (nD ax ay bx b_y px py)))), .int .u64 (wv0 (pkz (segOk ax ay bx b_y ∧ spotOk px py ∧ rFit (nU ax ay bx b_y px py) (nD ax ay bx b_y px py)) (rUp (nU ax ay bx b_y px py) (nD ax ay bx b_y px py)))), .int .u64 (wv3 (pkz (segOk ax ay bx b_y ∧ spotOk px py ∧ rFit (nU ax ay bx b_y px py) (nD ax ay bx b_y px py)) (rDn (nU ax ay bx b_y px py) (nD ax ay bx b_y px py)))), .int .u64 (wv2 (pkz (segOk ax ay bx b_y ∧ spotOk px py ∧ rFit (nU ax ay bx b_y px py) (nD ax ay bx b_y px py)) (rDn (nU ax ay bx b_y px py) (nD ax ay bx b_y px py)))), .int .u64 (wv1 (pkz (segOk ax ay bx b_y ∧ spotOk px py ∧ rFit (nU ax ay bx b_y px py) (nD ax ay bx b_y px py)) (rDn (nU ax ay bx b_y px py) (nD ax ay bx b_y px py)))), .int .u64 (wv0 (pkz (segOk ax ay bx b_y ∧ spotOk px py ∧ rFit (nU ax ay bx b_y px py) (nD ax ay bx b_y px py)) (rDn (nU ax ay bx b_y px py) (nD ax ay bx b_y px py))))], .bool (decide (segOk ax ay bx b_y ∧ spotOk px py ∧ rFit (nU ax ay bx b_y px py) (nD ax ay bx b_y px py)))], fun vq wq_ => vq = .agg #[.int .u64 (wv3 (pkz (segOk ax ay bx b_y ∧ spotOk px py ∧ rFit (nU ax ay bx b_y px py) (nD ax ay bx b_y px py)) (rUp (nU ax ay bx b_y px py) (nD ax ay bx b_y px py)))), .int .u64 (wv2 (pkz (segOk ax ay bx b_y ∧ spotOk px py ∧ rFit (nU ax ay bx b_y px py) (nD ax ay bx b_y px py)) (rUp (nU ax ay bx b_y px py) (nD ax ay bx b_y px py)))), .int .u64 (wv1 (pkz (segOk ax ay bx b_y ∧ spotOk px py ∧ rFit (nU ax ay bx b_y px py) (nD ax ay bx b_y px py)) (rUp (nU ax ay bx b_y px py) (nD ax ay bx b_y px py)))), .int .u64 (wv0 (pkz (segOk ax ay bx b_y ∧ spotOk px py ∧ rFit (nU ax ay bx b_y px py) (nD ax ay bx b_y px py)) (rUp (nU ax ay bx b_y px py) (nD ax ay bx b_y px py)))), .int .u64 (wv3 (pkz (segOk ax ay bx b_y ∧ spotOk px py ∧ rFit (nU ax ay bx b_y px py) (nD ax ay bx b_y px py)) (rDn (nU ax ay bx b_y px py) (nD ax ay bx b_y px py)))), .int .u64 (wv2 (pkz (segOk ax ay bx b_y ∧ spotOk px py ∧ rFit (nU ax ay bx b_y px py) (nD ax ay bx b_y px py)) (rDn (nU ax ay bx b_y px py) (nD ax ay bx b_y px py)))), .int .u64 (wv1 (pkz (segOk ax ay bx b_y ∧ spotOk px py ∧ rFit (nU ax ay bx b_y px py) (nD ax ay bx b_y px py)) (rDn (nU ax ay bx b_y px py) (nD ax ay bx b_y px py)))), .int .u64 (wv0 (pkz (segOk ax ay bx b_y ∧ spotOk px py ∧ rFit (nU ax ay bx b_y px py) (nD ax ay bx b_y px py)) (rDn (nU ax ay bx b_y px py) (nD ax ay bx b_y px py))))], fun vq wq_ => vq = .bool (decide (segOk ax ay bx b_y ∧ spotOk px py ∧ rFit (nU ax ay bx b_y px py) (nD ax ay bx b_y px py))), fun _ _ => True, fun _ _ => True, fun vq wq_ => vq = .bool (decide (segOk ax ay bx b_y ∧ spotOk px py ∧ rFit (nU ax ay bx b_y px py) (nD ax ay bx b_y px py)))] [⟨8, 9, 6, 68, #[.int .u64 0, .int .u64 0, .int .u64 0, .int .u64 0, .int .u64 0, .int .u64 0, .int .u64 0, .int .u64 0]⟩] [68] mo (by kernel_rfl) (by kernel_rfl) ?_ ?_ ?_ ?_ ?_
 · intro e he e2 he2 h; simp only [List.mem_cons, List.not_mem_nil, or_false] at he he2; rcases he with rfl <;> rcases he2 with rfl <;> first | rfl | exact absurd h (by decide)
 · exact ⟨⟨fun v w w2 e h => h, fun v w w2 b cs T fz s hb hT h => h⟩, ⟨fun v w w2 e h => h, fun v w w2 b cs T fz s hb hT h => h⟩, ⟨fun v w w2 e h => h, fun v w w2 b cs T fz s hb hT h => h⟩, ⟨fun v w w2 e h => h, fun v w w2 b cs T fz s hb hT h => h⟩, ⟨fun v w w2 e h => h, fun v w w2 b cs T fz s hb hT h => h⟩, ⟨fun v w w2 e h => h, fun v w w2 b cs T fz s hb hT h => h⟩, ⟨fun v w w2 e h => h, fun v w w2 b cs T fz s hb hT h => h⟩, ⟨fun v w w2 e h => h, fun v w w2 b cs T fz s hb hT h => h⟩, ⟨fun v w w2 e h => h, fun v w w2 b cs T fz s hb hT h => h⟩, ⟨fun v w w2 e h => h, fun v w w2 b cs T fz s hb hT h => h⟩, ⟨fun v w w2 e h => h, fun v w w2 b cs T fz s hb hT h => h⟩, trivial⟩
 · refine ⟨?_, ?_, ?_, ?_, ?_, ?_, ?_, ?_, ?_, ?_, ?_, trivial⟩
   · refine .inr ⟨by kernel_rfl, ?_⟩
     intro fr13 w12 e14 hF15 hD16
     have E17 := below_ext E10 E10.size e14
     have H18 := (e14.blk H11)
     exact DV.oe (dv_loads (l := [.int .i64 ax, .int .i64 ay, .int .i64 bx, .int .i64 b_y]) agt43 sz43 (T rfl (hF15 2 (by kernel_rfl))) H18 rfl) ⟨Below.refl _ _, rfl⟩
   · refine .inr ⟨by kernel_rfl, ?_⟩
     intro fr20 w19 e21 hF22 hD23
     have E24 := below_ext E10 E10.size e21
     have hv25 : fr20 10 = .agg #[.int .i64 ax, .int .i64 ay, .int .i64 bx, .int .i64 b_y] := hD23 0 _ (by kernel_rfl) rfl (by kernel_rfl)
     refine id (oe_callf (vs := [.agg #[.int .i64 ax, .int .i64 ay, .int .i64 bx, .int .i64 b_y]]) co24 (ar1 (T rfl hv25)) (toSeg_ok (ax := ax) (ay := ay) (bx := bx) (b_y := b_y)  ) ?_)
     rintro _ w26 ⟨rfl, e27⟩
     have E28 := below_ext E24 E24.size e27
     exact ⟨e27, rfl⟩
   · refine .inr ⟨by kernel_rfl, ?_⟩
     intro fr30 w29 e31 hF32 hD33
     have E34 := below_ext E10 E10.size e31
     have H35 := (e31.blk n8.blk)
     exact DV.oe (dv_loads (l := [.int .i64 px, .int .i64 py]) agt41 sz41 (T rfl (hF32 3 (by kernel_rfl))) H35 rfl) ⟨Below.refl _ _, rfl⟩
   · refine .inr ⟨by kernel_rfl, ?_⟩
     intro fr37 w36 e38 hF39 hD40
     have E41 := below_ext E10 E10.size e38
     have hv42 : fr37 12 = .agg #[.int .i64 px, .int .i64 py] := hD40 2 _ (by kernel_rfl) rfl (by kernel_rfl)
     refine id (oe_callf (vs := [.agg #[.int .i64 px, .int .i64 py]]) co45 (ar1 (T rfl hv42)) (toSpot_ok (x := px) (y := py)  ) ?_)
     rintro _ w43 ⟨rfl, e44⟩
     have E45 := below_ext E41 E41.size e44
     exact ⟨e44, rfl⟩
   · refine .inr ⟨by kernel_rfl, ?_⟩
     intro fr47 w46 e48 hF49 hD50
     have E51 := below_ext E10 E10.size e48
     have hv52 : fr47 11 = .agg #[.int .i64 ax, .int .i64 ay, .int .i64 bx, .int .i64 b_y] := hD50 1 _ (by kernel_rfl) rfl (by kernel_rfl)
     have hv53 : fr47 13 = .agg #[.int .i64 px, .int .i64 py] := hD50 3 _ (by kernel_rfl) rfl (by kernel_rfl)
     refine id (oe_callf (vs := [.agg #[.int .i64 ax, .int .i64 ay, .int .i64 bx, .int .i64 b_y], .agg #[.int .i64 px, .int .i64 py]]) co44 (ar2 (T rfl hv52) (T rfl hv53)) (sNear2_ok (ax := ax) (ay := ay) (bx := bx) (b_y := b_y) (px := px) (py := py)  ) ?_)
     rintro _ w54 ⟨rfl, e55⟩
     have E56 := below_ext E51 E51.size e55
     exact ⟨e55, rfl⟩
   · refine .inr ⟨by kernel_rfl, ?_⟩
     intro fr58 w57 e59 hF60 hD61
     have E62 := below_ext E10 E10.size e59
     have hv63 : fr58 14 = .tuple #[.agg #[.int .u64 (wv3 (pkz (segOk ax ay bx b_y ∧ spotOk px py ∧ rFit (nU ax ay bx b_y px py) (nD ax ay bx b_y px py)) (rUp (nU ax ay bx b_y px py) (nD ax ay bx b_y px py)))), .int .u64 (wv2 (pkz (segOk ax ay bx b_y ∧ spotOk px py ∧ rFit (nU ax ay bx b_y px py) (nD ax ay bx b_y px py)) (rUp (nU ax ay bx b_y px py) (nD ax ay bx b_y px py)))), .int .u64 (wv1 (pkz (segOk ax ay bx b_y ∧ spotOk px py ∧ rFit (nU ax ay bx b_y px py) (nD ax ay bx b_y px py)) (rUp (nU ax ay bx b_y px py) (nD ax ay bx b_y px py)))), .int .u64 (wv0 (pkz (segOk ax ay bx b_y ∧ spotOk px py ∧ rFit (nU ax ay bx b_y px py) (nD ax ay bx b_y px py)) (rUp (nU ax ay bx b_y px py) (nD ax ay bx b_y px py)))), .int .u64 (wv3 (pkz (segOk ax ay bx b_y ∧ spotOk px py ∧ rFit (nU ax ay bx b_y px py) (nD ax ay bx b_y px py)) (rDn (nU ax ay bx b_y px py) (nD ax ay bx b_y px py)))), .int .u64 (wv2 (pkz (segOk ax ay bx b_y ∧ spotOk px py ∧ rFit (nU ax ay bx b_y px py) (nD ax ay bx b_y px py)) (rDn (nU ax ay bx b_y px py) (nD ax ay bx b_y px py)))), .int .u64 (wv1 (pkz (segOk ax ay bx b_y ∧ spotOk px py ∧ rFit (nU ax ay bx b_y px py) (nD ax ay bx b_y px py)) (rDn (nU ax ay bx b_y px py) (nD ax ay bx b_y px py)))), .int .u64 (wv0 (pkz (segOk ax ay bx b_y ∧ spotOk px py ∧ rFit (nU ax ay bx b_y px py) (nD ax ay bx b_y px py)) (rDn (nU ax ay bx b_y px py) (nD ax ay bx b_y px py))))], .bool (decide (segOk ax ay bx b_y ∧ spotOk px py ∧ rFit (nU ax ay bx b_y px py) (nD ax ay bx b_y px py)))] := hD61 4 _ (by kernel_rfl) rfl (by kernel_rfl)
     exact DV.oe (dv_move (T rfl hv63)) ⟨Below.refl _ _, rfl⟩
   · refine .inr ⟨by kernel_rfl, ?_⟩
     intro fr65 w64 e66 hF67 hD68
     have E69 := below_ext E10 E10.size e66
     have hv70 : fr65 9 = .tuple #[.agg #[.int .u64 (wv3 (pkz (segOk ax ay bx b_y ∧ spotOk px py ∧ rFit (nU ax ay bx b_y px py) (nD ax ay bx b_y px py)) (rUp (nU ax ay bx b_y px py) (nD ax ay bx b_y px py)))), .int .u64 (wv2 (pkz (segOk ax ay bx b_y ∧ spotOk px py ∧ rFit (nU ax ay bx b_y px py) (nD ax ay bx b_y px py)) (rUp (nU ax ay bx b_y px py) (nD ax ay bx b_y px py)))), .int .u64 (wv1 (pkz (segOk ax ay bx b_y ∧ spotOk px py ∧ rFit (nU ax ay bx b_y px py) (nD ax ay bx b_y px py)) (rUp (nU ax ay bx b_y px py) (nD ax ay bx b_y px py)))), .int .u64 (wv0 (pkz (segOk ax ay bx b_y ∧ spotOk px py ∧ rFit (nU ax ay bx b_y px py) (nD ax ay bx b_y px py)) (rUp (nU ax ay bx b_y px py) (nD ax ay bx b_y px py)))), .int .u64 (wv3 (pkz (segOk ax ay bx b_y ∧ spotOk px py ∧ rFit (nU ax ay bx b_y px py) (nD ax ay bx b_y px py)) (rDn (nU ax ay bx b_y px py) (nD ax ay bx b_y px py)))), .int .u64 (wv2 (pkz (segOk ax ay bx b_y ∧ spotOk px py ∧ rFit (nU ax ay bx b_y px py) (nD ax ay bx b_y px py)) (rDn (nU ax ay bx b_y px py) (nD ax ay bx b_y px py)))), .int .u64 (wv1 (pkz (segOk ax ay bx b_y ∧ spotOk px py ∧ rFit (nU ax ay bx b_y px py) (nD ax ay bx b_y px py)) (rDn (nU ax ay bx b_y px py) (nD ax ay bx b_y px py)))), .int .u64 (wv0 (pkz (segOk ax ay bx b_y ∧ spotOk px py ∧ rFit (nU ax ay bx b_y px py) (nD ax ay bx b_y px py)) (rDn (nU ax ay bx b_y px py) (nD ax ay bx b_y px py))))], .bool (decide (segOk ax ay bx b_y ∧ spotOk px py ∧ rFit (nU ax ay bx b_y px py) (nD ax ay bx b_y px py)))] := hD68 5 _ (by kernel_rfl) rfl (by kernel_rfl)
     exact DV.oe (dv_extract (vs := #[.agg #[.int .u64 (wv3 (pkz (segOk ax ay bx b_y ∧ spotOk px py ∧ rFit (nU ax ay bx b_y px py) (nD ax ay bx b_y px py)) (rUp (nU ax ay bx b_y px py) (nD ax ay bx b_y px py)))), .int .u64 (wv2 (pkz (segOk ax ay bx b_y ∧ spotOk px py ∧ rFit (nU ax ay bx b_y px py) (nD ax ay bx b_y px py)) (rUp (nU ax ay bx b_y px py) (nD ax ay bx b_y px py)))), .int .u64 (wv1 (pkz (segOk ax ay bx b_y ∧ spotOk px py ∧ rFit (nU ax ay bx b_y px py) (nD ax ay bx b_y px py)) (rUp (nU ax ay bx b_y px py) (nD ax ay bx b_y px py)))), .int .u64 (wv0 (pkz (segOk ax ay bx b_y ∧ spotOk px py ∧ rFit (nU ax ay bx b_y px py) (nD ax ay bx b_y px py)) (rUp (nU ax ay bx b_y px py) (nD ax ay bx b_y px py)))), .int .u64 (wv3 (pkz (segOk ax ay bx b_y ∧ spotOk px py ∧ rFit (nU ax ay bx b_y px py) (nD ax ay bx b_y px py)) (rDn (nU ax ay bx b_y px py) (nD ax ay bx b_y px py)))), .int .u64 (wv2 (pkz (segOk ax ay bx b_y ∧ spotOk px py ∧ rFit (nU ax ay bx b_y px py) (nD ax ay bx b_y px py)) (rDn (nU ax ay bx b_y px py) (nD ax ay bx b_y px py)))), .int .u64 (wv1 (pkz (segOk ax ay bx b_y ∧ spotOk px py ∧ rFit (nU ax ay bx b_y px py) (nD ax ay bx b_y px py)) (rDn (nU ax ay bx b_y px py) (nD ax ay bx b_y px py)))), .int .u64 (wv0 (pkz (segOk ax ay bx b_y ∧ spotOk px py ∧ rFit (nU ax ay bx b_y px py) (nD ax ay bx b_y px py)) (rDn (nU ax ay bx b_y px py) (nD ax ay bx b_y px py))))], .bool (decide (segOk ax ay bx b_y ∧ spotOk px py ∧ rFit (nU ax ay bx b_y px py) (nD ax ay bx b_y px py)))]) (T rfl hv70) rfl) ⟨Below.refl _ _, rfl⟩
   · refine .inr ⟨by kernel_rfl, ?_⟩
     intro fr72 w71 e73 hF74 hD75
     have E76 := below_ext E10 E10.size e73
     have hv77 : fr72 9 = .tuple #[.agg #[.int .u64 (wv3 (pkz (segOk ax ay bx b_y ∧ spotOk px py ∧ rFit (nU ax ay bx b_y px py) (nD ax ay bx b_y px py)) (rUp (nU ax ay bx b_y px py) (nD ax ay bx b_y px py)))), .int .u64 (wv2 (pkz (segOk ax ay bx b_y ∧ spotOk px py ∧ rFit (nU ax ay bx b_y px py) (nD ax ay bx b_y px py)) (rUp (nU ax ay bx b_y px py) (nD ax ay bx b_y px py)))), .int .u64 (wv1 (pkz (segOk ax ay bx b_y ∧ spotOk px py ∧ rFit (nU ax ay bx b_y px py) (nD ax ay bx b_y px py)) (rUp (nU ax ay bx b_y px py) (nD ax ay bx b_y px py)))), .int .u64 (wv0 (pkz (segOk ax ay bx b_y ∧ spotOk px py ∧ rFit (nU ax ay bx b_y px py) (nD ax ay bx b_y px py)) (rUp (nU ax ay bx b_y px py) (nD ax ay bx b_y px py)))), .int .u64 (wv3 (pkz (segOk ax ay bx b_y ∧ spotOk px py ∧ rFit (nU ax ay bx b_y px py) (nD ax ay bx b_y px py)) (rDn (nU ax ay bx b_y px py) (nD ax ay bx b_y px py)))), .int .u64 (wv2 (pkz (segOk ax ay bx b_y ∧ spotOk px py ∧ rFit (nU ax ay bx b_y px py) (nD ax ay bx b_y px py)) (rDn (nU ax ay bx b_y px py) (nD ax ay bx b_y px py)))), .int .u64 (wv1 (pkz (segOk ax ay bx b_y ∧ spotOk px py ∧ rFit (nU ax ay bx b_y px py) (nD ax ay bx b_y px py)) (rDn (nU ax ay bx b_y px py) (nD ax ay bx b_y px py)))), .int .u64 (wv0 (pkz (segOk ax ay bx b_y ∧ spotOk px py ∧ rFit (nU ax ay bx b_y px py) (nD ax ay bx b_y px py)) (rDn (nU ax ay bx b_y px py) (nD ax ay bx b_y px py))))], .bool (decide (segOk ax ay bx b_y ∧ spotOk px py ∧ rFit (nU ax ay bx b_y px py) (nD ax ay bx b_y px py)))] := hD75 5 _ (by kernel_rfl) rfl (by kernel_rfl)
     exact DV.oe (dv_extract (vs := #[.agg #[.int .u64 (wv3 (pkz (segOk ax ay bx b_y ∧ spotOk px py ∧ rFit (nU ax ay bx b_y px py) (nD ax ay bx b_y px py)) (rUp (nU ax ay bx b_y px py) (nD ax ay bx b_y px py)))), .int .u64 (wv2 (pkz (segOk ax ay bx b_y ∧ spotOk px py ∧ rFit (nU ax ay bx b_y px py) (nD ax ay bx b_y px py)) (rUp (nU ax ay bx b_y px py) (nD ax ay bx b_y px py)))), .int .u64 (wv1 (pkz (segOk ax ay bx b_y ∧ spotOk px py ∧ rFit (nU ax ay bx b_y px py) (nD ax ay bx b_y px py)) (rUp (nU ax ay bx b_y px py) (nD ax ay bx b_y px py)))), .int .u64 (wv0 (pkz (segOk ax ay bx b_y ∧ spotOk px py ∧ rFit (nU ax ay bx b_y px py) (nD ax ay bx b_y px py)) (rUp (nU ax ay bx b_y px py) (nD ax ay bx b_y px py)))), .int .u64 (wv3 (pkz (segOk ax ay bx b_y ∧ spotOk px py ∧ rFit (nU ax ay bx b_y px py) (nD ax ay bx b_y px py)) (rDn (nU ax ay bx b_y px py) (nD ax ay bx b_y px py)))), .int .u64 (wv2 (pkz (segOk ax ay bx b_y ∧ spotOk px py ∧ rFit (nU ax ay bx b_y px py) (nD ax ay bx b_y px py)) (rDn (nU ax ay bx b_y px py) (nD ax ay bx b_y px py)))), .int .u64 (wv1 (pkz (segOk ax ay bx b_y ∧ spotOk px py ∧ rFit (nU ax ay bx b_y px py) (nD ax ay bx b_y px py)) (rDn (nU ax ay bx b_y px py) (nD ax ay bx b_y px py)))), .int .u64 (wv0 (pkz (segOk ax ay bx b_y ∧ spotOk px py ∧ rFit (nU ax ay bx b_y px py) (nD ax ay bx b_y px py)) (rDn (nU ax ay bx b_y px py) (nD ax ay bx b_y px py))))], .bool (decide (segOk ax ay bx b_y ∧ spotOk px py ∧ rFit (nU ax ay bx b_y px py) (nD ax ay bx b_y px py)))]) (T rfl hv77) rfl) ⟨Below.refl _ _, rfl⟩
   · exact .inl (.inr ⟨by kernel_rfl, fun _ _ => trivial⟩)
   · exact .inl (.inl (by kernel_rfl))
   · refine .inr ⟨by kernel_rfl, ?_⟩
     intro fr93 w92 e94 hF95 hD96
     have E97 := below_ext E10 E10.size e94
     have hv98 : fr93 16 = .bool (decide (segOk ax ay bx b_y ∧ spotOk px py ∧ rFit (nU ax ay bx b_y px py) (nD ax ay bx b_y px py))) := hD96 7 _ (by kernel_rfl) rfl (by kernel_rfl)
     exact DV.oe (dv_assign (T rfl hv98)) ⟨Below.refl _ _, rfl⟩
 · refine ⟨⟨⟨_, rfl, fun _ _ => oe_alloc ze68 fun b w hn => ⟨b, rfl, hn⟩⟩, ⟨_, rfl, ?_⟩⟩, trivial⟩
   · intro fr79 w78 b83 e80 hF81 hD82 hA84 hB85
     have E86 := below_ext E10 E10.size e80
     have hv87 : fr79 15 = .agg #[.int .u64 (wv3 (pkz (segOk ax ay bx b_y ∧ spotOk px py ∧ rFit (nU ax ay bx b_y px py) (nD ax ay bx b_y px py)) (rUp (nU ax ay bx b_y px py) (nD ax ay bx b_y px py)))), .int .u64 (wv2 (pkz (segOk ax ay bx b_y ∧ spotOk px py ∧ rFit (nU ax ay bx b_y px py) (nD ax ay bx b_y px py)) (rUp (nU ax ay bx b_y px py) (nD ax ay bx b_y px py)))), .int .u64 (wv1 (pkz (segOk ax ay bx b_y ∧ spotOk px py ∧ rFit (nU ax ay bx b_y px py) (nD ax ay bx b_y px py)) (rUp (nU ax ay bx b_y px py) (nD ax ay bx b_y px py)))), .int .u64 (wv0 (pkz (segOk ax ay bx b_y ∧ spotOk px py ∧ rFit (nU ax ay bx b_y px py) (nD ax ay bx b_y px py)) (rUp (nU ax ay bx b_y px py) (nD ax ay bx b_y px py)))), .int .u64 (wv3 (pkz (segOk ax ay bx b_y ∧ spotOk px py ∧ rFit (nU ax ay bx b_y px py) (nD ax ay bx b_y px py)) (rDn (nU ax ay bx b_y px py) (nD ax ay bx b_y px py)))), .int .u64 (wv2 (pkz (segOk ax ay bx b_y ∧ spotOk px py ∧ rFit (nU ax ay bx b_y px py) (nD ax ay bx b_y px py)) (rDn (nU ax ay bx b_y px py) (nD ax ay bx b_y px py)))), .int .u64 (wv1 (pkz (segOk ax ay bx b_y ∧ spotOk px py ∧ rFit (nU ax ay bx b_y px py) (nD ax ay bx b_y px py)) (rDn (nU ax ay bx b_y px py) (nD ax ay bx b_y px py)))), .int .u64 (wv0 (pkz (segOk ax ay bx b_y ∧ spotOk px py ∧ rFit (nU ax ay bx b_y px py) (nD ax ay bx b_y px py)) (rDn (nU ax ay bx b_y px py) (nD ax ay bx b_y px py))))] := hD82 6 _ (by kernel_rfl) rfl (by kernel_rfl)
     refine id (oe_store (v := .agg #[.int .u64 (wv3 (pkz (segOk ax ay bx b_y ∧ spotOk px py ∧ rFit (nU ax ay bx b_y px py) (nD ax ay bx b_y px py)) (rUp (nU ax ay bx b_y px py) (nD ax ay bx b_y px py)))), .int .u64 (wv2 (pkz (segOk ax ay bx b_y ∧ spotOk px py ∧ rFit (nU ax ay bx b_y px py) (nD ax ay bx b_y px py)) (rUp (nU ax ay bx b_y px py) (nD ax ay bx b_y px py)))), .int .u64 (wv1 (pkz (segOk ax ay bx b_y ∧ spotOk px py ∧ rFit (nU ax ay bx b_y px py) (nD ax ay bx b_y px py)) (rUp (nU ax ay bx b_y px py) (nD ax ay bx b_y px py)))), .int .u64 (wv0 (pkz (segOk ax ay bx b_y ∧ spotOk px py ∧ rFit (nU ax ay bx b_y px py) (nD ax ay bx b_y px py)) (rUp (nU ax ay bx b_y px py) (nD ax ay bx b_y px py)))), .int .u64 (wv3 (pkz (segOk ax ay bx b_y ∧ spotOk px py ∧ rFit (nU ax ay bx b_y px py) (nD ax ay bx b_y px py)) (rDn (nU ax ay bx b_y px py) (nD ax ay bx b_y px py)))), .int .u64 (wv2 (pkz (segOk ax ay bx b_y ∧ spotOk px py ∧ rFit (nU ax ay bx b_y px py) (nD ax ay bx b_y px py)) (rDn (nU ax ay bx b_y px py) (nD ax ay bx b_y px py)))), .int .u64 (wv1 (pkz (segOk ax ay bx b_y ∧ spotOk px py ∧ rFit (nU ax ay bx b_y px py) (nD ax ay bx b_y px py)) (rDn (nU ax ay bx b_y px py) (nD ax ay bx b_y px py)))), .int .u64 (wv0 (pkz (segOk ax ay bx b_y ∧ spotOk px py ∧ rFit (nU ax ay bx b_y px py) (nD ax ay bx b_y px py)) (rDn (nU ax ay bx b_y px py) (nD ax ay bx b_y px py))))]) (vs := [.int .u64 (wv3 (pkz (segOk ax ay bx b_y ∧ spotOk px py ∧ rFit (nU ax ay bx b_y px py) (nD ax ay bx b_y px py)) (rUp (nU ax ay bx b_y px py) (nD ax ay bx b_y px py)))), .int .u64 (wv2 (pkz (segOk ax ay bx b_y ∧ spotOk px py ∧ rFit (nU ax ay bx b_y px py) (nD ax ay bx b_y px py)) (rUp (nU ax ay bx b_y px py) (nD ax ay bx b_y px py)))), .int .u64 (wv1 (pkz (segOk ax ay bx b_y ∧ spotOk px py ∧ rFit (nU ax ay bx b_y px py) (nD ax ay bx b_y px py)) (rUp (nU ax ay bx b_y px py) (nD ax ay bx b_y px py)))), .int .u64 (wv0 (pkz (segOk ax ay bx b_y ∧ spotOk px py ∧ rFit (nU ax ay bx b_y px py) (nD ax ay bx b_y px py)) (rUp (nU ax ay bx b_y px py) (nD ax ay bx b_y px py)))), .int .u64 (wv3 (pkz (segOk ax ay bx b_y ∧ spotOk px py ∧ rFit (nU ax ay bx b_y px py) (nD ax ay bx b_y px py)) (rDn (nU ax ay bx b_y px py) (nD ax ay bx b_y px py)))), .int .u64 (wv2 (pkz (segOk ax ay bx b_y ∧ spotOk px py ∧ rFit (nU ax ay bx b_y px py) (nD ax ay bx b_y px py)) (rDn (nU ax ay bx b_y px py) (nD ax ay bx b_y px py)))), .int .u64 (wv1 (pkz (segOk ax ay bx b_y ∧ spotOk px py ∧ rFit (nU ax ay bx b_y px py) (nD ax ay bx b_y px py)) (rDn (nU ax ay bx b_y px py) (nD ax ay bx b_y px py)))), .int .u64 (wv0 (pkz (segOk ax ay bx b_y ∧ spotOk px py ∧ rFit (nU ax ay bx b_y px py) (nD ax ay bx b_y px py)) (rDn (nU ax ay bx b_y px py) (nD ax ay bx b_y px py))))]) (l := [.int .u64 (wv3 (pkz (segOk ax ay bx b_y ∧ spotOk px py ∧ rFit (nU ax ay bx b_y px py) (nD ax ay bx b_y px py)) (rUp (nU ax ay bx b_y px py) (nD ax ay bx b_y px py)))), .int .u64 (wv2 (pkz (segOk ax ay bx b_y ∧ spotOk px py ∧ rFit (nU ax ay bx b_y px py) (nD ax ay bx b_y px py)) (rUp (nU ax ay bx b_y px py) (nD ax ay bx b_y px py)))), .int .u64 (wv1 (pkz (segOk ax ay bx b_y ∧ spotOk px py ∧ rFit (nU ax ay bx b_y px py) (nD ax ay bx b_y px py)) (rUp (nU ax ay bx b_y px py) (nD ax ay bx b_y px py)))), .int .u64 (wv0 (pkz (segOk ax ay bx b_y ∧ spotOk px py ∧ rFit (nU ax ay bx b_y px py) (nD ax ay bx b_y px py)) (rUp (nU ax ay bx b_y px py) (nD ax ay bx b_y px py)))), .int .u64 (wv3 (pkz (segOk ax ay bx b_y ∧ spotOk px py ∧ rFit (nU ax ay bx b_y px py) (nD ax ay bx b_y px py)) (rDn (nU ax ay bx b_y px py) (nD ax ay bx b_y px py)))), .int .u64 (wv2 (pkz (segOk ax ay bx b_y ∧ spotOk px py ∧ rFit (nU ax ay bx b_y px py) (nD ax ay bx b_y px py)) (rDn (nU ax ay bx b_y px py) (nD ax ay bx b_y px py)))), .int .u64 (wv1 (pkz (segOk ax ay bx b_y ∧ spotOk px py ∧ rFit (nU ax ay bx b_y px py) (nD ax ay bx b_y px py)) (rDn (nU ax ay bx b_y px py) (nD ax ay bx b_y px py)))), .int .u64 (wv0 (pkz (segOk ax ay bx b_y ∧ spotOk px py ∧ rFit (nU ax ay bx b_y px py) (nD ax ay bx b_y px py)) (rDn (nU ax ay bx b_y px py) (nD ax ay bx b_y px py))))]) (T rfl hA84) (T rfl hv87) sz68 rfl rfl rfl hB85 rfl ?_)
     intro w88 s89 H90
     exact ⟨s89, H90.trans (congrArg (fun v : Value => some (Obj.cells v.cells 68)) (show fr79 15 = _ from hv87).symm)⟩
 intro fr100 w99 e101 hF102 hP103 hM104 hN105
 have E106 := below_ext E10 E10.size e101
 obtain ⟨_, _, _, _, _, _, p107, _, _, _, p108, _⟩ := hP103
 have hv109 : fr100 15 = .agg #[.int .u64 (wv3 (pkz (segOk ax ay bx b_y ∧ spotOk px py ∧ rFit (nU ax ay bx b_y px py) (nD ax ay bx b_y px py)) (rUp (nU ax ay bx b_y px py) (nD ax ay bx b_y px py)))), .int .u64 (wv2 (pkz (segOk ax ay bx b_y ∧ spotOk px py ∧ rFit (nU ax ay bx b_y px py) (nD ax ay bx b_y px py)) (rUp (nU ax ay bx b_y px py) (nD ax ay bx b_y px py)))), .int .u64 (wv1 (pkz (segOk ax ay bx b_y ∧ spotOk px py ∧ rFit (nU ax ay bx b_y px py) (nD ax ay bx b_y px py)) (rUp (nU ax ay bx b_y px py) (nD ax ay bx b_y px py)))), .int .u64 (wv0 (pkz (segOk ax ay bx b_y ∧ spotOk px py ∧ rFit (nU ax ay bx b_y px py) (nD ax ay bx b_y px py)) (rUp (nU ax ay bx b_y px py) (nD ax ay bx b_y px py)))), .int .u64 (wv3 (pkz (segOk ax ay bx b_y ∧ spotOk px py ∧ rFit (nU ax ay bx b_y px py) (nD ax ay bx b_y px py)) (rDn (nU ax ay bx b_y px py) (nD ax ay bx b_y px py)))), .int .u64 (wv2 (pkz (segOk ax ay bx b_y ∧ spotOk px py ∧ rFit (nU ax ay bx b_y px py) (nD ax ay bx b_y px py)) (rDn (nU ax ay bx b_y px py) (nD ax ay bx b_y px py)))), .int .u64 (wv1 (pkz (segOk ax ay bx b_y ∧ spotOk px py ∧ rFit (nU ax ay bx b_y px py) (nD ax ay bx b_y px py)) (rDn (nU ax ay bx b_y px py) (nD ax ay bx b_y px py)))), .int .u64 (wv0 (pkz (segOk ax ay bx b_y ∧ spotOk px py ∧ rFit (nU ax ay bx b_y px py) (nD ax ay bx b_y px py)) (rDn (nU ax ay bx b_y px py) (nD ax ay bx b_y px py))))] := p107.resolve_left (nst (by kernel_rfl))
 have hv110 : fr100 6 = .bool (decide (segOk ax ay bx b_y ∧ spotOk px py ∧ rFit (nU ax ay bx b_y px py) (nD ax ay bx b_y px py))) := p108.resolve_left (nst (by kernel_rfl))
 obtain ⟨⟨b111, hA112, hB113, hC114⟩, _⟩ := hM104
 have H115 : w99.heap[b111]? = some (.cells #[.int .u64 (wv3 (pkz (segOk ax ay bx b_y ∧ spotOk px py ∧ rFit (nU ax ay bx b_y px py) (nD ax ay bx b_y px py)) (rUp (nU ax ay bx b_y px py) (nD ax ay bx b_y px py)))), .int .u64 (wv2 (pkz (segOk ax ay bx b_y ∧ spotOk px py ∧ rFit (nU ax ay bx b_y px py) (nD ax ay bx b_y px py)) (rUp (nU ax ay bx b_y px py) (nD ax ay bx b_y px py)))), .int .u64 (wv1 (pkz (segOk ax ay bx b_y ∧ spotOk px py ∧ rFit (nU ax ay bx b_y px py) (nD ax ay bx b_y px py)) (rUp (nU ax ay bx b_y px py) (nD ax ay bx b_y px py)))), .int .u64 (wv0 (pkz (segOk ax ay bx b_y ∧ spotOk px py ∧ rFit (nU ax ay bx b_y px py) (nD ax ay bx b_y px py)) (rUp (nU ax ay bx b_y px py) (nD ax ay bx b_y px py)))), .int .u64 (wv3 (pkz (segOk ax ay bx b_y ∧ spotOk px py ∧ rFit (nU ax ay bx b_y px py) (nD ax ay bx b_y px py)) (rDn (nU ax ay bx b_y px py) (nD ax ay bx b_y px py)))), .int .u64 (wv2 (pkz (segOk ax ay bx b_y ∧ spotOk px py ∧ rFit (nU ax ay bx b_y px py) (nD ax ay bx b_y px py)) (rDn (nU ax ay bx b_y px py) (nD ax ay bx b_y px py)))), .int .u64 (wv1 (pkz (segOk ax ay bx b_y ∧ spotOk px py ∧ rFit (nU ax ay bx b_y px py) (nD ax ay bx b_y px py)) (rDn (nU ax ay bx b_y px py) (nD ax ay bx b_y px py)))), .int .u64 (wv0 (pkz (segOk ax ay bx b_y ∧ spotOk px py ∧ rFit (nU ax ay bx b_y px py) (nD ax ay bx b_y px py)) (rDn (nU ax ay bx b_y px py) (nD ax ay bx b_y px py))))] 68) := hC114.trans (congrArg (fun v : Value => some (Obj.cells v.cells 68)) hv109)
 have N116 : w.heap.size ≤ b111 := by omega
 refine rk_seq ?_
 have H117 := (e101.blk H11)
 have : b1 < w99.heap.size := lt_of_blk H117
 have H118 := (e101.blk n8.blk)
 have : b6 < w99.heap.size := lt_of_blk H118
 have : b111 < w99.heap.size := lt_of_blk H115
 have : w.heap.size ≤ w99.heap.size := E106.size
 refine rk_par2 [fun vq wq_ => vq = .agg #[.int .i64 ax, .int .i64 ay, .int .i64 bx, .int .i64 b_y], fun vq wq_ => vq = .agg #[.int .i64 ax, .int .i64 ay, .int .i64 bx, .int .i64 b_y], fun vq wq_ => vq = .agg #[.int .i64 px, .int .i64 py], fun vq wq_ => vq = .agg #[.int .i64 px, .int .i64 py], fun vq wq_ => vq = .tuple #[.agg #[.int .u64 (wv3 (pkz (segOk ax ay bx b_y ∧ spotOk px py ∧ rFit (nU ax ay bx b_y px py) (nD ax ay bx b_y px py)) (rUp (nU ax ay bx b_y px py) (nD ax ay bx b_y px py)))), .int .u64 (wv2 (pkz (segOk ax ay bx b_y ∧ spotOk px py ∧ rFit (nU ax ay bx b_y px py) (nD ax ay bx b_y px py)) (rUp (nU ax ay bx b_y px py) (nD ax ay bx b_y px py)))), .int .u64 (wv1 (pkz (segOk ax ay bx b_y ∧ spotOk px py ∧ rFit (nU ax ay bx b_y px py) (nD ax ay bx b_y px py)) (rUp (nU ax ay bx b_y px py) (nD ax ay bx b_y px py)))), .int .u64 (wv0 (pkz (segOk ax ay bx b_y ∧ spotOk px py ∧ rFit (nU ax ay bx b_y px py) (nD ax ay bx b_y px py)) (rUp (nU ax ay bx b_y px py) (nD ax ay bx b_y px py)))), .int .u64 (wv3 (pkz (segOk ax ay bx b_y ∧ spotOk px py ∧ rFit (nU ax ay bx b_y px py) (nD ax ay bx b_y px py)) (rDn (nU ax ay bx b_y px py) (nD ax ay bx b_y px py)))), .int .u64 (wv2 (pkz (segOk ax ay bx b_y ∧ spotOk px py ∧ rFit (nU ax ay bx b_y px py) (nD ax ay bx b_y px py)) (rDn (nU ax ay bx b_y px py) (nD ax ay bx b_y px py)))), .int .u64 (wv1 (pkz (segOk ax ay bx b_y ∧ spotOk px py ∧ rFit (nU ax ay bx b_y px py) (nD ax ay bx b_y px py)) (rDn (nU ax ay bx b_y px py) (nD ax ay bx b_y px py)))), .int .u64 (wv0 (pkz (segOk ax ay bx b_y ∧ spotOk px py ∧ rFit (nU ax ay bx b_y px py) (nD ax ay bx b_y px py)) (rDn (nU ax ay bx b_y px py) (nD ax ay bx b_y px py))))], .bool (decide (segOk ax ay bx b_y ∧ spotOk px py ∧ rFit (nU ax ay bx b_y px py) (nD ax ay bx b_y px py)))], fun vq wq_ => vq = .tuple #[.agg #[.int .u64 (wv3 (pkz (segOk ax ay bx b_y ∧ spotOk px py ∧ rFit (nU ax ay bx b_y px py) (nD ax ay bx b_y px py)) (rUp (nU ax ay bx b_y px py) (nD ax ay bx b_y px py)))), .int .u64 (wv2 (pkz (segOk ax ay bx b_y ∧ spotOk px py ∧ rFit (nU ax ay bx b_y px py) (nD ax ay bx b_y px py)) (rUp (nU ax ay bx b_y px py) (nD ax ay bx b_y px py)))), .int .u64 (wv1 (pkz (segOk ax ay bx b_y ∧ spotOk px py ∧ rFit (nU ax ay bx b_y px py) (nD ax ay bx b_y px py)) (rUp (nU ax ay bx b_y px py) (nD ax ay bx b_y px py)))), .int .u64 (wv0 (pkz (segOk ax ay bx b_y ∧ spotOk px py ∧ rFit (nU ax ay bx b_y px py) (nD ax ay bx b_y px py)) (rUp (nU ax ay bx b_y px py) (nD ax ay bx b_y px py)))), .int .u64 (wv3 (pkz (segOk ax ay bx b_y ∧ spotOk px py ∧ rFit (nU ax ay bx b_y px py) (nD ax ay bx b_y px py)) (rDn (nU ax ay bx b_y px py) (nD ax ay bx b_y px py)))), .int .u64 (wv2 (pkz (segOk ax ay bx b_y ∧ spotOk px py ∧ rFit (nU ax ay bx b_y px py) (nD ax ay bx b_y px py)) (rDn (nU ax ay bx b_y px py) (nD ax ay bx b_y px py)))), .int .u64 (wv1 (pkz (segOk ax ay bx b_y ∧ spotOk px py ∧ rFit (nU ax ay bx b_y px py) (nD ax ay bx b_y px py)) (rDn (nU ax ay bx b_y px py) (nD ax ay bx b_y px py)))), .int .u64 (wv0 (pkz (segOk ax ay bx b_y ∧ spotOk px py ∧ rFit (nU ax ay bx b_y px py) (nD ax ay bx b_y px py)) (rDn (nU ax ay bx b_y px py) (nD ax ay bx b_y px py))))], .bool (decide (segOk ax ay bx b_y ∧ spotOk px py ∧ rFit (nU ax ay bx b_y px py) (nD ax ay bx b_y px py)))], fun vq wq_ => vq = .agg #[.int .u64 (wv3 (pkz (segOk ax ay bx b_y ∧ spotOk px py ∧ rFit (nU ax ay bx b_y px py) (nD ax ay bx b_y px py)) (rUp (nU ax ay bx b_y px py) (nD ax ay bx b_y px py)))), .int .u64 (wv2 (pkz (segOk ax ay bx b_y ∧ spotOk px py ∧ rFit (nU ax ay bx b_y px py) (nD ax ay bx b_y px py)) (rUp (nU ax ay bx b_y px py) (nD ax ay bx b_y px py)))), .int .u64 (wv1 (pkz (segOk ax ay bx b_y ∧ spotOk px py ∧ rFit (nU ax ay bx b_y px py) (nD ax ay bx b_y px py)) (rUp (nU ax ay bx b_y px py) (nD ax ay bx b_y px py)))), .int .u64 (wv0 (pkz (segOk ax ay bx b_y ∧ spotOk px py ∧ rFit (nU ax ay bx b_y px py) (nD ax ay bx b_y px py)) (rUp (nU ax ay bx b_y px py) (nD ax ay bx b_y px py)))), .int .u64 (wv3 (pkz (segOk ax ay bx b_y ∧ spotOk px py ∧ rFit (nU ax ay bx b_y px py) (nD ax ay bx b_y px py)) (rDn (nU ax ay bx b_y px py) (nD ax ay bx b_y px py)))), .int .u64 (wv2 (pkz (segOk ax ay bx b_y ∧ spotOk px py ∧ rFit (nU ax ay bx b_y px py) (nD ax ay bx b_y px py)) (rDn (nU ax ay bx b_y px py) (nD ax ay bx b_y px py)))), .int .u64 (wv1 (pkz (segOk ax ay bx b_y ∧ spotOk px py ∧ rFit (nU ax ay bx b_y px py) (nD ax ay bx b_y px py)) (rDn (nU ax ay bx b_y px py) (nD ax ay bx b_y px py)))), .int .u64 (wv0 (pkz (segOk ax ay bx b_y ∧ spotOk px py ∧ rFit (nU ax ay bx b_y px py) (nD ax ay bx b_y px py)) (rDn (nU ax ay bx b_y px py) (nD ax ay bx b_y px py))))], fun vq wq_ => vq = .bool (decide (segOk ax ay bx b_y ∧ spotOk px py ∧ rFit (nU ax ay bx b_y px py) (nD ax ay bx b_y px py))), fun _ _ => True, fun _ _ => True, fun vq wq_ => vq = .bool (decide (segOk ax ay bx b_y ∧ spotOk px py ∧ rFit (nU ax ay bx b_y px py) (nD ax ay bx b_y px py)))] [⟨8, 9, 6, 68, #[.int .u64 0, .int .u64 0, .int .u64 0, .int .u64 0, .int .u64 0, .int .u64 0, .int .u64 0, .int .u64 0]⟩] [68] mo (by kernel_rfl) (by kernel_rfl) ?_ ?_ ?_ ?_ ?_
 · intro e he e2 he2 h; simp only [List.mem_cons, List.not_mem_nil, or_false] at he he2; rcases he with rfl <;> rcases he2 with rfl <;> first | rfl | exact absurd h (by decide)
 · exact ⟨⟨fun v w w2 e h => h, fun v w w2 b cs T fz s hb hT h => h⟩, ⟨fun v w w2 e h => h, fun v w w2 b cs T fz s hb hT h => h⟩, ⟨fun v w w2 e h => h, fun v w w2 b cs T fz s hb hT h => h⟩, ⟨fun v w w2 e h => h, fun v w w2 b cs T fz s hb hT h => h⟩, ⟨fun v w w2 e h => h, fun v w w2 b cs T fz s hb hT h => h⟩, ⟨fun v w w2 e h => h, fun v w w2 b cs T fz s hb hT h => h⟩, ⟨fun v w w2 e h => h, fun v w w2 b cs T fz s hb hT h => h⟩, ⟨fun v w w2 e h => h, fun v w w2 b cs T fz s hb hT h => h⟩, ⟨fun v w w2 e h => h, fun v w w2 b cs T fz s hb hT h => h⟩, ⟨fun v w w2 e h => h, fun v w w2 b cs T fz s hb hT h => h⟩, ⟨fun v w w2 e h => h, fun v w w2 b cs T fz s hb hT h => h⟩, trivial⟩
 · refine ⟨?_, ?_, ?_, ?_, ?_, ?_, ?_, ?_, ?_, ?_, ?_, trivial⟩
   · refine .inr ⟨by kernel_rfl, ?_⟩
     intro fr120 w119 e121 hF122 hD123
     have E124 := below_ext E106 E106.size e121
     have H125 := (e121.blk H117)
     exact DV.oe (dv_loads (l := [.int .i64 ax, .int .i64 ay, .int .i64 bx, .int .i64 b_y]) agt43 sz43 (T rfl ((hF122 2 (by kernel_rfl)).trans (hF102 2 rfl))) H125 rfl) ⟨Below.refl _ _, rfl⟩
   · refine .inr ⟨by kernel_rfl, ?_⟩
     intro fr127 w126 e128 hF129 hD130
     have E131 := below_ext E106 E106.size e128
     have hv132 : fr127 18 = .agg #[.int .i64 ax, .int .i64 ay, .int .i64 bx, .int .i64 b_y] := hD130 0 _ (by kernel_rfl) rfl (by kernel_rfl)
     refine id (oe_callf (vs := [.agg #[.int .i64 ax, .int .i64 ay, .int .i64 bx, .int .i64 b_y]]) co24 (ar1 (T rfl hv132)) (toSeg_ok (ax := ax) (ay := ay) (bx := bx) (b_y := b_y)  ) ?_)
     rintro _ w133 ⟨rfl, e134⟩
     have E135 := below_ext E131 E131.size e134
     exact ⟨e134, rfl⟩
   · refine .inr ⟨by kernel_rfl, ?_⟩
     intro fr137 w136 e138 hF139 hD140
     have E141 := below_ext E106 E106.size e138
     have H142 := (e138.blk H118)
     exact DV.oe (dv_loads (l := [.int .i64 px, .int .i64 py]) agt41 sz41 (T rfl ((hF139 3 (by kernel_rfl)).trans (hF102 3 rfl))) H142 rfl) ⟨Below.refl _ _, rfl⟩
   · refine .inr ⟨by kernel_rfl, ?_⟩
     intro fr144 w143 e145 hF146 hD147
     have E148 := below_ext E106 E106.size e145
     have hv149 : fr144 20 = .agg #[.int .i64 px, .int .i64 py] := hD147 2 _ (by kernel_rfl) rfl (by kernel_rfl)
     refine id (oe_callf (vs := [.agg #[.int .i64 px, .int .i64 py]]) co45 (ar1 (T rfl hv149)) (toSpot_ok (x := px) (y := py)  ) ?_)
     rintro _ w150 ⟨rfl, e151⟩
     have E152 := below_ext E148 E148.size e151
     exact ⟨e151, rfl⟩
   · refine .inr ⟨by kernel_rfl, ?_⟩
     intro fr154 w153 e155 hF156 hD157
     have E158 := below_ext E106 E106.size e155
     have hv159 : fr154 19 = .agg #[.int .i64 ax, .int .i64 ay, .int .i64 bx, .int .i64 b_y] := hD157 1 _ (by kernel_rfl) rfl (by kernel_rfl)
     have hv160 : fr154 21 = .agg #[.int .i64 px, .int .i64 py] := hD157 3 _ (by kernel_rfl) rfl (by kernel_rfl)
     refine id (oe_callf (vs := [.agg #[.int .i64 ax, .int .i64 ay, .int .i64 bx, .int .i64 b_y], .agg #[.int .i64 px, .int .i64 py]]) co46 (ar2 (T rfl hv159) (T rfl hv160)) (iNear2_ok (ax := ax) (ay := ay) (bx := bx) (b_y := b_y) (px := px) (py := py)  ) ?_)
     rintro _ w161 ⟨rfl, e162⟩
     have E163 := below_ext E158 E158.size e162
     exact ⟨e162, rfl⟩
   · refine .inr ⟨by kernel_rfl, ?_⟩
     intro fr165 w164 e166 hF167 hD168
     have E169 := below_ext E106 E106.size e166
     have hv170 : fr165 22 = .tuple #[.agg #[.int .u64 (wv3 (pkz (segOk ax ay bx b_y ∧ spotOk px py ∧ rFit (nU ax ay bx b_y px py) (nD ax ay bx b_y px py)) (rUp (nU ax ay bx b_y px py) (nD ax ay bx b_y px py)))), .int .u64 (wv2 (pkz (segOk ax ay bx b_y ∧ spotOk px py ∧ rFit (nU ax ay bx b_y px py) (nD ax ay bx b_y px py)) (rUp (nU ax ay bx b_y px py) (nD ax ay bx b_y px py)))), .int .u64 (wv1 (pkz (segOk ax ay bx b_y ∧ spotOk px py ∧ rFit (nU ax ay bx b_y px py) (nD ax ay bx b_y px py)) (rUp (nU ax ay bx b_y px py) (nD ax ay bx b_y px py)))), .int .u64 (wv0 (pkz (segOk ax ay bx b_y ∧ spotOk px py ∧ rFit (nU ax ay bx b_y px py) (nD ax ay bx b_y px py)) (rUp (nU ax ay bx b_y px py) (nD ax ay bx b_y px py)))), .int .u64 (wv3 (pkz (segOk ax ay bx b_y ∧ spotOk px py ∧ rFit (nU ax ay bx b_y px py) (nD ax ay bx b_y px py)) (rDn (nU ax ay bx b_y px py) (nD ax ay bx b_y px py)))), .int .u64 (wv2 (pkz (segOk ax ay bx b_y ∧ spotOk px py ∧ rFit (nU ax ay bx b_y px py) (nD ax ay bx b_y px py)) (rDn (nU ax ay bx b_y px py) (nD ax ay bx b_y px py)))), .int .u64 (wv1 (pkz (segOk ax ay bx b_y ∧ spotOk px py ∧ rFit (nU ax ay bx b_y px py) (nD ax ay bx b_y px py)) (rDn (nU ax ay bx b_y px py) (nD ax ay bx b_y px py)))), .int .u64 (wv0 (pkz (segOk ax ay bx b_y ∧ spotOk px py ∧ rFit (nU ax ay bx b_y px py) (nD ax ay bx b_y px py)) (rDn (nU ax ay bx b_y px py) (nD ax ay bx b_y px py))))], .bool (decide (segOk ax ay bx b_y ∧ spotOk px py ∧ rFit (nU ax ay bx b_y px py) (nD ax ay bx b_y px py)))] := hD168 4 _ (by kernel_rfl) rfl (by kernel_rfl)
     exact DV.oe (dv_move (T rfl hv170)) ⟨Below.refl _ _, rfl⟩
   · refine .inr ⟨by kernel_rfl, ?_⟩
     intro fr172 w171 e173 hF174 hD175
     have E176 := below_ext E106 E106.size e173
     have hv177 : fr172 17 = .tuple #[.agg #[.int .u64 (wv3 (pkz (segOk ax ay bx b_y ∧ spotOk px py ∧ rFit (nU ax ay bx b_y px py) (nD ax ay bx b_y px py)) (rUp (nU ax ay bx b_y px py) (nD ax ay bx b_y px py)))), .int .u64 (wv2 (pkz (segOk ax ay bx b_y ∧ spotOk px py ∧ rFit (nU ax ay bx b_y px py) (nD ax ay bx b_y px py)) (rUp (nU ax ay bx b_y px py) (nD ax ay bx b_y px py)))), .int .u64 (wv1 (pkz (segOk ax ay bx b_y ∧ spotOk px py ∧ rFit (nU ax ay bx b_y px py) (nD ax ay bx b_y px py)) (rUp (nU ax ay bx b_y px py) (nD ax ay bx b_y px py)))), .int .u64 (wv0 (pkz (segOk ax ay bx b_y ∧ spotOk px py ∧ rFit (nU ax ay bx b_y px py) (nD ax ay bx b_y px py)) (rUp (nU ax ay bx b_y px py) (nD ax ay bx b_y px py)))), .int .u64 (wv3 (pkz (segOk ax ay bx b_y ∧ spotOk px py ∧ rFit (nU ax ay bx b_y px py) (nD ax ay bx b_y px py)) (rDn (nU ax ay bx b_y px py) (nD ax ay bx b_y px py)))), .int .u64 (wv2 (pkz (segOk ax ay bx b_y ∧ spotOk px py ∧ rFit (nU ax ay bx b_y px py) (nD ax ay bx b_y px py)) (rDn (nU ax ay bx b_y px py) (nD ax ay bx b_y px py)))), .int .u64 (wv1 (pkz (segOk ax ay bx b_y ∧ spotOk px py ∧ rFit (nU ax ay bx b_y px py) (nD ax ay bx b_y px py)) (rDn (nU ax ay bx b_y px py) (nD ax ay bx b_y px py)))), .int .u64 (wv0 (pkz (segOk ax ay bx b_y ∧ spotOk px py ∧ rFit (nU ax ay bx b_y px py) (nD ax ay bx b_y px py)) (rDn (nU ax ay bx b_y px py) (nD ax ay bx b_y px py))))], .bool (decide (segOk ax ay bx b_y ∧ spotOk px py ∧ rFit (nU ax ay bx b_y px py) (nD ax ay bx b_y px py)))] := hD175 5 _ (by kernel_rfl) rfl (by kernel_rfl)
     exact DV.oe (dv_extract (vs := #[.agg #[.int .u64 (wv3 (pkz (segOk ax ay bx b_y ∧ spotOk px py ∧ rFit (nU ax ay bx b_y px py) (nD ax ay bx b_y px py)) (rUp (nU ax ay bx b_y px py) (nD ax ay bx b_y px py)))), .int .u64 (wv2 (pkz (segOk ax ay bx b_y ∧ spotOk px py ∧ rFit (nU ax ay bx b_y px py) (nD ax ay bx b_y px py)) (rUp (nU ax ay bx b_y px py) (nD ax ay bx b_y px py)))), .int .u64 (wv1 (pkz (segOk ax ay bx b_y ∧ spotOk px py ∧ rFit (nU ax ay bx b_y px py) (nD ax ay bx b_y px py)) (rUp (nU ax ay bx b_y px py) (nD ax ay bx b_y px py)))), .int .u64 (wv0 (pkz (segOk ax ay bx b_y ∧ spotOk px py ∧ rFit (nU ax ay bx b_y px py) (nD ax ay bx b_y px py)) (rUp (nU ax ay bx b_y px py) (nD ax ay bx b_y px py)))), .int .u64 (wv3 (pkz (segOk ax ay bx b_y ∧ spotOk px py ∧ rFit (nU ax ay bx b_y px py) (nD ax ay bx b_y px py)) (rDn (nU ax ay bx b_y px py) (nD ax ay bx b_y px py)))), .int .u64 (wv2 (pkz (segOk ax ay bx b_y ∧ spotOk px py ∧ rFit (nU ax ay bx b_y px py) (nD ax ay bx b_y px py)) (rDn (nU ax ay bx b_y px py) (nD ax ay bx b_y px py)))), .int .u64 (wv1 (pkz (segOk ax ay bx b_y ∧ spotOk px py ∧ rFit (nU ax ay bx b_y px py) (nD ax ay bx b_y px py)) (rDn (nU ax ay bx b_y px py) (nD ax ay bx b_y px py)))), .int .u64 (wv0 (pkz (segOk ax ay bx b_y ∧ spotOk px py ∧ rFit (nU ax ay bx b_y px py) (nD ax ay bx b_y px py)) (rDn (nU ax ay bx b_y px py) (nD ax ay bx b_y px py))))], .bool (decide (segOk ax ay bx b_y ∧ spotOk px py ∧ rFit (nU ax ay bx b_y px py) (nD ax ay bx b_y px py)))]) (T rfl hv177) rfl) ⟨Below.refl _ _, rfl⟩
   · refine .inr ⟨by kernel_rfl, ?_⟩
     intro fr179 w178 e180 hF181 hD182
     have E183 := below_ext E106 E106.size e180
     have hv184 : fr179 17 = .tuple #[.agg #[.int .u64 (wv3 (pkz (segOk ax ay bx b_y ∧ spotOk px py ∧ rFit (nU ax ay bx b_y px py) (nD ax ay bx b_y px py)) (rUp (nU ax ay bx b_y px py) (nD ax ay bx b_y px py)))), .int .u64 (wv2 (pkz (segOk ax ay bx b_y ∧ spotOk px py ∧ rFit (nU ax ay bx b_y px py) (nD ax ay bx b_y px py)) (rUp (nU ax ay bx b_y px py) (nD ax ay bx b_y px py)))), .int .u64 (wv1 (pkz (segOk ax ay bx b_y ∧ spotOk px py ∧ rFit (nU ax ay bx b_y px py) (nD ax ay bx b_y px py)) (rUp (nU ax ay bx b_y px py) (nD ax ay bx b_y px py)))), .int .u64 (wv0 (pkz (segOk ax ay bx b_y ∧ spotOk px py ∧ rFit (nU ax ay bx b_y px py) (nD ax ay bx b_y px py)) (rUp (nU ax ay bx b_y px py) (nD ax ay bx b_y px py)))), .int .u64 (wv3 (pkz (segOk ax ay bx b_y ∧ spotOk px py ∧ rFit (nU ax ay bx b_y px py) (nD ax ay bx b_y px py)) (rDn (nU ax ay bx b_y px py) (nD ax ay bx b_y px py)))), .int .u64 (wv2 (pkz (segOk ax ay bx b_y ∧ spotOk px py ∧ rFit (nU ax ay bx b_y px py) (nD ax ay bx b_y px py)) (rDn (nU ax ay bx b_y px py) (nD ax ay bx b_y px py)))), .int .u64 (wv1 (pkz (segOk ax ay bx b_y ∧ spotOk px py ∧ rFit (nU ax ay bx b_y px py) (nD ax ay bx b_y px py)) (rDn (nU ax ay bx b_y px py) (nD ax ay bx b_y px py)))), .int .u64 (wv0 (pkz (segOk ax ay bx b_y ∧ spotOk px py ∧ rFit (nU ax ay bx b_y px py) (nD ax ay bx b_y px py)) (rDn (nU ax ay bx b_y px py) (nD ax ay bx b_y px py))))], .bool (decide (segOk ax ay bx b_y ∧ spotOk px py ∧ rFit (nU ax ay bx b_y px py) (nD ax ay bx b_y px py)))] := hD182 5 _ (by kernel_rfl) rfl (by kernel_rfl)
     exact DV.oe (dv_extract (vs := #[.agg #[.int .u64 (wv3 (pkz (segOk ax ay bx b_y ∧ spotOk px py ∧ rFit (nU ax ay bx b_y px py) (nD ax ay bx b_y px py)) (rUp (nU ax ay bx b_y px py) (nD ax ay bx b_y px py)))), .int .u64 (wv2 (pkz (segOk ax ay bx b_y ∧ spotOk px py ∧ rFit (nU ax ay bx b_y px py) (nD ax ay bx b_y px py)) (rUp (nU ax ay bx b_y px py) (nD ax ay bx b_y px py)))), .int .u64 (wv1 (pkz (segOk ax ay bx b_y ∧ spotOk px py ∧ rFit (nU ax ay bx b_y px py) (nD ax ay bx b_y px py)) (rUp (nU ax ay bx b_y px py) (nD ax ay bx b_y px py)))), .int .u64 (wv0 (pkz (segOk ax ay bx b_y ∧ spotOk px py ∧ rFit (nU ax ay bx b_y px py) (nD ax ay bx b_y px py)) (rUp (nU ax ay bx b_y px py) (nD ax ay bx b_y px py)))), .int .u64 (wv3 (pkz (segOk ax ay bx b_y ∧ spotOk px py ∧ rFit (nU ax ay bx b_y px py) (nD ax ay bx b_y px py)) (rDn (nU ax ay bx b_y px py) (nD ax ay bx b_y px py)))), .int .u64 (wv2 (pkz (segOk ax ay bx b_y ∧ spotOk px py ∧ rFit (nU ax ay bx b_y px py) (nD ax ay bx b_y px py)) (rDn (nU ax ay bx b_y px py) (nD ax ay bx b_y px py)))), .int .u64 (wv1 (pkz (segOk ax ay bx b_y ∧ spotOk px py ∧ rFit (nU ax ay bx b_y px py) (nD ax ay bx b_y px py)) (rDn (nU ax ay bx b_y px py) (nD ax ay bx b_y px py)))), .int .u64 (wv0 (pkz (segOk ax ay bx b_y ∧ spotOk px py ∧ rFit (nU ax ay bx b_y px py) (nD ax ay bx b_y px py)) (rDn (nU ax ay bx b_y px py) (nD ax ay bx b_y px py))))], .bool (decide (segOk ax ay bx b_y ∧ spotOk px py ∧ rFit (nU ax ay bx b_y px py) (nD ax ay bx b_y px py)))]) (T rfl hv184) rfl) ⟨Below.refl _ _, rfl⟩
   · exact .inl (.inr ⟨by kernel_rfl, fun _ _ => trivial⟩)
   · exact .inl (.inl (by kernel_rfl))
   · refine .inr ⟨by kernel_rfl, ?_⟩
     intro fr200 w199 e201 hF202 hD203
     have E204 := below_ext E106 E106.size e201
     have hv205 : fr200 24 = .bool (decide (segOk ax ay bx b_y ∧ spotOk px py ∧ rFit (nU ax ay bx b_y px py) (nD ax ay bx b_y px py))) := hD203 7 _ (by kernel_rfl) rfl (by kernel_rfl)
     exact DV.oe (dv_assign (T rfl hv205)) ⟨Below.refl _ _, rfl⟩
 · refine ⟨⟨⟨_, rfl, fun _ _ => oe_alloc ze68 fun b w hn => ⟨b, rfl, hn⟩⟩, ⟨_, rfl, ?_⟩⟩, trivial⟩
   · intro fr186 w185 b190 e187 hF188 hD189 hA191 hB192
     have E193 := below_ext E106 E106.size e187
     have hv194 : fr186 23 = .agg #[.int .u64 (wv3 (pkz (segOk ax ay bx b_y ∧ spotOk px py ∧ rFit (nU ax ay bx b_y px py) (nD ax ay bx b_y px py)) (rUp (nU ax ay bx b_y px py) (nD ax ay bx b_y px py)))), .int .u64 (wv2 (pkz (segOk ax ay bx b_y ∧ spotOk px py ∧ rFit (nU ax ay bx b_y px py) (nD ax ay bx b_y px py)) (rUp (nU ax ay bx b_y px py) (nD ax ay bx b_y px py)))), .int .u64 (wv1 (pkz (segOk ax ay bx b_y ∧ spotOk px py ∧ rFit (nU ax ay bx b_y px py) (nD ax ay bx b_y px py)) (rUp (nU ax ay bx b_y px py) (nD ax ay bx b_y px py)))), .int .u64 (wv0 (pkz (segOk ax ay bx b_y ∧ spotOk px py ∧ rFit (nU ax ay bx b_y px py) (nD ax ay bx b_y px py)) (rUp (nU ax ay bx b_y px py) (nD ax ay bx b_y px py)))), .int .u64 (wv3 (pkz (segOk ax ay bx b_y ∧ spotOk px py ∧ rFit (nU ax ay bx b_y px py) (nD ax ay bx b_y px py)) (rDn (nU ax ay bx b_y px py) (nD ax ay bx b_y px py)))), .int .u64 (wv2 (pkz (segOk ax ay bx b_y ∧ spotOk px py ∧ rFit (nU ax ay bx b_y px py) (nD ax ay bx b_y px py)) (rDn (nU ax ay bx b_y px py) (nD ax ay bx b_y px py)))), .int .u64 (wv1 (pkz (segOk ax ay bx b_y ∧ spotOk px py ∧ rFit (nU ax ay bx b_y px py) (nD ax ay bx b_y px py)) (rDn (nU ax ay bx b_y px py) (nD ax ay bx b_y px py)))), .int .u64 (wv0 (pkz (segOk ax ay bx b_y ∧ spotOk px py ∧ rFit (nU ax ay bx b_y px py) (nD ax ay bx b_y px py)) (rDn (nU ax ay bx b_y px py) (nD ax ay bx b_y px py))))] := hD189 6 _ (by kernel_rfl) rfl (by kernel_rfl)
     refine id (oe_store (v := .agg #[.int .u64 (wv3 (pkz (segOk ax ay bx b_y ∧ spotOk px py ∧ rFit (nU ax ay bx b_y px py) (nD ax ay bx b_y px py)) (rUp (nU ax ay bx b_y px py) (nD ax ay bx b_y px py)))), .int .u64 (wv2 (pkz (segOk ax ay bx b_y ∧ spotOk px py ∧ rFit (nU ax ay bx b_y px py) (nD ax ay bx b_y px py)) (rUp (nU ax ay bx b_y px py) (nD ax ay bx b_y px py)))), .int .u64 (wv1 (pkz (segOk ax ay bx b_y ∧ spotOk px py ∧ rFit (nU ax ay bx b_y px py) (nD ax ay bx b_y px py)) (rUp (nU ax ay bx b_y px py) (nD ax ay bx b_y px py)))), .int .u64 (wv0 (pkz (segOk ax ay bx b_y ∧ spotOk px py ∧ rFit (nU ax ay bx b_y px py) (nD ax ay bx b_y px py)) (rUp (nU ax ay bx b_y px py) (nD ax ay bx b_y px py)))), .int .u64 (wv3 (pkz (segOk ax ay bx b_y ∧ spotOk px py ∧ rFit (nU ax ay bx b_y px py) (nD ax ay bx b_y px py)) (rDn (nU ax ay bx b_y px py) (nD ax ay bx b_y px py)))), .int .u64 (wv2 (pkz (segOk ax ay bx b_y ∧ spotOk px py ∧ rFit (nU ax ay bx b_y px py) (nD ax ay bx b_y px py)) (rDn (nU ax ay bx b_y px py) (nD ax ay bx b_y px py)))), .int .u64 (wv1 (pkz (segOk ax ay bx b_y ∧ spotOk px py ∧ rFit (nU ax ay bx b_y px py) (nD ax ay bx b_y px py)) (rDn (nU ax ay bx b_y px py) (nD ax ay bx b_y px py)))), .int .u64 (wv0 (pkz (segOk ax ay bx b_y ∧ spotOk px py ∧ rFit (nU ax ay bx b_y px py) (nD ax ay bx b_y px py)) (rDn (nU ax ay bx b_y px py) (nD ax ay bx b_y px py))))]) (vs := [.int .u64 (wv3 (pkz (segOk ax ay bx b_y ∧ spotOk px py ∧ rFit (nU ax ay bx b_y px py) (nD ax ay bx b_y px py)) (rUp (nU ax ay bx b_y px py) (nD ax ay bx b_y px py)))), .int .u64 (wv2 (pkz (segOk ax ay bx b_y ∧ spotOk px py ∧ rFit (nU ax ay bx b_y px py) (nD ax ay bx b_y px py)) (rUp (nU ax ay bx b_y px py) (nD ax ay bx b_y px py)))), .int .u64 (wv1 (pkz (segOk ax ay bx b_y ∧ spotOk px py ∧ rFit (nU ax ay bx b_y px py) (nD ax ay bx b_y px py)) (rUp (nU ax ay bx b_y px py) (nD ax ay bx b_y px py)))), .int .u64 (wv0 (pkz (segOk ax ay bx b_y ∧ spotOk px py ∧ rFit (nU ax ay bx b_y px py) (nD ax ay bx b_y px py)) (rUp (nU ax ay bx b_y px py) (nD ax ay bx b_y px py)))), .int .u64 (wv3 (pkz (segOk ax ay bx b_y ∧ spotOk px py ∧ rFit (nU ax ay bx b_y px py) (nD ax ay bx b_y px py)) (rDn (nU ax ay bx b_y px py) (nD ax ay bx b_y px py)))), .int .u64 (wv2 (pkz (segOk ax ay bx b_y ∧ spotOk px py ∧ rFit (nU ax ay bx b_y px py) (nD ax ay bx b_y px py)) (rDn (nU ax ay bx b_y px py) (nD ax ay bx b_y px py)))), .int .u64 (wv1 (pkz (segOk ax ay bx b_y ∧ spotOk px py ∧ rFit (nU ax ay bx b_y px py) (nD ax ay bx b_y px py)) (rDn (nU ax ay bx b_y px py) (nD ax ay bx b_y px py)))), .int .u64 (wv0 (pkz (segOk ax ay bx b_y ∧ spotOk px py ∧ rFit (nU ax ay bx b_y px py) (nD ax ay bx b_y px py)) (rDn (nU ax ay bx b_y px py) (nD ax ay bx b_y px py))))]) (l := [.int .u64 (wv3 (pkz (segOk ax ay bx b_y ∧ spotOk px py ∧ rFit (nU ax ay bx b_y px py) (nD ax ay bx b_y px py)) (rUp (nU ax ay bx b_y px py) (nD ax ay bx b_y px py)))), .int .u64 (wv2 (pkz (segOk ax ay bx b_y ∧ spotOk px py ∧ rFit (nU ax ay bx b_y px py) (nD ax ay bx b_y px py)) (rUp (nU ax ay bx b_y px py) (nD ax ay bx b_y px py)))), .int .u64 (wv1 (pkz (segOk ax ay bx b_y ∧ spotOk px py ∧ rFit (nU ax ay bx b_y px py) (nD ax ay bx b_y px py)) (rUp (nU ax ay bx b_y px py) (nD ax ay bx b_y px py)))), .int .u64 (wv0 (pkz (segOk ax ay bx b_y ∧ spotOk px py ∧ rFit (nU ax ay bx b_y px py) (nD ax ay bx b_y px py)) (rUp (nU ax ay bx b_y px py) (nD ax ay bx b_y px py)))), .int .u64 (wv3 (pkz (segOk ax ay bx b_y ∧ spotOk px py ∧ rFit (nU ax ay bx b_y px py) (nD ax ay bx b_y px py)) (rDn (nU ax ay bx b_y px py) (nD ax ay bx b_y px py)))), .int .u64 (wv2 (pkz (segOk ax ay bx b_y ∧ spotOk px py ∧ rFit (nU ax ay bx b_y px py) (nD ax ay bx b_y px py)) (rDn (nU ax ay bx b_y px py) (nD ax ay bx b_y px py)))), .int .u64 (wv1 (pkz (segOk ax ay bx b_y ∧ spotOk px py ∧ rFit (nU ax ay bx b_y px py) (nD ax ay bx b_y px py)) (rDn (nU ax ay bx b_y px py) (nD ax ay bx b_y px py)))), .int .u64 (wv0 (pkz (segOk ax ay bx b_y ∧ spotOk px py ∧ rFit (nU ax ay bx b_y px py) (nD ax ay bx b_y px py)) (rDn (nU ax ay bx b_y px py) (nD ax ay bx b_y px py))))]) (T rfl hA191) (T rfl hv194) sz68 rfl rfl rfl hB192 rfl ?_)
     intro w195 s196 H197
     exact ⟨s196, H197.trans (congrArg (fun v : Value => some (Obj.cells v.cells 68)) (show fr186 23 = _ from hv194).symm)⟩
 intro fr207 w206 e208 hF209 hP210 hM211 hN212
 have E213 := below_ext E106 E106.size e208
 obtain ⟨_, _, _, _, _, _, p214, _, _, _, p215, _⟩ := hP210
 have hv216 : fr207 23 = .agg #[.int .u64 (wv3 (pkz (segOk ax ay bx b_y ∧ spotOk px py ∧ rFit (nU ax ay bx b_y px py) (nD ax ay bx b_y px py)) (rUp (nU ax ay bx b_y px py) (nD ax ay bx b_y px py)))), .int .u64 (wv2 (pkz (segOk ax ay bx b_y ∧ spotOk px py ∧ rFit (nU ax ay bx b_y px py) (nD ax ay bx b_y px py)) (rUp (nU ax ay bx b_y px py) (nD ax ay bx b_y px py)))), .int .u64 (wv1 (pkz (segOk ax ay bx b_y ∧ spotOk px py ∧ rFit (nU ax ay bx b_y px py) (nD ax ay bx b_y px py)) (rUp (nU ax ay bx b_y px py) (nD ax ay bx b_y px py)))), .int .u64 (wv0 (pkz (segOk ax ay bx b_y ∧ spotOk px py ∧ rFit (nU ax ay bx b_y px py) (nD ax ay bx b_y px py)) (rUp (nU ax ay bx b_y px py) (nD ax ay bx b_y px py)))), .int .u64 (wv3 (pkz (segOk ax ay bx b_y ∧ spotOk px py ∧ rFit (nU ax ay bx b_y px py) (nD ax ay bx b_y px py)) (rDn (nU ax ay bx b_y px py) (nD ax ay bx b_y px py)))), .int .u64 (wv2 (pkz (segOk ax ay bx b_y ∧ spotOk px py ∧ rFit (nU ax ay bx b_y px py) (nD ax ay bx b_y px py)) (rDn (nU ax ay bx b_y px py) (nD ax ay bx b_y px py)))), .int .u64 (wv1 (pkz (segOk ax ay bx b_y ∧ spotOk px py ∧ rFit (nU ax ay bx b_y px py) (nD ax ay bx b_y px py)) (rDn (nU ax ay bx b_y px py) (nD ax ay bx b_y px py)))), .int .u64 (wv0 (pkz (segOk ax ay bx b_y ∧ spotOk px py ∧ rFit (nU ax ay bx b_y px py) (nD ax ay bx b_y px py)) (rDn (nU ax ay bx b_y px py) (nD ax ay bx b_y px py))))] := p214.resolve_left (nst (by kernel_rfl))
 have hv217 : fr207 8 = .bool (decide (segOk ax ay bx b_y ∧ spotOk px py ∧ rFit (nU ax ay bx b_y px py) (nD ax ay bx b_y px py))) := p215.resolve_left (nst (by kernel_rfl))
 obtain ⟨⟨b218, hA219, hB220, hC221⟩, _⟩ := hM211
 have H222 : w206.heap[b218]? = some (.cells #[.int .u64 (wv3 (pkz (segOk ax ay bx b_y ∧ spotOk px py ∧ rFit (nU ax ay bx b_y px py) (nD ax ay bx b_y px py)) (rUp (nU ax ay bx b_y px py) (nD ax ay bx b_y px py)))), .int .u64 (wv2 (pkz (segOk ax ay bx b_y ∧ spotOk px py ∧ rFit (nU ax ay bx b_y px py) (nD ax ay bx b_y px py)) (rUp (nU ax ay bx b_y px py) (nD ax ay bx b_y px py)))), .int .u64 (wv1 (pkz (segOk ax ay bx b_y ∧ spotOk px py ∧ rFit (nU ax ay bx b_y px py) (nD ax ay bx b_y px py)) (rUp (nU ax ay bx b_y px py) (nD ax ay bx b_y px py)))), .int .u64 (wv0 (pkz (segOk ax ay bx b_y ∧ spotOk px py ∧ rFit (nU ax ay bx b_y px py) (nD ax ay bx b_y px py)) (rUp (nU ax ay bx b_y px py) (nD ax ay bx b_y px py)))), .int .u64 (wv3 (pkz (segOk ax ay bx b_y ∧ spotOk px py ∧ rFit (nU ax ay bx b_y px py) (nD ax ay bx b_y px py)) (rDn (nU ax ay bx b_y px py) (nD ax ay bx b_y px py)))), .int .u64 (wv2 (pkz (segOk ax ay bx b_y ∧ spotOk px py ∧ rFit (nU ax ay bx b_y px py) (nD ax ay bx b_y px py)) (rDn (nU ax ay bx b_y px py) (nD ax ay bx b_y px py)))), .int .u64 (wv1 (pkz (segOk ax ay bx b_y ∧ spotOk px py ∧ rFit (nU ax ay bx b_y px py) (nD ax ay bx b_y px py)) (rDn (nU ax ay bx b_y px py) (nD ax ay bx b_y px py)))), .int .u64 (wv0 (pkz (segOk ax ay bx b_y ∧ spotOk px py ∧ rFit (nU ax ay bx b_y px py) (nD ax ay bx b_y px py)) (rDn (nU ax ay bx b_y px py) (nD ax ay bx b_y px py))))] 68) := hC221.trans (congrArg (fun v : Value => some (Obj.cells v.cells 68)) hv216)
 have N223 : w.heap.size ≤ b218 := by omega
 refine rk_seq ?_
 refine rk_seq ?_
 refine rk_reg ?_
 refine lw_v (.agg #[.int .u64 (wv3 (pkz (segOk ax ay bx b_y ∧ spotOk px py ∧ rFit (nU ax ay bx b_y px py) (nD ax ay bx b_y px py)) (rUp (nU ax ay bx b_y px py) (nD ax ay bx b_y px py)))), .int .u64 (wv2 (pkz (segOk ax ay bx b_y ∧ spotOk px py ∧ rFit (nU ax ay bx b_y px py) (nD ax ay bx b_y px py)) (rUp (nU ax ay bx b_y px py) (nD ax ay bx b_y px py)))), .int .u64 (wv1 (pkz (segOk ax ay bx b_y ∧ spotOk px py ∧ rFit (nU ax ay bx b_y px py) (nD ax ay bx b_y px py)) (rUp (nU ax ay bx b_y px py) (nD ax ay bx b_y px py)))), .int .u64 (wv0 (pkz (segOk ax ay bx b_y ∧ spotOk px py ∧ rFit (nU ax ay bx b_y px py) (nD ax ay bx b_y px py)) (rUp (nU ax ay bx b_y px py) (nD ax ay bx b_y px py)))), .int .u64 (wv3 (pkz (segOk ax ay bx b_y ∧ spotOk px py ∧ rFit (nU ax ay bx b_y px py) (nD ax ay bx b_y px py)) (rDn (nU ax ay bx b_y px py) (nD ax ay bx b_y px py)))), .int .u64 (wv2 (pkz (segOk ax ay bx b_y ∧ spotOk px py ∧ rFit (nU ax ay bx b_y px py) (nD ax ay bx b_y px py)) (rDn (nU ax ay bx b_y px py) (nD ax ay bx b_y px py)))), .int .u64 (wv1 (pkz (segOk ax ay bx b_y ∧ spotOk px py ∧ rFit (nU ax ay bx b_y px py) (nD ax ay bx b_y px py)) (rDn (nU ax ay bx b_y px py) (nD ax ay bx b_y px py)))), .int .u64 (wv0 (pkz (segOk ax ay bx b_y ∧ spotOk px py ∧ rFit (nU ax ay bx b_y px py) (nD ax ay bx b_y px py)) (rDn (nU ax ay bx b_y px py) (nD ax ay bx b_y px py))))]) (dv_loads (l := [.int .u64 (wv3 (pkz (segOk ax ay bx b_y ∧ spotOk px py ∧ rFit (nU ax ay bx b_y px py) (nD ax ay bx b_y px py)) (rUp (nU ax ay bx b_y px py) (nD ax ay bx b_y px py)))), .int .u64 (wv2 (pkz (segOk ax ay bx b_y ∧ spotOk px py ∧ rFit (nU ax ay bx b_y px py) (nD ax ay bx b_y px py)) (rUp (nU ax ay bx b_y px py) (nD ax ay bx b_y px py)))), .int .u64 (wv1 (pkz (segOk ax ay bx b_y ∧ spotOk px py ∧ rFit (nU ax ay bx b_y px py) (nD ax ay bx b_y px py)) (rUp (nU ax ay bx b_y px py) (nD ax ay bx b_y px py)))), .int .u64 (wv0 (pkz (segOk ax ay bx b_y ∧ spotOk px py ∧ rFit (nU ax ay bx b_y px py) (nD ax ay bx b_y px py)) (rUp (nU ax ay bx b_y px py) (nD ax ay bx b_y px py)))), .int .u64 (wv3 (pkz (segOk ax ay bx b_y ∧ spotOk px py ∧ rFit (nU ax ay bx b_y px py) (nD ax ay bx b_y px py)) (rDn (nU ax ay bx b_y px py) (nD ax ay bx b_y px py)))), .int .u64 (wv2 (pkz (segOk ax ay bx b_y ∧ spotOk px py ∧ rFit (nU ax ay bx b_y px py) (nD ax ay bx b_y px py)) (rDn (nU ax ay bx b_y px py) (nD ax ay bx b_y px py)))), .int .u64 (wv1 (pkz (segOk ax ay bx b_y ∧ spotOk px py ∧ rFit (nU ax ay bx b_y px py) (nD ax ay bx b_y px py)) (rDn (nU ax ay bx b_y px py) (nD ax ay bx b_y px py)))), .int .u64 (wv0 (pkz (segOk ax ay bx b_y ∧ spotOk px py ∧ rFit (nU ax ay bx b_y px py) (nD ax ay bx b_y px py)) (rDn (nU ax ay bx b_y px py) (nD ax ay bx b_y px py))))]) agt68 sz68 (T rfl hA219) H222 rfl) ?_
 have H224 := (e208.blk H115)
 refine lw_v (.agg #[.int .u64 (wv3 (pkz (segOk ax ay bx b_y ∧ spotOk px py ∧ rFit (nU ax ay bx b_y px py) (nD ax ay bx b_y px py)) (rUp (nU ax ay bx b_y px py) (nD ax ay bx b_y px py)))), .int .u64 (wv2 (pkz (segOk ax ay bx b_y ∧ spotOk px py ∧ rFit (nU ax ay bx b_y px py) (nD ax ay bx b_y px py)) (rUp (nU ax ay bx b_y px py) (nD ax ay bx b_y px py)))), .int .u64 (wv1 (pkz (segOk ax ay bx b_y ∧ spotOk px py ∧ rFit (nU ax ay bx b_y px py) (nD ax ay bx b_y px py)) (rUp (nU ax ay bx b_y px py) (nD ax ay bx b_y px py)))), .int .u64 (wv0 (pkz (segOk ax ay bx b_y ∧ spotOk px py ∧ rFit (nU ax ay bx b_y px py) (nD ax ay bx b_y px py)) (rUp (nU ax ay bx b_y px py) (nD ax ay bx b_y px py)))), .int .u64 (wv3 (pkz (segOk ax ay bx b_y ∧ spotOk px py ∧ rFit (nU ax ay bx b_y px py) (nD ax ay bx b_y px py)) (rDn (nU ax ay bx b_y px py) (nD ax ay bx b_y px py)))), .int .u64 (wv2 (pkz (segOk ax ay bx b_y ∧ spotOk px py ∧ rFit (nU ax ay bx b_y px py) (nD ax ay bx b_y px py)) (rDn (nU ax ay bx b_y px py) (nD ax ay bx b_y px py)))), .int .u64 (wv1 (pkz (segOk ax ay bx b_y ∧ spotOk px py ∧ rFit (nU ax ay bx b_y px py) (nD ax ay bx b_y px py)) (rDn (nU ax ay bx b_y px py) (nD ax ay bx b_y px py)))), .int .u64 (wv0 (pkz (segOk ax ay bx b_y ∧ spotOk px py ∧ rFit (nU ax ay bx b_y px py) (nD ax ay bx b_y px py)) (rDn (nU ax ay bx b_y px py) (nD ax ay bx b_y px py))))]) (dv_loads (l := [.int .u64 (wv3 (pkz (segOk ax ay bx b_y ∧ spotOk px py ∧ rFit (nU ax ay bx b_y px py) (nD ax ay bx b_y px py)) (rUp (nU ax ay bx b_y px py) (nD ax ay bx b_y px py)))), .int .u64 (wv2 (pkz (segOk ax ay bx b_y ∧ spotOk px py ∧ rFit (nU ax ay bx b_y px py) (nD ax ay bx b_y px py)) (rUp (nU ax ay bx b_y px py) (nD ax ay bx b_y px py)))), .int .u64 (wv1 (pkz (segOk ax ay bx b_y ∧ spotOk px py ∧ rFit (nU ax ay bx b_y px py) (nD ax ay bx b_y px py)) (rUp (nU ax ay bx b_y px py) (nD ax ay bx b_y px py)))), .int .u64 (wv0 (pkz (segOk ax ay bx b_y ∧ spotOk px py ∧ rFit (nU ax ay bx b_y px py) (nD ax ay bx b_y px py)) (rUp (nU ax ay bx b_y px py) (nD ax ay bx b_y px py)))), .int .u64 (wv3 (pkz (segOk ax ay bx b_y ∧ spotOk px py ∧ rFit (nU ax ay bx b_y px py) (nD ax ay bx b_y px py)) (rDn (nU ax ay bx b_y px py) (nD ax ay bx b_y px py)))), .int .u64 (wv2 (pkz (segOk ax ay bx b_y ∧ spotOk px py ∧ rFit (nU ax ay bx b_y px py) (nD ax ay bx b_y px py)) (rDn (nU ax ay bx b_y px py) (nD ax ay bx b_y px py)))), .int .u64 (wv1 (pkz (segOk ax ay bx b_y ∧ spotOk px py ∧ rFit (nU ax ay bx b_y px py) (nD ax ay bx b_y px py)) (rDn (nU ax ay bx b_y px py) (nD ax ay bx b_y px py)))), .int .u64 (wv0 (pkz (segOk ax ay bx b_y ∧ spotOk px py ∧ rFit (nU ax ay bx b_y px py) (nD ax ay bx b_y px py)) (rDn (nU ax ay bx b_y px py) (nD ax ay bx b_y px py))))]) agt68 sz68 (T rfl ((hF209 5 rfl).trans hA112)) H224 rfl) ?_
 refine lw_e (oe_callf (vs := [.agg #[.int .u64 (wv3 (pkz (segOk ax ay bx b_y ∧ spotOk px py ∧ rFit (nU ax ay bx b_y px py) (nD ax ay bx b_y px py)) (rUp (nU ax ay bx b_y px py) (nD ax ay bx b_y px py)))), .int .u64 (wv2 (pkz (segOk ax ay bx b_y ∧ spotOk px py ∧ rFit (nU ax ay bx b_y px py) (nD ax ay bx b_y px py)) (rUp (nU ax ay bx b_y px py) (nD ax ay bx b_y px py)))), .int .u64 (wv1 (pkz (segOk ax ay bx b_y ∧ spotOk px py ∧ rFit (nU ax ay bx b_y px py) (nD ax ay bx b_y px py)) (rUp (nU ax ay bx b_y px py) (nD ax ay bx b_y px py)))), .int .u64 (wv0 (pkz (segOk ax ay bx b_y ∧ spotOk px py ∧ rFit (nU ax ay bx b_y px py) (nD ax ay bx b_y px py)) (rUp (nU ax ay bx b_y px py) (nD ax ay bx b_y px py)))), .int .u64 (wv3 (pkz (segOk ax ay bx b_y ∧ spotOk px py ∧ rFit (nU ax ay bx b_y px py) (nD ax ay bx b_y px py)) (rDn (nU ax ay bx b_y px py) (nD ax ay bx b_y px py)))), .int .u64 (wv2 (pkz (segOk ax ay bx b_y ∧ spotOk px py ∧ rFit (nU ax ay bx b_y px py) (nD ax ay bx b_y px py)) (rDn (nU ax ay bx b_y px py) (nD ax ay bx b_y px py)))), .int .u64 (wv1 (pkz (segOk ax ay bx b_y ∧ spotOk px py ∧ rFit (nU ax ay bx b_y px py) (nD ax ay bx b_y px py)) (rDn (nU ax ay bx b_y px py) (nD ax ay bx b_y px py)))), .int .u64 (wv0 (pkz (segOk ax ay bx b_y ∧ spotOk px py ∧ rFit (nU ax ay bx b_y px py) (nD ax ay bx b_y px py)) (rDn (nU ax ay bx b_y px py) (nD ax ay bx b_y px py))))], .agg #[.int .u64 (wv3 (pkz (segOk ax ay bx b_y ∧ spotOk px py ∧ rFit (nU ax ay bx b_y px py) (nD ax ay bx b_y px py)) (rUp (nU ax ay bx b_y px py) (nD ax ay bx b_y px py)))), .int .u64 (wv2 (pkz (segOk ax ay bx b_y ∧ spotOk px py ∧ rFit (nU ax ay bx b_y px py) (nD ax ay bx b_y px py)) (rUp (nU ax ay bx b_y px py) (nD ax ay bx b_y px py)))), .int .u64 (wv1 (pkz (segOk ax ay bx b_y ∧ spotOk px py ∧ rFit (nU ax ay bx b_y px py) (nD ax ay bx b_y px py)) (rUp (nU ax ay bx b_y px py) (nD ax ay bx b_y px py)))), .int .u64 (wv0 (pkz (segOk ax ay bx b_y ∧ spotOk px py ∧ rFit (nU ax ay bx b_y px py) (nD ax ay bx b_y px py)) (rUp (nU ax ay bx b_y px py) (nD ax ay bx b_y px py)))), .int .u64 (wv3 (pkz (segOk ax ay bx b_y ∧ spotOk px py ∧ rFit (nU ax ay bx b_y px py) (nD ax ay bx b_y px py)) (rDn (nU ax ay bx b_y px py) (nD ax ay bx b_y px py)))), .int .u64 (wv2 (pkz (segOk ax ay bx b_y ∧ spotOk px py ∧ rFit (nU ax ay bx b_y px py) (nD ax ay bx b_y px py)) (rDn (nU ax ay bx b_y px py) (nD ax ay bx b_y px py)))), .int .u64 (wv1 (pkz (segOk ax ay bx b_y ∧ spotOk px py ∧ rFit (nU ax ay bx b_y px py) (nD ax ay bx b_y px py)) (rDn (nU ax ay bx b_y px py) (nD ax ay bx b_y px py)))), .int .u64 (wv0 (pkz (segOk ax ay bx b_y ∧ spotOk px py ∧ rFit (nU ax ay bx b_y px py) (nD ax ay bx b_y px py)) (rDn (nU ax ay bx b_y px py) (nD ax ay bx b_y px py))))]]) co43 (ar2 (T rfl rfl) (T rfl rfl)) (eqRatio_ok (x := pkz (segOk ax ay bx b_y ∧ spotOk px py ∧ rFit (nU ax ay bx b_y px py) (nD ax ay bx b_y px py)) (rUp (nU ax ay bx b_y px py) (nD ax ay bx b_y px py))) (y := pkz (segOk ax ay bx b_y ∧ spotOk px py ∧ rFit (nU ax ay bx b_y px py) (nD ax ay bx b_y px py)) (rDn (nU ax ay bx b_y px py) (nD ax ay bx b_y px py))) (p := pkz (segOk ax ay bx b_y ∧ spotOk px py ∧ rFit (nU ax ay bx b_y px py) (nD ax ay bx b_y px py)) (rUp (nU ax ay bx b_y px py) (nD ax ay bx b_y px py))) (q := pkz (segOk ax ay bx b_y ∧ spotOk px py ∧ rFit (nU ax ay bx b_y px py) (nD ax ay bx b_y px py)) (rDn (nU ax ay bx b_y px py) (nD ax ay bx b_y px py))) (fits_pkz fun h => h.2.2.2.1) (fits_pkz fun h => h.2.2.2.2) (fits_pkz fun h => h.2.2.2.1) (fits_pkz fun h => h.2.2.2.2) ) ?_)
 rintro _ w225 ⟨rfl, e226⟩
 have E227 := below_ext E213 E213.size e226
 refine lw_v (.bool (decide (¬ ((pkz (segOk ax ay bx b_y ∧ spotOk px py ∧ rFit (nU ax ay bx b_y px py) (nD ax ay bx b_y px py)) (rUp (nU ax ay bx b_y px py) (nD ax ay bx b_y px py))) = (pkz (segOk ax ay bx b_y ∧ spotOk px py ∧ rFit (nU ax ay bx b_y px py) (nD ax ay bx b_y px py)) (rUp (nU ax ay bx b_y px py) (nD ax ay bx b_y px py))) ∧ (pkz (segOk ax ay bx b_y ∧ spotOk px py ∧ rFit (nU ax ay bx b_y px py) (nD ax ay bx b_y px py)) (rDn (nU ax ay bx b_y px py) (nD ax ay bx b_y px py))) = (pkz (segOk ax ay bx b_y ∧ spotOk px py ∧ rFit (nU ax ay bx b_y px py) (nD ax ay bx b_y px py)) (rDn (nU ax ay bx b_y px py) (nD ax ay bx b_y px py))))))) (dv_notd (p := (pkz (segOk ax ay bx b_y ∧ spotOk px py ∧ rFit (nU ax ay bx b_y px py) (nD ax ay bx b_y px py)) (rUp (nU ax ay bx b_y px py) (nD ax ay bx b_y px py))) = (pkz (segOk ax ay bx b_y ∧ spotOk px py ∧ rFit (nU ax ay bx b_y px py) (nD ax ay bx b_y px py)) (rUp (nU ax ay bx b_y px py) (nD ax ay bx b_y px py))) ∧ (pkz (segOk ax ay bx b_y ∧ spotOk px py ∧ rFit (nU ax ay bx b_y px py) (nD ax ay bx b_y px py)) (rDn (nU ax ay bx b_y px py) (nD ax ay bx b_y px py))) = (pkz (segOk ax ay bx b_y ∧ spotOk px py ∧ rFit (nU ax ay bx b_y px py) (nD ax ay bx b_y px py)) (rDn (nU ax ay bx b_y px py) (nD ax ay bx b_y px py)))) (T rfl rfl)) ?_
 refine lw_v (.bool (decide (¬ ((pkz (segOk ax ay bx b_y ∧ spotOk px py ∧ rFit (nU ax ay bx b_y px py) (nD ax ay bx b_y px py)) (rUp (nU ax ay bx b_y px py) (nD ax ay bx b_y px py))) = (pkz (segOk ax ay bx b_y ∧ spotOk px py ∧ rFit (nU ax ay bx b_y px py) (nD ax ay bx b_y px py)) (rUp (nU ax ay bx b_y px py) (nD ax ay bx b_y px py))) ∧ (pkz (segOk ax ay bx b_y ∧ spotOk px py ∧ rFit (nU ax ay bx b_y px py) (nD ax ay bx b_y px py)) (rDn (nU ax ay bx b_y px py) (nD ax ay bx b_y px py))) = (pkz (segOk ax ay bx b_y ∧ spotOk px py ∧ rFit (nU ax ay bx b_y px py) (nD ax ay bx b_y px py)) (rDn (nU ax ay bx b_y px py) (nD ax ay bx b_y px py))))))) (dv_move (T rfl rfl)) ?_
 by_cases hb228 : (pkz (segOk ax ay bx b_y ∧ spotOk px py ∧ rFit (nU ax ay bx b_y px py) (nD ax ay bx b_y px py)) (rUp (nU ax ay bx b_y px py) (nD ax ay bx b_y px py))) = (pkz (segOk ax ay bx b_y ∧ spotOk px py ∧ rFit (nU ax ay bx b_y px py) (nD ax ay bx b_y px py)) (rUp (nU ax ay bx b_y px py) (nD ax ay bx b_y px py))) ∧ (pkz (segOk ax ay bx b_y ∧ spotOk px py ∧ rFit (nU ax ay bx b_y px py) (nD ax ay bx b_y px py)) (rDn (nU ax ay bx b_y px py) (nD ax ay bx b_y px py))) = (pkz (segOk ax ay bx b_y ∧ spotOk px py ∧ rFit (nU ax ay bx b_y px py) (nD ax ay bx b_y px py)) (rDn (nU ax ay bx b_y px py) (nD ax ay bx b_y px py)))
 · refine lw_vy (.bool (decide (segOk ax ay bx b_y ∧ spotOk px py ∧ rFit (nU ax ay bx b_y px py) (nD ax ay bx b_y px py)))) (d := 29) rfl rfl (congrArg Value.bool (decide_eq_false (not_not_intro hb228))) (dv_move (T rfl hv217)) ?_
   refine lw_vy (.bool (decide (segOk ax ay bx b_y ∧ spotOk px py ∧ rFit (nU ax ay bx b_y px py) (nD ax ay bx b_y px py)))) (d := 29) rfl rfl (congrArg Value.bool (decide_eq_false (not_not_intro hb228))) (dv_move (T rfl ((hF209 6 rfl).trans hv110))) ?_
   refine lw_vy (.bool ((decide (segOk ax ay bx b_y ∧ spotOk px py ∧ rFit (nU ax ay bx b_y px py) (nD ax ay bx b_y px py))) != (decide (segOk ax ay bx b_y ∧ spotOk px py ∧ rFit (nU ax ay bx b_y px py) (nD ax ay bx b_y px py))))) (d := 29) rfl rfl (congrArg Value.bool (decide_eq_false (not_not_intro hb228))) (dv_neqb (a := decide (segOk ax ay bx b_y ∧ spotOk px py ∧ rFit (nU ax ay bx b_y px py) (nD ax ay bx b_y px py))) (b := decide (segOk ax ay bx b_y ∧ spotOk px py ∧ rFit (nU ax ay bx b_y px py) (nD ax ay bx b_y px py))) ub4 (T rfl rfl) (T rfl rfl)) ?_
   refine lw_v (.bool ((decide (segOk ax ay bx b_y ∧ spotOk px py ∧ rFit (nU ax ay bx b_y px py) (nD ax ay bx b_y px py))) != (decide (segOk ax ay bx b_y ∧ spotOk px py ∧ rFit (nU ax ay bx b_y px py) (nD ax ay bx b_y px py))))) (dv_pick_f (T rfl (congrArg Value.bool (decide_eq_false (not_not_intro hb228)))) (T rfl rfl)) ?_
   refine lw_nil ?_
   rcases Bool.eq_false_or_eq_true ((decide (segOk ax ay bx b_y ∧ spotOk px py ∧ rFit (nU ax ay bx b_y px py) (nD ax ay bx b_y px py))) != (decide (segOk ax ay bx b_y ∧ spotOk px py ∧ rFit (nU ax ay bx b_y px py) (nD ax ay bx b_y px py)))) with hb229 | hb229
   · refine rk_ct (T rfl (congrArg Value.bool hb229)) ?_
     refine rk_seq ?_
     refine rk_reg ?_
     refine lw_v (.bool false) (dv_assign C) ?_
     refine lw_nil ?_
     refine rk_ret Try.func11 (v := .bool false) (res1 Try.results11 (rv_tmp rfl rfl)) ⟨_, rfl, ?_⟩
     exact ⟨(by exfalso; grind), E227⟩
   · refine rk_cf (T rfl (congrArg Value.bool hb229)) ?_
     refine rk_skip ?_
     refine rk_seq ?_
     refine rk_reg ?_
     refine lw_v (.bool true) (dv_assign C) ?_
     refine lw_nil ?_
     refine rk_ret Try.func11 (v := .bool true) (res1 Try.results11 (rv_tmp rfl rfl)) ⟨_, rfl, ?_⟩
     exact ⟨rfl, E227⟩
 · refine lw_no (d := 29) rfl rfl (congrArg Value.bool (decide_eq_true hb228)) ?_
   refine lw_no (d := 29) rfl rfl (congrArg Value.bool (decide_eq_true hb228)) ?_
   refine lw_no (d := 29) rfl rfl (congrArg Value.bool (decide_eq_true hb228)) ?_
   refine lw_v (.bool true) (dv_pick_t (T rfl (congrArg Value.bool (decide_eq_true hb228))) C) ?_
   refine lw_nil ?_
   refine rk_ct (T rfl rfl) ?_
   refine rk_seq ?_
   refine rk_reg ?_
   refine lw_v (.bool false) (dv_assign C) ?_
   refine lw_nil ?_
   refine rk_ret Try.func11 (v := .bool false) (res1 Try.results11 (rv_tmp rfl rfl)) ⟨_, rfl, ?_⟩
   exact ⟨(by exfalso; grind), E227⟩
theorem lawNear2_w {w : World} {ax ay bx b_y px py : Int} (iax_ : -9223372036854775808 ≤ ax ∧ ax ≤ 9223372036854775807) (iay_ : -9223372036854775808 ≤ ay ∧ ay ≤ 9223372036854775807) (ibx_ : -9223372036854775808 ≤ bx ∧ bx ≤ 9223372036854775807) (ib_y_ : -9223372036854775808 ≤ b_y ∧ b_y ≤ 9223372036854775807) (ipx_ : -9223372036854775808 ≤ px ∧ px ≤ 9223372036854775807) (ipy_ : -9223372036854775808 ≤ py ∧ py ≤ 9223372036854775807) : Ct Try.prog 11 [.agg #[.int .i64 ax, .int .i64 ay, .int .i64 bx, .int .i64 b_y], .agg #[.int .i64 px, .int .i64 py]] w fun v w1 => v = .bool true ∧ Ext w w1 := by
 exact lawNear2_ok iax_ iay_ ibx_ ib_y_ ipx_ ipy_
end Go.Proofs.Ytdanhdbanfpghaa.W
