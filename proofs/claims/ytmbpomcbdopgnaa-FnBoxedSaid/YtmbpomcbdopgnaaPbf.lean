/- Walks and plain mathematics, packed by a program of this session: declarations that the rows reach. -/
import Derived.Test.YtmbpomcbdopgnaaPbe
set_option linter.unusedVariables false
set_option linter.unusedSimpArgs false
namespace Go.Proofs.Ytmbpomcbdopgnaa.W
open Go Go.RowKit Go.Proofs.Ytmbpomcbdopgnaa.Fw
attribute [local irreducible] RunK LW AW DV OE Ct
theorem co43 : callOk Try.prog 43 = true := by kernel_rfl
theorem co44 : callOk Try.prog 44 = true := by kernel_rfl
theorem co90 : callOk Try.prog 90 = true := by kernel_rfl
theorem us33 : Try.prog.underlying 33 = some (.slice 25) := by kernel_rfl
set_option maxHeartbeats 1000000 in
theorem l4Turn_ok {w : World} {ax ay bx b_y px py : Int}  (hs_ : (-1000000 ≤ ax ∧ ax ≤ 1000000) ∧ (-1000000 ≤ ay ∧ ay ≤ 1000000) ∧ (-1000000 ≤ bx ∧ bx ≤ 1000000) ∧ (-1000000 ≤ b_y ∧ b_y ≤ 1000000)) (hp_ : (-1000000 ≤ px ∧ px ≤ 1000000) ∧ (-1000000 ≤ py ∧ py ≤ 1000000)) : Ct Try.prog 90 [.agg #[.int .i64 ax, .int .i64 ay], .agg #[.int .i64 bx, .int .i64 b_y], .agg #[.int .i64 px, .int .i64 py]] w fun v w1 => v = .int .i64 (sgnI (crossI ax ay bx b_y px py)) ∧ Ext w w1 := by
 refine ct_run (n := 35) Try.func90 rfl Try.ntmps90 rfl ?_
 have E0 : Below w.heap.size w w := Below.refl _ _
 refine rk_seq ?_
 refine rk_reg ?_
 refine lw_e (oe_box (v := .agg #[.int .i64 ax, .int .i64 ay]) (cs := #[.int .i64 ax, .int .i64 ay]) (T rfl rfl) rfl ?_)
 intro b1 w2 n3
 have N4 : w.heap.size ≤ b1 := n3.eq ▸ E0.size
 have E5 := below_ext E0 E0.size n3.ext
 refine lw_e (oe_box (v := .agg #[.int .i64 bx, .int .i64 b_y]) (cs := #[.int .i64 bx, .int .i64 b_y]) (T rfl rfl) rfl ?_)
 intro b6 w7 n8
 have N9 : w.heap.size ≤ b6 := n8.eq ▸ E5.size
 have : b1 < b6 := n8.eq ▸ lt_of_blk n3.blk
 have E10 := below_ext E5 E5.size n8.ext
 refine lw_e (oe_box (v := .agg #[.int .i64 px, .int .i64 py]) (cs := #[.int .i64 px, .int .i64 py]) (T rfl rfl) rfl ?_)
 intro b11 w12 n13
 have N14 : w.heap.size ≤ b11 := n13.eq ▸ E10.size
 have : b6 < b11 := n13.eq ▸ lt_of_blk n8.blk
 have E15 := below_ext E10 E10.size n13.ext
 refine lw_v (.int .i64 0) (dv_assign C) ?_
 refine lw_nil ?_
 refine rk_seq ?_
 refine rk_reg ?_
 refine lw_v (.pointer (some ⟨b6, 0, none⟩)) (dv_fieldAddr (a := ⟨b6, 0, none⟩) (a' := ⟨b6, 0, none⟩) fo25_0 (T rfl rfl) rfl) ?_
 have H16 := (n13.ext.blk n8.blk)
 refine lw_v (.int .i64 bx) (dv_load1 (b := b6) (o := 0) agt2 (T rfl rfl) H16 rfl) ?_
 refine lw_v (.pointer (some ⟨b1, 0, none⟩)) (dv_fieldAddr (a := ⟨b1, 0, none⟩) (a' := ⟨b1, 0, none⟩) fo25_0 (T rfl rfl) rfl) ?_
 have H17 := (n13.ext.blk (n8.ext.blk n3.blk))
 refine lw_v (.int .i64 ax) (dv_load1 (b := b1) (o := 0) agt2 (T rfl rfl) H17 rfl) ?_
 refine lw_v (.int .i64 (bx - ax)) (dv_sub (a := bx) (b := ax) (z := bx - ax) (T rfl rfl) (T rfl rfl) (wr_i64 (by omega) (by omega))) ?_
 refine lw_v (.pointer (some ⟨b11, 1, none⟩)) (dv_fieldAddr (a := ⟨b11, 0, none⟩) (a' := ⟨b11, 1, none⟩) fo25_1 (T rfl rfl) rfl) ?_
 refine lw_v (.int .i64 py) (dv_load1 (b := b11) (o := 1) agt2 (T rfl rfl) n13.blk rfl) ?_
 refine lw_v (.pointer (some ⟨b1, 1, none⟩)) (dv_fieldAddr (a := ⟨b1, 0, none⟩) (a' := ⟨b1, 1, none⟩) fo25_1 (T rfl rfl) rfl) ?_
 refine lw_v (.int .i64 ay) (dv_load1 (b := b1) (o := 1) agt2 (T rfl rfl) H17 rfl) ?_
 refine lw_v (.int .i64 (py - ay)) (dv_sub (a := py) (b := ay) (z := py - ay) (T rfl rfl) (T rfl rfl) (wr_i64 (by omega) (by omega))) ?_
 have hm18 := mul_bd (A := 2000000) (B := 2000000) (show -2000000 ≤ (bx - ax) by omega) (by omega) (show -2000000 ≤ (py - ay) by omega) (by omega)
 refine lw_v (.int .i64 ((bx - ax) * (py - ay))) (dv_mul (a := bx - ax) (b := py - ay) (z := (bx - ax) * (py - ay)) (T rfl rfl) (T rfl rfl) (wr_i64 (by omega) (by omega))) ?_
 refine lw_v (.pointer (some ⟨b6, 1, none⟩)) (dv_fieldAddr (a := ⟨b6, 0, none⟩) (a' := ⟨b6, 1, none⟩) fo25_1 (T rfl rfl) rfl) ?_
 refine lw_v (.int .i64 b_y) (dv_load1 (b := b6) (o := 1) agt2 (T rfl rfl) H16 rfl) ?_
 refine lw_v (.pointer (some ⟨b1, 1, none⟩)) (dv_fieldAddr (a := ⟨b1, 0, none⟩) (a' := ⟨b1, 1, none⟩) fo25_1 (T rfl rfl) rfl) ?_
 refine lw_v (.int .i64 ay) (dv_load1 (b := b1) (o := 1) agt2 (T rfl rfl) H17 rfl) ?_
 refine lw_v (.int .i64 (b_y - ay)) (dv_sub (a := b_y) (b := ay) (z := b_y - ay) (T rfl rfl) (T rfl rfl) (wr_i64 (by omega) (by omega))) ?_
 refine lw_v (.pointer (some ⟨b11, 0, none⟩)) (dv_fieldAddr (a := ⟨b11, 0, none⟩) (a' := ⟨b11, 0, none⟩) fo25_0 (T rfl rfl) rfl) ?_
 refine lw_v (.int .i64 px) (dv_load1 (b := b11) (o := 0) agt2 (T rfl rfl) n13.blk rfl) ?_
 refine lw_v (.pointer (some ⟨b1, 0, none⟩)) (dv_fieldAddr (a := ⟨b1, 0, none⟩) (a' := ⟨b1, 0, none⟩) fo25_0 (T rfl rfl) rfl) ?_
 refine lw_v (.int .i64 ax) (dv_load1 (b := b1) (o := 0) agt2 (T rfl rfl) H17 rfl) ?_
 refine lw_v (.int .i64 (px - ax)) (dv_sub (a := px) (b := ax) (z := px - ax) (T rfl rfl) (T rfl rfl) (wr_i64 (by omega) (by omega))) ?_
 have hm19 := mul_bd (A := 2000000) (B := 2000000) (show -2000000 ≤ (b_y - ay) by omega) (by omega) (show -2000000 ≤ (px - ax) by omega) (by omega)
 refine lw_v (.int .i64 ((b_y - ay) * (px - ax))) (dv_mul (a := b_y - ay) (b := px - ax) (z := (b_y - ay) * (px - ax)) (T rfl rfl) (T rfl rfl) (wr_i64 (by omega) (by omega))) ?_
 refine lw_v (.int .i64 (((bx - ax) * (py - ay)) - ((b_y - ay) * (px - ax)))) (dv_sub (a := (bx - ax) * (py - ay)) (b := (b_y - ay) * (px - ax)) (z := ((bx - ax) * (py - ay)) - ((b_y - ay) * (px - ax))) (T rfl rfl) (T rfl rfl) (wr_i64 (by omega) (by omega))) ?_
 refine lw_v (.int .i64 (((bx - ax) * (py - ay)) - ((b_y - ay) * (px - ax)))) (dv_assign (T rfl rfl)) ?_
 refine lw_nil ?_
 refine rk_seq ?_
 refine rk_seq ?_
 refine rk_reg ?_
 refine lw_v (.int .i64 (((bx - ax) * (py - ay)) - ((b_y - ay) * (px - ax)))) (dv_move (T rfl rfl)) ?_
 refine lw_v (.bool (decide ((((bx - ax) * (py - ay)) - ((b_y - ay) * (px - ax))) < 0))) (dv_lss (a := ((bx - ax) * (py - ay)) - ((b_y - ay) * (px - ax))) (b := 0) (T rfl rfl) C) ?_
 refine lw_nil ?_
 by_cases hb20 : (((bx - ax) * (py - ay)) - ((b_y - ay) * (px - ax))) < 0
 · refine rk_ct (T rfl (congrArg Value.bool (decide_eq_true hb20))) ?_
   refine rk_seq ?_
   refine rk_reg ?_
   refine lw_v (.int .i64 (-1)) (dv_assign C) ?_
   refine lw_nil ?_
   refine rk_ret Try.func90 (v := .int .i64 (-1)) (res1 Try.results90 (rv_tmp rfl rfl)) ⟨_, rfl, ?_⟩
   exact ⟨(vi (by have e_ : crossI ax ay bx b_y px py = (bx - ax) * (py - ay) - (b_y - ay) * (px - ax) := rfl; have h1_ := @sgnI_gt (crossI ax ay bx b_y px py); have h2_ := @sgnI_lt (crossI ax ay bx b_y px py); have h3_ := @sgnI_rg (crossI ax ay bx b_y px py); have h4_ := @sgnI_zero (crossI ax ay bx b_y px py); omega)), E15⟩
 · refine rk_cf (T rfl (congrArg Value.bool (decide_eq_false hb20))) ?_
   refine rk_skip ?_
   refine rk_seq ?_
   refine rk_seq ?_
   refine rk_reg ?_
   refine lw_v (.int .i64 (((bx - ax) * (py - ay)) - ((b_y - ay) * (px - ax)))) (dv_move (T rfl rfl)) ?_
   refine lw_v (.bool (decide (0 < (((bx - ax) * (py - ay)) - ((b_y - ay) * (px - ax)))))) (dv_gtr (a := ((bx - ax) * (py - ay)) - ((b_y - ay) * (px - ax))) (b := 0) (T rfl rfl) C) ?_
   refine lw_nil ?_
   by_cases hb21 : 0 < (((bx - ax) * (py - ay)) - ((b_y - ay) * (px - ax)))
   · refine rk_ct (T rfl (congrArg Value.bool (decide_eq_true hb21))) ?_
     refine rk_seq ?_
     refine rk_reg ?_
     refine lw_v (.int .i64 1) (dv_assign C) ?_
     refine lw_nil ?_
     refine rk_ret Try.func90 (v := .int .i64 1) (res1 Try.results90 (rv_tmp rfl rfl)) ⟨_, rfl, ?_⟩
     exact ⟨(vi (by have e_ : crossI ax ay bx b_y px py = (bx - ax) * (py - ay) - (b_y - ay) * (px - ax) := rfl; have h1_ := @sgnI_gt (crossI ax ay bx b_y px py); have h2_ := @sgnI_lt (crossI ax ay bx b_y px py); have h3_ := @sgnI_rg (crossI ax ay bx b_y px py); have h4_ := @sgnI_zero (crossI ax ay bx b_y px py); omega)), E15⟩
   · refine rk_cf (T rfl (congrArg Value.bool (decide_eq_false hb21))) ?_
     refine rk_skip ?_
     refine rk_seq ?_
     refine rk_reg ?_
     refine lw_v (.int .i64 0) (dv_assign C) ?_
     refine lw_nil ?_
     refine rk_ret Try.func90 (v := .int .i64 0) (res1 Try.results90 (rv_tmp rfl rfl)) ⟨_, rfl, ?_⟩
     exact ⟨(vi (by have e_ : crossI ax ay bx b_y px py = (bx - ax) * (py - ay) - (b_y - ay) * (px - ax) := rfl; have h1_ := @sgnI_gt (crossI ax ay bx b_y px py); have h2_ := @sgnI_lt (crossI ax ay bx b_y px py); have h3_ := @sgnI_rg (crossI ax ay bx b_y px py); have h4_ := @sgnI_zero (crossI ax ay bx b_y px py); omega)), E15⟩
set_option maxHeartbeats 1000000 in
theorem sl4MeetsBox_ok {w : World} {ax ay bx b_y lx ly hx hy : Int}  (hs_ : (-1000000 ≤ ax ∧ ax ≤ 1000000) ∧ (-1000000 ≤ ay ∧ ay ≤ 1000000) ∧ (-1000000 ≤ bx ∧ bx ≤ 1000000) ∧ (-1000000 ≤ b_y ∧ b_y ≤ 1000000)) (hl_ : (-1000000 ≤ lx ∧ lx ≤ 1000000) ∧ (-1000000 ≤ ly ∧ ly ≤ 1000000)) (hh_ : (-1000000 ≤ hx ∧ hx ≤ 1000000) ∧ (-1000000 ≤ hy ∧ hy ≤ 1000000)) (hx_ : ax ≤ bx) : Ct Try.prog 44 [.agg #[.int .i64 ax, .int .i64 ay, .int .i64 bx, .int .i64 b_y], .agg #[.int .i64 lx, .int .i64 ly], .agg #[.int .i64 hx, .int .i64 hy]] w fun v w1 => v = .bool (decide (mbV ax ay bx b_y lx ly hx hy)) ∧ Ext w w1 := by
 refine ct_run (n := 96) Try.func44 rfl Try.ntmps44 rfl ?_
 have E0 : Below w.heap.size w w := Below.refl _ _
 refine rk_seq ?_
 refine rk_reg ?_
 refine lw_e (oe_box (v := .agg #[.int .i64 ax, .int .i64 ay, .int .i64 bx, .int .i64 b_y]) (cs := #[.int .i64 ax, .int .i64 ay, .int .i64 bx, .int .i64 b_y]) (T rfl rfl) rfl ?_)
 intro b1 w2 n3
 have N4 : w.heap.size ≤ b1 := n3.eq ▸ E0.size
 have E5 := below_ext E0 E0.size n3.ext
 refine lw_e (oe_box (v := .agg #[.int .i64 lx, .int .i64 ly]) (cs := #[.int .i64 lx, .int .i64 ly]) (T rfl rfl) rfl ?_)
 intro b6 w7 n8
 have N9 : w.heap.size ≤ b6 := n8.eq ▸ E5.size
 have : b1 < b6 := n8.eq ▸ lt_of_blk n3.blk
 have E10 := below_ext E5 E5.size n8.ext
 refine lw_e (oe_box (v := .agg #[.int .i64 hx, .int .i64 hy]) (cs := #[.int .i64 hx, .int .i64 hy]) (T rfl rfl) rfl ?_)
 intro b11 w12 n13
 have N14 : w.heap.size ≤ b11 := n13.eq ▸ E10.size
 have : b6 < b11 := n13.eq ▸ lt_of_blk n8.blk
 have E15 := below_ext E10 E10.size n13.ext
 refine lw_v (.bool false) (dv_assign C) ?_
 refine lw_nil ?_
 refine rk_seq ?_
 refine rk_join (fun fr wl => fr 3 = .pointer (some ⟨b1, 0, none⟩) ∧ fr 4 = .pointer (some ⟨b6, 0, none⟩) ∧ fr 5 = .pointer (some ⟨b11, 0, none⟩) ∧ Below w.heap.size w wl ∧ wl.heap[b1]? = some (.cells #[.int .i64 ax, .int .i64 ay, .int .i64 bx, .int .i64 b_y] 27) ∧ wl.heap[b6]? = some (.cells #[.int .i64 lx, .int .i64 ly] 25) ∧ wl.heap[b11]? = some (.cells #[.int .i64 hx, .int .i64 hy] 25) ∧ (¬ bx < lx ∧ ¬ hx < ax ∧ ¬ (ay < ly ∧ b_y < ly) ∧ ¬ (hy < ay ∧ hy < b_y))) ?_ (fun hj18 => ?_)
 · intro fr19 w16 hI17
   obtain ⟨f20, f21, f22, E23, H24, H25, H26, hov⟩ := hI17
   refine rk_seq ?_
   refine rk_reg ?_
   refine lw_v (.int .i64 0) (dv_assign C) ?_
   refine lw_nil ?_
   refine rk_seq ?_
   refine rk_reg ?_
   refine lw_v (.int .i64 0) (dv_assign C) ?_
   refine lw_nil ?_
   refine rk_seq ?_
   refine rk_seq ?_
   refine rk_reg ?_
   refine lw_v (.agg #[.int .i64 lx, .int .i64 ly]) (dv_loads (l := [.int .i64 lx, .int .i64 ly]) agt25 sz25 (T rfl f21) H25 rfl) ?_
   refine lw_v (.agg #[.int .i64 hx, .int .i64 hy]) (dv_loads (l := [.int .i64 hx, .int .i64 hy]) agt25 sz25 (T rfl f22) H26 rfl) ?_
   refine lw_v (.pointer (some ⟨b6, 0, none⟩)) (dv_fieldAddr (a := ⟨b6, 0, none⟩) (a' := ⟨b6, 0, none⟩) fo25_0 (T rfl f21) rfl) ?_
   refine lw_v (.int .i64 lx) (dv_load1 (b := b6) (o := 0) agt2 (T rfl rfl) H25 rfl) ?_
   refine lw_v (.pointer (some ⟨b11, 1, none⟩)) (dv_fieldAddr (a := ⟨b11, 0, none⟩) (a' := ⟨b11, 1, none⟩) fo25_1 (T rfl f22) rfl) ?_
   refine lw_v (.int .i64 hy) (dv_load1 (b := b11) (o := 1) agt2 (T rfl rfl) H26 rfl) ?_
   refine lw_v (.agg #[.int .i64 lx, .int .i64 hy]) (dv_build (pv := [(0, .int .i64 lx), (1, .int .i64 hy)]) (l := [.int .i64 lx, .int .i64 hy]) zc25 pl25 ⟨rfl, (T rfl rfl), ⟨rfl, (T rfl rfl), trivial⟩⟩ rfl) ?_
   refine lw_v (.pointer (some ⟨b11, 0, none⟩)) (dv_fieldAddr (a := ⟨b11, 0, none⟩) (a' := ⟨b11, 0, none⟩) fo25_0 (T rfl f22) rfl) ?_
   refine lw_v (.int .i64 hx) (dv_load1 (b := b11) (o := 0) agt2 (T rfl rfl) H26 rfl) ?_
   refine lw_v (.pointer (some ⟨b6, 1, none⟩)) (dv_fieldAddr (a := ⟨b6, 0, none⟩) (a' := ⟨b6, 1, none⟩) fo25_1 (T rfl f21) rfl) ?_
   refine lw_v (.int .i64 ly) (dv_load1 (b := b6) (o := 1) agt2 (T rfl rfl) H25 rfl) ?_
   refine lw_v (.agg #[.int .i64 hx, .int .i64 ly]) (dv_build (pv := [(0, .int .i64 hx), (1, .int .i64 ly)]) (l := [.int .i64 hx, .int .i64 ly]) zc25 pl25 ⟨rfl, (T rfl rfl), ⟨rfl, (T rfl rfl), trivial⟩⟩ rfl) ?_
   refine lw_e (oe_buildSlice (pv := [(0, .agg #[.int .i64 lx, .int .i64 ly]), (1, .agg #[.int .i64 hx, .int .i64 hy]), (2, .agg #[.int .i64 lx, .int .i64 hy]), (3, .agg #[.int .i64 hx, .int .i64 ly])]) (init := [.int .i64 0, .int .i64 0, .int .i64 0, .int .i64 0, .int .i64 0, .int .i64 0, .int .i64 0, .int .i64 0]) (l := [.int .i64 lx, .int .i64 ly, .int .i64 hx, .int .i64 hy, .int .i64 lx, .int .i64 hy, .int .i64 hx, .int .i64 ly]) us33 sz25 rfl rfl zc25 (by kernel_rfl) ⟨rfl, (T rfl rfl), ⟨rfl, (T rfl rfl), ⟨rfl, (T rfl rfl), ⟨rfl, (T rfl rfl), trivial⟩⟩⟩⟩ rfl ?_)
   intro b27 w28 n29
   have N30 : w.heap.size ≤ b27 := n29.eq ▸ E23.size
   have : b11 < b27 := n29.eq ▸ lt_of_blk H26
   have E31 := below_ext E23 E23.size n29.ext
   refine lw_v (.int .i64 4) (dv_len (ad := some ⟨b27, 0, none⟩) (l := 4) (c := 4) us33 (T rfl rfl)) ?_
   refine lw_v (.int .i64 0) (dv_move C) ?_
   refine lw_nil ?_
   refine rk_block ?_
   have H32 := (n29.ext.blk H24)
   have H33 := (n29.ext.blk H25)
   have H34 := (n29.ext.blk H26)
   refine rk_loop (fun dm_ fr wl => ∃ (i : Nat) (u d : Int), dm_ = 4 - i ∧ fr 3 = .pointer (some ⟨b1, 0, none⟩) ∧ fr 7 = .int .i64 u ∧ fr 8 = .int .i64 d ∧ fr 69 = .slice (some ⟨b27, 0, none⟩) 4 4 ∧ fr 70 = .int .i64 4 ∧ fr 71 = .int .i64 ((i : Int)) ∧ Below w.heap.size w wl ∧ wl.heap[b1]? = some (.cells #[.int .i64 ax, .int .i64 ay, .int .i64 bx, .int .i64 b_y] 27) ∧ wl.heap[b6]? = some (.cells #[.int .i64 lx, .int .i64 ly] 25) ∧ wl.heap[b11]? = some (.cells #[.int .i64 hx, .int .i64 hy] 25) ∧ wl.heap[b27]? = some (.cells #[.int .i64 lx, .int .i64 ly, .int .i64 hx, .int .i64 hy, .int .i64 lx, .int .i64 hy, .int .i64 hx, .int .i64 ly] 25) ∧ (i ≤ 4) ∧ (u = cntP (cG ax ay bx b_y lx ly hx hy) i) ∧ (d = cntN (cG ax ay bx b_y lx ly hx hy) i)) (4 - 0) ⟨0, 0, 0, rfl, f20, rfl, rfl, rfl, rfl, (vi (by omega)), E31, H32, H33, H34, n29.blk, (Nat.zero_le _), rfl, rfl⟩ ?_
   intro d39 fr38 w35 hI36 ih37
   obtain ⟨i, u, d, hd51, f40, f41, f42, f43, f44, f45, E46, H47, H48, H49, H50, hi, hu, hd⟩ := hI36
   have := lit_rg (lo := -1000000) (hi := 1000000) (L := [lx, ly, hx, hy, lx, hy, hx, ly]) (by simp; omega) (by decide) (i * 2)
   have := lit_rg (lo := -1000000) (hi := 1000000) (L := [lx, ly, hx, hy, lx, hy, hx, ly]) (by simp; omega) (by decide) (i * 2 + 1)
   have hcr := cnt_rg (cG ax ay bx b_y lx ly hx hy) i
   refine rk_seq ?_
   refine rk_reg ?_
   refine lw_v (.bool (decide (((i : Int)) < 4))) (dv_lss (a := (i : Int)) (b := 4) (T rfl f45) (T rfl f44)) ?_
   refine lw_nil ?_
   refine rk_seq ?_
   by_cases hb52 : ((i : Int)) < 4
   · refine rk_ct (T rfl (congrArg Value.bool (decide_eq_true hb52))) ?_
     refine rk_skip ?_
     refine rk_seq ?_
     refine rk_block ?_
     refine rk_seq ?_
     refine rk_reg ?_
     refine lw_v (.pointer (some ⟨b27, (i * 2), none⟩)) (dv_indexOM (g := b27) (l := 4) (c := 4) (i := i) (j := (i : Int)) (m := 2) us33 sz25 (T rfl f43) (T rfl f45) (by omega) (by first | omega | (simp; done) | (simp; omega))) ?_
     refine lw_v (.agg #[.int .i64 (([lx, ly, hx, hy, lx, hy, hx, ly]).getD (i * 2) 0), .int .i64 (([lx, ly, hx, hy, lx, hy, hx, ly]).getD (i * 2 + 1) 0)]) (dv_loadsO (i := i * 2) (m := 2) (k := .i64) (L := [lx, ly, hx, hy, lx, hy, hx, ly]) (l := [.int .i64 (([lx, ly, hx, hy, lx, hy, hx, ly]).getD (i * 2) 0), .int .i64 (([lx, ly, hx, hy, lx, hy, hx, ly]).getD (i * 2 + 1) 0)]) agt25 sz25 (T rfl rfl) H50 (by first | omega | (simp; done) | (simp; omega)) rfl) ?_
     refine lw_e (oe_alloc ze25 ?_)
     intro b53 w54 n55
     have N56 : w.heap.size ≤ b53 := n55.eq ▸ E46.size
     have : b27 < b53 := n55.eq ▸ lt_of_blk H50
     have E57 := below_ext E46 E46.size n55.ext
     refine lw_e (oe_store (v := .agg #[.int .i64 (([lx, ly, hx, hy, lx, hy, hx, ly]).getD (i * 2) 0), .int .i64 (([lx, ly, hx, hy, lx, hy, hx, ly]).getD (i * 2 + 1) 0)]) (vs := [.int .i64 (([lx, ly, hx, hy, lx, hy, hx, ly]).getD (i * 2) 0), .int .i64 (([lx, ly, hx, hy, lx, hy, hx, ly]).getD (i * 2 + 1) 0)]) (l := [.int .i64 (([lx, ly, hx, hy, lx, hy, hx, ly]).getD (i * 2) 0), .int .i64 (([lx, ly, hx, hy, lx, hy, hx, ly]).getD (i * 2 + 1) 0)]) (T rfl rfl) (T rfl rfl) sz25 rfl rfl rfl n55.blk rfl ?_)
     intro w58 s59 H60
     have E61 := below_st E57 N56 s59
     refine lw_nil ?_
     refine rk_seq ?_
     refine rk_reg ?_
     refine lw_v (.pointer (some ⟨b1, 0, none⟩)) (dv_fieldAddr (a := ⟨b1, 0, none⟩) (a' := ⟨b1, 0, none⟩) fo27_0 (T rfl f40) rfl) ?_
     have H62 := (s59.blk (n55.ext.blk H47) (by omega))
     refine lw_v (.agg #[.int .i64 ax, .int .i64 ay]) (dv_loads (l := [.int .i64 ax, .int .i64 ay]) agt25 sz25 (T rfl rfl) H62 rfl) ?_
     refine lw_v (.pointer (some ⟨b1, 2, none⟩)) (dv_fieldAddr (a := ⟨b1, 0, none⟩) (a' := ⟨b1, 2, none⟩) fo27_1 (T rfl f40) rfl) ?_
     refine lw_v (.agg #[.int .i64 bx, .int .i64 b_y]) (dv_loads (l := [.int .i64 bx, .int .i64 b_y]) agt25 sz25 (T rfl rfl) H62 rfl) ?_
     refine lw_v (.agg #[.int .i64 (([lx, ly, hx, hy, lx, hy, hx, ly]).getD (i * 2) 0), .int .i64 (([lx, ly, hx, hy, lx, hy, hx, ly]).getD (i * 2 + 1) 0)]) (dv_loads (l := [.int .i64 (([lx, ly, hx, hy, lx, hy, hx, ly]).getD (i * 2) 0), .int .i64 (([lx, ly, hx, hy, lx, hy, hx, ly]).getD (i * 2 + 1) 0)]) agt25 sz25 (T rfl rfl) H60 rfl) ?_
     refine lw_e (oe_callf (vs := [.agg #[.int .i64 ax, .int .i64 ay], .agg #[.int .i64 bx, .int .i64 b_y], .agg #[.int .i64 (([lx, ly, hx, hy, lx, hy, hx, ly]).getD (i * 2) 0), .int .i64 (([lx, ly, hx, hy, lx, hy, hx, ly]).getD (i * 2 + 1) 0)]]) co90 (ar3 (T rfl rfl) (T rfl rfl) (T rfl rfl)) (l4Turn_ok (ax := ax) (ay := ay) (bx := bx) (b_y := b_y) (px := ([lx, ly, hx, hy, lx, hy, hx, ly]).getD (i * 2) 0) (py := ([lx, ly, hx, hy, lx, hy, hx, ly]).getD (i * 2 + 1) 0)  (by omega) (by omega)) ?_)
     rintro _ w63 ⟨rfl, e64⟩
     have E65 := below_ext E61 E61.size e64
     have := sgnI_rg (crossI ax ay bx b_y (([lx, ly, hx, hy, lx, hy, hx, ly]).getD (i * 2) 0) (([lx, ly, hx, hy, lx, hy, hx, ly]).getD (i * 2 + 1) 0))
     refine lw_nil ?_
     refine rk_block ?_
     refine rk_seq ?_
     refine rk_reg ?_
     refine lw_v (.bool (decide ((sgnI (crossI ax ay bx b_y (([lx, ly, hx, hy, lx, hy, hx, ly]).getD (i * 2) 0) (([lx, ly, hx, hy, lx, hy, hx, ly]).getD (i * 2 + 1) 0))) = 1))) (dv_eql (a := sgnI (crossI ax ay bx b_y (([lx, ly, hx, hy, lx, hy, hx, ly]).getD (i * 2) 0) (([lx, ly, hx, hy, lx, hy, hx, ly]).getD (i * 2 + 1) 0))) (b := 1) (T rfl rfl) C) ?_
     refine lw_v (.bool (decide ((sgnI (crossI ax ay bx b_y (([lx, ly, hx, hy, lx, hy, hx, ly]).getD (i * 2) 0) (([lx, ly, hx, hy, lx, hy, hx, ly]).getD (i * 2 + 1) 0))) = 1))) (dv_assign (T rfl rfl)) ?_
     refine lw_nil ?_
     by_cases hb66 : (sgnI (crossI ax ay bx b_y (([lx, ly, hx, hy, lx, hy, hx, ly]).getD (i * 2) 0) (([lx, ly, hx, hy, lx, hy, hx, ly]).getD (i * 2 + 1) 0))) = 1
     · refine rk_ct (T rfl (congrArg Value.bool (decide_eq_true hb66))) ?_
       refine rk_reg ?_
       refine lw_v (.int .i64 u) (dv_move (T rfl f41)) ?_
       refine lw_v (.int .i64 (u + 1)) (dv_add (a := u) (b := 1) (z := u + 1) (T rfl rfl) C (wr_i64 (by omega) (by omega))) ?_
       refine lw_v (.int .i64 (u + 1)) (dv_assign (T rfl rfl)) ?_
       refine lw_nil ?_
       refine rk_inBlock ?_
       refine rk_inBlock ?_
       refine rk_reg ?_
       refine lw_v (.int .i64 (((i : Int)) + 1)) (dv_add (a := (i : Int)) (b := 1) (z := ((i : Int)) + 1) (T rfl f45) C (wr_i64 (by omega) (by omega))) ?_
       refine lw_v (.int .i64 (((i : Int)) + 1)) (dv_move (T rfl rfl)) ?_
       refine lw_nil ?_
       have H67 := (e64.blk H62)
       have H68 := (e64.blk (s59.blk (n55.ext.blk H48) (by omega)))
       have H69 := (e64.blk (s59.blk (n55.ext.blk H49) (by omega)))
       have H70 := (e64.blk (s59.blk (n55.ext.blk H50) (by omega)))
       exact ih37 (4 - ((i + 1))) _ _ (by rw [hd51]; omega) ⟨(i + 1), (u + 1), d, rfl, f40, rfl, f42, f43, f44, (vi (by omega)), E65, H67, H68, H69, H70, (by omega), (by have e_ : sgnI ((cG ax ay bx b_y lx ly hx hy) i) = sgnI (crossI ax ay bx b_y ([lx, ly, hx, hy, lx, hy, hx, ly].getD (i * 2) 0) ([lx, ly, hx, hy, lx, hy, hx, ly].getD (i * 2 + 1) 0)) := rfl; show _ = cntP (cG ax ay bx b_y lx ly hx hy) i + _; rw [e_]; first | (rw [if_pos (by omega)]; omega) | (rw [if_neg (by omega)]; omega)), (by have e_ : sgnI ((cG ax ay bx b_y lx ly hx hy) i) = sgnI (crossI ax ay bx b_y ([lx, ly, hx, hy, lx, hy, hx, ly].getD (i * 2) 0) ([lx, ly, hx, hy, lx, hy, hx, ly].getD (i * 2 + 1) 0)) := rfl; show _ = cntN (cG ax ay bx b_y lx ly hx hy) i + _; rw [e_]; first | (rw [if_pos (by omega)]; omega) | (rw [if_neg (by omega)]; omega))⟩
     · refine rk_cf (T rfl (congrArg Value.bool (decide_eq_false hb66))) ?_
       refine rk_seq ?_
       refine rk_reg ?_
       refine lw_v (.bool (decide ((sgnI (crossI ax ay bx b_y (([lx, ly, hx, hy, lx, hy, hx, ly]).getD (i * 2) 0) (([lx, ly, hx, hy, lx, hy, hx, ly]).getD (i * 2 + 1) 0))) = (-1)))) (dv_eql (a := sgnI (crossI ax ay bx b_y (([lx, ly, hx, hy, lx, hy, hx, ly]).getD (i * 2) 0) (([lx, ly, hx, hy, lx, hy, hx, ly]).getD (i * 2 + 1) 0))) (b := -1) (T rfl rfl) C) ?_
       refine lw_v (.bool (decide ((sgnI (crossI ax ay bx b_y (([lx, ly, hx, hy, lx, hy, hx, ly]).getD (i * 2) 0) (([lx, ly, hx, hy, lx, hy, hx, ly]).getD (i * 2 + 1) 0))) = (-1)))) (dv_assign (T rfl rfl)) ?_
       refine lw_nil ?_
       by_cases hb71 : (sgnI (crossI ax ay bx b_y (([lx, ly, hx, hy, lx, hy, hx, ly]).getD (i * 2) 0) (([lx, ly, hx, hy, lx, hy, hx, ly]).getD (i * 2 + 1) 0))) = (-1)
       · refine rk_ct (T rfl (congrArg Value.bool (decide_eq_true hb71))) ?_
         refine rk_reg ?_
         refine lw_v (.int .i64 d) (dv_move (T rfl f42)) ?_
         refine lw_v (.int .i64 (d + 1)) (dv_add (a := d) (b := 1) (z := d + 1) (T rfl rfl) C (wr_i64 (by omega) (by omega))) ?_
         refine lw_v (.int .i64 (d + 1)) (dv_assign (T rfl rfl)) ?_
         refine lw_nil ?_
         refine rk_inBlock ?_
         refine rk_inBlock ?_
         refine rk_reg ?_
         refine lw_v (.int .i64 (((i : Int)) + 1)) (dv_add (a := (i : Int)) (b := 1) (z := ((i : Int)) + 1) (T rfl f45) C (wr_i64 (by omega) (by omega))) ?_
         refine lw_v (.int .i64 (((i : Int)) + 1)) (dv_move (T rfl rfl)) ?_
         refine lw_nil ?_
         have H72 := (e64.blk H62)
         have H73 := (e64.blk (s59.blk (n55.ext.blk H48) (by omega)))
         have H74 := (e64.blk (s59.blk (n55.ext.blk H49) (by omega)))
         have H75 := (e64.blk (s59.blk (n55.ext.blk H50) (by omega)))
         exact ih37 (4 - ((i + 1))) _ _ (by rw [hd51]; omega) ⟨(i + 1), u, (d + 1), rfl, f40, f41, rfl, f43, f44, (vi (by omega)), E65, H72, H73, H74, H75, (by omega), (by have e_ : sgnI ((cG ax ay bx b_y lx ly hx hy) i) = sgnI (crossI ax ay bx b_y ([lx, ly, hx, hy, lx, hy, hx, ly].getD (i * 2) 0) ([lx, ly, hx, hy, lx, hy, hx, ly].getD (i * 2 + 1) 0)) := rfl; show _ = cntP (cG ax ay bx b_y lx ly hx hy) i + _; rw [e_]; first | (rw [if_pos (by omega)]; omega) | (rw [if_neg (by omega)]; omega)), (by have e_ : sgnI ((cG ax ay bx b_y lx ly hx hy) i) = sgnI (crossI ax ay bx b_y ([lx, ly, hx, hy, lx, hy, hx, ly].getD (i * 2) 0) ([lx, ly, hx, hy, lx, hy, hx, ly].getD (i * 2 + 1) 0)) := rfl; show _ = cntN (cG ax ay bx b_y lx ly hx hy) i + _; rw [e_]; first | (rw [if_pos (by omega)]; omega) | (rw [if_neg (by omega)]; omega))⟩
       · refine rk_cf (T rfl (congrArg Value.bool (decide_eq_false hb71))) ?_
         refine rk_skip ?_
         refine rk_inBlock ?_
         refine rk_inBlock ?_
         refine rk_reg ?_
         refine lw_v (.int .i64 (((i : Int)) + 1)) (dv_add (a := (i : Int)) (b := 1) (z := ((i : Int)) + 1) (T rfl f45) C (wr_i64 (by omega) (by omega))) ?_
         refine lw_v (.int .i64 (((i : Int)) + 1)) (dv_move (T rfl rfl)) ?_
         refine lw_nil ?_
         have H76 := (e64.blk H62)
         have H77 := (e64.blk (s59.blk (n55.ext.blk H48) (by omega)))
         have H78 := (e64.blk (s59.blk (n55.ext.blk H49) (by omega)))
         have H79 := (e64.blk (s59.blk (n55.ext.blk H50) (by omega)))
         exact ih37 (4 - ((i + 1))) _ _ (by rw [hd51]; omega) ⟨(i + 1), u, d, rfl, f40, f41, f42, f43, f44, (vi (by omega)), E65, H76, H77, H78, H79, (by omega), (by have e_ : sgnI ((cG ax ay bx b_y lx ly hx hy) i) = sgnI (crossI ax ay bx b_y ([lx, ly, hx, hy, lx, hy, hx, ly].getD (i * 2) 0) ([lx, ly, hx, hy, lx, hy, hx, ly].getD (i * 2 + 1) 0)) := rfl; show _ = cntP (cG ax ay bx b_y lx ly hx hy) i + _; rw [e_]; first | (rw [if_pos (by omega)]; omega) | (rw [if_neg (by omega)]; omega)), (by have e_ : sgnI ((cG ax ay bx b_y lx ly hx hy) i) = sgnI (crossI ax ay bx b_y ([lx, ly, hx, hy, lx, hy, hx, ly].getD (i * 2) 0) ([lx, ly, hx, hy, lx, hy, hx, ly].getD (i * 2 + 1) 0)) := rfl; show _ = cntN (cG ax ay bx b_y lx ly hx hy) i + _; rw [e_]; first | (rw [if_pos (by omega)]; omega) | (rw [if_neg (by omega)]; omega))⟩
   · refine rk_cf (T rfl (congrArg Value.bool (decide_eq_false hb52))) ?_
     refine rk_exit rfl ?_
     refine rk_seq ?_
     refine rk_reg ?_
     refine lw_v (.int .i64 u) (dv_move (T rfl f41)) ?_
     refine lw_v (.bool (decide (u < 4))) (dv_lss (a := u) (b := 4) (T rfl rfl) C) ?_
     refine lw_v (.bool (decide (u < 4))) (dv_move (T rfl rfl)) ?_
     by_cases hb80 : u < 4
     · refine lw_vy (.int .i64 d) (d := 92) rfl rfl (congrArg Value.bool (decide_eq_true hb80)) (dv_move (T rfl f42)) ?_
       refine lw_vy (.bool (decide (d < 4))) (d := 92) rfl rfl (congrArg Value.bool (decide_eq_true hb80)) (dv_lss (a := d) (b := 4) (T rfl rfl) C) ?_
       refine lw_v (.bool (decide (d < 4))) (dv_pick_t (T rfl (congrArg Value.bool (decide_eq_true hb80))) (T rfl rfl)) ?_
       refine lw_v (.bool (decide (d < 4))) (dv_assign (T rfl rfl)) ?_
       refine lw_nil ?_
       refine rk_ret Try.func44 (v := .bool (decide (d < 4))) (res1 Try.results44 (rv_tmp rfl rfl)) ⟨_, rfl, ?_⟩
       have e3 : crs = crossI := rfl; obtain ⟨g0, g1, g2, g3⟩ := cG4 ax ay bx b_y lx ly hx hy; have e4 := cnt4 (cG ax ay bx b_y lx ly hx hy); rw [g0, g1, g2, g3] at e4; have hi4 : i = 4 := (by omega); subst hi4; have e5 := e4.1; have e6 := e4.2
       exact ⟨(vb (by unfold mbV; rw [e3]; omega)), E46⟩
     · refine lw_no (d := 92) rfl rfl (congrArg Value.bool (decide_eq_false hb80)) ?_
       refine lw_no (d := 92) rfl rfl (congrArg Value.bool (decide_eq_false hb80)) ?_
       refine lw_v (.bool false) (dv_pick_f (T rfl (congrArg Value.bool (decide_eq_false hb80))) C) ?_
       refine lw_v (.bool false) (dv_assign (T rfl rfl)) ?_
       refine lw_nil ?_
       refine rk_ret Try.func44 (v := .bool false) (res1 Try.results44 (rv_tmp rfl rfl)) ⟨_, rfl, ?_⟩
       have e3 : crs = crossI := rfl; obtain ⟨g0, g1, g2, g3⟩ := cG4 ax ay bx b_y lx ly hx hy; have e4 := cnt4 (cG ax ay bx b_y lx ly hx hy); rw [g0, g1, g2, g3] at e4; have hi4 : i = 4 := (by omega); subst hi4; have e5 := e4.1; have e6 := e4.2
       exact ⟨(vf (by unfold mbV; rw [e3]; omega)), E46⟩
 · refine rk_seq ?_
   refine rk_reg ?_
   refine lw_v (.pointer (some ⟨b1, 2, none⟩)) (dv_fieldAddr (a := ⟨b1, 0, none⟩) (a' := ⟨b1, 2, none⟩) fo27_1 (T rfl rfl) rfl) ?_
   refine lw_v (.pointer (some ⟨b1, 2, none⟩)) (dv_fieldAddr (a := ⟨b1, 2, none⟩) (a' := ⟨b1, 2, none⟩) fo25_0 (T rfl rfl) rfl) ?_
   have H81 := (n13.ext.blk (n8.ext.blk n3.blk))
   refine lw_v (.int .i64 bx) (dv_load1 (b := b1) (o := 2) agt2 (T rfl rfl) H81 rfl) ?_
   refine lw_v (.pointer (some ⟨b6, 0, none⟩)) (dv_fieldAddr (a := ⟨b6, 0, none⟩) (a' := ⟨b6, 0, none⟩) fo25_0 (T rfl rfl) rfl) ?_
   have H82 := (n13.ext.blk n8.blk)
   refine lw_v (.int .i64 lx) (dv_load1 (b := b6) (o := 0) agt2 (T rfl rfl) H82 rfl) ?_
   refine lw_v (.bool (decide (bx < lx))) (dv_lss (a := bx) (b := lx) (T rfl rfl) (T rfl rfl)) ?_
   refine lw_v (.bool (decide (bx < lx))) (dv_move (T rfl rfl)) ?_
   by_cases hb83 : bx < lx
   · refine lw_no (d := 17) rfl rfl (congrArg Value.bool (decide_eq_true hb83)) ?_
     refine lw_no (d := 17) rfl rfl (congrArg Value.bool (decide_eq_true hb83)) ?_
     refine lw_no (d := 17) rfl rfl (congrArg Value.bool (decide_eq_true hb83)) ?_
     refine lw_no (d := 17) rfl rfl (congrArg Value.bool (decide_eq_true hb83)) ?_
     refine lw_no (d := 17) rfl rfl (congrArg Value.bool (decide_eq_true hb83)) ?_
     refine lw_no (d := 17) rfl rfl (congrArg Value.bool (decide_eq_true hb83)) ?_
     refine lw_v (.bool true) (dv_pick_t (T rfl (congrArg Value.bool (decide_eq_true hb83))) C) ?_
     refine lw_v (.bool true) (dv_move (T rfl rfl)) ?_
     refine lw_no (d := 25) rfl rfl (rfl) ?_
     refine lw_no (d := 25) rfl rfl (rfl) ?_
     refine lw_no (d := 25) rfl rfl (rfl) ?_
     refine lw_no (d := 25) rfl rfl (rfl) ?_
     refine lw_no (d := 25) rfl rfl (rfl) ?_
     refine lw_no (d := 25) rfl rfl (rfl) ?_
     refine lw_no (d := 25) rfl rfl (rfl) ?_
     refine lw_nou (d := 32) rfl rfl ?_
     refine lw_nou (d := 32) rfl rfl ?_
     refine lw_nou (d := 32) rfl rfl ?_
     refine lw_nou (d := 32) rfl rfl ?_
     refine lw_nou (d := 32) rfl rfl ?_
     refine lw_nou (d := 32) rfl rfl ?_
     refine lw_no (d := 25) rfl rfl (rfl) ?_
     refine lw_v (.bool true) (dv_pick_t (T rfl rfl) C) ?_
     refine lw_v (.bool true) (dv_move (T rfl rfl)) ?_
     refine lw_no (d := 41) rfl rfl (rfl) ?_
     refine lw_no (d := 41) rfl rfl (rfl) ?_
     refine lw_no (d := 41) rfl rfl (rfl) ?_
     refine lw_no (d := 41) rfl rfl (rfl) ?_
     refine lw_no (d := 41) rfl rfl (rfl) ?_
     refine lw_no (d := 41) rfl rfl (rfl) ?_
     refine lw_no (d := 41) rfl rfl (rfl) ?_
     refine lw_nou (d := 48) rfl rfl ?_
     refine lw_nou (d := 48) rfl rfl ?_
     refine lw_nou (d := 48) rfl rfl ?_
     refine lw_nou (d := 48) rfl rfl ?_
     refine lw_nou (d := 48) rfl rfl ?_
     refine lw_nou (d := 48) rfl rfl ?_
     refine lw_no (d := 41) rfl rfl (rfl) ?_
     refine lw_v (.bool true) (dv_pick_t (T rfl rfl) C) ?_
     refine lw_nil ?_
     refine rk_ct (T rfl rfl) ?_
     refine rk_seq ?_
     refine rk_reg ?_
     refine lw_v (.bool false) (dv_assign C) ?_
     refine lw_nil ?_
     refine rk_ret Try.func44 (v := .bool false) (res1 Try.results44 (rv_tmp rfl rfl)) ⟨_, rfl, ?_⟩
     exact ⟨(vf (by unfold mbV; omega)), E15⟩
   · refine lw_vy (.pointer (some ⟨b1, 0, none⟩)) (d := 17) rfl rfl (congrArg Value.bool (decide_eq_false hb83)) (dv_fieldAddr (a := ⟨b1, 0, none⟩) (a' := ⟨b1, 0, none⟩) fo27_0 (T rfl rfl) rfl) ?_
     refine lw_vy (.pointer (some ⟨b1, 0, none⟩)) (d := 17) rfl rfl (congrArg Value.bool (decide_eq_false hb83)) (dv_fieldAddr (a := ⟨b1, 0, none⟩) (a' := ⟨b1, 0, none⟩) fo25_0 (T rfl rfl) rfl) ?_
     refine lw_vy (.int .i64 ax) (d := 17) rfl rfl (congrArg Value.bool (decide_eq_false hb83)) (dv_load1 (b := b1) (o := 0) agt2 (T rfl rfl) H81 rfl) ?_
     refine lw_vy (.pointer (some ⟨b11, 0, none⟩)) (d := 17) rfl rfl (congrArg Value.bool (decide_eq_false hb83)) (dv_fieldAddr (a := ⟨b11, 0, none⟩) (a' := ⟨b11, 0, none⟩) fo25_0 (T rfl rfl) rfl) ?_
     refine lw_vy (.int .i64 hx) (d := 17) rfl rfl (congrArg Value.bool (decide_eq_false hb83)) (dv_load1 (b := b11) (o := 0) agt2 (T rfl rfl) n13.blk rfl) ?_
     refine lw_vy (.bool (decide (hx < ax))) (d := 17) rfl rfl (congrArg Value.bool (decide_eq_false hb83)) (dv_gtr (a := ax) (b := hx) (T rfl rfl) (T rfl rfl)) ?_
     refine lw_v (.bool (decide (hx < ax))) (dv_pick_f (T rfl (congrArg Value.bool (decide_eq_false hb83))) (T rfl rfl)) ?_
     refine lw_v (.bool (decide (hx < ax))) (dv_move (T rfl rfl)) ?_
     by_cases hb84 : hx < ax
     · refine lw_no (d := 25) rfl rfl (congrArg Value.bool (decide_eq_true hb84)) ?_
       refine lw_no (d := 25) rfl rfl (congrArg Value.bool (decide_eq_true hb84)) ?_
       refine lw_no (d := 25) rfl rfl (congrArg Value.bool (decide_eq_true hb84)) ?_
       refine lw_no (d := 25) rfl rfl (congrArg Value.bool (decide_eq_true hb84)) ?_
       refine lw_no (d := 25) rfl rfl (congrArg Value.bool (decide_eq_true hb84)) ?_
       refine lw_no (d := 25) rfl rfl (congrArg Value.bool (decide_eq_true hb84)) ?_
       refine lw_no (d := 25) rfl rfl (congrArg Value.bool (decide_eq_true hb84)) ?_
       refine lw_nou (d := 32) rfl rfl ?_
       refine lw_nou (d := 32) rfl rfl ?_
       refine lw_nou (d := 32) rfl rfl ?_
       refine lw_nou (d := 32) rfl rfl ?_
       refine lw_nou (d := 32) rfl rfl ?_
       refine lw_nou (d := 32) rfl rfl ?_
       refine lw_no (d := 25) rfl rfl (congrArg Value.bool (decide_eq_true hb84)) ?_
       refine lw_v (.bool true) (dv_pick_t (T rfl (congrArg Value.bool (decide_eq_true hb84))) C) ?_
       refine lw_v (.bool true) (dv_move (T rfl rfl)) ?_
       refine lw_no (d := 41) rfl rfl (rfl) ?_
       refine lw_no (d := 41) rfl rfl (rfl) ?_
       refine lw_no (d := 41) rfl rfl (rfl) ?_
       refine lw_no (d := 41) rfl rfl (rfl) ?_
       refine lw_no (d := 41) rfl rfl (rfl) ?_
       refine lw_no (d := 41) rfl rfl (rfl) ?_
       refine lw_no (d := 41) rfl rfl (rfl) ?_
       refine lw_nou (d := 48) rfl rfl ?_
       refine lw_nou (d := 48) rfl rfl ?_
       refine lw_nou (d := 48) rfl rfl ?_
       refine lw_nou (d := 48) rfl rfl ?_
       refine lw_nou (d := 48) rfl rfl ?_
       refine lw_nou (d := 48) rfl rfl ?_
       refine lw_no (d := 41) rfl rfl (rfl) ?_
       refine lw_v (.bool true) (dv_pick_t (T rfl rfl) C) ?_
       refine lw_nil ?_
       refine rk_ct (T rfl rfl) ?_
       refine rk_seq ?_
       refine rk_reg ?_
       refine lw_v (.bool false) (dv_assign C) ?_
       refine lw_nil ?_
       refine rk_ret Try.func44 (v := .bool false) (res1 Try.results44 (rv_tmp rfl rfl)) ⟨_, rfl, ?_⟩
       exact ⟨(vf (by unfold mbV; omega)), E15⟩
     · refine lw_vy (.pointer (some ⟨b1, 0, none⟩)) (d := 25) rfl rfl (congrArg Value.bool (decide_eq_false hb84)) (dv_fieldAddr (a := ⟨b1, 0, none⟩) (a' := ⟨b1, 0, none⟩) fo27_0 (T rfl rfl) rfl) ?_
       refine lw_vy (.pointer (some ⟨b1, 1, none⟩)) (d := 25) rfl rfl (congrArg Value.bool (decide_eq_false hb84)) (dv_fieldAddr (a := ⟨b1, 0, none⟩) (a' := ⟨b1, 1, none⟩) fo25_1 (T rfl rfl) rfl) ?_
       refine lw_vy (.int .i64 ay) (d := 25) rfl rfl (congrArg Value.bool (decide_eq_false hb84)) (dv_load1 (b := b1) (o := 1) agt2 (T rfl rfl) H81 rfl) ?_
       refine lw_vy (.pointer (some ⟨b6, 1, none⟩)) (d := 25) rfl rfl (congrArg Value.bool (decide_eq_false hb84)) (dv_fieldAddr (a := ⟨b6, 0, none⟩) (a' := ⟨b6, 1, none⟩) fo25_1 (T rfl rfl) rfl) ?_
       refine lw_vy (.int .i64 ly) (d := 25) rfl rfl (congrArg Value.bool (decide_eq_false hb84)) (dv_load1 (b := b6) (o := 1) agt2 (T rfl rfl) H82 rfl) ?_
       refine lw_vy (.bool (decide (ay < ly))) (d := 25) rfl rfl (congrArg Value.bool (decide_eq_false hb84)) (dv_lss (a := ay) (b := ly) (T rfl rfl) (T rfl rfl)) ?_
       refine lw_vy (.bool (decide (ay < ly))) (d := 25) rfl rfl (congrArg Value.bool (decide_eq_false hb84)) (dv_move (T rfl rfl)) ?_
       by_cases hb85 : ay < ly
       · refine lw_vy (.pointer (some ⟨b1, 2, none⟩)) (d := 32) rfl rfl (congrArg Value.bool (decide_eq_true hb85)) (dv_fieldAddr (a := ⟨b1, 0, none⟩) (a' := ⟨b1, 2, none⟩) fo27_1 (T rfl rfl) rfl) ?_
         refine lw_vy (.pointer (some ⟨b1, 3, none⟩)) (d := 32) rfl rfl (congrArg Value.bool (decide_eq_true hb85)) (dv_fieldAddr (a := ⟨b1, 2, none⟩) (a' := ⟨b1, 3, none⟩) fo25_1 (T rfl rfl) rfl) ?_
         refine lw_vy (.int .i64 b_y) (d := 32) rfl rfl (congrArg Value.bool (decide_eq_true hb85)) (dv_load1 (b := b1) (o := 3) agt2 (T rfl rfl) H81 rfl) ?_
         refine lw_vy (.pointer (some ⟨b6, 1, none⟩)) (d := 32) rfl rfl (congrArg Value.bool (decide_eq_true hb85)) (dv_fieldAddr (a := ⟨b6, 0, none⟩) (a' := ⟨b6, 1, none⟩) fo25_1 (T rfl rfl) rfl) ?_
         refine lw_vy (.int .i64 ly) (d := 32) rfl rfl (congrArg Value.bool (decide_eq_true hb85)) (dv_load1 (b := b6) (o := 1) agt2 (T rfl rfl) H82 rfl) ?_
         refine lw_vy (.bool (decide (b_y < ly))) (d := 32) rfl rfl (congrArg Value.bool (decide_eq_true hb85)) (dv_lss (a := b_y) (b := ly) (T rfl rfl) (T rfl rfl)) ?_
         refine lw_vy (.bool (decide (b_y < ly))) (d := 25) rfl rfl (congrArg Value.bool (decide_eq_false hb84)) (dv_pick_t (T rfl (congrArg Value.bool (decide_eq_true hb85))) (T rfl rfl)) ?_
         refine lw_v (.bool (decide (b_y < ly))) (dv_pick_f (T rfl (congrArg Value.bool (decide_eq_false hb84))) (T rfl rfl)) ?_
         refine lw_v (.bool (decide (b_y < ly))) (dv_move (T rfl rfl)) ?_
         by_cases hb86 : b_y < ly
         · refine lw_no (d := 41) rfl rfl (congrArg Value.bool (decide_eq_true hb86)) ?_
           refine lw_no (d := 41) rfl rfl (congrArg Value.bool (decide_eq_true hb86)) ?_
           refine lw_no (d := 41) rfl rfl (congrArg Value.bool (decide_eq_true hb86)) ?_
           refine lw_no (d := 41) rfl rfl (congrArg Value.bool (decide_eq_true hb86)) ?_
           refine lw_no (d := 41) rfl rfl (congrArg Value.bool (decide_eq_true hb86)) ?_
           refine lw_no (d := 41) rfl rfl (congrArg Value.bool (decide_eq_true hb86)) ?_
           refine lw_no (d := 41) rfl rfl (congrArg Value.bool (decide_eq_true hb86)) ?_
           refine lw_nou (d := 48) rfl rfl ?_
           refine lw_nou (d := 48) rfl rfl ?_
           refine lw_nou (d := 48) rfl rfl ?_
           refine lw_nou (d := 48) rfl rfl ?_
           refine lw_nou (d := 48) rfl rfl ?_
           refine lw_nou (d := 48) rfl rfl ?_
           refine lw_no (d := 41) rfl rfl (congrArg Value.bool (decide_eq_true hb86)) ?_
           refine lw_v (.bool true) (dv_pick_t (T rfl (congrArg Value.bool (decide_eq_true hb86))) C) ?_
           refine lw_nil ?_
           refine rk_ct (T rfl rfl) ?_
           refine rk_seq ?_
           refine rk_reg ?_
           refine lw_v (.bool false) (dv_assign C) ?_
           refine lw_nil ?_
           refine rk_ret Try.func44 (v := .bool false) (res1 Try.results44 (rv_tmp rfl rfl)) ⟨_, rfl, ?_⟩
           exact ⟨(vf (by unfold mbV; omega)), E15⟩
         · refine lw_vy (.pointer (some ⟨b1, 0, none⟩)) (d := 41) rfl rfl (congrArg Value.bool (decide_eq_false hb86)) (dv_fieldAddr (a := ⟨b1, 0, none⟩) (a' := ⟨b1, 0, none⟩) fo27_0 (T rfl rfl) rfl) ?_
           refine lw_vy (.pointer (some ⟨b1, 1, none⟩)) (d := 41) rfl rfl (congrArg Value.bool (decide_eq_false hb86)) (dv_fieldAddr (a := ⟨b1, 0, none⟩) (a' := ⟨b1, 1, none⟩) fo25_1 (T rfl rfl) rfl) ?_
           refine lw_vy (.int .i64 ay) (d := 41) rfl rfl (congrArg Value.bool (decide_eq_false hb86)) (dv_load1 (b := b1) (o := 1) agt2 (T rfl rfl) H81 rfl) ?_
           refine lw_vy (.pointer (some ⟨b11, 1, none⟩)) (d := 41) rfl rfl (congrArg Value.bool (decide_eq_false hb86)) (dv_fieldAddr (a := ⟨b11, 0, none⟩) (a' := ⟨b11, 1, none⟩) fo25_1 (T rfl rfl) rfl) ?_
           refine lw_vy (.int .i64 hy) (d := 41) rfl rfl (congrArg Value.bool (decide_eq_false hb86)) (dv_load1 (b := b11) (o := 1) agt2 (T rfl rfl) n13.blk rfl) ?_
           refine lw_vy (.bool (decide (hy < ay))) (d := 41) rfl rfl (congrArg Value.bool (decide_eq_false hb86)) (dv_gtr (a := ay) (b := hy) (T rfl rfl) (T rfl rfl)) ?_
           refine lw_vy (.bool (decide (hy < ay))) (d := 41) rfl rfl (congrArg Value.bool (decide_eq_false hb86)) (dv_move (T rfl rfl)) ?_
           by_cases hb87 : hy < ay
           · refine lw_vy (.pointer (some ⟨b1, 2, none⟩)) (d := 48) rfl rfl (congrArg Value.bool (decide_eq_true hb87)) (dv_fieldAddr (a := ⟨b1, 0, none⟩) (a' := ⟨b1, 2, none⟩) fo27_1 (T rfl rfl) rfl) ?_
             refine lw_vy (.pointer (some ⟨b1, 3, none⟩)) (d := 48) rfl rfl (congrArg Value.bool (decide_eq_true hb87)) (dv_fieldAddr (a := ⟨b1, 2, none⟩) (a' := ⟨b1, 3, none⟩) fo25_1 (T rfl rfl) rfl) ?_
             refine lw_vy (.int .i64 b_y) (d := 48) rfl rfl (congrArg Value.bool (decide_eq_true hb87)) (dv_load1 (b := b1) (o := 3) agt2 (T rfl rfl) H81 rfl) ?_
             refine lw_vy (.pointer (some ⟨b11, 1, none⟩)) (d := 48) rfl rfl (congrArg Value.bool (decide_eq_true hb87)) (dv_fieldAddr (a := ⟨b11, 0, none⟩) (a' := ⟨b11, 1, none⟩) fo25_1 (T rfl rfl) rfl) ?_
             refine lw_vy (.int .i64 hy) (d := 48) rfl rfl (congrArg Value.bool (decide_eq_true hb87)) (dv_load1 (b := b11) (o := 1) agt2 (T rfl rfl) n13.blk rfl) ?_
             refine lw_vy (.bool (decide (hy < b_y))) (d := 48) rfl rfl (congrArg Value.bool (decide_eq_true hb87)) (dv_gtr (a := b_y) (b := hy) (T rfl rfl) (T rfl rfl)) ?_
             refine lw_vy (.bool (decide (hy < b_y))) (d := 41) rfl rfl (congrArg Value.bool (decide_eq_false hb86)) (dv_pick_t (T rfl (congrArg Value.bool (decide_eq_true hb87))) (T rfl rfl)) ?_
             refine lw_v (.bool (decide (hy < b_y))) (dv_pick_f (T rfl (congrArg Value.bool (decide_eq_false hb86))) (T rfl rfl)) ?_
             refine lw_nil ?_
             by_cases hb88 : hy < b_y
             · refine rk_ct (T rfl (congrArg Value.bool (decide_eq_true hb88))) ?_
               refine rk_seq ?_
               refine rk_reg ?_
               refine lw_v (.bool false) (dv_assign C) ?_
               refine lw_nil ?_
               refine rk_ret Try.func44 (v := .bool false) (res1 Try.results44 (rv_tmp rfl rfl)) ⟨_, rfl, ?_⟩
               exact ⟨(vf (by unfold mbV; omega)), E15⟩
             · refine rk_cf (T rfl (congrArg Value.bool (decide_eq_false hb88))) ?_
               refine rk_skip ?_
               exact hj18 _ _ ⟨rfl, rfl, rfl, E15, H81, H82, n13.blk, ⟨by omega, by omega, by omega, by omega⟩⟩
           · refine lw_no (d := 48) rfl rfl (congrArg Value.bool (decide_eq_false hb87)) ?_
             refine lw_no (d := 48) rfl rfl (congrArg Value.bool (decide_eq_false hb87)) ?_
             refine lw_no (d := 48) rfl rfl (congrArg Value.bool (decide_eq_false hb87)) ?_
             refine lw_no (d := 48) rfl rfl (congrArg Value.bool (decide_eq_false hb87)) ?_
             refine lw_no (d := 48) rfl rfl (congrArg Value.bool (decide_eq_false hb87)) ?_
             refine lw_no (d := 48) rfl rfl (congrArg Value.bool (decide_eq_false hb87)) ?_
             refine lw_vy (.bool false) (d := 41) rfl rfl (congrArg Value.bool (decide_eq_false hb86)) (dv_pick_f (T rfl (congrArg Value.bool (decide_eq_false hb87))) C) ?_
             refine lw_v (.bool false) (dv_pick_f (T rfl (congrArg Value.bool (decide_eq_false hb86))) (T rfl rfl)) ?_
             refine lw_nil ?_
             refine rk_cf (T rfl rfl) ?_
             refine rk_skip ?_
             exact hj18 _ _ ⟨rfl, rfl, rfl, E15, H81, H82, n13.blk, ⟨by omega, by omega, by omega, by omega⟩⟩
       · refine lw_no (d := 32) rfl rfl (congrArg Value.bool (decide_eq_false hb85)) ?_
         refine lw_no (d := 32) rfl rfl (congrArg Value.bool (decide_eq_false hb85)) ?_
         refine lw_no (d := 32) rfl rfl (congrArg Value.bool (decide_eq_false hb85)) ?_
         refine lw_no (d := 32) rfl rfl (congrArg Value.bool (decide_eq_false hb85)) ?_
         refine lw_no (d := 32) rfl rfl (congrArg Value.bool (decide_eq_false hb85)) ?_
         refine lw_no (d := 32) rfl rfl (congrArg Value.bool (decide_eq_false hb85)) ?_
         refine lw_vy (.bool false) (d := 25) rfl rfl (congrArg Value.bool (decide_eq_false hb84)) (dv_pick_f (T rfl (congrArg Value.bool (decide_eq_false hb85))) C) ?_
         refine lw_v (.bool false) (dv_pick_f (T rfl (congrArg Value.bool (decide_eq_false hb84))) (T rfl rfl)) ?_
         refine lw_v (.bool false) (dv_move (T rfl rfl)) ?_
         refine lw_vy (.pointer (some ⟨b1, 0, none⟩)) (d := 41) rfl rfl (rfl) (dv_fieldAddr (a := ⟨b1, 0, none⟩) (a' := ⟨b1, 0, none⟩) fo27_0 (T rfl rfl) rfl) ?_
         refine lw_vy (.pointer (some ⟨b1, 1, none⟩)) (d := 41) rfl rfl (rfl) (dv_fieldAddr (a := ⟨b1, 0, none⟩) (a' := ⟨b1, 1, none⟩) fo25_1 (T rfl rfl) rfl) ?_
         refine lw_vy (.int .i64 ay) (d := 41) rfl rfl (rfl) (dv_load1 (b := b1) (o := 1) agt2 (T rfl rfl) H81 rfl) ?_
         refine lw_vy (.pointer (some ⟨b11, 1, none⟩)) (d := 41) rfl rfl (rfl) (dv_fieldAddr (a := ⟨b11, 0, none⟩) (a' := ⟨b11, 1, none⟩) fo25_1 (T rfl rfl) rfl) ?_
         refine lw_vy (.int .i64 hy) (d := 41) rfl rfl (rfl) (dv_load1 (b := b11) (o := 1) agt2 (T rfl rfl) n13.blk rfl) ?_
         refine lw_vy (.bool (decide (hy < ay))) (d := 41) rfl rfl (rfl) (dv_gtr (a := ay) (b := hy) (T rfl rfl) (T rfl rfl)) ?_
         refine lw_vy (.bool (decide (hy < ay))) (d := 41) rfl rfl (rfl) (dv_move (T rfl rfl)) ?_
         by_cases hb89 : hy < ay
         · refine lw_vy (.pointer (some ⟨b1, 2, none⟩)) (d := 48) rfl rfl (congrArg Value.bool (decide_eq_true hb89)) (dv_fieldAddr (a := ⟨b1, 0, none⟩) (a' := ⟨b1, 2, none⟩) fo27_1 (T rfl rfl) rfl) ?_
           refine lw_vy (.pointer (some ⟨b1, 3, none⟩)) (d := 48) rfl rfl (congrArg Value.bool (decide_eq_true hb89)) (dv_fieldAddr (a := ⟨b1, 2, none⟩) (a' := ⟨b1, 3, none⟩) fo25_1 (T rfl rfl) rfl) ?_
           refine lw_vy (.int .i64 b_y) (d := 48) rfl rfl (congrArg Value.bool (decide_eq_true hb89)) (dv_load1 (b := b1) (o := 3) agt2 (T rfl rfl) H81 rfl) ?_
           refine lw_vy (.pointer (some ⟨b11, 1, none⟩)) (d := 48) rfl rfl (congrArg Value.bool (decide_eq_true hb89)) (dv_fieldAddr (a := ⟨b11, 0, none⟩) (a' := ⟨b11, 1, none⟩) fo25_1 (T rfl rfl) rfl) ?_
           refine lw_vy (.int .i64 hy) (d := 48) rfl rfl (congrArg Value.bool (decide_eq_true hb89)) (dv_load1 (b := b11) (o := 1) agt2 (T rfl rfl) n13.blk rfl) ?_
           refine lw_vy (.bool (decide (hy < b_y))) (d := 48) rfl rfl (congrArg Value.bool (decide_eq_true hb89)) (dv_gtr (a := b_y) (b := hy) (T rfl rfl) (T rfl rfl)) ?_
           refine lw_vy (.bool (decide (hy < b_y))) (d := 41) rfl rfl (rfl) (dv_pick_t (T rfl (congrArg Value.bool (decide_eq_true hb89))) (T rfl rfl)) ?_
           refine lw_v (.bool (decide (hy < b_y))) (dv_pick_f (T rfl rfl) (T rfl rfl)) ?_
           refine lw_nil ?_
           by_cases hb90 : hy < b_y
           · refine rk_ct (T rfl (congrArg Value.bool (decide_eq_true hb90))) ?_
             refine rk_seq ?_
             refine rk_reg ?_
             refine lw_v (.bool false) (dv_assign C) ?_
             refine lw_nil ?_
             refine rk_ret Try.func44 (v := .bool false) (res1 Try.results44 (rv_tmp rfl rfl)) ⟨_, rfl, ?_⟩
             exact ⟨(vf (by unfold mbV; omega)), E15⟩
           · refine rk_cf (T rfl (congrArg Value.bool (decide_eq_false hb90))) ?_
             refine rk_skip ?_
             exact hj18 _ _ ⟨rfl, rfl, rfl, E15, H81, H82, n13.blk, ⟨by omega, by omega, by omega, by omega⟩⟩
         · refine lw_no (d := 48) rfl rfl (congrArg Value.bool (decide_eq_false hb89)) ?_
           refine lw_no (d := 48) rfl rfl (congrArg Value.bool (decide_eq_false hb89)) ?_
           refine lw_no (d := 48) rfl rfl (congrArg Value.bool (decide_eq_false hb89)) ?_
           refine lw_no (d := 48) rfl rfl (congrArg Value.bool (decide_eq_false hb89)) ?_
           refine lw_no (d := 48) rfl rfl (congrArg Value.bool (decide_eq_false hb89)) ?_
           refine lw_no (d := 48) rfl rfl (congrArg Value.bool (decide_eq_false hb89)) ?_
           refine lw_vy (.bool false) (d := 41) rfl rfl (rfl) (dv_pick_f (T rfl (congrArg Value.bool (decide_eq_false hb89))) C) ?_
           refine lw_v (.bool false) (dv_pick_f (T rfl rfl) (T rfl rfl)) ?_
           refine lw_nil ?_
           refine rk_cf (T rfl rfl) ?_
           refine rk_skip ?_
           exact hj18 _ _ ⟨rfl, rfl, rfl, E15, H81, H82, n13.blk, ⟨by omega, by omega, by omega, by omega⟩⟩
set_option maxHeartbeats 1000000 in
theorem sMeetsBox_ok {w : World} {ax ay bx b_y lx ly hx hy : Int}   : Ct Try.prog 10 [.agg #[.int .i64 ax, .int .i64 ay, .int .i64 bx, .int .i64 b_y], .agg #[.int .i64 lx, .int .i64 ly], .agg #[.int .i64 hx, .int .i64 hy]] w fun v w1 => v = .bool (decide (segOk ax ay bx b_y ∧ bxOk lx ly hx hy ∧ mbV ax ay bx b_y lx ly hx hy)) ∧ Ext w w1 := by
 refine ct_run (n := 20) Try.func10 rfl Try.ntmps10 rfl ?_
 have E0 : Below w.heap.size w w := Below.refl _ _
 refine rk_seq ?_
 refine rk_reg ?_
 refine lw_e (oe_box (v := .agg #[.int .i64 ax, .int .i64 ay, .int .i64 bx, .int .i64 b_y]) (cs := #[.int .i64 ax, .int .i64 ay, .int .i64 bx, .int .i64 b_y]) (T rfl rfl) rfl ?_)
 intro b1 w2 n3
 have N4 : w.heap.size ≤ b1 := n3.eq ▸ E0.size
 have E5 := below_ext E0 E0.size n3.ext
 refine lw_e (oe_box (v := .agg #[.int .i64 lx, .int .i64 ly]) (cs := #[.int .i64 lx, .int .i64 ly]) (T rfl rfl) rfl ?_)
 intro b6 w7 n8
 have N9 : w.heap.size ≤ b6 := n8.eq ▸ E5.size
 have : b1 < b6 := n8.eq ▸ lt_of_blk n3.blk
 have E10 := below_ext E5 E5.size n8.ext
 refine lw_e (oe_box (v := .agg #[.int .i64 hx, .int .i64 hy]) (cs := #[.int .i64 hx, .int .i64 hy]) (T rfl rfl) rfl ?_)
 intro b11 w12 n13
 have N14 : w.heap.size ≤ b11 := n13.eq ▸ E10.size
 have : b6 < b11 := n13.eq ▸ lt_of_blk n8.blk
 have E15 := below_ext E10 E10.size n13.ext
 refine lw_v (.bool false) (dv_assign C) ?_
 refine lw_nil ?_
 refine rk_seq ?_
 refine rk_reg ?_
 have H16 := (n13.ext.blk (n8.ext.blk n3.blk))
 refine lw_v (.agg #[.int .i64 ax, .int .i64 ay, .int .i64 bx, .int .i64 b_y]) (dv_loads (l := [.int .i64 ax, .int .i64 ay, .int .i64 bx, .int .i64 b_y]) agt27 sz27 (T rfl rfl) H16 rfl) ?_
 refine lw_e (oe_callf (vs := [.agg #[.int .i64 ax, .int .i64 ay, .int .i64 bx, .int .i64 b_y]]) co42 (ar1 (T rfl rfl)) (sSegOk_ok (ax := ax) (ay := ay) (bx := bx) (b_y := b_y)  ) ?_)
 rintro _ w17 ⟨rfl, e18⟩
 have E19 := below_ext E15 E15.size e18
 refine lw_v (.bool (decide (segOk ax ay bx b_y))) (dv_move (T rfl rfl)) ?_
 by_cases hb20 : segOk ax ay bx b_y
 · have := segOk_rg hb20
   have := hb20.2.2
   have hle_ : ax ≤ bx := by have h_ := hb20.2.2; unfold spotLt at h_; omega
   have H21 := (e18.blk (n13.ext.blk n8.blk))
   refine lw_vy (.agg #[.int .i64 lx, .int .i64 ly]) (d := 9) rfl rfl (congrArg Value.bool (decide_eq_true hb20)) (dv_loads (l := [.int .i64 lx, .int .i64 ly]) agt25 sz25 (T rfl rfl) H21 rfl) ?_
   have H22 := (e18.blk n13.blk)
   refine lw_vy (.agg #[.int .i64 hx, .int .i64 hy]) (d := 9) rfl rfl (congrArg Value.bool (decide_eq_true hb20)) (dv_loads (l := [.int .i64 hx, .int .i64 hy]) agt25 sz25 (T rfl rfl) H22 rfl) ?_
   refine lw_ey (d := 9) rfl rfl (congrArg Value.bool (decide_eq_true hb20)) (oe_callf (vs := [.agg #[.int .i64 lx, .int .i64 ly], .agg #[.int .i64 hx, .int .i64 hy]]) co43 (ar2 (T rfl rfl) (T rfl rfl)) (l4Box_ok (lx := lx) (ly := ly) (hx := hx) (hy := hy)  ) ?_)
   rintro _ w23 ⟨rfl, e24⟩
   have E25 := below_ext E19 E19.size e24
   refine lw_v (.bool (decide (bxOk lx ly hx hy))) (dv_pick_t (T rfl (congrArg Value.bool (decide_eq_true hb20))) (T rfl rfl)) ?_
   refine lw_v (.bool (decide (bxOk lx ly hx hy))) (dv_move (T rfl rfl)) ?_
   by_cases hb26 : bxOk lx ly hx hy
   · have := bxOk_rg hb26
     have H27 := (e24.blk (e18.blk H16))
     refine lw_vy (.agg #[.int .i64 ax, .int .i64 ay, .int .i64 bx, .int .i64 b_y]) (d := 14) rfl rfl (congrArg Value.bool (decide_eq_true hb26)) (dv_loads (l := [.int .i64 ax, .int .i64 ay, .int .i64 bx, .int .i64 b_y]) agt27 sz27 (T rfl rfl) H27 rfl) ?_
     have H28 := (e24.blk H21)
     refine lw_vy (.agg #[.int .i64 lx, .int .i64 ly]) (d := 14) rfl rfl (congrArg Value.bool (decide_eq_true hb26)) (dv_loads (l := [.int .i64 lx, .int .i64 ly]) agt25 sz25 (T rfl rfl) H28 rfl) ?_
     have H29 := (e24.blk H22)
     refine lw_vy (.agg #[.int .i64 hx, .int .i64 hy]) (d := 14) rfl rfl (congrArg Value.bool (decide_eq_true hb26)) (dv_loads (l := [.int .i64 hx, .int .i64 hy]) agt25 sz25 (T rfl rfl) H29 rfl) ?_
     refine lw_ey (d := 14) rfl rfl (congrArg Value.bool (decide_eq_true hb26)) (oe_callf (vs := [.agg #[.int .i64 ax, .int .i64 ay, .int .i64 bx, .int .i64 b_y], .agg #[.int .i64 lx, .int .i64 ly], .agg #[.int .i64 hx, .int .i64 hy]]) co44 (ar3 (T rfl rfl) (T rfl rfl) (T rfl rfl)) (sl4MeetsBox_ok (ax := ax) (ay := ay) (bx := bx) (b_y := b_y) (lx := lx) (ly := ly) (hx := hx) (hy := hy)  (by omega) (by omega) (by omega) (by omega)) ?_)
     rintro _ w30 ⟨rfl, e31⟩
     have E32 := below_ext E25 E25.size e31
     refine lw_v (.bool (decide (mbV ax ay bx b_y lx ly hx hy))) (dv_pick_t (T rfl (congrArg Value.bool (decide_eq_true hb26))) (T rfl rfl)) ?_
     refine lw_v (.bool (decide (mbV ax ay bx b_y lx ly hx hy))) (dv_assign (T rfl rfl)) ?_
     refine lw_nil ?_
     refine rk_ret Try.func10 (v := .bool (decide (mbV ax ay bx b_y lx ly hx hy))) (res1 Try.results10 (rv_tmp rfl rfl)) ⟨_, rfl, ?_⟩
     exact ⟨(vb ⟨fun hh => ⟨by assumption, by assumption, hh⟩, fun hh => hh.2.2⟩), E32⟩
   · refine lw_no (d := 14) rfl rfl (congrArg Value.bool (decide_eq_false hb26)) ?_
     refine lw_no (d := 14) rfl rfl (congrArg Value.bool (decide_eq_false hb26)) ?_
     refine lw_no (d := 14) rfl rfl (congrArg Value.bool (decide_eq_false hb26)) ?_
     refine lw_no (d := 14) rfl rfl (congrArg Value.bool (decide_eq_false hb26)) ?_
     refine lw_v (.bool false) (dv_pick_f (T rfl (congrArg Value.bool (decide_eq_false hb26))) C) ?_
     refine lw_v (.bool false) (dv_assign (T rfl rfl)) ?_
     refine lw_nil ?_
     refine rk_ret Try.func10 (v := .bool false) (res1 Try.results10 (rv_tmp rfl rfl)) ⟨_, rfl, ?_⟩
     exact ⟨(vf (fun hh => by first | exact absurd hh.1 (by assumption) | exact absurd hh.2.1 (by assumption))), E25⟩
 · refine lw_no (d := 9) rfl rfl (congrArg Value.bool (decide_eq_false hb20)) ?_
   refine lw_no (d := 9) rfl rfl (congrArg Value.bool (decide_eq_false hb20)) ?_
   refine lw_no (d := 9) rfl rfl (congrArg Value.bool (decide_eq_false hb20)) ?_
   refine lw_v (.bool false) (dv_pick_f (T rfl (congrArg Value.bool (decide_eq_false hb20))) C) ?_
   refine lw_v (.bool false) (dv_move (T rfl rfl)) ?_
   refine lw_no (d := 14) rfl rfl (rfl) ?_
   refine lw_no (d := 14) rfl rfl (rfl) ?_
   refine lw_no (d := 14) rfl rfl (rfl) ?_
   refine lw_no (d := 14) rfl rfl (rfl) ?_
   refine lw_v (.bool false) (dv_pick_f (T rfl rfl) C) ?_
   refine lw_v (.bool false) (dv_assign (T rfl rfl)) ?_
   refine lw_nil ?_
   refine rk_ret Try.func10 (v := .bool false) (res1 Try.results10 (rv_tmp rfl rfl)) ⟨_, rfl, ?_⟩
   exact ⟨(vf (fun hh => by first | exact absurd hh.1 (by assumption) | exact absurd hh.2.1 (by assumption))), E19⟩
end Go.Proofs.Ytmbpomcbdopgnaa.W
set_option linter.unusedVariables false
set_option linter.unusedSimpArgs false
namespace Go.Proofs.Ytmbpomcbdopgnaa.W
open Go Go.RowKit Go.Proofs.Ytmbpomcbdopgnaa.Fw
attribute [local irreducible] RunK LW AW DV OE Ct
theorem co37 : callOk Try.prog 37 = true := by kernel_rfl
theorem co38 : callOk Try.prog 38 = true := by kernel_rfl
theorem co39 : callOk Try.prog 39 = true := by kernel_rfl
set_option maxHeartbeats 1000000 in
theorem drawMeetsBox_ok {w : World} {A : Option Addr} {l c : Nat} {xs : List Int} (hx : RdI w .u8 A xs) (hxl : xs.length = l) (hl : l ≤ 1048576) (ok : okW 256 xs) : Ct Try.prog 8 [.slice A l c] w fun v w1 => ∃ (z0_ : Int) (z1_ : Int) (z2_ : Int) (z3_ : Int) (z4_ : Int) (z5_ : Int) (z6_ : Int) (z7_ : Int), v = .tuple #[.agg #[.int .i64 z0_, .int .i64 z1_, .int .i64 z2_, .int .i64 z3_], .agg #[.int .i64 z4_, .int .i64 z5_], .agg #[.int .i64 z6_, .int .i64 z7_]] ∧ Ext w w1 ∧ (-9223372036854775808 ≤ z0_ ∧ z0_ < 9223372036854775808) ∧ (-9223372036854775808 ≤ z1_ ∧ z1_ < 9223372036854775808) ∧ (-9223372036854775808 ≤ z2_ ∧ z2_ < 9223372036854775808) ∧ (-9223372036854775808 ≤ z3_ ∧ z3_ < 9223372036854775808) ∧ (-9223372036854775808 ≤ z4_ ∧ z4_ < 9223372036854775808) ∧ (-9223372036854775808 ≤ z5_ ∧ z5_ < 9223372036854775808) ∧ (-9223372036854775808 ≤ z6_ ∧ z6_ < 9223372036854775808) ∧ (-9223372036854775808 ≤ z7_ ∧ z7_ < 9223372036854775808) := by
 refine ct_run (n := 21) Try.func8 rfl Try.ntmps8 rfl ?_
 have E0 : Below w.heap.size w w := Below.refl _ _
 refine rk_seq ?_
 refine rk_reg ?_
 refine lw_e (oe_alloc ze27 ?_)
 intro b1 w2 n3
 have N4 : w.heap.size ≤ b1 := n3.eq ▸ E0.size
 have E5 := below_ext E0 E0.size n3.ext
 refine lw_e (oe_alloc ze25 ?_)
 intro b6 w7 n8
 have N9 : w.heap.size ≤ b6 := n8.eq ▸ E5.size
 have : b1 < b6 := n8.eq ▸ lt_of_blk n3.blk
 have E10 := below_ext E5 E5.size n8.ext
 refine lw_e (oe_alloc ze25 ?_)
 intro b11 w12 n13
 have N14 : w.heap.size ≤ b11 := n13.eq ▸ E10.size
 have : b6 < b11 := n13.eq ▸ lt_of_blk n8.blk
 have E15 := below_ext E10 E10.size n13.ext
 refine lw_nil ?_
 refine rk_seq ?_
 refine rk_reg ?_
 refine lw_v (.slice A l c) (dv_move (T rfl rfl)) ?_
 have H21 := (n13.ext.blk (n8.ext.blk n3.blk))
 have : b1 < w12.heap.size := lt_of_blk H21
 have H22 := (n13.ext.blk n8.blk)
 have : b6 < w12.heap.size := lt_of_blk H22
 have : b11 < w12.heap.size := lt_of_blk n13.blk
 have : w.heap.size ≤ w12.heap.size := E15.size
 refine lw_e (oe_callf (vs := [.slice A l c]) co37 (ar1 (T rfl rfl)) (l1Open_ok) ?_)
 rintro _ w19 ⟨b16, rfl, e20, H17, hN18⟩
 have E23 := below_ext E15 E15.size e20
 have : b1 < b16 := by omega
 have : b6 < b16 := by omega
 have : b11 < b16 := by omega
 have N24 : w.heap.size ≤ b16 := by omega
 refine lw_v (.pointer (some ⟨b16, 0, none⟩)) (dv_assign (T rfl rfl)) ?_
 refine lw_nil ?_
 refine rk_seq ?_
 refine rk_reg ?_
 refine lw_v (.pointer (some ⟨b16, 0, none⟩)) (dv_move (T rfl rfl)) ?_
 have h25 := ((((hx.ext n3.ext).ext n8.ext).ext n13.ext).ext e20)
 refine lw_e (oe_callf (vs := [.pointer (some ⟨b16, 0, none⟩)]) co38 (ar1 (T rfl rfl)) (rseg_ok h25 (by first | omega | (simp; done) | (simp; omega)) (by first | omega | (simp; done) | (simp; omega)) ok (hx.ne N24) H17 (by omega)) ?_)
 rintro _ w37 ⟨zi26, zi27, zi28, zi29, p34, rfl, e38, H35, hp36, hz30, hz31, hz32, hz33⟩
 have E39 := below_bx E23 N24 e38
 refine lw_e (oe_alloc ze27 ?_)
 intro b40 w41 n42
 have N43 : w.heap.size ≤ b40 := n42.eq ▸ E39.size
 have : b16 < b40 := n42.eq ▸ lt_of_blk H35
 have E44 := below_ext E39 E39.size n42.ext
 refine lw_e (oe_store (v := .agg #[.int .i64 zi26, .int .i64 zi27, .int .i64 zi28, .int .i64 zi29]) (vs := [.int .i64 zi26, .int .i64 zi27, .int .i64 zi28, .int .i64 zi29]) (l := [.int .i64 zi26, .int .i64 zi27, .int .i64 zi28, .int .i64 zi29]) (T rfl rfl) (T rfl rfl) sz27 rfl rfl rfl n42.blk rfl ?_)
 intro w45 s46 H47
 have E48 := below_st E44 N43 s46
 refine lw_nil ?_
 refine rk_seq ?_
 refine rk_reg ?_
 refine lw_v (.pointer (some ⟨b16, 0, none⟩)) (dv_move (T rfl rfl)) ?_
 have h49 := hx.ext E48
 have H50 := (s46.blk (n42.ext.blk H35) (by omega))
 refine lw_e (oe_callf (vs := [.pointer (some ⟨b16, 0, none⟩)]) co39 (ar1 (T rfl rfl)) (rbox_ok h49 (by first | omega | (simp; done) | (simp; omega)) (by first | omega | (simp; done) | (simp; omega)) ok (hx.ne N24) H50 (by omega)) ?_)
 rintro _ w62 ⟨zi51, zi52, zi53, zi54, p59, rfl, e63, H60, hp61, hz55, hz56, hz57, hz58⟩
 have E64 := below_bx E48 N24 e63
 refine lw_v (.tuple #[.agg #[.int .i64 zi51, .int .i64 zi52], .agg #[.int .i64 zi53, .int .i64 zi54]]) (dv_move (T rfl rfl)) ?_
 refine lw_v (.agg #[.int .i64 zi51, .int .i64 zi52]) (dv_extract (vs := #[.agg #[.int .i64 zi51, .int .i64 zi52], .agg #[.int .i64 zi53, .int .i64 zi54]]) (T rfl rfl) rfl) ?_
 refine lw_v (.agg #[.int .i64 zi53, .int .i64 zi54]) (dv_extract (vs := #[.agg #[.int .i64 zi51, .int .i64 zi52], .agg #[.int .i64 zi53, .int .i64 zi54]]) (T rfl rfl) rfl) ?_
 refine lw_e (oe_alloc ze25 ?_)
 intro b65 w66 n67
 have N68 : w.heap.size ≤ b65 := n67.eq ▸ E64.size
 have H69 := (bx_blk e63 H47 (by omega))
 have : b40 < b65 := n67.eq ▸ lt_of_blk H69
 have E70 := below_ext E64 E64.size n67.ext
 refine lw_e (oe_alloc ze25 ?_)
 intro b71 w72 n73
 have N74 : w.heap.size ≤ b71 := n73.eq ▸ E70.size
 have : b65 < b71 := n73.eq ▸ lt_of_blk n67.blk
 have E75 := below_ext E70 E70.size n73.ext
 have H76 := (n73.ext.blk n67.blk)
 refine lw_e (oe_store (v := .agg #[.int .i64 zi51, .int .i64 zi52]) (vs := [.int .i64 zi51, .int .i64 zi52]) (l := [.int .i64 zi51, .int .i64 zi52]) (T rfl rfl) (T rfl rfl) sz25 rfl rfl rfl H76 rfl ?_)
 intro w77 s78 H79
 have E80 := below_st E75 N68 s78
 have H81 := (s78.blk n73.blk (by omega))
 refine lw_e (oe_store (v := .agg #[.int .i64 zi53, .int .i64 zi54]) (vs := [.int .i64 zi53, .int .i64 zi54]) (l := [.int .i64 zi53, .int .i64 zi54]) (T rfl rfl) (T rfl rfl) sz25 rfl rfl rfl H81 rfl ?_)
 intro w82 s83 H84
 have E85 := below_st E80 N74 s83
 refine lw_nil ?_
 refine rk_seq ?_
 refine rk_any (fun w => w.heap[b40]? = some (.cells #[.int .i64 zi26, .int .i64 zi27, .int .i64 zi28, .int .i64 zi29] 27) ∧ w.heap[b65]? = some (.cells #[.int .i64 zi51, .int .i64 zi52] 25) ∧ w.heap[b71]? = some (.cells #[.int .i64 zi53, .int .i64 zi54] 25)) [5] mo ?_
 intro w86 d87
 have E88 := below_ext E85 E85.size d87.ext
 have H89 := (d87.ext.blk (s83.blk (s78.blk (n73.ext.blk (n67.ext.blk H69)) (by omega)) (by omega)))
 have H90 := (d87.ext.blk (s83.blk H79 (by omega)))
 have H91 := (d87.ext.blk H84)
 refine aw_load 0 (.agg #[.int .i64 zi26, .int .i64 zi27, .int .i64 zi28, .int .i64 zi29]) rfl (by kernel_rfl) .none ⟨H89, H90, H91⟩ (fun _ s => dv_loads (l := [.int .i64 zi26, .int .i64 zi27, .int .i64 zi28, .int .i64 zi29]) agt27 sz27 (T rfl rfl) s.1 rfl) ?_
 refine aw_load 1 (.agg #[.int .i64 zi51, .int .i64 zi52]) rfl (by kernel_rfl) .none ⟨H89, H90, H91⟩ (fun _ s => dv_loads (l := [.int .i64 zi51, .int .i64 zi52]) agt25 sz25 (T rfl rfl) s.2.1 rfl) ?_
 refine aw_load 2 (.agg #[.int .i64 zi53, .int .i64 zi54]) rfl (by kernel_rfl) .none ⟨H89, H90, H91⟩ (fun _ s => dv_loads (l := [.int .i64 zi53, .int .i64 zi54]) agt25 sz25 (T rfl rfl) s.2.2 rfl) ?_
 have H92 := (d87.ext.blk (s83.blk (s78.blk (n73.ext.blk (n67.ext.blk (bx_blk e63 (s46.blk (n42.ext.blk (bx_blk e38 (e20.blk H21) (by omega))) (by omega)) (by omega)))) (by omega)) (by omega)))
 refine aw_one 3 rfl (by kernel_rfl) .none (oe_store (v := .agg #[.int .i64 zi26, .int .i64 zi27, .int .i64 zi28, .int .i64 zi29]) (vs := [.int .i64 zi26, .int .i64 zi27, .int .i64 zi28, .int .i64 zi29]) (l := [.int .i64 zi26, .int .i64 zi27, .int .i64 zi28, .int .i64 zi29]) (T rfl rfl) (T rfl rfl) sz27 rfl rfl rfl H92 rfl ?_)
 intro w93 s94 H95
 have E96 := below_st E88 N4 s94
 have H97 := (s94.blk H89 (by omega))
 have H98 := (s94.blk H90 (by omega))
 have H99 := (s94.blk H91 (by omega))
 refine ⟨.inr ⟨H97, H98, H99⟩, ?_⟩
 have H100 := (s94.blk (d87.ext.blk (s83.blk (s78.blk (n73.ext.blk (n67.ext.blk (bx_blk e63 (s46.blk (n42.ext.blk (bx_blk e38 (e20.blk H22) (by omega))) (by omega)) (by omega)))) (by omega)) (by omega))) (by omega))
 refine aw_one 4 rfl (by kernel_rfl) .none (oe_store (v := .agg #[.int .i64 zi51, .int .i64 zi52]) (vs := [.int .i64 zi51, .int .i64 zi52]) (l := [.int .i64 zi51, .int .i64 zi52]) (T rfl rfl) (T rfl rfl) sz25 rfl rfl rfl H100 rfl ?_)
 intro w101 s102 H103
 have E104 := below_st E96 N9 s102
 have H105 := (s102.blk H97 (by omega))
 have H106 := (s102.blk H98 (by omega))
 have H107 := (s102.blk H99 (by omega))
 refine ⟨.inr ⟨H105, H106, H107⟩, ?_⟩
 have H108 := (s102.blk (s94.blk (d87.ext.blk (s83.blk (s78.blk (n73.ext.blk (n67.ext.blk (bx_blk e63 (s46.blk (n42.ext.blk (bx_blk e38 (e20.blk n13.blk) (by omega))) (by omega)) (by omega)))) (by omega)) (by omega))) (by omega)) (by omega))
 refine aw_one 5 rfl (by kernel_rfl) .none (oe_store (v := .agg #[.int .i64 zi53, .int .i64 zi54]) (vs := [.int .i64 zi53, .int .i64 zi54]) (l := [.int .i64 zi53, .int .i64 zi54]) (T rfl rfl) (T rfl rfl) sz25 rfl rfl rfl H108 rfl ?_)
 intro w109 s110 H111
 have E112 := below_st E104 N14 s110
 refine ⟨.inl rfl, ?_⟩
 refine aw_done (by kernel_rfl) ?_
 have H113 := (s110.blk (s102.blk H95 (by omega)) (by omega))
 have H114 := (s110.blk H103 (by omega))
 refine rk_ret Try.func8 (v := .tuple #[.agg #[.int .i64 zi26, .int .i64 zi27, .int .i64 zi28, .int .i64 zi29], .agg #[.int .i64 zi51, .int .i64 zi52], .agg #[.int .i64 zi53, .int .i64 zi54]]) (res3 Try.results8 (rv_cells (l := [.int .i64 zi26, .int .i64 zi27, .int .i64 zi28, .int .i64 zi29]) agt27 sz27 rfl rfl H113 rfl) (rv_cells (l := [.int .i64 zi51, .int .i64 zi52]) agt25 sz25 rfl rfl H114 rfl) (rv_cells (l := [.int .i64 zi53, .int .i64 zi54]) agt25 sz25 rfl rfl H111 rfl)) ⟨_, rfl, ?_⟩
 exact ⟨zi26, zi27, zi28, zi29, zi51, zi52, zi53, zi54, rfl, E112, (by omega), (by omega), (by omega), (by omega), (by omega), (by omega), (by omega), (by omega)⟩
end Go.Proofs.Ytmbpomcbdopgnaa.W
set_option linter.unusedVariables false
set_option linter.unusedSimpArgs false
namespace Go.Proofs.Ytmbpomcbdopgnaa.W
open Go Go.RowKit Go.Proofs.Ytmbpomcbdopgnaa.Fw
attribute [local irreducible] RunK LW AW DV OE Ct
theorem co91 : callOk Try.prog 91 = true := by kernel_rfl
theorem co92 : callOk Try.prog 92 = true := by kernel_rfl
theorem co93 : callOk Try.prog 93 = true := by kernel_rfl
set_option maxHeartbeats 1000000 in
theorem meetNone_ok {w : World}   : Ct Try.prog 91 [] w fun v w1 => v = .tuple #[.int .i64 0, .agg #[.int .u64 0, .int .u64 0, .int .u64 0, .int .u64 0, .int .u64 0, .int .u64 0, .int .u64 0, .int .u64 0, .int .u64 0, .int .u64 0, .int .u64 0, .int .u64 0], .agg #[.int .u64 0, .int .u64 0, .int .u64 0, .int .u64 0, .int .u64 0, .int .u64 0, .int .u64 0, .int .u64 0, .int .u64 0, .int .u64 0, .int .u64 0, .int .u64 0]] ∧ Ext w w1 := by
 refine ct_run (n := 5) Try.func91 rfl Try.ntmps91 rfl ?_
 have E0 : Below w.heap.size w w := Below.refl _ _
 refine rk_seq ?_
 refine rk_reg ?_
 refine lw_v (.int .i64 0) (dv_assign C) ?_
 refine lw_e (oe_alloc ze40 ?_)
 intro b1 w2 n3
 have N4 : w.heap.size ≤ b1 := n3.eq ▸ E0.size
 have E5 := below_ext E0 E0.size n3.ext
 refine lw_e (oe_alloc ze40 ?_)
 intro b6 w7 n8
 have N9 : w.heap.size ≤ b6 := n8.eq ▸ E5.size
 have : b1 < b6 := n8.eq ▸ lt_of_blk n3.blk
 have E10 := below_ext E5 E5.size n8.ext
 refine lw_nil ?_
 refine rk_seq ?_
 refine rk_reg ?_
 refine lw_v (.agg #[.int .u64 0, .int .u64 0, .int .u64 0, .int .u64 0, .int .u64 0, .int .u64 0, .int .u64 0, .int .u64 0, .int .u64 0, .int .u64 0, .int .u64 0, .int .u64 0]) (dv_build (pv := []) (l := [.int .u64 0, .int .u64 0, .int .u64 0, .int .u64 0, .int .u64 0, .int .u64 0, .int .u64 0, .int .u64 0, .int .u64 0, .int .u64 0, .int .u64 0, .int .u64 0]) zc40 pl40 trivial rfl) ?_
 refine lw_v (.agg #[.int .u64 0, .int .u64 0, .int .u64 0, .int .u64 0, .int .u64 0, .int .u64 0, .int .u64 0, .int .u64 0, .int .u64 0, .int .u64 0, .int .u64 0, .int .u64 0]) (dv_build (pv := []) (l := [.int .u64 0, .int .u64 0, .int .u64 0, .int .u64 0, .int .u64 0, .int .u64 0, .int .u64 0, .int .u64 0, .int .u64 0, .int .u64 0, .int .u64 0, .int .u64 0]) zc40 pl40 trivial rfl) ?_
 refine lw_v (.int .i64 0) (dv_assign C) ?_
 have H11 := (n8.ext.blk n3.blk)
 refine lw_e (oe_store (v := .agg #[.int .u64 0, .int .u64 0, .int .u64 0, .int .u64 0, .int .u64 0, .int .u64 0, .int .u64 0, .int .u64 0, .int .u64 0, .int .u64 0, .int .u64 0, .int .u64 0]) (vs := [.int .u64 0, .int .u64 0, .int .u64 0, .int .u64 0, .int .u64 0, .int .u64 0, .int .u64 0, .int .u64 0, .int .u64 0, .int .u64 0, .int .u64 0, .int .u64 0]) (l := [.int .u64 0, .int .u64 0, .int .u64 0, .int .u64 0, .int .u64 0, .int .u64 0, .int .u64 0, .int .u64 0, .int .u64 0, .int .u64 0, .int .u64 0, .int .u64 0]) (T rfl rfl) (T rfl rfl) sz40 rfl rfl rfl H11 rfl ?_)
 intro w12 s13 H14
 have E15 := below_st E10 N4 s13
 have H16 := (s13.blk n8.blk (by omega))
 refine lw_e (oe_store (v := .agg #[.int .u64 0, .int .u64 0, .int .u64 0, .int .u64 0, .int .u64 0, .int .u64 0, .int .u64 0, .int .u64 0, .int .u64 0, .int .u64 0, .int .u64 0, .int .u64 0]) (vs := [.int .u64 0, .int .u64 0, .int .u64 0, .int .u64 0, .int .u64 0, .int .u64 0, .int .u64 0, .int .u64 0, .int .u64 0, .int .u64 0, .int .u64 0, .int .u64 0]) (l := [.int .u64 0, .int .u64 0, .int .u64 0, .int .u64 0, .int .u64 0, .int .u64 0, .int .u64 0, .int .u64 0, .int .u64 0, .int .u64 0, .int .u64 0, .int .u64 0]) (T rfl rfl) (T rfl rfl) sz40 rfl rfl rfl H16 rfl ?_)
 intro w17 s18 H19
 have E20 := below_st E15 N9 s18
 refine lw_nil ?_
 have H21 := (s18.blk H14 (by omega))
 refine rk_ret Try.func91 (v := .tuple #[.int .i64 0, .agg #[.int .u64 0, .int .u64 0, .int .u64 0, .int .u64 0, .int .u64 0, .int .u64 0, .int .u64 0, .int .u64 0, .int .u64 0, .int .u64 0, .int .u64 0, .int .u64 0], .agg #[.int .u64 0, .int .u64 0, .int .u64 0, .int .u64 0, .int .u64 0, .int .u64 0, .int .u64 0, .int .u64 0, .int .u64 0, .int .u64 0, .int .u64 0, .int .u64 0]]) (res3 Try.results91 (rv_tmp rfl rfl) (rv_cells (l := [.int .u64 0, .int .u64 0, .int .u64 0, .int .u64 0, .int .u64 0, .int .u64 0, .int .u64 0, .int .u64 0, .int .u64 0, .int .u64 0, .int .u64 0, .int .u64 0]) agt40 sz40 rfl rfl H21 rfl) (rv_cells (l := [.int .u64 0, .int .u64 0, .int .u64 0, .int .u64 0, .int .u64 0, .int .u64 0, .int .u64 0, .int .u64 0, .int .u64 0, .int .u64 0, .int .u64 0, .int .u64 0]) agt40 sz40 rfl rfl H19 rfl)) ⟨_, rfl, ?_⟩
 exact ⟨rfl, E20⟩
set_option maxRecDepth 100000 in
set_option maxHeartbeats 1000000 in
theorem meet_ok {w : World} {ax ay bx b_y cx cy dx dy : Int} (hs_ : (-1000000 ≤ ax ∧ ax ≤ 1000000) ∧ (-1000000 ≤ ay ∧ ay ≤ 1000000) ∧ (-1000000 ≤ bx ∧ bx ≤ 1000000) ∧ (-1000000 ≤ b_y ∧ b_y ≤ 1000000)) (ht_ : (-1000000 ≤ cx ∧ cx ≤ 1000000) ∧ (-1000000 ≤ cy ∧ cy ≤ 1000000) ∧ (-1000000 ≤ dx ∧ dx ≤ 1000000) ∧ (-1000000 ≤ dy ∧ dy ≤ 1000000)) : Ct Try.prog 48 [.agg #[.int .i64 ax, .int .i64 ay, .int .i64 bx, .int .i64 b_y], .agg #[.int .i64 cx, .int .i64 cy, .int .i64 dx, .int .i64 dy]] w fun v w1 => ∃ k_ r0_ r1_ r2_ r3_ r4_ r5_ r6_ r7_ r8_ r9_ r10_ r11_ r12_ r13_ r14_ r15_ r16_ r17_ r18_ r19_ r20_ r21_ r22_ r23_ : Int, v = .tuple #[.int .i64 k_, .agg #[.int .u64 r0_, .int .u64 r1_, .int .u64 r2_, .int .u64 r3_, .int .u64 r4_, .int .u64 r5_, .int .u64 r6_, .int .u64 r7_, .int .u64 r8_, .int .u64 r9_, .int .u64 r10_, .int .u64 r11_], .agg #[.int .u64 r12_, .int .u64 r13_, .int .u64 r14_, .int .u64 r15_, .int .u64 r16_, .int .u64 r17_, .int .u64 r18_, .int .u64 r19_, .int .u64 r20_, .int .u64 r21_, .int .u64 r22_, .int .u64 r23_]] ∧ Ext w w1 ∧ (k_ ≠ 0 ↔ mtS ax ay bx b_y cx cy dx dy) := by
 refine ct_run (n := 215) Try.func48 rfl Try.ntmps48 rfl ?_
 have E0 : Below w.heap.size w w := Below.refl _ _
 refine rk_seq ?_
 refine rk_reg ?_
 refine lw_e (oe_box (v := .agg #[.int .i64 ax, .int .i64 ay, .int .i64 bx, .int .i64 b_y]) (cs := #[.int .i64 ax, .int .i64 ay, .int .i64 bx, .int .i64 b_y]) (T rfl rfl) rfl ?_)
 intro b1 w2 n3
 have N4 : w.heap.size ≤ b1 := n3.eq ▸ E0.size
 have E5 := below_ext E0 E0.size n3.ext
 refine lw_e (oe_box (v := .agg #[.int .i64 cx, .int .i64 cy, .int .i64 dx, .int .i64 dy]) (cs := #[.int .i64 cx, .int .i64 cy, .int .i64 dx, .int .i64 dy]) (T rfl rfl) rfl ?_)
 intro b6 w7 n8
 have N9 : w.heap.size ≤ b6 := n8.eq ▸ E5.size
 have : b1 < b6 := n8.eq ▸ lt_of_blk n3.blk
 have E10 := below_ext E5 E5.size n8.ext
 refine lw_v (.int .i64 0) (dv_assign C) ?_
 refine lw_e (oe_alloc ze40 ?_)
 intro b11 w12 n13
 have N14 : w.heap.size ≤ b11 := n13.eq ▸ E10.size
 have : b6 < b11 := n13.eq ▸ lt_of_blk n8.blk
 have E15 := below_ext E10 E10.size n13.ext
 refine lw_e (oe_alloc ze40 ?_)
 intro b16 w17 n18
 have N19 : w.heap.size ≤ b16 := n18.eq ▸ E15.size
 have : b11 < b16 := n18.eq ▸ lt_of_blk n13.blk
 have E20 := below_ext E15 E15.size n18.ext
 refine lw_nil ?_
 refine rk_seq ?_
 refine rk_reg ?_
 refine lw_v (.func (.func 91) #[] #[]) (dv_assign FN) ?_
 refine lw_nil ?_
 refine rk_seq ?_
 refine rk_seq ?_
 refine rk_reg ?_
 refine lw_v (.pointer (some ⟨b1, 0, none⟩)) (dv_fieldAddr (a := ⟨b1, 0, none⟩) (a' := ⟨b1, 0, none⟩) fo27_0 (T rfl rfl) rfl) ?_
 refine lw_v (.pointer (some ⟨b1, 0, none⟩)) (dv_fieldAddr (a := ⟨b1, 0, none⟩) (a' := ⟨b1, 0, none⟩) fo25_0 (T rfl rfl) rfl) ?_
 have H21 := (n18.ext.blk (n13.ext.blk (n8.ext.blk n3.blk)))
 refine lw_v (.int .i64 ax) (dv_load1 (b := b1) (o := 0) agt2 (T rfl rfl) H21 rfl) ?_
 refine lw_v (.pointer (some ⟨b6, 0, none⟩)) (dv_fieldAddr (a := ⟨b6, 0, none⟩) (a' := ⟨b6, 0, none⟩) fo27_0 (T rfl rfl) rfl) ?_
 refine lw_v (.pointer (some ⟨b6, 0, none⟩)) (dv_fieldAddr (a := ⟨b6, 0, none⟩) (a' := ⟨b6, 0, none⟩) fo25_0 (T rfl rfl) rfl) ?_
 have H22 := (n18.ext.blk (n13.ext.blk n8.blk))
 refine lw_v (.int .i64 cx) (dv_load1 (b := b6) (o := 0) agt2 (T rfl rfl) H22 rfl) ?_
 refine lw_v (.int .i64 (mx ax cx)) (dv_max (a := ax) (b := cx) (T rfl rfl) (T rfl rfl)) ?_
 refine lw_v (.pointer (some ⟨b1, 2, none⟩)) (dv_fieldAddr (a := ⟨b1, 0, none⟩) (a' := ⟨b1, 2, none⟩) fo27_1 (T rfl rfl) rfl) ?_
 refine lw_v (.pointer (some ⟨b1, 2, none⟩)) (dv_fieldAddr (a := ⟨b1, 2, none⟩) (a' := ⟨b1, 2, none⟩) fo25_0 (T rfl rfl) rfl) ?_
 refine lw_v (.int .i64 bx) (dv_load1 (b := b1) (o := 2) agt2 (T rfl rfl) H21 rfl) ?_
 refine lw_v (.pointer (some ⟨b6, 2, none⟩)) (dv_fieldAddr (a := ⟨b6, 0, none⟩) (a' := ⟨b6, 2, none⟩) fo27_1 (T rfl rfl) rfl) ?_
 refine lw_v (.pointer (some ⟨b6, 2, none⟩)) (dv_fieldAddr (a := ⟨b6, 2, none⟩) (a' := ⟨b6, 2, none⟩) fo25_0 (T rfl rfl) rfl) ?_
 refine lw_v (.int .i64 dx) (dv_load1 (b := b6) (o := 2) agt2 (T rfl rfl) H22 rfl) ?_
 refine lw_v (.int .i64 (mn bx dx)) (dv_min (a := bx) (b := dx) (T rfl rfl) (T rfl rfl)) ?_
 refine lw_v (.bool (decide ((mn bx dx) < (mx ax cx)))) (dv_gtr (a := mx ax cx) (b := mn bx dx) (T rfl rfl) (T rfl rfl)) ?_
 refine lw_v (.bool (decide ((mn bx dx) < (mx ax cx)))) (dv_move (T rfl rfl)) ?_
 by_cases hb23 : (mn bx dx) < (mx ax cx)
 · refine lw_no (d := 35) rfl rfl (congrArg Value.bool (decide_eq_true hb23)) ?_
   refine lw_no (d := 35) rfl rfl (congrArg Value.bool (decide_eq_true hb23)) ?_
   refine lw_no (d := 35) rfl rfl (congrArg Value.bool (decide_eq_true hb23)) ?_
   refine lw_no (d := 35) rfl rfl (congrArg Value.bool (decide_eq_true hb23)) ?_
   refine lw_no (d := 35) rfl rfl (congrArg Value.bool (decide_eq_true hb23)) ?_
   refine lw_no (d := 35) rfl rfl (congrArg Value.bool (decide_eq_true hb23)) ?_
   refine lw_no (d := 35) rfl rfl (congrArg Value.bool (decide_eq_true hb23)) ?_
   refine lw_no (d := 35) rfl rfl (congrArg Value.bool (decide_eq_true hb23)) ?_
   refine lw_no (d := 35) rfl rfl (congrArg Value.bool (decide_eq_true hb23)) ?_
   refine lw_no (d := 35) rfl rfl (congrArg Value.bool (decide_eq_true hb23)) ?_
   refine lw_no (d := 35) rfl rfl (congrArg Value.bool (decide_eq_true hb23)) ?_
   refine lw_no (d := 35) rfl rfl (congrArg Value.bool (decide_eq_true hb23)) ?_
   refine lw_no (d := 35) rfl rfl (congrArg Value.bool (decide_eq_true hb23)) ?_
   refine lw_no (d := 35) rfl rfl (congrArg Value.bool (decide_eq_true hb23)) ?_
   refine lw_no (d := 35) rfl rfl (congrArg Value.bool (decide_eq_true hb23)) ?_
   refine lw_no (d := 35) rfl rfl (congrArg Value.bool (decide_eq_true hb23)) ?_
   refine lw_no (d := 35) rfl rfl (congrArg Value.bool (decide_eq_true hb23)) ?_
   refine lw_no (d := 35) rfl rfl (congrArg Value.bool (decide_eq_true hb23)) ?_
   refine lw_no (d := 35) rfl rfl (congrArg Value.bool (decide_eq_true hb23)) ?_
   refine lw_no (d := 35) rfl rfl (congrArg Value.bool (decide_eq_true hb23)) ?_
   refine lw_no (d := 35) rfl rfl (congrArg Value.bool (decide_eq_true hb23)) ?_
   refine lw_no (d := 35) rfl rfl (congrArg Value.bool (decide_eq_true hb23)) ?_
   refine lw_no (d := 35) rfl rfl (congrArg Value.bool (decide_eq_true hb23)) ?_
   refine lw_no (d := 35) rfl rfl (congrArg Value.bool (decide_eq_true hb23)) ?_
   refine lw_no (d := 35) rfl rfl (congrArg Value.bool (decide_eq_true hb23)) ?_
   refine lw_no (d := 35) rfl rfl (congrArg Value.bool (decide_eq_true hb23)) ?_
   refine lw_no (d := 35) rfl rfl (congrArg Value.bool (decide_eq_true hb23)) ?_
   refine lw_no (d := 35) rfl rfl (congrArg Value.bool (decide_eq_true hb23)) ?_
   refine lw_no (d := 35) rfl rfl (congrArg Value.bool (decide_eq_true hb23)) ?_
   refine lw_no (d := 35) rfl rfl (congrArg Value.bool (decide_eq_true hb23)) ?_
   refine lw_no (d := 35) rfl rfl (congrArg Value.bool (decide_eq_true hb23)) ?_
   refine lw_v (.bool true) (dv_pick_t (T rfl (congrArg Value.bool (decide_eq_true hb23))) C) ?_
   refine lw_nil ?_
   refine rk_ct (T rfl rfl) ?_
   refine rk_seq ?_
   refine rk_reg ?_
   refine lw_v (.func (.func 91) #[] #[]) (dv_move (T rfl rfl)) ?_
   refine lw_e (oe_callv (vs := []) (T rfl rfl) co91 ar0 (meetNone_ok ) ?_)
   rintro _ w24 ⟨rfl, e25⟩
   have E26 := below_ext E20 E20.size e25
   refine lw_v (.int .i64 0) (dv_extract (vs := #[.int .i64 0, .agg #[.int .u64 0, .int .u64 0, .int .u64 0, .int .u64 0, .int .u64 0, .int .u64 0, .int .u64 0, .int .u64 0, .int .u64 0, .int .u64 0, .int .u64 0, .int .u64 0], .agg #[.int .u64 0, .int .u64 0, .int .u64 0, .int .u64 0, .int .u64 0, .int .u64 0, .int .u64 0, .int .u64 0, .int .u64 0, .int .u64 0, .int .u64 0, .int .u64 0]]) (T rfl rfl) rfl) ?_
   refine lw_v (.agg #[.int .u64 0, .int .u64 0, .int .u64 0, .int .u64 0, .int .u64 0, .int .u64 0, .int .u64 0, .int .u64 0, .int .u64 0, .int .u64 0, .int .u64 0, .int .u64 0]) (dv_extract (vs := #[.int .i64 0, .agg #[.int .u64 0, .int .u64 0, .int .u64 0, .int .u64 0, .int .u64 0, .int .u64 0, .int .u64 0, .int .u64 0, .int .u64 0, .int .u64 0, .int .u64 0, .int .u64 0], .agg #[.int .u64 0, .int .u64 0, .int .u64 0, .int .u64 0, .int .u64 0, .int .u64 0, .int .u64 0, .int .u64 0, .int .u64 0, .int .u64 0, .int .u64 0, .int .u64 0]]) (T rfl rfl) rfl) ?_
   refine lw_v (.agg #[.int .u64 0, .int .u64 0, .int .u64 0, .int .u64 0, .int .u64 0, .int .u64 0, .int .u64 0, .int .u64 0, .int .u64 0, .int .u64 0, .int .u64 0, .int .u64 0]) (dv_extract (vs := #[.int .i64 0, .agg #[.int .u64 0, .int .u64 0, .int .u64 0, .int .u64 0, .int .u64 0, .int .u64 0, .int .u64 0, .int .u64 0, .int .u64 0, .int .u64 0, .int .u64 0, .int .u64 0], .agg #[.int .u64 0, .int .u64 0, .int .u64 0, .int .u64 0, .int .u64 0, .int .u64 0, .int .u64 0, .int .u64 0, .int .u64 0, .int .u64 0, .int .u64 0, .int .u64 0]]) (T rfl rfl) rfl) ?_
   refine lw_v (.int .i64 0) (dv_assign (T rfl rfl)) ?_
   have H27 := (e25.blk (n18.ext.blk n13.blk))
   refine lw_e (oe_store (v := .agg #[.int .u64 0, .int .u64 0, .int .u64 0, .int .u64 0, .int .u64 0, .int .u64 0, .int .u64 0, .int .u64 0, .int .u64 0, .int .u64 0, .int .u64 0, .int .u64 0]) (vs := [.int .u64 0, .int .u64 0, .int .u64 0, .int .u64 0, .int .u64 0, .int .u64 0, .int .u64 0, .int .u64 0, .int .u64 0, .int .u64 0, .int .u64 0, .int .u64 0]) (l := [.int .u64 0, .int .u64 0, .int .u64 0, .int .u64 0, .int .u64 0, .int .u64 0, .int .u64 0, .int .u64 0, .int .u64 0, .int .u64 0, .int .u64 0, .int .u64 0]) (T rfl rfl) (T rfl rfl) sz40 rfl rfl rfl H27 rfl ?_)
   intro w28 s29 H30
   have E31 := below_st E26 N14 s29
   have H32 := (s29.blk (e25.blk n18.blk) (by omega))
   refine lw_e (oe_store (v := .agg #[.int .u64 0, .int .u64 0, .int .u64 0, .int .u64 0, .int .u64 0, .int .u64 0, .int .u64 0, .int .u64 0, .int .u64 0, .int .u64 0, .int .u64 0, .int .u64 0]) (vs := [.int .u64 0, .int .u64 0, .int .u64 0, .int .u64 0, .int .u64 0, .int .u64 0, .int .u64 0, .int .u64 0, .int .u64 0, .int .u64 0, .int .u64 0, .int .u64 0]) (l := [.int .u64 0, .int .u64 0, .int .u64 0, .int .u64 0, .int .u64 0, .int .u64 0, .int .u64 0, .int .u64 0, .int .u64 0, .int .u64 0, .int .u64 0, .int .u64 0]) (T rfl rfl) (T rfl rfl) sz40 rfl rfl rfl H32 rfl ?_)
   intro w33 s34 H35
   have E36 := below_st E31 N19 s34
   refine lw_nil ?_
   have H37 := (s34.blk H30 (by omega))
   refine rk_ret Try.func48 (v := .tuple #[.int .i64 0, .agg #[.int .u64 0, .int .u64 0, .int .u64 0, .int .u64 0, .int .u64 0, .int .u64 0, .int .u64 0, .int .u64 0, .int .u64 0, .int .u64 0, .int .u64 0, .int .u64 0], .agg #[.int .u64 0, .int .u64 0, .int .u64 0, .int .u64 0, .int .u64 0, .int .u64 0, .int .u64 0, .int .u64 0, .int .u64 0, .int .u64 0, .int .u64 0, .int .u64 0]]) (res3 Try.results48 (rv_tmp rfl rfl) (rv_cells (l := [.int .u64 0, .int .u64 0, .int .u64 0, .int .u64 0, .int .u64 0, .int .u64 0, .int .u64 0, .int .u64 0, .int .u64 0, .int .u64 0, .int .u64 0, .int .u64 0]) agt40 sz40 rfl rfl H37 rfl) (rv_cells (l := [.int .u64 0, .int .u64 0, .int .u64 0, .int .u64 0, .int .u64 0, .int .u64 0, .int .u64 0, .int .u64 0, .int .u64 0, .int .u64 0, .int .u64 0, .int .u64 0]) agt40 sz40 rfl rfl H35 rfl)) ⟨_, rfl, ?_⟩
   exact ⟨0, 0, 0, 0, 0, 0, 0, 0, 0, 0, 0, 0, 0, 0, 0, 0, 0, 0, 0, 0, 0, 0, 0, 0, 0, rfl, E36, ⟨fun h => absurd rfl h, fun h => absurd h (mt_n1 hb23)⟩⟩
 · refine lw_vy (.pointer (some ⟨b1, 0, none⟩)) (d := 35) rfl rfl (congrArg Value.bool (decide_eq_false hb23)) (dv_fieldAddr (a := ⟨b1, 0, none⟩) (a' := ⟨b1, 0, none⟩) fo27_0 (T rfl rfl) rfl) ?_
   refine lw_vy (.pointer (some ⟨b1, 1, none⟩)) (d := 35) rfl rfl (congrArg Value.bool (decide_eq_false hb23)) (dv_fieldAddr (a := ⟨b1, 0, none⟩) (a' := ⟨b1, 1, none⟩) fo25_1 (T rfl rfl) rfl) ?_
   refine lw_vy (.int .i64 ay) (d := 35) rfl rfl (congrArg Value.bool (decide_eq_false hb23)) (dv_load1 (b := b1) (o := 1) agt2 (T rfl rfl) H21 rfl) ?_
   refine lw_vy (.pointer (some ⟨b1, 2, none⟩)) (d := 35) rfl rfl (congrArg Value.bool (decide_eq_false hb23)) (dv_fieldAddr (a := ⟨b1, 0, none⟩) (a' := ⟨b1, 2, none⟩) fo27_1 (T rfl rfl) rfl) ?_
   refine lw_vy (.pointer (some ⟨b1, 3, none⟩)) (d := 35) rfl rfl (congrArg Value.bool (decide_eq_false hb23)) (dv_fieldAddr (a := ⟨b1, 2, none⟩) (a' := ⟨b1, 3, none⟩) fo25_1 (T rfl rfl) rfl) ?_
   refine lw_vy (.int .i64 b_y) (d := 35) rfl rfl (congrArg Value.bool (decide_eq_false hb23)) (dv_load1 (b := b1) (o := 3) agt2 (T rfl rfl) H21 rfl) ?_
   refine lw_vy (.int .i64 (mn ay b_y)) (d := 35) rfl rfl (congrArg Value.bool (decide_eq_false hb23)) (dv_min (a := ay) (b := b_y) (T rfl rfl) (T rfl rfl)) ?_
   refine lw_vy (.pointer (some ⟨b6, 0, none⟩)) (d := 35) rfl rfl (congrArg Value.bool (decide_eq_false hb23)) (dv_fieldAddr (a := ⟨b6, 0, none⟩) (a' := ⟨b6, 0, none⟩) fo27_0 (T rfl rfl) rfl) ?_
   refine lw_vy (.pointer (some ⟨b6, 1, none⟩)) (d := 35) rfl rfl (congrArg Value.bool (decide_eq_false hb23)) (dv_fieldAddr (a := ⟨b6, 0, none⟩) (a' := ⟨b6, 1, none⟩) fo25_1 (T rfl rfl) rfl) ?_
   refine lw_vy (.int .i64 cy) (d := 35) rfl rfl (congrArg Value.bool (decide_eq_false hb23)) (dv_load1 (b := b6) (o := 1) agt2 (T rfl rfl) H22 rfl) ?_
   refine lw_vy (.pointer (some ⟨b6, 2, none⟩)) (d := 35) rfl rfl (congrArg Value.bool (decide_eq_false hb23)) (dv_fieldAddr (a := ⟨b6, 0, none⟩) (a' := ⟨b6, 2, none⟩) fo27_1 (T rfl rfl) rfl) ?_
   refine lw_vy (.pointer (some ⟨b6, 3, none⟩)) (d := 35) rfl rfl (congrArg Value.bool (decide_eq_false hb23)) (dv_fieldAddr (a := ⟨b6, 2, none⟩) (a' := ⟨b6, 3, none⟩) fo25_1 (T rfl rfl) rfl) ?_
   refine lw_vy (.int .i64 dy) (d := 35) rfl rfl (congrArg Value.bool (decide_eq_false hb23)) (dv_load1 (b := b6) (o := 3) agt2 (T rfl rfl) H22 rfl) ?_
   refine lw_vy (.int .i64 (mn cy dy)) (d := 35) rfl rfl (congrArg Value.bool (decide_eq_false hb23)) (dv_min (a := cy) (b := dy) (T rfl rfl) (T rfl rfl)) ?_
   refine lw_vy (.int .i64 (mx (mn ay b_y) (mn cy dy))) (d := 35) rfl rfl (congrArg Value.bool (decide_eq_false hb23)) (dv_max (a := mn ay b_y) (b := mn cy dy) (T rfl rfl) (T rfl rfl)) ?_
   refine lw_vy (.pointer (some ⟨b1, 0, none⟩)) (d := 35) rfl rfl (congrArg Value.bool (decide_eq_false hb23)) (dv_fieldAddr (a := ⟨b1, 0, none⟩) (a' := ⟨b1, 0, none⟩) fo27_0 (T rfl rfl) rfl) ?_
   refine lw_vy (.pointer (some ⟨b1, 1, none⟩)) (d := 35) rfl rfl (congrArg Value.bool (decide_eq_false hb23)) (dv_fieldAddr (a := ⟨b1, 0, none⟩) (a' := ⟨b1, 1, none⟩) fo25_1 (T rfl rfl) rfl) ?_
   refine lw_vy (.int .i64 ay) (d := 35) rfl rfl (congrArg Value.bool (decide_eq_false hb23)) (dv_load1 (b := b1) (o := 1) agt2 (T rfl rfl) H21 rfl) ?_
   refine lw_vy (.pointer (some ⟨b1, 2, none⟩)) (d := 35) rfl rfl (congrArg Value.bool (decide_eq_false hb23)) (dv_fieldAddr (a := ⟨b1, 0, none⟩) (a' := ⟨b1, 2, none⟩) fo27_1 (T rfl rfl) rfl) ?_
   refine lw_vy (.pointer (some ⟨b1, 3, none⟩)) (d := 35) rfl rfl (congrArg Value.bool (decide_eq_false hb23)) (dv_fieldAddr (a := ⟨b1, 2, none⟩) (a' := ⟨b1, 3, none⟩) fo25_1 (T rfl rfl) rfl) ?_
   refine lw_vy (.int .i64 b_y) (d := 35) rfl rfl (congrArg Value.bool (decide_eq_false hb23)) (dv_load1 (b := b1) (o := 3) agt2 (T rfl rfl) H21 rfl) ?_
   refine lw_vy (.int .i64 (mx ay b_y)) (d := 35) rfl rfl (congrArg Value.bool (decide_eq_false hb23)) (dv_max (a := ay) (b := b_y) (T rfl rfl) (T rfl rfl)) ?_
   refine lw_vy (.pointer (some ⟨b6, 0, none⟩)) (d := 35) rfl rfl (congrArg Value.bool (decide_eq_false hb23)) (dv_fieldAddr (a := ⟨b6, 0, none⟩) (a' := ⟨b6, 0, none⟩) fo27_0 (T rfl rfl) rfl) ?_
   refine lw_vy (.pointer (some ⟨b6, 1, none⟩)) (d := 35) rfl rfl (congrArg Value.bool (decide_eq_false hb23)) (dv_fieldAddr (a := ⟨b6, 0, none⟩) (a' := ⟨b6, 1, none⟩) fo25_1 (T rfl rfl) rfl) ?_
   refine lw_vy (.int .i64 cy) (d := 35) rfl rfl (congrArg Value.bool (decide_eq_false hb23)) (dv_load1 (b := b6) (o := 1) agt2 (T rfl rfl) H22 rfl) ?_
   refine lw_vy (.pointer (some ⟨b6, 2, none⟩)) (d := 35) rfl rfl (congrArg Value.bool (decide_eq_false hb23)) (dv_fieldAddr (a := ⟨b6, 0, none⟩) (a' := ⟨b6, 2, none⟩) fo27_1 (T rfl rfl) rfl) ?_
   refine lw_vy (.pointer (some ⟨b6, 3, none⟩)) (d := 35) rfl rfl (congrArg Value.bool (decide_eq_false hb23)) (dv_fieldAddr (a := ⟨b6, 2, none⟩) (a' := ⟨b6, 3, none⟩) fo25_1 (T rfl rfl) rfl) ?_
   refine lw_vy (.int .i64 dy) (d := 35) rfl rfl (congrArg Value.bool (decide_eq_false hb23)) (dv_load1 (b := b6) (o := 3) agt2 (T rfl rfl) H22 rfl) ?_
   refine lw_vy (.int .i64 (mx cy dy)) (d := 35) rfl rfl (congrArg Value.bool (decide_eq_false hb23)) (dv_max (a := cy) (b := dy) (T rfl rfl) (T rfl rfl)) ?_
   refine lw_vy (.int .i64 (mn (mx ay b_y) (mx cy dy))) (d := 35) rfl rfl (congrArg Value.bool (decide_eq_false hb23)) (dv_min (a := mx ay b_y) (b := mx cy dy) (T rfl rfl) (T rfl rfl)) ?_
   refine lw_vy (.bool (decide ((mn (mx ay b_y) (mx cy dy)) < (mx (mn ay b_y) (mn cy dy))))) (d := 35) rfl rfl (congrArg Value.bool (decide_eq_false hb23)) (dv_gtr (a := mx (mn ay b_y) (mn cy dy)) (b := mn (mx ay b_y) (mx cy dy)) (T rfl rfl) (T rfl rfl)) ?_
   refine lw_v (.bool (decide ((mn (mx ay b_y) (mx cy dy)) < (mx (mn ay b_y) (mn cy dy))))) (dv_pick_f (T rfl (congrArg Value.bool (decide_eq_false hb23))) (T rfl rfl)) ?_
   refine lw_nil ?_
   by_cases hb38 : (mn (mx ay b_y) (mx cy dy)) < (mx (mn ay b_y) (mn cy dy))
   · refine rk_ct (T rfl (congrArg Value.bool (decide_eq_true hb38))) ?_
     refine rk_seq ?_
     refine rk_reg ?_
     refine lw_v (.func (.func 91) #[] #[]) (dv_move (T rfl rfl)) ?_
     refine lw_e (oe_callv (vs := []) (T rfl rfl) co91 ar0 (meetNone_ok ) ?_)
     rintro _ w39 ⟨rfl, e40⟩
     have E41 := below_ext E20 E20.size e40
     refine lw_v (.int .i64 0) (dv_extract (vs := #[.int .i64 0, .agg #[.int .u64 0, .int .u64 0, .int .u64 0, .int .u64 0, .int .u64 0, .int .u64 0, .int .u64 0, .int .u64 0, .int .u64 0, .int .u64 0, .int .u64 0, .int .u64 0], .agg #[.int .u64 0, .int .u64 0, .int .u64 0, .int .u64 0, .int .u64 0, .int .u64 0, .int .u64 0, .int .u64 0, .int .u64 0, .int .u64 0, .int .u64 0, .int .u64 0]]) (T rfl rfl) rfl) ?_
     refine lw_v (.agg #[.int .u64 0, .int .u64 0, .int .u64 0, .int .u64 0, .int .u64 0, .int .u64 0, .int .u64 0, .int .u64 0, .int .u64 0, .int .u64 0, .int .u64 0, .int .u64 0]) (dv_extract (vs := #[.int .i64 0, .agg #[.int .u64 0, .int .u64 0, .int .u64 0, .int .u64 0, .int .u64 0, .int .u64 0, .int .u64 0, .int .u64 0, .int .u64 0, .int .u64 0, .int .u64 0, .int .u64 0], .agg #[.int .u64 0, .int .u64 0, .int .u64 0, .int .u64 0, .int .u64 0, .int .u64 0, .int .u64 0, .int .u64 0, .int .u64 0, .int .u64 0, .int .u64 0, .int .u64 0]]) (T rfl rfl) rfl) ?_
     refine lw_v (.agg #[.int .u64 0, .int .u64 0, .int .u64 0, .int .u64 0, .int .u64 0, .int .u64 0, .int .u64 0, .int .u64 0, .int .u64 0, .int .u64 0, .int .u64 0, .int .u64 0]) (dv_extract (vs := #[.int .i64 0, .agg #[.int .u64 0, .int .u64 0, .int .u64 0, .int .u64 0, .int .u64 0, .int .u64 0, .int .u64 0, .int .u64 0, .int .u64 0, .int .u64 0, .int .u64 0, .int .u64 0], .agg #[.int .u64 0, .int .u64 0, .int .u64 0, .int .u64 0, .int .u64 0, .int .u64 0, .int .u64 0, .int .u64 0, .int .u64 0, .int .u64 0, .int .u64 0, .int .u64 0]]) (T rfl rfl) rfl) ?_
     refine lw_v (.int .i64 0) (dv_assign (T rfl rfl)) ?_
     have H42 := (e40.blk (n18.ext.blk n13.blk))
     refine lw_e (oe_store (v := .agg #[.int .u64 0, .int .u64 0, .int .u64 0, .int .u64 0, .int .u64 0, .int .u64 0, .int .u64 0, .int .u64 0, .int .u64 0, .int .u64 0, .int .u64 0, .int .u64 0]) (vs := [.int .u64 0, .int .u64 0, .int .u64 0, .int .u64 0, .int .u64 0, .int .u64 0, .int .u64 0, .int .u64 0, .int .u64 0, .int .u64 0, .int .u64 0, .int .u64 0]) (l := [.int .u64 0, .int .u64 0, .int .u64 0, .int .u64 0, .int .u64 0, .int .u64 0, .int .u64 0, .int .u64 0, .int .u64 0, .int .u64 0, .int .u64 0, .int .u64 0]) (T rfl rfl) (T rfl rfl) sz40 rfl rfl rfl H42 rfl ?_)
     intro w43 s44 H45
     have E46 := below_st E41 N14 s44
     have H47 := (s44.blk (e40.blk n18.blk) (by omega))
     refine lw_e (oe_store (v := .agg #[.int .u64 0, .int .u64 0, .int .u64 0, .int .u64 0, .int .u64 0, .int .u64 0, .int .u64 0, .int .u64 0, .int .u64 0, .int .u64 0, .int .u64 0, .int .u64 0]) (vs := [.int .u64 0, .int .u64 0, .int .u64 0, .int .u64 0, .int .u64 0, .int .u64 0, .int .u64 0, .int .u64 0, .int .u64 0, .int .u64 0, .int .u64 0, .int .u64 0]) (l := [.int .u64 0, .int .u64 0, .int .u64 0, .int .u64 0, .int .u64 0, .int .u64 0, .int .u64 0, .int .u64 0, .int .u64 0, .int .u64 0, .int .u64 0, .int .u64 0]) (T rfl rfl) (T rfl rfl) sz40 rfl rfl rfl H47 rfl ?_)
     intro w48 s49 H50
     have E51 := below_st E46 N19 s49
     refine lw_nil ?_
     have H52 := (s49.blk H45 (by omega))
     refine rk_ret Try.func48 (v := .tuple #[.int .i64 0, .agg #[.int .u64 0, .int .u64 0, .int .u64 0, .int .u64 0, .int .u64 0, .int .u64 0, .int .u64 0, .int .u64 0, .int .u64 0, .int .u64 0, .int .u64 0, .int .u64 0], .agg #[.int .u64 0, .int .u64 0, .int .u64 0, .int .u64 0, .int .u64 0, .int .u64 0, .int .u64 0, .int .u64 0, .int .u64 0, .int .u64 0, .int .u64 0, .int .u64 0]]) (res3 Try.results48 (rv_tmp rfl rfl) (rv_cells (l := [.int .u64 0, .int .u64 0, .int .u64 0, .int .u64 0, .int .u64 0, .int .u64 0, .int .u64 0, .int .u64 0, .int .u64 0, .int .u64 0, .int .u64 0, .int .u64 0]) agt40 sz40 rfl rfl H52 rfl) (rv_cells (l := [.int .u64 0, .int .u64 0, .int .u64 0, .int .u64 0, .int .u64 0, .int .u64 0, .int .u64 0, .int .u64 0, .int .u64 0, .int .u64 0, .int .u64 0, .int .u64 0]) agt40 sz40 rfl rfl H50 rfl)) ⟨_, rfl, ?_⟩
     exact ⟨0, 0, 0, 0, 0, 0, 0, 0, 0, 0, 0, 0, 0, 0, 0, 0, 0, 0, 0, 0, 0, 0, 0, 0, 0, rfl, E51, ⟨fun h => absurd rfl h, fun h => absurd h (mt_n2 hb38)⟩⟩
   · refine rk_cf (T rfl (congrArg Value.bool (decide_eq_false hb38))) ?_
     refine rk_skip ?_
     refine rk_seq ?_
     refine rk_any (fun w => w.heap[b1]? = some (.cells #[.int .i64 ax, .int .i64 ay, .int .i64 bx, .int .i64 b_y] 27) ∧ w.heap[b6]? = some (.cells #[.int .i64 cx, .int .i64 cy, .int .i64 dx, .int .i64 dy] 27)) [15] mo ?_
     intro w53 d54
     have E55 := below_ext E20 E20.size d54.ext
     have H56 := (d54.ext.blk H21)
     have H57 := (d54.ext.blk H22)
     refine aw_pure 0 (.pointer (some ⟨b1, 0, none⟩)) rfl (by kernel_rfl) .none ⟨H56, H57⟩ (fun _ => dv_fieldAddr (a := ⟨b1, 0, none⟩) (a' := ⟨b1, 0, none⟩) fo27_0 (T rfl rfl) rfl) ?_
     refine aw_load 1 (.agg #[.int .i64 ax, .int .i64 ay]) rfl (by kernel_rfl) .none ⟨H56, H57⟩ (fun _ s => dv_loads (l := [.int .i64 ax, .int .i64 ay]) agt25 sz25 (T rfl rfl) s.1 rfl) ?_
     refine aw_pure 2 (.pointer (some ⟨b1, 2, none⟩)) rfl (by kernel_rfl) .none ⟨H56, H57⟩ (fun _ => dv_fieldAddr (a := ⟨b1, 0, none⟩) (a' := ⟨b1, 2, none⟩) fo27_1 (T rfl rfl) rfl) ?_
     refine aw_load 3 (.agg #[.int .i64 bx, .int .i64 b_y]) rfl (by kernel_rfl) .none ⟨H56, H57⟩ (fun _ s => dv_loads (l := [.int .i64 bx, .int .i64 b_y]) agt25 sz25 (T rfl rfl) s.1 rfl) ?_
     refine aw_pure 4 (.pointer (some ⟨b6, 0, none⟩)) rfl (by kernel_rfl) .none ⟨H56, H57⟩ (fun _ => dv_fieldAddr (a := ⟨b6, 0, none⟩) (a' := ⟨b6, 0, none⟩) fo27_0 (T rfl rfl) rfl) ?_
     refine aw_load 5 (.agg #[.int .i64 cx, .int .i64 cy]) rfl (by kernel_rfl) .none ⟨H56, H57⟩ (fun _ s => dv_loads (l := [.int .i64 cx, .int .i64 cy]) agt25 sz25 (T rfl rfl) s.2 rfl) ?_
     refine aw_pure 7 (.pointer (some ⟨b1, 0, none⟩)) rfl (by kernel_rfl) .none ⟨H56, H57⟩ (fun _ => dv_fieldAddr (a := ⟨b1, 0, none⟩) (a' := ⟨b1, 0, none⟩) fo27_0 (T rfl rfl) rfl) ?_
     refine aw_load 8 (.agg #[.int .i64 ax, .int .i64 ay]) rfl (by kernel_rfl) .none ⟨H56, H57⟩ (fun _ s => dv_loads (l := [.int .i64 ax, .int .i64 ay]) agt25 sz25 (T rfl rfl) s.1 rfl) ?_
     refine aw_pure 9 (.pointer (some ⟨b1, 2, none⟩)) rfl (by kernel_rfl) .none ⟨H56, H57⟩ (fun _ => dv_fieldAddr (a := ⟨b1, 0, none⟩) (a' := ⟨b1, 2, none⟩) fo27_1 (T rfl rfl) rfl) ?_
     refine aw_load 10 (.agg #[.int .i64 bx, .int .i64 b_y]) rfl (by kernel_rfl) .none ⟨H56, H57⟩ (fun _ s => dv_loads (l := [.int .i64 bx, .int .i64 b_y]) agt25 sz25 (T rfl rfl) s.1 rfl) ?_
     refine aw_pure 11 (.pointer (some ⟨b6, 2, none⟩)) rfl (by kernel_rfl) .none ⟨H56, H57⟩ (fun _ => dv_fieldAddr (a := ⟨b6, 0, none⟩) (a' := ⟨b6, 2, none⟩) fo27_1 (T rfl rfl) rfl) ?_
     refine aw_load 12 (.agg #[.int .i64 dx, .int .i64 dy]) rfl (by kernel_rfl) .none ⟨H56, H57⟩ (fun _ s => dv_loads (l := [.int .i64 dx, .int .i64 dy]) agt25 sz25 (T rfl rfl) s.2 rfl) ?_
     refine aw_one 6 rfl (by kernel_rfl) .none (oe_callf (vs := [.agg #[.int .i64 ax, .int .i64 ay], .agg #[.int .i64 bx, .int .i64 b_y], .agg #[.int .i64 cx, .int .i64 cy]]) co87 (ar3 (T rfl rfl) (T rfl rfl) (T rfl rfl)) (cross_ok (ax := ax) (ay := ay) (bx := bx) (b_y := b_y) (px := cx) (py := cy)  (by omega) (by omega)) ?_)
     rintro _ w58 ⟨rfl, e59⟩
     have E60 := below_ext E55 E55.size e59
     have := cross_rg (by omega : (-1000000 ≤ ax ∧ ax ≤ 1000000) ∧ (-1000000 ≤ ay ∧ ay ≤ 1000000) ∧ (-1000000 ≤ bx ∧ bx ≤ 1000000) ∧ (-1000000 ≤ b_y ∧ b_y ≤ 1000000)) (by omega : (-1000000 ≤ cx ∧ cx ≤ 1000000) ∧ (-1000000 ≤ cy ∧ cy ≤ 1000000))
     have H61 := (e59.blk H56)
     have H62 := (e59.blk H57)
     refine ⟨.inr ⟨H61, H62⟩, ?_⟩
     refine aw_one 13 rfl (by kernel_rfl) .none (oe_callf (vs := [.agg #[.int .i64 ax, .int .i64 ay], .agg #[.int .i64 bx, .int .i64 b_y], .agg #[.int .i64 dx, .int .i64 dy]]) co87 (ar3 (T rfl rfl) (T rfl rfl) (T rfl rfl)) (cross_ok (ax := ax) (ay := ay) (bx := bx) (b_y := b_y) (px := dx) (py := dy)  (by omega) (by omega)) ?_)
     rintro _ w63 ⟨rfl, e64⟩
     have E65 := below_ext E60 E60.size e64
     have := cross_rg (by omega : (-1000000 ≤ ax ∧ ax ≤ 1000000) ∧ (-1000000 ≤ ay ∧ ay ≤ 1000000) ∧ (-1000000 ≤ bx ∧ bx ≤ 1000000) ∧ (-1000000 ≤ b_y ∧ b_y ≤ 1000000)) (by omega : (-1000000 ≤ dx ∧ dx ≤ 1000000) ∧ (-1000000 ≤ dy ∧ dy ≤ 1000000))
     have H66 := (e64.blk H61)
     have H67 := (e64.blk H62)
     refine ⟨.inr ⟨H66, H67⟩, ?_⟩
     refine aw_pure 14 (.int .i64 (crossI ax ay bx b_y cx cy)) rfl (by kernel_rfl) .none ⟨H66, H67⟩ (fun _ => dv_assign (T rfl rfl)) ?_
     refine aw_last 15 (.int .i64 (crossI ax ay bx b_y dx dy)) rfl (by kernel_rfl) .none (fun _ => dv_assign (T rfl rfl)) ?_
     refine aw_done (by kernel_rfl) ?_
     refine rk_seq ?_
     refine rk_join (fun fr wl => fr 2 = .pointer (some ⟨b1, 0, none⟩) ∧ fr 3 = .pointer (some ⟨b6, 0, none⟩) ∧ fr 5 = .pointer (some ⟨b11, 0, none⟩) ∧ fr 6 = .pointer (some ⟨b16, 0, none⟩) ∧ fr 7 = .func (.func 91) #[] #[] ∧ fr 8 = .int .i64 (crossI ax ay bx b_y cx cy) ∧ fr 9 = .int .i64 (crossI ax ay bx b_y dx dy) ∧ Below w.heap.size w wl ∧ wl.heap[b1]? = some (.cells #[.int .i64 ax, .int .i64 ay, .int .i64 bx, .int .i64 b_y] 27) ∧ wl.heap[b6]? = some (.cells #[.int .i64 cx, .int .i64 cy, .int .i64 dx, .int .i64 dy] 27) ∧ wl.heap[b11]? = some (.cells #[.int .u64 0, .int .u64 0, .int .u64 0, .int .u64 0, .int .u64 0, .int .u64 0, .int .u64 0, .int .u64 0, .int .u64 0, .int .u64 0, .int .u64 0, .int .u64 0] 40) ∧ wl.heap[b16]? = some (.cells #[.int .u64 0, .int .u64 0, .int .u64 0, .int .u64 0, .int .u64 0, .int .u64 0, .int .u64 0, .int .u64 0, .int .u64 0, .int .u64 0, .int .u64 0, .int .u64 0] 40) ∧ (¬ (crossI ax ay bx b_y cx cy = 0 ∧ crossI ax ay bx b_y dx dy = 0))) ?_ (fun hj70 => ?_)
     · intro fr71 w68 hI69
       obtain ⟨f72, f73, f74, f75, f76, f77, f78, E79, H80, H81, H82, H83, h0⟩ := hI69
       refine rk_seq ?_
       refine rk_any (fun w => w.heap[b6]? = some (.cells #[.int .i64 cx, .int .i64 cy, .int .i64 dx, .int .i64 dy] 27) ∧ w.heap[b1]? = some (.cells #[.int .i64 ax, .int .i64 ay, .int .i64 bx, .int .i64 b_y] 27)) [15] mo ?_
       intro w84 d85
       have E86 := below_ext E79 E79.size d85.ext
       have H87 := (d85.ext.blk H81)
       have H88 := (d85.ext.blk H80)
       refine aw_pure 0 (.pointer (some ⟨b6, 0, none⟩)) rfl (by kernel_rfl) .none ⟨H87, H88⟩ (fun _ => dv_fieldAddr (a := ⟨b6, 0, none⟩) (a' := ⟨b6, 0, none⟩) fo27_0 (T rfl f73) rfl) ?_
       refine aw_load 1 (.agg #[.int .i64 cx, .int .i64 cy]) rfl (by kernel_rfl) .none ⟨H87, H88⟩ (fun _ s => dv_loads (l := [.int .i64 cx, .int .i64 cy]) agt25 sz25 (T rfl rfl) s.1 rfl) ?_
       refine aw_pure 2 (.pointer (some ⟨b6, 2, none⟩)) rfl (by kernel_rfl) .none ⟨H87, H88⟩ (fun _ => dv_fieldAddr (a := ⟨b6, 0, none⟩) (a' := ⟨b6, 2, none⟩) fo27_1 (T rfl f73) rfl) ?_
       refine aw_load 3 (.agg #[.int .i64 dx, .int .i64 dy]) rfl (by kernel_rfl) .none ⟨H87, H88⟩ (fun _ s => dv_loads (l := [.int .i64 dx, .int .i64 dy]) agt25 sz25 (T rfl rfl) s.1 rfl) ?_
       refine aw_pure 4 (.pointer (some ⟨b1, 0, none⟩)) rfl (by kernel_rfl) .none ⟨H87, H88⟩ (fun _ => dv_fieldAddr (a := ⟨b1, 0, none⟩) (a' := ⟨b1, 0, none⟩) fo27_0 (T rfl f72) rfl) ?_
       refine aw_load 5 (.agg #[.int .i64 ax, .int .i64 ay]) rfl (by kernel_rfl) .none ⟨H87, H88⟩ (fun _ s => dv_loads (l := [.int .i64 ax, .int .i64 ay]) agt25 sz25 (T rfl rfl) s.2 rfl) ?_
       refine aw_pure 7 (.pointer (some ⟨b6, 0, none⟩)) rfl (by kernel_rfl) .none ⟨H87, H88⟩ (fun _ => dv_fieldAddr (a := ⟨b6, 0, none⟩) (a' := ⟨b6, 0, none⟩) fo27_0 (T rfl f73) rfl) ?_
       refine aw_load 8 (.agg #[.int .i64 cx, .int .i64 cy]) rfl (by kernel_rfl) .none ⟨H87, H88⟩ (fun _ s => dv_loads (l := [.int .i64 cx, .int .i64 cy]) agt25 sz25 (T rfl rfl) s.1 rfl) ?_
       refine aw_pure 9 (.pointer (some ⟨b6, 2, none⟩)) rfl (by kernel_rfl) .none ⟨H87, H88⟩ (fun _ => dv_fieldAddr (a := ⟨b6, 0, none⟩) (a' := ⟨b6, 2, none⟩) fo27_1 (T rfl f73) rfl) ?_
       refine aw_load 10 (.agg #[.int .i64 dx, .int .i64 dy]) rfl (by kernel_rfl) .none ⟨H87, H88⟩ (fun _ s => dv_loads (l := [.int .i64 dx, .int .i64 dy]) agt25 sz25 (T rfl rfl) s.1 rfl) ?_
       refine aw_pure 11 (.pointer (some ⟨b1, 2, none⟩)) rfl (by kernel_rfl) .none ⟨H87, H88⟩ (fun _ => dv_fieldAddr (a := ⟨b1, 0, none⟩) (a' := ⟨b1, 2, none⟩) fo27_1 (T rfl f72) rfl) ?_
       refine aw_load 12 (.agg #[.int .i64 bx, .int .i64 b_y]) rfl (by kernel_rfl) .none ⟨H87, H88⟩ (fun _ s => dv_loads (l := [.int .i64 bx, .int .i64 b_y]) agt25 sz25 (T rfl rfl) s.2 rfl) ?_
       refine aw_one 6 rfl (by kernel_rfl) .none (oe_callf (vs := [.agg #[.int .i64 cx, .int .i64 cy], .agg #[.int .i64 dx, .int .i64 dy], .agg #[.int .i64 ax, .int .i64 ay]]) co87 (ar3 (T rfl rfl) (T rfl rfl) (T rfl rfl)) (cross_ok (ax := cx) (ay := cy) (bx := dx) (b_y := dy) (px := ax) (py := ay)  (by omega) (by omega)) ?_)
       rintro _ w89 ⟨rfl, e90⟩
       have E91 := below_ext E86 E86.size e90
       have := cross_rg (by omega : (-1000000 ≤ cx ∧ cx ≤ 1000000) ∧ (-1000000 ≤ cy ∧ cy ≤ 1000000) ∧ (-1000000 ≤ dx ∧ dx ≤ 1000000) ∧ (-1000000 ≤ dy ∧ dy ≤ 1000000)) (by omega : (-1000000 ≤ ax ∧ ax ≤ 1000000) ∧ (-1000000 ≤ ay ∧ ay ≤ 1000000))
       have H92 := (e90.blk H87)
       have H93 := (e90.blk H88)
       refine ⟨.inr ⟨H92, H93⟩, ?_⟩
       refine aw_one 13 rfl (by kernel_rfl) .none (oe_callf (vs := [.agg #[.int .i64 cx, .int .i64 cy], .agg #[.int .i64 dx, .int .i64 dy], .agg #[.int .i64 bx, .int .i64 b_y]]) co87 (ar3 (T rfl rfl) (T rfl rfl) (T rfl rfl)) (cross_ok (ax := cx) (ay := cy) (bx := dx) (b_y := dy) (px := bx) (py := b_y)  (by omega) (by omega)) ?_)
       rintro _ w94 ⟨rfl, e95⟩
       have E96 := below_ext E91 E91.size e95
       have := cross_rg (by omega : (-1000000 ≤ cx ∧ cx ≤ 1000000) ∧ (-1000000 ≤ cy ∧ cy ≤ 1000000) ∧ (-1000000 ≤ dx ∧ dx ≤ 1000000) ∧ (-1000000 ≤ dy ∧ dy ≤ 1000000)) (by omega : (-1000000 ≤ bx ∧ bx ≤ 1000000) ∧ (-1000000 ≤ b_y ∧ b_y ≤ 1000000))
       have H97 := (e95.blk H92)
       have H98 := (e95.blk H93)
       refine ⟨.inr ⟨H97, H98⟩, ?_⟩
       refine aw_pure 14 (.int .i64 (crossI cx cy dx dy ax ay)) rfl (by kernel_rfl) .none ⟨H97, H98⟩ (fun _ => dv_assign (T rfl rfl)) ?_
       refine aw_last 15 (.int .i64 (crossI cx cy dx dy bx b_y)) rfl (by kernel_rfl) .none (fun _ => dv_assign (T rfl rfl)) ?_
       refine aw_done (by kernel_rfl) ?_
       refine rk_seq ?_
       refine rk_seq ?_
       refine rk_reg ?_
       refine lw_v (.int .i64 (crossI ax ay bx b_y cx cy)) (dv_move (T rfl f77)) ?_
       refine lw_e (oe_callf (vs := [.int .i64 (crossI ax ay bx b_y cx cy)]) co79 (ar1 (T rfl rfl)) (isign_ok (n := crossI ax ay bx b_y cx cy)  ) ?_)
       rintro _ w99 ⟨rfl, e100⟩
       have E101 := below_ext E96 E96.size e100
       have := sgnI_rg (crossI ax ay bx b_y cx cy)
       refine lw_v (.int .i64 (crossI ax ay bx b_y dx dy)) (dv_move (T rfl f78)) ?_
       refine lw_e (oe_callf (vs := [.int .i64 (crossI ax ay bx b_y dx dy)]) co79 (ar1 (T rfl rfl)) (isign_ok (n := crossI ax ay bx b_y dx dy)  ) ?_)
       rintro _ w102 ⟨rfl, e103⟩
       have E104 := below_ext E101 E101.size e103
       have := sgnI_rg (crossI ax ay bx b_y dx dy)
       have hm105 := mul_bd (A := 2000000) (B := 2000000) (show -2000000 ≤ (sgnI (crossI ax ay bx b_y cx cy)) by omega) (by omega) (show -2000000 ≤ (sgnI (crossI ax ay bx b_y dx dy)) by omega) (by omega)
       refine lw_v (.int .i64 ((sgnI (crossI ax ay bx b_y cx cy)) * (sgnI (crossI ax ay bx b_y dx dy)))) (dv_mul (a := sgnI (crossI ax ay bx b_y cx cy)) (b := sgnI (crossI ax ay bx b_y dx dy)) (z := (sgnI (crossI ax ay bx b_y cx cy)) * (sgnI (crossI ax ay bx b_y dx dy))) (T rfl rfl) (T rfl rfl) (wr_i64 (by omega) (by omega))) ?_
       refine lw_v (.bool (decide (0 < ((sgnI (crossI ax ay bx b_y cx cy)) * (sgnI (crossI ax ay bx b_y dx dy)))))) (dv_gtr (a := (sgnI (crossI ax ay bx b_y cx cy)) * (sgnI (crossI ax ay bx b_y dx dy))) (b := 0) (T rfl rfl) C) ?_
       refine lw_v (.bool (decide (0 < ((sgnI (crossI ax ay bx b_y cx cy)) * (sgnI (crossI ax ay bx b_y dx dy)))))) (dv_move (T rfl rfl)) ?_
       by_cases hb106 : 0 < ((sgnI (crossI ax ay bx b_y cx cy)) * (sgnI (crossI ax ay bx b_y dx dy)))
       · refine lw_no (d := 152) rfl rfl (congrArg Value.bool (decide_eq_true hb106)) ?_
         refine lw_no (d := 152) rfl rfl (congrArg Value.bool (decide_eq_true hb106)) ?_
         refine lw_no (d := 152) rfl rfl (congrArg Value.bool (decide_eq_true hb106)) ?_
         refine lw_no (d := 152) rfl rfl (congrArg Value.bool (decide_eq_true hb106)) ?_
         refine lw_no (d := 152) rfl rfl (congrArg Value.bool (decide_eq_true hb106)) ?_
         refine lw_no (d := 152) rfl rfl (congrArg Value.bool (decide_eq_true hb106)) ?_
         refine lw_v (.bool true) (dv_pick_t (T rfl (congrArg Value.bool (decide_eq_true hb106))) C) ?_
         refine lw_nil ?_
         refine rk_ct (T rfl rfl) ?_
         refine rk_seq ?_
         refine rk_reg ?_
         refine lw_v (.func (.func 91) #[] #[]) (dv_move (T rfl f76)) ?_
         refine lw_e (oe_callv (vs := []) (T rfl rfl) co91 ar0 (meetNone_ok ) ?_)
         rintro _ w107 ⟨rfl, e108⟩
         have E109 := below_ext E104 E104.size e108
         refine lw_v (.int .i64 0) (dv_extract (vs := #[.int .i64 0, .agg #[.int .u64 0, .int .u64 0, .int .u64 0, .int .u64 0, .int .u64 0, .int .u64 0, .int .u64 0, .int .u64 0, .int .u64 0, .int .u64 0, .int .u64 0, .int .u64 0], .agg #[.int .u64 0, .int .u64 0, .int .u64 0, .int .u64 0, .int .u64 0, .int .u64 0, .int .u64 0, .int .u64 0, .int .u64 0, .int .u64 0, .int .u64 0, .int .u64 0]]) (T rfl rfl) rfl) ?_
         refine lw_v (.agg #[.int .u64 0, .int .u64 0, .int .u64 0, .int .u64 0, .int .u64 0, .int .u64 0, .int .u64 0, .int .u64 0, .int .u64 0, .int .u64 0, .int .u64 0, .int .u64 0]) (dv_extract (vs := #[.int .i64 0, .agg #[.int .u64 0, .int .u64 0, .int .u64 0, .int .u64 0, .int .u64 0, .int .u64 0, .int .u64 0, .int .u64 0, .int .u64 0, .int .u64 0, .int .u64 0, .int .u64 0], .agg #[.int .u64 0, .int .u64 0, .int .u64 0, .int .u64 0, .int .u64 0, .int .u64 0, .int .u64 0, .int .u64 0, .int .u64 0, .int .u64 0, .int .u64 0, .int .u64 0]]) (T rfl rfl) rfl) ?_
         refine lw_v (.agg #[.int .u64 0, .int .u64 0, .int .u64 0, .int .u64 0, .int .u64 0, .int .u64 0, .int .u64 0, .int .u64 0, .int .u64 0, .int .u64 0, .int .u64 0, .int .u64 0]) (dv_extract (vs := #[.int .i64 0, .agg #[.int .u64 0, .int .u64 0, .int .u64 0, .int .u64 0, .int .u64 0, .int .u64 0, .int .u64 0, .int .u64 0, .int .u64 0, .int .u64 0, .int .u64 0, .int .u64 0], .agg #[.int .u64 0, .int .u64 0, .int .u64 0, .int .u64 0, .int .u64 0, .int .u64 0, .int .u64 0, .int .u64 0, .int .u64 0, .int .u64 0, .int .u64 0, .int .u64 0]]) (T rfl rfl) rfl) ?_
         refine lw_v (.int .i64 0) (dv_assign (T rfl rfl)) ?_
         have H110 := (e108.blk (e103.blk (e100.blk (e95.blk (e90.blk (d85.ext.blk H82))))))
         refine lw_e (oe_store (v := .agg #[.int .u64 0, .int .u64 0, .int .u64 0, .int .u64 0, .int .u64 0, .int .u64 0, .int .u64 0, .int .u64 0, .int .u64 0, .int .u64 0, .int .u64 0, .int .u64 0]) (vs := [.int .u64 0, .int .u64 0, .int .u64 0, .int .u64 0, .int .u64 0, .int .u64 0, .int .u64 0, .int .u64 0, .int .u64 0, .int .u64 0, .int .u64 0, .int .u64 0]) (l := [.int .u64 0, .int .u64 0, .int .u64 0, .int .u64 0, .int .u64 0, .int .u64 0, .int .u64 0, .int .u64 0, .int .u64 0, .int .u64 0, .int .u64 0, .int .u64 0]) (T rfl f74) (T rfl rfl) sz40 rfl rfl rfl H110 rfl ?_)
         intro w111 s112 H113
         have E114 := below_st E109 N14 s112
         have H115 := (s112.blk (e108.blk (e103.blk (e100.blk (e95.blk (e90.blk (d85.ext.blk H83)))))) (by omega))
         refine lw_e (oe_store (v := .agg #[.int .u64 0, .int .u64 0, .int .u64 0, .int .u64 0, .int .u64 0, .int .u64 0, .int .u64 0, .int .u64 0, .int .u64 0, .int .u64 0, .int .u64 0, .int .u64 0]) (vs := [.int .u64 0, .int .u64 0, .int .u64 0, .int .u64 0, .int .u64 0, .int .u64 0, .int .u64 0, .int .u64 0, .int .u64 0, .int .u64 0, .int .u64 0, .int .u64 0]) (l := [.int .u64 0, .int .u64 0, .int .u64 0, .int .u64 0, .int .u64 0, .int .u64 0, .int .u64 0, .int .u64 0, .int .u64 0, .int .u64 0, .int .u64 0, .int .u64 0]) (T rfl f75) (T rfl rfl) sz40 rfl rfl rfl H115 rfl ?_)
         intro w116 s117 H118
         have E119 := below_st E114 N19 s117
         refine lw_nil ?_
         have H120 := (s117.blk H113 (by omega))
         refine rk_ret Try.func48 (v := .tuple #[.int .i64 0, .agg #[.int .u64 0, .int .u64 0, .int .u64 0, .int .u64 0, .int .u64 0, .int .u64 0, .int .u64 0, .int .u64 0, .int .u64 0, .int .u64 0, .int .u64 0, .int .u64 0], .agg #[.int .u64 0, .int .u64 0, .int .u64 0, .int .u64 0, .int .u64 0, .int .u64 0, .int .u64 0, .int .u64 0, .int .u64 0, .int .u64 0, .int .u64 0, .int .u64 0]]) (res3 Try.results48 (rv_tmp rfl rfl) (rv_cells (l := [.int .u64 0, .int .u64 0, .int .u64 0, .int .u64 0, .int .u64 0, .int .u64 0, .int .u64 0, .int .u64 0, .int .u64 0, .int .u64 0, .int .u64 0, .int .u64 0]) agt40 sz40 rfl f74 H120 rfl) (rv_cells (l := [.int .u64 0, .int .u64 0, .int .u64 0, .int .u64 0, .int .u64 0, .int .u64 0, .int .u64 0, .int .u64 0, .int .u64 0, .int .u64 0, .int .u64 0, .int .u64 0]) agt40 sz40 rfl f75 H118 rfl)) ⟨_, rfl, ?_⟩
         have hm := mt_cr hb23 hb38 h0
         exact ⟨0, 0, 0, 0, 0, 0, 0, 0, 0, 0, 0, 0, 0, 0, 0, 0, 0, 0, 0, 0, 0, 0, 0, 0, 0, rfl, E119, (by rw [hm]; omega)⟩
       · refine lw_vy (.int .i64 (crossI cx cy dx dy ax ay)) (d := 152) rfl rfl (congrArg Value.bool (decide_eq_false hb106)) (dv_move (T rfl rfl)) ?_
         refine lw_ey (d := 152) rfl rfl (congrArg Value.bool (decide_eq_false hb106)) (oe_callf (vs := [.int .i64 (crossI cx cy dx dy ax ay)]) co79 (ar1 (T rfl rfl)) (isign_ok (n := crossI cx cy dx dy ax ay)  ) ?_)
         rintro _ w121 ⟨rfl, e122⟩
         have E123 := below_ext E104 E104.size e122
         have := sgnI_rg (crossI cx cy dx dy ax ay)
         refine lw_vy (.int .i64 (crossI cx cy dx dy bx b_y)) (d := 152) rfl rfl (congrArg Value.bool (decide_eq_false hb106)) (dv_move (T rfl rfl)) ?_
         refine lw_ey (d := 152) rfl rfl (congrArg Value.bool (decide_eq_false hb106)) (oe_callf (vs := [.int .i64 (crossI cx cy dx dy bx b_y)]) co79 (ar1 (T rfl rfl)) (isign_ok (n := crossI cx cy dx dy bx b_y)  ) ?_)
         rintro _ w124 ⟨rfl, e125⟩
         have E126 := below_ext E123 E123.size e125
         have := sgnI_rg (crossI cx cy dx dy bx b_y)
         have hm127 := mul_bd (A := 2000000) (B := 2000000) (show -2000000 ≤ (sgnI (crossI cx cy dx dy ax ay)) by omega) (by omega) (show -2000000 ≤ (sgnI (crossI cx cy dx dy bx b_y)) by omega) (by omega)
         refine lw_vy (.int .i64 ((sgnI (crossI cx cy dx dy ax ay)) * (sgnI (crossI cx cy dx dy bx b_y)))) (d := 152) rfl rfl (congrArg Value.bool (decide_eq_false hb106)) (dv_mul (a := sgnI (crossI cx cy dx dy ax ay)) (b := sgnI (crossI cx cy dx dy bx b_y)) (z := (sgnI (crossI cx cy dx dy ax ay)) * (sgnI (crossI cx cy dx dy bx b_y))) (T rfl rfl) (T rfl rfl) (wr_i64 (by omega) (by omega))) ?_
         refine lw_vy (.bool (decide (0 < ((sgnI (crossI cx cy dx dy ax ay)) * (sgnI (crossI cx cy dx dy bx b_y)))))) (d := 152) rfl rfl (congrArg Value.bool (decide_eq_false hb106)) (dv_gtr (a := (sgnI (crossI cx cy dx dy ax ay)) * (sgnI (crossI cx cy dx dy bx b_y))) (b := 0) (T rfl rfl) C) ?_
         refine lw_v (.bool (decide (0 < ((sgnI (crossI cx cy dx dy ax ay)) * (sgnI (crossI cx cy dx dy bx b_y)))))) (dv_pick_f (T rfl (congrArg Value.bool (decide_eq_false hb106))) (T rfl rfl)) ?_
         refine lw_nil ?_
         by_cases hb128 : 0 < ((sgnI (crossI cx cy dx dy ax ay)) * (sgnI (crossI cx cy dx dy bx b_y)))
         · refine rk_ct (T rfl (congrArg Value.bool (decide_eq_true hb128))) ?_
           refine rk_seq ?_
           refine rk_reg ?_
           refine lw_v (.func (.func 91) #[] #[]) (dv_move (T rfl f76)) ?_
           refine lw_e (oe_callv (vs := []) (T rfl rfl) co91 ar0 (meetNone_ok ) ?_)
           rintro _ w129 ⟨rfl, e130⟩
           have E131 := below_ext E126 E126.size e130
           refine lw_v (.int .i64 0) (dv_extract (vs := #[.int .i64 0, .agg #[.int .u64 0, .int .u64 0, .int .u64 0, .int .u64 0, .int .u64 0, .int .u64 0, .int .u64 0, .int .u64 0, .int .u64 0, .int .u64 0, .int .u64 0, .int .u64 0], .agg #[.int .u64 0, .int .u64 0, .int .u64 0, .int .u64 0, .int .u64 0, .int .u64 0, .int .u64 0, .int .u64 0, .int .u64 0, .int .u64 0, .int .u64 0, .int .u64 0]]) (T rfl rfl) rfl) ?_
           refine lw_v (.agg #[.int .u64 0, .int .u64 0, .int .u64 0, .int .u64 0, .int .u64 0, .int .u64 0, .int .u64 0, .int .u64 0, .int .u64 0, .int .u64 0, .int .u64 0, .int .u64 0]) (dv_extract (vs := #[.int .i64 0, .agg #[.int .u64 0, .int .u64 0, .int .u64 0, .int .u64 0, .int .u64 0, .int .u64 0, .int .u64 0, .int .u64 0, .int .u64 0, .int .u64 0, .int .u64 0, .int .u64 0], .agg #[.int .u64 0, .int .u64 0, .int .u64 0, .int .u64 0, .int .u64 0, .int .u64 0, .int .u64 0, .int .u64 0, .int .u64 0, .int .u64 0, .int .u64 0, .int .u64 0]]) (T rfl rfl) rfl) ?_
           refine lw_v (.agg #[.int .u64 0, .int .u64 0, .int .u64 0, .int .u64 0, .int .u64 0, .int .u64 0, .int .u64 0, .int .u64 0, .int .u64 0, .int .u64 0, .int .u64 0, .int .u64 0]) (dv_extract (vs := #[.int .i64 0, .agg #[.int .u64 0, .int .u64 0, .int .u64 0, .int .u64 0, .int .u64 0, .int .u64 0, .int .u64 0, .int .u64 0, .int .u64 0, .int .u64 0, .int .u64 0, .int .u64 0], .agg #[.int .u64 0, .int .u64 0, .int .u64 0, .int .u64 0, .int .u64 0, .int .u64 0, .int .u64 0, .int .u64 0, .int .u64 0, .int .u64 0, .int .u64 0, .int .u64 0]]) (T rfl rfl) rfl) ?_
           refine lw_v (.int .i64 0) (dv_assign (T rfl rfl)) ?_
           have H132 := (e130.blk (e125.blk (e122.blk (e103.blk (e100.blk (e95.blk (e90.blk (d85.ext.blk H82))))))))
           refine lw_e (oe_store (v := .agg #[.int .u64 0, .int .u64 0, .int .u64 0, .int .u64 0, .int .u64 0, .int .u64 0, .int .u64 0, .int .u64 0, .int .u64 0, .int .u64 0, .int .u64 0, .int .u64 0]) (vs := [.int .u64 0, .int .u64 0, .int .u64 0, .int .u64 0, .int .u64 0, .int .u64 0, .int .u64 0, .int .u64 0, .int .u64 0, .int .u64 0, .int .u64 0, .int .u64 0]) (l := [.int .u64 0, .int .u64 0, .int .u64 0, .int .u64 0, .int .u64 0, .int .u64 0, .int .u64 0, .int .u64 0, .int .u64 0, .int .u64 0, .int .u64 0, .int .u64 0]) (T rfl f74) (T rfl rfl) sz40 rfl rfl rfl H132 rfl ?_)
           intro w133 s134 H135
           have E136 := below_st E131 N14 s134
           have H137 := (s134.blk (e130.blk (e125.blk (e122.blk (e103.blk (e100.blk (e95.blk (e90.blk (d85.ext.blk H83)))))))) (by omega))
           refine lw_e (oe_store (v := .agg #[.int .u64 0, .int .u64 0, .int .u64 0, .int .u64 0, .int .u64 0, .int .u64 0, .int .u64 0, .int .u64 0, .int .u64 0, .int .u64 0, .int .u64 0, .int .u64 0]) (vs := [.int .u64 0, .int .u64 0, .int .u64 0, .int .u64 0, .int .u64 0, .int .u64 0, .int .u64 0, .int .u64 0, .int .u64 0, .int .u64 0, .int .u64 0, .int .u64 0]) (l := [.int .u64 0, .int .u64 0, .int .u64 0, .int .u64 0, .int .u64 0, .int .u64 0, .int .u64 0, .int .u64 0, .int .u64 0, .int .u64 0, .int .u64 0, .int .u64 0]) (T rfl f75) (T rfl rfl) sz40 rfl rfl rfl H137 rfl ?_)
           intro w138 s139 H140
           have E141 := below_st E136 N19 s139
           refine lw_nil ?_
           have H142 := (s139.blk H135 (by omega))
           refine rk_ret Try.func48 (v := .tuple #[.int .i64 0, .agg #[.int .u64 0, .int .u64 0, .int .u64 0, .int .u64 0, .int .u64 0, .int .u64 0, .int .u64 0, .int .u64 0, .int .u64 0, .int .u64 0, .int .u64 0, .int .u64 0], .agg #[.int .u64 0, .int .u64 0, .int .u64 0, .int .u64 0, .int .u64 0, .int .u64 0, .int .u64 0, .int .u64 0, .int .u64 0, .int .u64 0, .int .u64 0, .int .u64 0]]) (res3 Try.results48 (rv_tmp rfl rfl) (rv_cells (l := [.int .u64 0, .int .u64 0, .int .u64 0, .int .u64 0, .int .u64 0, .int .u64 0, .int .u64 0, .int .u64 0, .int .u64 0, .int .u64 0, .int .u64 0, .int .u64 0]) agt40 sz40 rfl f74 H142 rfl) (rv_cells (l := [.int .u64 0, .int .u64 0, .int .u64 0, .int .u64 0, .int .u64 0, .int .u64 0, .int .u64 0, .int .u64 0, .int .u64 0, .int .u64 0, .int .u64 0, .int .u64 0]) agt40 sz40 rfl f75 H140 rfl)) ⟨_, rfl, ?_⟩
           have hm := mt_cr hb23 hb38 h0
           exact ⟨0, 0, 0, 0, 0, 0, 0, 0, 0, 0, 0, 0, 0, 0, 0, 0, 0, 0, 0, 0, 0, 0, 0, 0, 0, rfl, E141, (by rw [hm]; omega)⟩
         · refine rk_cf (T rfl (congrArg Value.bool (decide_eq_false hb128))) ?_
           refine rk_skip ?_
           refine rk_seq ?_
           refine rk_reg ?_
           refine lw_v (.int .i64 (crossI ax ay bx b_y cx cy)) (dv_move (T rfl f77)) ?_
           refine lw_v (.int .i64 (crossI ax ay bx b_y dx dy)) (dv_move (T rfl f78)) ?_
           refine lw_v (.int .i64 ((crossI ax ay bx b_y cx cy) - (crossI ax ay bx b_y dx dy))) (dv_sub (a := crossI ax ay bx b_y cx cy) (b := crossI ax ay bx b_y dx dy) (z := (crossI ax ay bx b_y cx cy) - (crossI ax ay bx b_y dx dy)) (T rfl rfl) (T rfl rfl) (wr_i64 (by omega) (by omega))) ?_
           refine lw_e (oe_callf (vs := [.int .i64 ((crossI ax ay bx b_y cx cy) - (crossI ax ay bx b_y dx dy))]) co70 (ar1 (T rfl rfl)) (whole_ok  (by omega)) ?_)
           rintro _ w148 ⟨nr143, A144, n145, c146, rfl, e149, h147⟩
           have E150 := below_ext E126 E126.size e149
           have lh147 := Num.len (by decide) h147
           obtain ⟨zz151, hz152⟩ : ∃ q_ : Int, q_ = (crossI ax ay bx b_y cx cy) - (crossI ax ay bx b_y dx dy) := ⟨_, rfl⟩
           rw [← hz152] at h147
           refine lw_e (oe_alloc ze107 ?_)
           intro b153 w154 n155
           have N156 : w.heap.size ≤ b153 := n155.eq ▸ E150.size
           have H157 := (e149.blk (e125.blk (e122.blk (e103.blk (e100.blk (e95.blk (e90.blk (d85.ext.blk H83))))))))
           have : b16 < b153 := n155.eq ▸ lt_of_blk H157
           have E158 := below_ext E150 E150.size n155.ext
           refine lw_e (oe_store (v := .agg #[.bool nr143, .slice A144 n145 c146]) (vs := [.bool nr143, .slice A144 n145 c146]) (l := [.bool nr143, .slice A144 n145 c146]) (T rfl rfl) (T rfl rfl) sz107 rfl rfl rfl n155.blk rfl ?_)
           intro w159 s160 H161
           have E162 := below_st E158 N156 s160
           refine lw_nil ?_
           refine rk_seq ?_
           have H163 := (s160.blk (n155.ext.blk (e149.blk (e125.blk (e122.blk (e103.blk (e100.blk H98)))))) (by omega))
           have : b1 < w159.heap.size := lt_of_blk H163
           have H164 := (s160.blk (n155.ext.blk (e149.blk (e125.blk (e122.blk (e103.blk (e100.blk H97)))))) (by omega))
           have : b6 < w159.heap.size := lt_of_blk H164
           have H165 := (s160.blk (n155.ext.blk (e149.blk (e125.blk (e122.blk (e103.blk (e100.blk (e95.blk (e90.blk (d85.ext.blk H82))))))))) (by omega))
           have : b11 < w159.heap.size := lt_of_blk H165
           have H166 := (s160.blk (n155.ext.blk H157) (by omega))
           have : b16 < w159.heap.size := lt_of_blk H166
           have : b153 < w159.heap.size := lt_of_blk H161
           have : w.heap.size ≤ w159.heap.size := E162.size
           refine rk_par2 [fun vq wq_ => vq = .pointer (some ⟨b6, 0, none⟩), fun vq wq_ => vq = .pointer (some ⟨b6, 0, none⟩), fun vq wq_ => vq = .int .i64 cx, fun vq wq_ => ∃ (nr195 : Bool) (A196 : Option Addr) (n197 : Nat) (c198 : Nat), vq = .agg #[.bool nr195, .slice A196 n197 c198] ∧ Num 64 36 .u64 wq_ nr195 A196 n197 c198 cx 64, fun vq wq_ => vq = .agg #[.bool nr143, .slice A144 n145 c146], fun vq wq_ => ∃ (nr224 : Bool) (A225 : Option Addr) (n226 : Nat) (c227 : Nat), vq = .agg #[.bool nr224, .slice A225 n226 c227] ∧ Num 64 36 .u64 wq_ nr224 A225 n226 c227 (cx * zz151) 128, fun vq wq_ => vq = .int .i64 (crossI ax ay bx b_y cx cy), fun vq wq_ => ∃ (nr245 : Bool) (A246 : Option Addr) (n247 : Nat) (c248 : Nat), vq = .agg #[.bool nr245, .slice A246 n247 c248] ∧ Num 64 36 .u64 wq_ nr245 A246 n247 c248 (crossI ax ay bx b_y cx cy) 64, fun vq wq_ => vq = .pointer (some ⟨b6, 2, none⟩), fun vq wq_ => vq = .pointer (some ⟨b6, 2, none⟩), fun vq wq_ => vq = .int .i64 dx, fun vq wq_ => vq = .pointer (some ⟨b6, 0, none⟩), fun vq wq_ => vq = .pointer (some ⟨b6, 0, none⟩), fun vq wq_ => vq = .int .i64 cx, fun vq wq_ => vq = .int .i64 (dx - cx), fun vq wq_ => ∃ (nr310 : Bool) (A311 : Option Addr) (n312 : Nat) (c313 : Nat), vq = .agg #[.bool nr310, .slice A311 n312 c313] ∧ Num 64 36 .u64 wq_ nr310 A311 n312 c313 (dx - cx) 64, fun vq wq_ => ∃ (nr336 : Bool) (A337 : Option Addr) (n338 : Nat) (c339 : Nat), vq = .agg #[.bool nr336, .slice A337 n338 c339] ∧ Num 64 36 .u64 wq_ nr336 A337 n338 c339 ((crossI ax ay bx b_y cx cy) * (dx - cx)) 128, fun vq wq_ => ∃ (nr362 : Bool) (A363 : Option Addr) (n364 : Nat) (c365 : Nat), vq = .agg #[.bool nr362, .slice A363 n364 c365] ∧ Num 64 36 .u64 wq_ nr362 A363 n364 c365 ((cx * zz151) + ((crossI ax ay bx b_y cx cy) * (dx - cx))) 129, fun _ _ => True, fun _ _ => True] [⟨18, 19, 17, 107, #[.bool false, .slice none 0 0]⟩] [107] mo (by kernel_rfl) (by kernel_rfl) ?_ ?_ ?_ ?_ ?_
           · intro e he e2 he2 h; simp only [List.mem_cons, List.not_mem_nil, or_false] at he he2; rcases he with rfl <;> rcases he2 with rfl <;> first | rfl | exact absurd h (by decide)
           · exact ⟨⟨fun v w w2 e h => h, fun v w w2 b cs T fz s hb hT h => h⟩, ⟨fun v w w2 e h => h, fun v w w2 b cs T fz s hb hT h => h⟩, ⟨fun v w w2 e h => h, fun v w w2 b cs T fz s hb hT h => h⟩, ⟨fun v w w2 e ⟨nr195, A196, n197, c198, hv, h0_⟩ => ⟨nr195, A196, n197, c198, hv, h0_.ext e⟩, fun v w w2 b cs T fz s hb hT ⟨nr195, A196, n197, c198, hv, h0_⟩ => ⟨nr195, A196, n197, c198, hv, h0_.st s hb (ts_ne hT (by decide))⟩⟩, ⟨fun v w w2 e h => h, fun v w w2 b cs T fz s hb hT h => h⟩, ⟨fun v w w2 e ⟨nr224, A225, n226, c227, hv, h0_⟩ => ⟨nr224, A225, n226, c227, hv, h0_.ext e⟩, fun v w w2 b cs T fz s hb hT ⟨nr224, A225, n226, c227, hv, h0_⟩ => ⟨nr224, A225, n226, c227, hv, h0_.st s hb (ts_ne hT (by decide))⟩⟩, ⟨fun v w w2 e h => h, fun v w w2 b cs T fz s hb hT h => h⟩, ⟨fun v w w2 e ⟨nr245, A246, n247, c248, hv, h0_⟩ => ⟨nr245, A246, n247, c248, hv, h0_.ext e⟩, fun v w w2 b cs T fz s hb hT ⟨nr245, A246, n247, c248, hv, h0_⟩ => ⟨nr245, A246, n247, c248, hv, h0_.st s hb (ts_ne hT (by decide))⟩⟩, ⟨fun v w w2 e h => h, fun v w w2 b cs T fz s hb hT h => h⟩, ⟨fun v w w2 e h => h, fun v w w2 b cs T fz s hb hT h => h⟩, ⟨fun v w w2 e h => h, fun v w w2 b cs T fz s hb hT h => h⟩, ⟨fun v w w2 e h => h, fun v w w2 b cs T fz s hb hT h => h⟩, ⟨fun v w w2 e h => h, fun v w w2 b cs T fz s hb hT h => h⟩, ⟨fun v w w2 e h => h, fun v w w2 b cs T fz s hb hT h => h⟩, ⟨fun v w w2 e h => h, fun v w w2 b cs T fz s hb hT h => h⟩, ⟨fun v w w2 e ⟨nr310, A311, n312, c313, hv, h0_⟩ => ⟨nr310, A311, n312, c313, hv, h0_.ext e⟩, fun v w w2 b cs T fz s hb hT ⟨nr310, A311, n312, c313, hv, h0_⟩ => ⟨nr310, A311, n312, c313, hv, h0_.st s hb (ts_ne hT (by decide))⟩⟩, ⟨fun v w w2 e ⟨nr336, A337, n338, c339, hv, h0_⟩ => ⟨nr336, A337, n338, c339, hv, h0_.ext e⟩, fun v w w2 b cs T fz s hb hT ⟨nr336, A337, n338, c339, hv, h0_⟩ => ⟨nr336, A337, n338, c339, hv, h0_.st s hb (ts_ne hT (by decide))⟩⟩, ⟨fun v w w2 e ⟨nr362, A363, n364, c365, hv, h0_⟩ => ⟨nr362, A363, n364, c365, hv, h0_.ext e⟩, fun v w w2 b cs T fz s hb hT ⟨nr362, A363, n364, c365, hv, h0_⟩ => ⟨nr362, A363, n364, c365, hv, h0_.st s hb (ts_ne hT (by decide))⟩⟩, ⟨fun v w w2 e h => h, fun v w w2 b cs T fz s hb hT h => h⟩, ⟨fun v w w2 e h => h, fun v w w2 b cs T fz s hb hT h => h⟩, trivial⟩
           · refine ⟨?_, ?_, ?_, ?_, ?_, ?_, ?_, ?_, ?_, ?_, ?_, ?_, ?_, ?_, ?_, ?_, ?_, ?_, ?_, ?_, trivial⟩
             · refine .inr ⟨by kernel_rfl, ?_⟩
               intro fr168 w167 e169 hF170 hD171
               have E172 := below_ext E162 E162.size e169
               exact DV.oe (dv_fieldAddr (a := ⟨b6, 0, none⟩) (a' := ⟨b6, 0, none⟩) fo27_0 (T rfl ((hF170 3 (by kernel_rfl)).trans f73)) rfl) ⟨Below.refl _ _, rfl⟩
             · refine .inr ⟨by kernel_rfl, ?_⟩
               intro fr174 w173 e175 hF176 hD177
               have E178 := below_ext E162 E162.size e175
               have hv179 : fr174 169 = .pointer (some ⟨b6, 0, none⟩) := hD177 0 _ (by kernel_rfl) rfl (by kernel_rfl)
               exact DV.oe (dv_fieldAddr (a := ⟨b6, 0, none⟩) (a' := ⟨b6, 0, none⟩) fo25_0 (T rfl hv179) rfl) ⟨Below.refl _ _, rfl⟩
             · refine .inr ⟨by kernel_rfl, ?_⟩
               intro fr181 w180 e182 hF183 hD184
               have E185 := below_ext E162 E162.size e182
               have hv186 : fr181 170 = .pointer (some ⟨b6, 0, none⟩) := hD184 1 _ (by kernel_rfl) rfl (by kernel_rfl)
               have H187 := (e182.blk H164)
               exact DV.oe (dv_load1 (b := b6) (o := 0) agt2 (T rfl hv186) H187 rfl) ⟨Below.refl _ _, rfl⟩
             · refine .inr ⟨by kernel_rfl, ?_⟩
               intro fr189 w188 e190 hF191 hD192
               have E193 := below_ext E162 E162.size e190
               have hv194 : fr189 171 = .int .i64 cx := hD192 2 _ (by kernel_rfl) rfl (by kernel_rfl)
               refine id (oe_callf (vs := [.int .i64 cx]) co70 (ar1 (T rfl hv194)) (whole_ok  (by omega)) ?_)
               rintro _ w200 ⟨nr195, A196, n197, c198, rfl, e201, h199⟩
               have E202 := below_ext E193 E193.size e201
               have lh199 := Num.len (by decide) h199
               exact ⟨e201, nr195, A196, n197, c198, rfl, h199⟩
             · refine .inr ⟨by kernel_rfl, ?_⟩
               intro fr204 w203 e205 hF206 hD207
               have E208 := below_ext E162 E162.size e205
               have H209 := (e205.blk H161)
               exact DV.oe (dv_loads (l := [.bool nr143, .slice A144 n145 c146]) agt107 sz107 (T rfl (hF206 15 (by kernel_rfl))) H209 rfl) ⟨Below.refl _ _, rfl⟩
             · refine .inr ⟨by kernel_rfl, ?_⟩
               intro fr211 w210 e212 hF213 hD214
               have E215 := below_ext E162 E162.size e212
               obtain ⟨nr216, A217, n218, c219, hv220, hp221⟩ : ∃ (nr195 : Bool) (A196 : Option Addr) (n197 : Nat) (c198 : Nat), fr211 172 = .agg #[.bool nr195, .slice A196 n197 c198] ∧ Num 64 36 .u64 w210 nr195 A196 n197 c198 cx 64 := hD214 3 _ (by kernel_rfl) rfl (by kernel_rfl)
               have lhp221 := Num.len (by decide) hp221
               have hv222 : fr211 173 = .agg #[.bool nr143, .slice A144 n145 c146] := hD214 4 _ (by kernel_rfl) rfl (by kernel_rfl)
               have h223 := (((h147.ext n155.ext).st s160 n155.blk (by decide)).ext e212)
               refine id (oe_callf (vs := [.agg #[.bool nr216, .slice A217 n218 c219], .agg #[.bool nr143, .slice A144 n145 c146]]) co71 (ar2 (T rfl hv220) (T rfl hv222)) (nby_ok hp221 h223 (by first | decide | omega) (by first | decide | omega)) ?_)
               rintro _ w229 ⟨nr224, A225, n226, c227, rfl, e230, h228⟩
               have E231 := below_ext E215 E215.size e230
               have lh228 := Num.len (by decide) h228
               exact ⟨e230, nr224, A225, n226, c227, rfl, h228⟩
             · refine .inr ⟨by kernel_rfl, ?_⟩
               intro fr233 w232 e234 hF235 hD236
               have E237 := below_ext E162 E162.size e234
               exact DV.oe (dv_move (T rfl ((hF235 8 (by kernel_rfl)).trans f77))) ⟨Below.refl _ _, rfl⟩
             · refine .inr ⟨by kernel_rfl, ?_⟩
               intro fr239 w238 e240 hF241 hD242
               have E243 := below_ext E162 E162.size e240
               have hv244 : fr239 175 = .int .i64 (crossI ax ay bx b_y cx cy) := hD242 6 _ (by kernel_rfl) rfl (by kernel_rfl)
               refine id (oe_callf (vs := [.int .i64 (crossI ax ay bx b_y cx cy)]) co70 (ar1 (T rfl hv244)) (whole_ok  (by omega)) ?_)
               rintro _ w250 ⟨nr245, A246, n247, c248, rfl, e251, h249⟩
               have E252 := below_ext E243 E243.size e251
               have lh249 := Num.len (by decide) h249
               exact ⟨e251, nr245, A246, n247, c248, rfl, h249⟩
             · refine .inr ⟨by kernel_rfl, ?_⟩
               intro fr254 w253 e255 hF256 hD257
               have E258 := below_ext E162 E162.size e255
               exact DV.oe (dv_fieldAddr (a := ⟨b6, 0, none⟩) (a' := ⟨b6, 2, none⟩) fo27_1 (T rfl ((hF256 3 (by kernel_rfl)).trans f73)) rfl) ⟨Below.refl _ _, rfl⟩
             · refine .inr ⟨by kernel_rfl, ?_⟩
               intro fr260 w259 e261 hF262 hD263
               have E264 := below_ext E162 E162.size e261
               have hv265 : fr260 177 = .pointer (some ⟨b6, 2, none⟩) := hD263 8 _ (by kernel_rfl) rfl (by kernel_rfl)
               exact DV.oe (dv_fieldAddr (a := ⟨b6, 2, none⟩) (a' := ⟨b6, 2, none⟩) fo25_0 (T rfl hv265) rfl) ⟨Below.refl _ _, rfl⟩
             · refine .inr ⟨by kernel_rfl, ?_⟩
               intro fr267 w266 e268 hF269 hD270
               have E271 := below_ext E162 E162.size e268
               have hv272 : fr267 178 = .pointer (some ⟨b6, 2, none⟩) := hD270 9 _ (by kernel_rfl) rfl (by kernel_rfl)
               have H273 := (e268.blk H164)
               exact DV.oe (dv_load1 (b := b6) (o := 2) agt2 (T rfl hv272) H273 rfl) ⟨Below.refl _ _, rfl⟩
             · refine .inr ⟨by kernel_rfl, ?_⟩
               intro fr275 w274 e276 hF277 hD278
               have E279 := below_ext E162 E162.size e276
               exact DV.oe (dv_fieldAddr (a := ⟨b6, 0, none⟩) (a' := ⟨b6, 0, none⟩) fo27_0 (T rfl ((hF277 3 (by kernel_rfl)).trans f73)) rfl) ⟨Below.refl _ _, rfl⟩
             · refine .inr ⟨by kernel_rfl, ?_⟩
               intro fr281 w280 e282 hF283 hD284
               have E285 := below_ext E162 E162.size e282
               have hv286 : fr281 180 = .pointer (some ⟨b6, 0, none⟩) := hD284 11 _ (by kernel_rfl) rfl (by kernel_rfl)
               exact DV.oe (dv_fieldAddr (a := ⟨b6, 0, none⟩) (a' := ⟨b6, 0, none⟩) fo25_0 (T rfl hv286) rfl) ⟨Below.refl _ _, rfl⟩
             · refine .inr ⟨by kernel_rfl, ?_⟩
               intro fr288 w287 e289 hF290 hD291
               have E292 := below_ext E162 E162.size e289
               have hv293 : fr288 181 = .pointer (some ⟨b6, 0, none⟩) := hD291 12 _ (by kernel_rfl) rfl (by kernel_rfl)
               have H294 := (e289.blk H164)
               exact DV.oe (dv_load1 (b := b6) (o := 0) agt2 (T rfl hv293) H294 rfl) ⟨Below.refl _ _, rfl⟩
             · refine .inr ⟨by kernel_rfl, ?_⟩
               intro fr296 w295 e297 hF298 hD299
               have E300 := below_ext E162 E162.size e297
               have hv301 : fr296 179 = .int .i64 dx := hD299 10 _ (by kernel_rfl) rfl (by kernel_rfl)
               have hv302 : fr296 182 = .int .i64 cx := hD299 13 _ (by kernel_rfl) rfl (by kernel_rfl)
               exact DV.oe (dv_sub (a := dx) (b := cx) (z := dx - cx) (T rfl hv301) (T rfl hv302) (wr_i64 (by omega) (by omega))) ⟨Below.refl _ _, rfl⟩
             · refine .inr ⟨by kernel_rfl, ?_⟩
               intro fr304 w303 e305 hF306 hD307
               have E308 := below_ext E162 E162.size e305
               have hv309 : fr304 183 = .int .i64 (dx - cx) := hD307 14 _ (by kernel_rfl) rfl (by kernel_rfl)
               refine id (oe_callf (vs := [.int .i64 (dx - cx)]) co70 (ar1 (T rfl hv309)) (whole_ok  (by omega)) ?_)
               rintro _ w315 ⟨nr310, A311, n312, c313, rfl, e316, h314⟩
               have E317 := below_ext E308 E308.size e316
               have lh314 := Num.len (by decide) h314
               exact ⟨e316, nr310, A311, n312, c313, rfl, h314⟩
             · refine .inr ⟨by kernel_rfl, ?_⟩
               intro fr319 w318 e320 hF321 hD322
               have E323 := below_ext E162 E162.size e320
               obtain ⟨nr324, A325, n326, c327, hv328, hp329⟩ : ∃ (nr245 : Bool) (A246 : Option Addr) (n247 : Nat) (c248 : Nat), fr319 176 = .agg #[.bool nr245, .slice A246 n247 c248] ∧ Num 64 36 .u64 w318 nr245 A246 n247 c248 (crossI ax ay bx b_y cx cy) 64 := hD322 7 _ (by kernel_rfl) rfl (by kernel_rfl)
               have lhp329 := Num.len (by decide) hp329
               obtain ⟨nr330, A331, n332, c333, hv334, hp335⟩ : ∃ (nr310 : Bool) (A311 : Option Addr) (n312 : Nat) (c313 : Nat), fr319 184 = .agg #[.bool nr310, .slice A311 n312 c313] ∧ Num 64 36 .u64 w318 nr310 A311 n312 c313 (dx - cx) 64 := hD322 15 _ (by kernel_rfl) rfl (by kernel_rfl)
               have lhp335 := Num.len (by decide) hp335
               refine id (oe_callf (vs := [.agg #[.bool nr324, .slice A325 n326 c327], .agg #[.bool nr330, .slice A331 n332 c333]]) co71 (ar2 (T rfl hv328) (T rfl hv334)) (nby_ok hp329 hp335 (by first | decide | omega) (by first | decide | omega)) ?_)
               rintro _ w341 ⟨nr336, A337, n338, c339, rfl, e342, h340⟩
               have E343 := below_ext E323 E323.size e342
               have lh340 := Num.len (by decide) h340
               exact ⟨e342, nr336, A337, n338, c339, rfl, h340⟩
             · refine .inr ⟨by kernel_rfl, ?_⟩
               intro fr345 w344 e346 hF347 hD348
               have E349 := below_ext E162 E162.size e346
               obtain ⟨nr350, A351, n352, c353, hv354, hp355⟩ : ∃ (nr224 : Bool) (A225 : Option Addr) (n226 : Nat) (c227 : Nat), fr345 174 = .agg #[.bool nr224, .slice A225 n226 c227] ∧ Num 64 36 .u64 w344 nr224 A225 n226 c227 (cx * zz151) 128 := hD348 5 _ (by kernel_rfl) rfl (by kernel_rfl)
               have lhp355 := Num.len (by decide) hp355
               obtain ⟨nr356, A357, n358, c359, hv360, hp361⟩ : ∃ (nr336 : Bool) (A337 : Option Addr) (n338 : Nat) (c339 : Nat), fr345 185 = .agg #[.bool nr336, .slice A337 n338 c339] ∧ Num 64 36 .u64 w344 nr336 A337 n338 c339 ((crossI ax ay bx b_y cx cy) * (dx - cx)) 128 := hD348 16 _ (by kernel_rfl) rfl (by kernel_rfl)
               have lhp361 := Num.len (by decide) hp361
               refine id (oe_callf (vs := [.agg #[.bool nr350, .slice A351 n352 c353], .agg #[.bool nr356, .slice A357 n358 c359]]) co74 (ar2 (T rfl hv354) (T rfl hv360)) (plus_ok hp355 hp361 (by first | decide | omega) (by first | decide | omega)) ?_)
               rintro _ w367 ⟨nr362, A363, n364, c365, rfl, e368, h366⟩
               have E369 := below_ext E349 E349.size e368
               have lh366 := Num.len (by decide) h366
               exact ⟨e368, nr362, A363, n364, c365, rfl, h366⟩
             · exact .inl (.inr ⟨by kernel_rfl, fun _ _ => trivial⟩)
             · exact .inl (.inl (by kernel_rfl))
           · refine ⟨⟨⟨_, rfl, fun _ _ => oe_alloc ze107 fun b w hn => ⟨b, rfl, hn⟩⟩, ⟨_, rfl, ?_⟩⟩, trivial⟩
             · intro fr371 w370 b375 e372 hF373 hD374 hA376 hB377
               have E378 := below_ext E162 E162.size e372
               obtain ⟨nr379, A380, n381, c382, hv383, hp384⟩ : ∃ (nr362 : Bool) (A363 : Option Addr) (n364 : Nat) (c365 : Nat), fr371 186 = .agg #[.bool nr362, .slice A363 n364 c365] ∧ Num 64 36 .u64 w370 nr362 A363 n364 c365 ((cx * zz151) + ((crossI ax ay bx b_y cx cy) * (dx - cx))) 129 := hD374 17 _ (by kernel_rfl) rfl (by kernel_rfl)
               have lhp384 := Num.len (by decide) hp384
               refine id (oe_store (v := .agg #[.bool nr379, .slice A380 n381 c382]) (vs := [.bool nr379, .slice A380 n381 c382]) (l := [.bool nr379, .slice A380 n381 c382]) (T rfl hA376) (T rfl hv383) sz107 rfl rfl rfl hB377 rfl ?_)
               intro w385 s386 H387
               exact ⟨s386, H387.trans (congrArg (fun v : Value => some (Obj.cells v.cells 107)) (show fr371 186 = _ from hv383).symm)⟩
           intro fr390 w389 e391 hF392 hP393 hM394 hN395
           have E396 := below_ext E162 E162.size e391
           obtain ⟨_, _, _, _, _, _, _, _, _, _, _, _, _, _, _, _, _, p397, _, _, _⟩ := hP393
           obtain ⟨nr398, A399, n400, c401, hv402, hp403⟩ : ∃ (nr362 : Bool) (A363 : Option Addr) (n364 : Nat) (c365 : Nat), fr390 186 = .agg #[.bool nr362, .slice A363 n364 c365] ∧ Num 64 36 .u64 w389 nr362 A363 n364 c365 ((cx * zz151) + ((crossI ax ay bx b_y cx cy) * (dx - cx))) 129 := p397.resolve_left (nst (by kernel_rfl))
           have lhp403 := Num.len (by decide) hp403
           obtain ⟨zz404, hz405⟩ : ∃ q_ : Int, q_ = (cx * zz151) + ((crossI ax ay bx b_y cx cy) * (dx - cx)) := ⟨_, rfl⟩
           rw [← hz405] at hp403
           obtain ⟨⟨b406, hA407, hB408, hC409⟩, _⟩ := hM394
           have H410 : w389.heap[b406]? = some (.cells #[.bool nr398, .slice A399 n400 c401] 107) := hC409.trans (congrArg (fun v : Value => some (Obj.cells v.cells 107)) hv402)
           have N411 : w.heap.size ≤ b406 := by omega
           refine rk_seq ?_
           have H412 := (e391.blk H163)
           have : b1 < w389.heap.size := lt_of_blk H412
           have H413 := (e391.blk H164)
           have : b6 < w389.heap.size := lt_of_blk H413
           have H414 := (e391.blk H165)
           have : b11 < w389.heap.size := lt_of_blk H414
           have H415 := (e391.blk H166)
           have : b16 < w389.heap.size := lt_of_blk H415
           have H416 := (e391.blk H161)
           have : b153 < w389.heap.size := lt_of_blk H416
           have : b406 < w389.heap.size := lt_of_blk H410
           have : w.heap.size ≤ w389.heap.size := E396.size
           refine rk_par2 [fun vq wq_ => vq = .pointer (some ⟨b6, 0, none⟩), fun vq wq_ => vq = .pointer (some ⟨b6, 1, none⟩), fun vq wq_ => vq = .int .i64 cy, fun vq wq_ => ∃ (nr445 : Bool) (A446 : Option Addr) (n447 : Nat) (c448 : Nat), vq = .agg #[.bool nr445, .slice A446 n447 c448] ∧ Num 64 36 .u64 wq_ nr445 A446 n447 c448 cy 64, fun vq wq_ => vq = .agg #[.bool nr143, .slice A144 n145 c146], fun vq wq_ => ∃ (nr474 : Bool) (A475 : Option Addr) (n476 : Nat) (c477 : Nat), vq = .agg #[.bool nr474, .slice A475 n476 c477] ∧ Num 64 36 .u64 wq_ nr474 A475 n476 c477 (cy * zz151) 128, fun vq wq_ => vq = .int .i64 (crossI ax ay bx b_y cx cy), fun vq wq_ => ∃ (nr495 : Bool) (A496 : Option Addr) (n497 : Nat) (c498 : Nat), vq = .agg #[.bool nr495, .slice A496 n497 c498] ∧ Num 64 36 .u64 wq_ nr495 A496 n497 c498 (crossI ax ay bx b_y cx cy) 64, fun vq wq_ => vq = .pointer (some ⟨b6, 2, none⟩), fun vq wq_ => vq = .pointer (some ⟨b6, 3, none⟩), fun vq wq_ => vq = .int .i64 dy, fun vq wq_ => vq = .pointer (some ⟨b6, 0, none⟩), fun vq wq_ => vq = .pointer (some ⟨b6, 1, none⟩), fun vq wq_ => vq = .int .i64 cy, fun vq wq_ => vq = .int .i64 (dy - cy), fun vq wq_ => ∃ (nr560 : Bool) (A561 : Option Addr) (n562 : Nat) (c563 : Nat), vq = .agg #[.bool nr560, .slice A561 n562 c563] ∧ Num 64 36 .u64 wq_ nr560 A561 n562 c563 (dy - cy) 64, fun vq wq_ => ∃ (nr586 : Bool) (A587 : Option Addr) (n588 : Nat) (c589 : Nat), vq = .agg #[.bool nr586, .slice A587 n588 c589] ∧ Num 64 36 .u64 wq_ nr586 A587 n588 c589 ((crossI ax ay bx b_y cx cy) * (dy - cy)) 128, fun vq wq_ => ∃ (nr612 : Bool) (A613 : Option Addr) (n614 : Nat) (c615 : Nat), vq = .agg #[.bool nr612, .slice A613 n614 c615] ∧ Num 64 36 .u64 wq_ nr612 A613 n614 c615 ((cy * zz151) + ((crossI ax ay bx b_y cx cy) * (dy - cy))) 129, fun _ _ => True, fun _ _ => True] [⟨18, 19, 17, 107, #[.bool false, .slice none 0 0]⟩] [107] mo (by kernel_rfl) (by kernel_rfl) ?_ ?_ ?_ ?_ ?_
           · intro e he e2 he2 h; simp only [List.mem_cons, List.not_mem_nil, or_false] at he he2; rcases he with rfl <;> rcases he2 with rfl <;> first | rfl | exact absurd h (by decide)
           · exact ⟨⟨fun v w w2 e h => h, fun v w w2 b cs T fz s hb hT h => h⟩, ⟨fun v w w2 e h => h, fun v w w2 b cs T fz s hb hT h => h⟩, ⟨fun v w w2 e h => h, fun v w w2 b cs T fz s hb hT h => h⟩, ⟨fun v w w2 e ⟨nr445, A446, n447, c448, hv, h0_⟩ => ⟨nr445, A446, n447, c448, hv, h0_.ext e⟩, fun v w w2 b cs T fz s hb hT ⟨nr445, A446, n447, c448, hv, h0_⟩ => ⟨nr445, A446, n447, c448, hv, h0_.st s hb (ts_ne hT (by decide))⟩⟩, ⟨fun v w w2 e h => h, fun v w w2 b cs T fz s hb hT h => h⟩, ⟨fun v w w2 e ⟨nr474, A475, n476, c477, hv, h0_⟩ => ⟨nr474, A475, n476, c477, hv, h0_.ext e⟩, fun v w w2 b cs T fz s hb hT ⟨nr474, A475, n476, c477, hv, h0_⟩ => ⟨nr474, A475, n476, c477, hv, h0_.st s hb (ts_ne hT (by decide))⟩⟩, ⟨fun v w w2 e h => h, fun v w w2 b cs T fz s hb hT h => h⟩, ⟨fun v w w2 e ⟨nr495, A496, n497, c498, hv, h0_⟩ => ⟨nr495, A496, n497, c498, hv, h0_.ext e⟩, fun v w w2 b cs T fz s hb hT ⟨nr495, A496, n497, c498, hv, h0_⟩ => ⟨nr495, A496, n497, c498, hv, h0_.st s hb (ts_ne hT (by decide))⟩⟩, ⟨fun v w w2 e h => h, fun v w w2 b cs T fz s hb hT h => h⟩, ⟨fun v w w2 e h => h, fun v w w2 b cs T fz s hb hT h => h⟩, ⟨fun v w w2 e h => h, fun v w w2 b cs T fz s hb hT h => h⟩, ⟨fun v w w2 e h => h, fun v w w2 b cs T fz s hb hT h => h⟩, ⟨fun v w w2 e h => h, fun v w w2 b cs T fz s hb hT h => h⟩, ⟨fun v w w2 e h => h, fun v w w2 b cs T fz s hb hT h => h⟩, ⟨fun v w w2 e h => h, fun v w w2 b cs T fz s hb hT h => h⟩, ⟨fun v w w2 e ⟨nr560, A561, n562, c563, hv, h0_⟩ => ⟨nr560, A561, n562, c563, hv, h0_.ext e⟩, fun v w w2 b cs T fz s hb hT ⟨nr560, A561, n562, c563, hv, h0_⟩ => ⟨nr560, A561, n562, c563, hv, h0_.st s hb (ts_ne hT (by decide))⟩⟩, ⟨fun v w w2 e ⟨nr586, A587, n588, c589, hv, h0_⟩ => ⟨nr586, A587, n588, c589, hv, h0_.ext e⟩, fun v w w2 b cs T fz s hb hT ⟨nr586, A587, n588, c589, hv, h0_⟩ => ⟨nr586, A587, n588, c589, hv, h0_.st s hb (ts_ne hT (by decide))⟩⟩, ⟨fun v w w2 e ⟨nr612, A613, n614, c615, hv, h0_⟩ => ⟨nr612, A613, n614, c615, hv, h0_.ext e⟩, fun v w w2 b cs T fz s hb hT ⟨nr612, A613, n614, c615, hv, h0_⟩ => ⟨nr612, A613, n614, c615, hv, h0_.st s hb (ts_ne hT (by decide))⟩⟩, ⟨fun v w w2 e h => h, fun v w w2 b cs T fz s hb hT h => h⟩, ⟨fun v w w2 e h => h, fun v w w2 b cs T fz s hb hT h => h⟩, trivial⟩
           · refine ⟨?_, ?_, ?_, ?_, ?_, ?_, ?_, ?_, ?_, ?_, ?_, ?_, ?_, ?_, ?_, ?_, ?_, ?_, ?_, ?_, trivial⟩
             · refine .inr ⟨by kernel_rfl, ?_⟩
               intro fr418 w417 e419 hF420 hD421
               have E422 := below_ext E396 E396.size e419
               exact DV.oe (dv_fieldAddr (a := ⟨b6, 0, none⟩) (a' := ⟨b6, 0, none⟩) fo27_0 (T rfl ((hF420 3 (by kernel_rfl)).trans ((hF392 3 rfl).trans f73))) rfl) ⟨Below.refl _ _, rfl⟩
             · refine .inr ⟨by kernel_rfl, ?_⟩
               intro fr424 w423 e425 hF426 hD427
               have E428 := below_ext E396 E396.size e425
               have hv429 : fr424 187 = .pointer (some ⟨b6, 0, none⟩) := hD427 0 _ (by kernel_rfl) rfl (by kernel_rfl)
               exact DV.oe (dv_fieldAddr (a := ⟨b6, 0, none⟩) (a' := ⟨b6, 1, none⟩) fo25_1 (T rfl hv429) rfl) ⟨Below.refl _ _, rfl⟩
             · refine .inr ⟨by kernel_rfl, ?_⟩
               intro fr431 w430 e432 hF433 hD434
               have E435 := below_ext E396 E396.size e432
               have hv436 : fr431 188 = .pointer (some ⟨b6, 1, none⟩) := hD434 1 _ (by kernel_rfl) rfl (by kernel_rfl)
               have H437 := (e432.blk H413)
               exact DV.oe (dv_load1 (b := b6) (o := 1) agt2 (T rfl hv436) H437 rfl) ⟨Below.refl _ _, rfl⟩
             · refine .inr ⟨by kernel_rfl, ?_⟩
               intro fr439 w438 e440 hF441 hD442
               have E443 := below_ext E396 E396.size e440
               have hv444 : fr439 189 = .int .i64 cy := hD442 2 _ (by kernel_rfl) rfl (by kernel_rfl)
               refine id (oe_callf (vs := [.int .i64 cy]) co70 (ar1 (T rfl hv444)) (whole_ok  (by omega)) ?_)
               rintro _ w450 ⟨nr445, A446, n447, c448, rfl, e451, h449⟩
               have E452 := below_ext E443 E443.size e451
               have lh449 := Num.len (by decide) h449
               exact ⟨e451, nr445, A446, n447, c448, rfl, h449⟩
             · refine .inr ⟨by kernel_rfl, ?_⟩
               intro fr454 w453 e455 hF456 hD457
               have E458 := below_ext E396 E396.size e455
               have H459 := (e455.blk H416)
               exact DV.oe (dv_loads (l := [.bool nr143, .slice A144 n145 c146]) agt107 sz107 (T rfl ((hF456 15 (by kernel_rfl)).trans (hF392 15 rfl))) H459 rfl) ⟨Below.refl _ _, rfl⟩
             · refine .inr ⟨by kernel_rfl, ?_⟩
               intro fr461 w460 e462 hF463 hD464
               have E465 := below_ext E396 E396.size e462
               obtain ⟨nr466, A467, n468, c469, hv470, hp471⟩ : ∃ (nr445 : Bool) (A446 : Option Addr) (n447 : Nat) (c448 : Nat), fr461 190 = .agg #[.bool nr445, .slice A446 n447 c448] ∧ Num 64 36 .u64 w460 nr445 A446 n447 c448 cy 64 := hD464 3 _ (by kernel_rfl) rfl (by kernel_rfl)
               have lhp471 := Num.len (by decide) hp471
               have hv472 : fr461 191 = .agg #[.bool nr143, .slice A144 n145 c146] := hD464 4 _ (by kernel_rfl) rfl (by kernel_rfl)
               have h473 := ((((h147.ext n155.ext).st s160 n155.blk (by decide)).ext e391).ext e462)
               refine id (oe_callf (vs := [.agg #[.bool nr466, .slice A467 n468 c469], .agg #[.bool nr143, .slice A144 n145 c146]]) co71 (ar2 (T rfl hv470) (T rfl hv472)) (nby_ok hp471 h473 (by first | decide | omega) (by first | decide | omega)) ?_)
               rintro _ w479 ⟨nr474, A475, n476, c477, rfl, e480, h478⟩
               have E481 := below_ext E465 E465.size e480
               have lh478 := Num.len (by decide) h478
               exact ⟨e480, nr474, A475, n476, c477, rfl, h478⟩
             · refine .inr ⟨by kernel_rfl, ?_⟩
               intro fr483 w482 e484 hF485 hD486
               have E487 := below_ext E396 E396.size e484
               exact DV.oe (dv_move (T rfl ((hF485 8 (by kernel_rfl)).trans ((hF392 8 rfl).trans f77)))) ⟨Below.refl _ _, rfl⟩
             · refine .inr ⟨by kernel_rfl, ?_⟩
               intro fr489 w488 e490 hF491 hD492
               have E493 := below_ext E396 E396.size e490
               have hv494 : fr489 193 = .int .i64 (crossI ax ay bx b_y cx cy) := hD492 6 _ (by kernel_rfl) rfl (by kernel_rfl)
               refine id (oe_callf (vs := [.int .i64 (crossI ax ay bx b_y cx cy)]) co70 (ar1 (T rfl hv494)) (whole_ok  (by omega)) ?_)
               rintro _ w500 ⟨nr495, A496, n497, c498, rfl, e501, h499⟩
               have E502 := below_ext E493 E493.size e501
               have lh499 := Num.len (by decide) h499
               exact ⟨e501, nr495, A496, n497, c498, rfl, h499⟩
             · refine .inr ⟨by kernel_rfl, ?_⟩
               intro fr504 w503 e505 hF506 hD507
               have E508 := below_ext E396 E396.size e505
               exact DV.oe (dv_fieldAddr (a := ⟨b6, 0, none⟩) (a' := ⟨b6, 2, none⟩) fo27_1 (T rfl ((hF506 3 (by kernel_rfl)).trans ((hF392 3 rfl).trans f73))) rfl) ⟨Below.refl _ _, rfl⟩
             · refine .inr ⟨by kernel_rfl, ?_⟩
               intro fr510 w509 e511 hF512 hD513
               have E514 := below_ext E396 E396.size e511
               have hv515 : fr510 195 = .pointer (some ⟨b6, 2, none⟩) := hD513 8 _ (by kernel_rfl) rfl (by kernel_rfl)
               exact DV.oe (dv_fieldAddr (a := ⟨b6, 2, none⟩) (a' := ⟨b6, 3, none⟩) fo25_1 (T rfl hv515) rfl) ⟨Below.refl _ _, rfl⟩
             · refine .inr ⟨by kernel_rfl, ?_⟩
               intro fr517 w516 e518 hF519 hD520
               have E521 := below_ext E396 E396.size e518
               have hv522 : fr517 196 = .pointer (some ⟨b6, 3, none⟩) := hD520 9 _ (by kernel_rfl) rfl (by kernel_rfl)
               have H523 := (e518.blk H413)
               exact DV.oe (dv_load1 (b := b6) (o := 3) agt2 (T rfl hv522) H523 rfl) ⟨Below.refl _ _, rfl⟩
             · refine .inr ⟨by kernel_rfl, ?_⟩
               intro fr525 w524 e526 hF527 hD528
               have E529 := below_ext E396 E396.size e526
               exact DV.oe (dv_fieldAddr (a := ⟨b6, 0, none⟩) (a' := ⟨b6, 0, none⟩) fo27_0 (T rfl ((hF527 3 (by kernel_rfl)).trans ((hF392 3 rfl).trans f73))) rfl) ⟨Below.refl _ _, rfl⟩
             · refine .inr ⟨by kernel_rfl, ?_⟩
               intro fr531 w530 e532 hF533 hD534
               have E535 := below_ext E396 E396.size e532
               have hv536 : fr531 198 = .pointer (some ⟨b6, 0, none⟩) := hD534 11 _ (by kernel_rfl) rfl (by kernel_rfl)
               exact DV.oe (dv_fieldAddr (a := ⟨b6, 0, none⟩) (a' := ⟨b6, 1, none⟩) fo25_1 (T rfl hv536) rfl) ⟨Below.refl _ _, rfl⟩
             · refine .inr ⟨by kernel_rfl, ?_⟩
               intro fr538 w537 e539 hF540 hD541
               have E542 := below_ext E396 E396.size e539
               have hv543 : fr538 199 = .pointer (some ⟨b6, 1, none⟩) := hD541 12 _ (by kernel_rfl) rfl (by kernel_rfl)
               have H544 := (e539.blk H413)
               exact DV.oe (dv_load1 (b := b6) (o := 1) agt2 (T rfl hv543) H544 rfl) ⟨Below.refl _ _, rfl⟩
             · refine .inr ⟨by kernel_rfl, ?_⟩
               intro fr546 w545 e547 hF548 hD549
               have E550 := below_ext E396 E396.size e547
               have hv551 : fr546 197 = .int .i64 dy := hD549 10 _ (by kernel_rfl) rfl (by kernel_rfl)
               have hv552 : fr546 200 = .int .i64 cy := hD549 13 _ (by kernel_rfl) rfl (by kernel_rfl)
               exact DV.oe (dv_sub (a := dy) (b := cy) (z := dy - cy) (T rfl hv551) (T rfl hv552) (wr_i64 (by omega) (by omega))) ⟨Below.refl _ _, rfl⟩
             · refine .inr ⟨by kernel_rfl, ?_⟩
               intro fr554 w553 e555 hF556 hD557
               have E558 := below_ext E396 E396.size e555
               have hv559 : fr554 201 = .int .i64 (dy - cy) := hD557 14 _ (by kernel_rfl) rfl (by kernel_rfl)
               refine id (oe_callf (vs := [.int .i64 (dy - cy)]) co70 (ar1 (T rfl hv559)) (whole_ok  (by omega)) ?_)
               rintro _ w565 ⟨nr560, A561, n562, c563, rfl, e566, h564⟩
               have E567 := below_ext E558 E558.size e566
               have lh564 := Num.len (by decide) h564
               exact ⟨e566, nr560, A561, n562, c563, rfl, h564⟩
             · refine .inr ⟨by kernel_rfl, ?_⟩
               intro fr569 w568 e570 hF571 hD572
               have E573 := below_ext E396 E396.size e570
               obtain ⟨nr574, A575, n576, c577, hv578, hp579⟩ : ∃ (nr495 : Bool) (A496 : Option Addr) (n497 : Nat) (c498 : Nat), fr569 194 = .agg #[.bool nr495, .slice A496 n497 c498] ∧ Num 64 36 .u64 w568 nr495 A496 n497 c498 (crossI ax ay bx b_y cx cy) 64 := hD572 7 _ (by kernel_rfl) rfl (by kernel_rfl)
               have lhp579 := Num.len (by decide) hp579
               obtain ⟨nr580, A581, n582, c583, hv584, hp585⟩ : ∃ (nr560 : Bool) (A561 : Option Addr) (n562 : Nat) (c563 : Nat), fr569 202 = .agg #[.bool nr560, .slice A561 n562 c563] ∧ Num 64 36 .u64 w568 nr560 A561 n562 c563 (dy - cy) 64 := hD572 15 _ (by kernel_rfl) rfl (by kernel_rfl)
               have lhp585 := Num.len (by decide) hp585
               refine id (oe_callf (vs := [.agg #[.bool nr574, .slice A575 n576 c577], .agg #[.bool nr580, .slice A581 n582 c583]]) co71 (ar2 (T rfl hv578) (T rfl hv584)) (nby_ok hp579 hp585 (by first | decide | omega) (by first | decide | omega)) ?_)
               rintro _ w591 ⟨nr586, A587, n588, c589, rfl, e592, h590⟩
               have E593 := below_ext E573 E573.size e592
               have lh590 := Num.len (by decide) h590
               exact ⟨e592, nr586, A587, n588, c589, rfl, h590⟩
             · refine .inr ⟨by kernel_rfl, ?_⟩
               intro fr595 w594 e596 hF597 hD598
               have E599 := below_ext E396 E396.size e596
               obtain ⟨nr600, A601, n602, c603, hv604, hp605⟩ : ∃ (nr474 : Bool) (A475 : Option Addr) (n476 : Nat) (c477 : Nat), fr595 192 = .agg #[.bool nr474, .slice A475 n476 c477] ∧ Num 64 36 .u64 w594 nr474 A475 n476 c477 (cy * zz151) 128 := hD598 5 _ (by kernel_rfl) rfl (by kernel_rfl)
               have lhp605 := Num.len (by decide) hp605
               obtain ⟨nr606, A607, n608, c609, hv610, hp611⟩ : ∃ (nr586 : Bool) (A587 : Option Addr) (n588 : Nat) (c589 : Nat), fr595 203 = .agg #[.bool nr586, .slice A587 n588 c589] ∧ Num 64 36 .u64 w594 nr586 A587 n588 c589 ((crossI ax ay bx b_y cx cy) * (dy - cy)) 128 := hD598 16 _ (by kernel_rfl) rfl (by kernel_rfl)
               have lhp611 := Num.len (by decide) hp611
               refine id (oe_callf (vs := [.agg #[.bool nr600, .slice A601 n602 c603], .agg #[.bool nr606, .slice A607 n608 c609]]) co74 (ar2 (T rfl hv604) (T rfl hv610)) (plus_ok hp605 hp611 (by first | decide | omega) (by first | decide | omega)) ?_)
               rintro _ w617 ⟨nr612, A613, n614, c615, rfl, e618, h616⟩
               have E619 := below_ext E599 E599.size e618
               have lh616 := Num.len (by decide) h616
               exact ⟨e618, nr612, A613, n614, c615, rfl, h616⟩
             · exact .inl (.inr ⟨by kernel_rfl, fun _ _ => trivial⟩)
             · exact .inl (.inl (by kernel_rfl))
           · refine ⟨⟨⟨_, rfl, fun _ _ => oe_alloc ze107 fun b w hn => ⟨b, rfl, hn⟩⟩, ⟨_, rfl, ?_⟩⟩, trivial⟩
             · intro fr621 w620 b625 e622 hF623 hD624 hA626 hB627
               have E628 := below_ext E396 E396.size e622
               obtain ⟨nr629, A630, n631, c632, hv633, hp634⟩ : ∃ (nr612 : Bool) (A613 : Option Addr) (n614 : Nat) (c615 : Nat), fr621 204 = .agg #[.bool nr612, .slice A613 n614 c615] ∧ Num 64 36 .u64 w620 nr612 A613 n614 c615 ((cy * zz151) + ((crossI ax ay bx b_y cx cy) * (dy - cy))) 129 := hD624 17 _ (by kernel_rfl) rfl (by kernel_rfl)
               have lhp634 := Num.len (by decide) hp634
               refine id (oe_store (v := .agg #[.bool nr629, .slice A630 n631 c632]) (vs := [.bool nr629, .slice A630 n631 c632]) (l := [.bool nr629, .slice A630 n631 c632]) (T rfl hA626) (T rfl hv633) sz107 rfl rfl rfl hB627 rfl ?_)
               intro w635 s636 H637
               exact ⟨s636, H637.trans (congrArg (fun v : Value => some (Obj.cells v.cells 107)) (show fr621 204 = _ from hv633).symm)⟩
           intro fr640 w639 e641 hF642 hP643 hM644 hN645
           have E646 := below_ext E396 E396.size e641
           obtain ⟨_, _, _, _, _, _, _, _, _, _, _, _, _, _, _, _, _, p647, _, _, _⟩ := hP643
           obtain ⟨nr648, A649, n650, c651, hv652, hp653⟩ : ∃ (nr612 : Bool) (A613 : Option Addr) (n614 : Nat) (c615 : Nat), fr640 204 = .agg #[.bool nr612, .slice A613 n614 c615] ∧ Num 64 36 .u64 w639 nr612 A613 n614 c615 ((cy * zz151) + ((crossI ax ay bx b_y cx cy) * (dy - cy))) 129 := p647.resolve_left (nst (by kernel_rfl))
           have lhp653 := Num.len (by decide) hp653
           obtain ⟨zz654, hz655⟩ : ∃ q_ : Int, q_ = (cy * zz151) + ((crossI ax ay bx b_y cx cy) * (dy - cy)) := ⟨_, rfl⟩
           rw [← hz655] at hp653
           obtain ⟨⟨b656, hA657, hB658, hC659⟩, _⟩ := hM644
           have H660 : w639.heap[b656]? = some (.cells #[.bool nr648, .slice A649 n650 c651] 107) := hC659.trans (congrArg (fun v : Value => some (Obj.cells v.cells 107)) hv652)
           have N661 : w.heap.size ≤ b656 := by omega
           refine rk_seq ?_
           refine rk_reg ?_
           have H662 := (e641.blk H410)
           refine lw_v (.agg #[.bool nr398, .slice A399 n400 c401]) (dv_loads (l := [.bool nr398, .slice A399 n400 c401]) agt107 sz107 (T rfl ((hF642 16 rfl).trans hA407)) H662 rfl) ?_
           refine lw_v (.agg #[.bool nr648, .slice A649 n650 c651]) (dv_loads (l := [.bool nr648, .slice A649 n650 c651]) agt107 sz107 (T rfl hA657) H660 rfl) ?_
           have H663 := (e641.blk H416)
           refine lw_v (.agg #[.bool nr143, .slice A144 n145 c146]) (dv_loads (l := [.bool nr143, .slice A144 n145 c146]) agt107 sz107 (T rfl ((hF642 15 rfl).trans (hF392 15 rfl))) H663 rfl) ?_
           refine lw_v (.agg #[.bool nr398, .slice A399 n400 c401, .bool nr648, .slice A649 n650 c651, .bool nr143, .slice A144 n145 c146]) (dv_build (pv := [(0, .agg #[.bool nr398, .slice A399 n400 c401]), (1, .agg #[.bool nr648, .slice A649 n650 c651]), (2, .agg #[.bool nr143, .slice A144 n145 c146])]) (l := [.bool nr398, .slice A399 n400 c401, .bool nr648, .slice A649 n650 c651, .bool nr143, .slice A144 n145 c146]) zc109 pl109 ⟨rfl, (T rfl rfl), ⟨rfl, (T rfl rfl), ⟨rfl, (T rfl rfl), trivial⟩⟩⟩ rfl) ?_
           have h664 := (hp403.ext e641)
           have h665 := ((((h147.ext n155.ext).st s160 n155.blk (by decide)).ext e391).ext e641)
           refine lw_e (oe_callf (vs := [.agg #[.bool nr398, .slice A399 n400 c401, .bool nr648, .slice A649 n650 c651, .bool nr143, .slice A144 n145 c146]]) co93 (ar1 (T rfl rfl)) (spoint_ok h664 hp653 h665 (by first | decide | omega) (by first | decide | omega) (by first | decide | omega) ) ?_)
           rintro _ w666 ⟨rfl, e667⟩
           have E668 := below_ext E646 E646.size e667
           refine lw_v (.tuple #[.agg #[.int .u64 (wv3 (pkz (pFit zz404 zz654 zz151) (pPt zz404 zz654 zz151 zz404))), .int .u64 (wv2 (pkz (pFit zz404 zz654 zz151) (pPt zz404 zz654 zz151 zz404))), .int .u64 (wv1 (pkz (pFit zz404 zz654 zz151) (pPt zz404 zz654 zz151 zz404))), .int .u64 (wv0 (pkz (pFit zz404 zz654 zz151) (pPt zz404 zz654 zz151 zz404))), .int .u64 (wv3 (pkz (pFit zz404 zz654 zz151) (pPt zz404 zz654 zz151 zz654))), .int .u64 (wv2 (pkz (pFit zz404 zz654 zz151) (pPt zz404 zz654 zz151 zz654))), .int .u64 (wv1 (pkz (pFit zz404 zz654 zz151) (pPt zz404 zz654 zz151 zz654))), .int .u64 (wv0 (pkz (pFit zz404 zz654 zz151) (pPt zz404 zz654 zz151 zz654))), .int .u64 (wv3 (pkz (pFit zz404 zz654 zz151) (pPt zz404 zz654 zz151 zz151))), .int .u64 (wv2 (pkz (pFit zz404 zz654 zz151) (pPt zz404 zz654 zz151 zz151))), .int .u64 (wv1 (pkz (pFit zz404 zz654 zz151) (pPt zz404 zz654 zz151 zz151))), .int .u64 (wv0 (pkz (pFit zz404 zz654 zz151) (pPt zz404 zz654 zz151 zz151)))], .bool (decide (pFit zz404 zz654 zz151))]) (dv_move (T rfl rfl)) ?_
           refine lw_v (.agg #[.int .u64 (wv3 (pkz (pFit zz404 zz654 zz151) (pPt zz404 zz654 zz151 zz404))), .int .u64 (wv2 (pkz (pFit zz404 zz654 zz151) (pPt zz404 zz654 zz151 zz404))), .int .u64 (wv1 (pkz (pFit zz404 zz654 zz151) (pPt zz404 zz654 zz151 zz404))), .int .u64 (wv0 (pkz (pFit zz404 zz654 zz151) (pPt zz404 zz654 zz151 zz404))), .int .u64 (wv3 (pkz (pFit zz404 zz654 zz151) (pPt zz404 zz654 zz151 zz654))), .int .u64 (wv2 (pkz (pFit zz404 zz654 zz151) (pPt zz404 zz654 zz151 zz654))), .int .u64 (wv1 (pkz (pFit zz404 zz654 zz151) (pPt zz404 zz654 zz151 zz654))), .int .u64 (wv0 (pkz (pFit zz404 zz654 zz151) (pPt zz404 zz654 zz151 zz654))), .int .u64 (wv3 (pkz (pFit zz404 zz654 zz151) (pPt zz404 zz654 zz151 zz151))), .int .u64 (wv2 (pkz (pFit zz404 zz654 zz151) (pPt zz404 zz654 zz151 zz151))), .int .u64 (wv1 (pkz (pFit zz404 zz654 zz151) (pPt zz404 zz654 zz151 zz151))), .int .u64 (wv0 (pkz (pFit zz404 zz654 zz151) (pPt zz404 zz654 zz151 zz151)))]) (dv_extract (vs := #[.agg #[.int .u64 (wv3 (pkz (pFit zz404 zz654 zz151) (pPt zz404 zz654 zz151 zz404))), .int .u64 (wv2 (pkz (pFit zz404 zz654 zz151) (pPt zz404 zz654 zz151 zz404))), .int .u64 (wv1 (pkz (pFit zz404 zz654 zz151) (pPt zz404 zz654 zz151 zz404))), .int .u64 (wv0 (pkz (pFit zz404 zz654 zz151) (pPt zz404 zz654 zz151 zz404))), .int .u64 (wv3 (pkz (pFit zz404 zz654 zz151) (pPt zz404 zz654 zz151 zz654))), .int .u64 (wv2 (pkz (pFit zz404 zz654 zz151) (pPt zz404 zz654 zz151 zz654))), .int .u64 (wv1 (pkz (pFit zz404 zz654 zz151) (pPt zz404 zz654 zz151 zz654))), .int .u64 (wv0 (pkz (pFit zz404 zz654 zz151) (pPt zz404 zz654 zz151 zz654))), .int .u64 (wv3 (pkz (pFit zz404 zz654 zz151) (pPt zz404 zz654 zz151 zz151))), .int .u64 (wv2 (pkz (pFit zz404 zz654 zz151) (pPt zz404 zz654 zz151 zz151))), .int .u64 (wv1 (pkz (pFit zz404 zz654 zz151) (pPt zz404 zz654 zz151 zz151))), .int .u64 (wv0 (pkz (pFit zz404 zz654 zz151) (pPt zz404 zz654 zz151 zz151)))], .bool (decide (pFit zz404 zz654 zz151))]) (T rfl rfl) rfl) ?_
           refine lw_v (.bool (decide (pFit zz404 zz654 zz151))) (dv_extract (vs := #[.agg #[.int .u64 (wv3 (pkz (pFit zz404 zz654 zz151) (pPt zz404 zz654 zz151 zz404))), .int .u64 (wv2 (pkz (pFit zz404 zz654 zz151) (pPt zz404 zz654 zz151 zz404))), .int .u64 (wv1 (pkz (pFit zz404 zz654 zz151) (pPt zz404 zz654 zz151 zz404))), .int .u64 (wv0 (pkz (pFit zz404 zz654 zz151) (pPt zz404 zz654 zz151 zz404))), .int .u64 (wv3 (pkz (pFit zz404 zz654 zz151) (pPt zz404 zz654 zz151 zz654))), .int .u64 (wv2 (pkz (pFit zz404 zz654 zz151) (pPt zz404 zz654 zz151 zz654))), .int .u64 (wv1 (pkz (pFit zz404 zz654 zz151) (pPt zz404 zz654 zz151 zz654))), .int .u64 (wv0 (pkz (pFit zz404 zz654 zz151) (pPt zz404 zz654 zz151 zz654))), .int .u64 (wv3 (pkz (pFit zz404 zz654 zz151) (pPt zz404 zz654 zz151 zz151))), .int .u64 (wv2 (pkz (pFit zz404 zz654 zz151) (pPt zz404 zz654 zz151 zz151))), .int .u64 (wv1 (pkz (pFit zz404 zz654 zz151) (pPt zz404 zz654 zz151 zz151))), .int .u64 (wv0 (pkz (pFit zz404 zz654 zz151) (pPt zz404 zz654 zz151 zz151)))], .bool (decide (pFit zz404 zz654 zz151))]) (T rfl rfl) rfl) ?_
           refine lw_e (oe_alloc ze40 ?_)
           intro b669 w670 n671
           have N672 : w.heap.size ≤ b669 := n671.eq ▸ E668.size
           have H673 := (e667.blk (e641.blk H412))
           have : b1 < b669 := n671.eq ▸ lt_of_blk H673
           have H674 := (e667.blk (e641.blk H413))
           have : b6 < b669 := n671.eq ▸ lt_of_blk H674
           have H675 := (e667.blk (e641.blk H414))
           have : b11 < b669 := n671.eq ▸ lt_of_blk H675
           have H676 := (e667.blk (e641.blk H415))
           have : b16 < b669 := n671.eq ▸ lt_of_blk H676
           have H677 := (e667.blk H663)
           have : b153 < b669 := n671.eq ▸ lt_of_blk H677
           have H678 := (e667.blk H662)
           have : b406 < b669 := n671.eq ▸ lt_of_blk H678
           have H679 := (e667.blk H660)
           have : b656 < b669 := n671.eq ▸ lt_of_blk H679
           have E680 := below_ext E668 E668.size n671.ext
           refine lw_e (oe_store (v := .agg #[.int .u64 (wv3 (pkz (pFit zz404 zz654 zz151) (pPt zz404 zz654 zz151 zz404))), .int .u64 (wv2 (pkz (pFit zz404 zz654 zz151) (pPt zz404 zz654 zz151 zz404))), .int .u64 (wv1 (pkz (pFit zz404 zz654 zz151) (pPt zz404 zz654 zz151 zz404))), .int .u64 (wv0 (pkz (pFit zz404 zz654 zz151) (pPt zz404 zz654 zz151 zz404))), .int .u64 (wv3 (pkz (pFit zz404 zz654 zz151) (pPt zz404 zz654 zz151 zz654))), .int .u64 (wv2 (pkz (pFit zz404 zz654 zz151) (pPt zz404 zz654 zz151 zz654))), .int .u64 (wv1 (pkz (pFit zz404 zz654 zz151) (pPt zz404 zz654 zz151 zz654))), .int .u64 (wv0 (pkz (pFit zz404 zz654 zz151) (pPt zz404 zz654 zz151 zz654))), .int .u64 (wv3 (pkz (pFit zz404 zz654 zz151) (pPt zz404 zz654 zz151 zz151))), .int .u64 (wv2 (pkz (pFit zz404 zz654 zz151) (pPt zz404 zz654 zz151 zz151))), .int .u64 (wv1 (pkz (pFit zz404 zz654 zz151) (pPt zz404 zz654 zz151 zz151))), .int .u64 (wv0 (pkz (pFit zz404 zz654 zz151) (pPt zz404 zz654 zz151 zz151)))]) (vs := [.int .u64 (wv3 (pkz (pFit zz404 zz654 zz151) (pPt zz404 zz654 zz151 zz404))), .int .u64 (wv2 (pkz (pFit zz404 zz654 zz151) (pPt zz404 zz654 zz151 zz404))), .int .u64 (wv1 (pkz (pFit zz404 zz654 zz151) (pPt zz404 zz654 zz151 zz404))), .int .u64 (wv0 (pkz (pFit zz404 zz654 zz151) (pPt zz404 zz654 zz151 zz404))), .int .u64 (wv3 (pkz (pFit zz404 zz654 zz151) (pPt zz404 zz654 zz151 zz654))), .int .u64 (wv2 (pkz (pFit zz404 zz654 zz151) (pPt zz404 zz654 zz151 zz654))), .int .u64 (wv1 (pkz (pFit zz404 zz654 zz151) (pPt zz404 zz654 zz151 zz654))), .int .u64 (wv0 (pkz (pFit zz404 zz654 zz151) (pPt zz404 zz654 zz151 zz654))), .int .u64 (wv3 (pkz (pFit zz404 zz654 zz151) (pPt zz404 zz654 zz151 zz151))), .int .u64 (wv2 (pkz (pFit zz404 zz654 zz151) (pPt zz404 zz654 zz151 zz151))), .int .u64 (wv1 (pkz (pFit zz404 zz654 zz151) (pPt zz404 zz654 zz151 zz151))), .int .u64 (wv0 (pkz (pFit zz404 zz654 zz151) (pPt zz404 zz654 zz151 zz151)))]) (l := [.int .u64 (wv3 (pkz (pFit zz404 zz654 zz151) (pPt zz404 zz654 zz151 zz404))), .int .u64 (wv2 (pkz (pFit zz404 zz654 zz151) (pPt zz404 zz654 zz151 zz404))), .int .u64 (wv1 (pkz (pFit zz404 zz654 zz151) (pPt zz404 zz654 zz151 zz404))), .int .u64 (wv0 (pkz (pFit zz404 zz654 zz151) (pPt zz404 zz654 zz151 zz404))), .int .u64 (wv3 (pkz (pFit zz404 zz654 zz151) (pPt zz404 zz654 zz151 zz654))), .int .u64 (wv2 (pkz (pFit zz404 zz654 zz151) (pPt zz404 zz654 zz151 zz654))), .int .u64 (wv1 (pkz (pFit zz404 zz654 zz151) (pPt zz404 zz654 zz151 zz654))), .int .u64 (wv0 (pkz (pFit zz404 zz654 zz151) (pPt zz404 zz654 zz151 zz654))), .int .u64 (wv3 (pkz (pFit zz404 zz654 zz151) (pPt zz404 zz654 zz151 zz151))), .int .u64 (wv2 (pkz (pFit zz404 zz654 zz151) (pPt zz404 zz654 zz151 zz151))), .int .u64 (wv1 (pkz (pFit zz404 zz654 zz151) (pPt zz404 zz654 zz151 zz151))), .int .u64 (wv0 (pkz (pFit zz404 zz654 zz151) (pPt zz404 zz654 zz151 zz151)))]) (T rfl rfl) (T rfl rfl) sz40 rfl rfl rfl n671.blk rfl ?_)
           intro w681 s682 H683
           have E684 := below_st E680 N672 s682
           refine lw_v (.bool (decide (pFit zz404 zz654 zz151))) (dv_assign (T rfl rfl)) ?_
           refine lw_nil ?_
           refine rk_seq ?_
           refine rk_any (fun w => w.heap[b669]? = some (.cells #[.int .u64 (wv3 (pkz (pFit zz404 zz654 zz151) (pPt zz404 zz654 zz151 zz404))), .int .u64 (wv2 (pkz (pFit zz404 zz654 zz151) (pPt zz404 zz654 zz151 zz404))), .int .u64 (wv1 (pkz (pFit zz404 zz654 zz151) (pPt zz404 zz654 zz151 zz404))), .int .u64 (wv0 (pkz (pFit zz404 zz654 zz151) (pPt zz404 zz654 zz151 zz404))), .int .u64 (wv3 (pkz (pFit zz404 zz654 zz151) (pPt zz404 zz654 zz151 zz654))), .int .u64 (wv2 (pkz (pFit zz404 zz654 zz151) (pPt zz404 zz654 zz151 zz654))), .int .u64 (wv1 (pkz (pFit zz404 zz654 zz151) (pPt zz404 zz654 zz151 zz654))), .int .u64 (wv0 (pkz (pFit zz404 zz654 zz151) (pPt zz404 zz654 zz151 zz654))), .int .u64 (wv3 (pkz (pFit zz404 zz654 zz151) (pPt zz404 zz654 zz151 zz151))), .int .u64 (wv2 (pkz (pFit zz404 zz654 zz151) (pPt zz404 zz654 zz151 zz151))), .int .u64 (wv1 (pkz (pFit zz404 zz654 zz151) (pPt zz404 zz654 zz151 zz151))), .int .u64 (wv0 (pkz (pFit zz404 zz654 zz151) (pPt zz404 zz654 zz151 zz151)))] 40)) [4] mo ?_
           intro w685 d686
           have E687 := below_ext E684 E684.size d686.ext
           have H688 := (d686.ext.blk H683)
           refine aw_load 0 (.agg #[.int .u64 (wv3 (pkz (pFit zz404 zz654 zz151) (pPt zz404 zz654 zz151 zz404))), .int .u64 (wv2 (pkz (pFit zz404 zz654 zz151) (pPt zz404 zz654 zz151 zz404))), .int .u64 (wv1 (pkz (pFit zz404 zz654 zz151) (pPt zz404 zz654 zz151 zz404))), .int .u64 (wv0 (pkz (pFit zz404 zz654 zz151) (pPt zz404 zz654 zz151 zz404))), .int .u64 (wv3 (pkz (pFit zz404 zz654 zz151) (pPt zz404 zz654 zz151 zz654))), .int .u64 (wv2 (pkz (pFit zz404 zz654 zz151) (pPt zz404 zz654 zz151 zz654))), .int .u64 (wv1 (pkz (pFit zz404 zz654 zz151) (pPt zz404 zz654 zz151 zz654))), .int .u64 (wv0 (pkz (pFit zz404 zz654 zz151) (pPt zz404 zz654 zz151 zz654))), .int .u64 (wv3 (pkz (pFit zz404 zz654 zz151) (pPt zz404 zz654 zz151 zz151))), .int .u64 (wv2 (pkz (pFit zz404 zz654 zz151) (pPt zz404 zz654 zz151 zz151))), .int .u64 (wv1 (pkz (pFit zz404 zz654 zz151) (pPt zz404 zz654 zz151 zz151))), .int .u64 (wv0 (pkz (pFit zz404 zz654 zz151) (pPt zz404 zz654 zz151 zz151)))]) rfl (by kernel_rfl) .none H688 (fun _ s => dv_loads (l := [.int .u64 (wv3 (pkz (pFit zz404 zz654 zz151) (pPt zz404 zz654 zz151 zz404))), .int .u64 (wv2 (pkz (pFit zz404 zz654 zz151) (pPt zz404 zz654 zz151 zz404))), .int .u64 (wv1 (pkz (pFit zz404 zz654 zz151) (pPt zz404 zz654 zz151 zz404))), .int .u64 (wv0 (pkz (pFit zz404 zz654 zz151) (pPt zz404 zz654 zz151 zz404))), .int .u64 (wv3 (pkz (pFit zz404 zz654 zz151) (pPt zz404 zz654 zz151 zz654))), .int .u64 (wv2 (pkz (pFit zz404 zz654 zz151) (pPt zz404 zz654 zz151 zz654))), .int .u64 (wv1 (pkz (pFit zz404 zz654 zz151) (pPt zz404 zz654 zz151 zz654))), .int .u64 (wv0 (pkz (pFit zz404 zz654 zz151) (pPt zz404 zz654 zz151 zz654))), .int .u64 (wv3 (pkz (pFit zz404 zz654 zz151) (pPt zz404 zz654 zz151 zz151))), .int .u64 (wv2 (pkz (pFit zz404 zz654 zz151) (pPt zz404 zz654 zz151 zz151))), .int .u64 (wv1 (pkz (pFit zz404 zz654 zz151) (pPt zz404 zz654 zz151 zz151))), .int .u64 (wv0 (pkz (pFit zz404 zz654 zz151) (pPt zz404 zz654 zz151 zz151)))]) agt40 sz40 (T rfl rfl) s rfl) ?_
           refine aw_pure 1 (.agg #[.int .u64 0, .int .u64 0, .int .u64 0, .int .u64 0, .int .u64 0, .int .u64 0, .int .u64 0, .int .u64 0, .int .u64 0, .int .u64 0, .int .u64 0, .int .u64 0]) rfl (by kernel_rfl) .none H688 (fun _ => dv_build (pv := []) (l := [.int .u64 0, .int .u64 0, .int .u64 0, .int .u64 0, .int .u64 0, .int .u64 0, .int .u64 0, .int .u64 0, .int .u64 0, .int .u64 0, .int .u64 0, .int .u64 0]) zc40 pl40 trivial rfl) ?_
           refine aw_pure 2 (.int .i64 1) rfl (by kernel_rfl) .none H688 (fun _ => dv_assign C) ?_
           have H689 := (d686.ext.blk (s682.blk (n671.ext.blk H675) (by omega)))
           refine aw_one 3 rfl (by kernel_rfl) .none (oe_store (v := .agg #[.int .u64 (wv3 (pkz (pFit zz404 zz654 zz151) (pPt zz404 zz654 zz151 zz404))), .int .u64 (wv2 (pkz (pFit zz404 zz654 zz151) (pPt zz404 zz654 zz151 zz404))), .int .u64 (wv1 (pkz (pFit zz404 zz654 zz151) (pPt zz404 zz654 zz151 zz404))), .int .u64 (wv0 (pkz (pFit zz404 zz654 zz151) (pPt zz404 zz654 zz151 zz404))), .int .u64 (wv3 (pkz (pFit zz404 zz654 zz151) (pPt zz404 zz654 zz151 zz654))), .int .u64 (wv2 (pkz (pFit zz404 zz654 zz151) (pPt zz404 zz654 zz151 zz654))), .int .u64 (wv1 (pkz (pFit zz404 zz654 zz151) (pPt zz404 zz654 zz151 zz654))), .int .u64 (wv0 (pkz (pFit zz404 zz654 zz151) (pPt zz404 zz654 zz151 zz654))), .int .u64 (wv3 (pkz (pFit zz404 zz654 zz151) (pPt zz404 zz654 zz151 zz151))), .int .u64 (wv2 (pkz (pFit zz404 zz654 zz151) (pPt zz404 zz654 zz151 zz151))), .int .u64 (wv1 (pkz (pFit zz404 zz654 zz151) (pPt zz404 zz654 zz151 zz151))), .int .u64 (wv0 (pkz (pFit zz404 zz654 zz151) (pPt zz404 zz654 zz151 zz151)))]) (vs := [.int .u64 (wv3 (pkz (pFit zz404 zz654 zz151) (pPt zz404 zz654 zz151 zz404))), .int .u64 (wv2 (pkz (pFit zz404 zz654 zz151) (pPt zz404 zz654 zz151 zz404))), .int .u64 (wv1 (pkz (pFit zz404 zz654 zz151) (pPt zz404 zz654 zz151 zz404))), .int .u64 (wv0 (pkz (pFit zz404 zz654 zz151) (pPt zz404 zz654 zz151 zz404))), .int .u64 (wv3 (pkz (pFit zz404 zz654 zz151) (pPt zz404 zz654 zz151 zz654))), .int .u64 (wv2 (pkz (pFit zz404 zz654 zz151) (pPt zz404 zz654 zz151 zz654))), .int .u64 (wv1 (pkz (pFit zz404 zz654 zz151) (pPt zz404 zz654 zz151 zz654))), .int .u64 (wv0 (pkz (pFit zz404 zz654 zz151) (pPt zz404 zz654 zz151 zz654))), .int .u64 (wv3 (pkz (pFit zz404 zz654 zz151) (pPt zz404 zz654 zz151 zz151))), .int .u64 (wv2 (pkz (pFit zz404 zz654 zz151) (pPt zz404 zz654 zz151 zz151))), .int .u64 (wv1 (pkz (pFit zz404 zz654 zz151) (pPt zz404 zz654 zz151 zz151))), .int .u64 (wv0 (pkz (pFit zz404 zz654 zz151) (pPt zz404 zz654 zz151 zz151)))]) (l := [.int .u64 (wv3 (pkz (pFit zz404 zz654 zz151) (pPt zz404 zz654 zz151 zz404))), .int .u64 (wv2 (pkz (pFit zz404 zz654 zz151) (pPt zz404 zz654 zz151 zz404))), .int .u64 (wv1 (pkz (pFit zz404 zz654 zz151) (pPt zz404 zz654 zz151 zz404))), .int .u64 (wv0 (pkz (pFit zz404 zz654 zz151) (pPt zz404 zz654 zz151 zz404))), .int .u64 (wv3 (pkz (pFit zz404 zz654 zz151) (pPt zz404 zz654 zz151 zz654))), .int .u64 (wv2 (pkz (pFit zz404 zz654 zz151) (pPt zz404 zz654 zz151 zz654))), .int .u64 (wv1 (pkz (pFit zz404 zz654 zz151) (pPt zz404 zz654 zz151 zz654))), .int .u64 (wv0 (pkz (pFit zz404 zz654 zz151) (pPt zz404 zz654 zz151 zz654))), .int .u64 (wv3 (pkz (pFit zz404 zz654 zz151) (pPt zz404 zz654 zz151 zz151))), .int .u64 (wv2 (pkz (pFit zz404 zz654 zz151) (pPt zz404 zz654 zz151 zz151))), .int .u64 (wv1 (pkz (pFit zz404 zz654 zz151) (pPt zz404 zz654 zz151 zz151))), .int .u64 (wv0 (pkz (pFit zz404 zz654 zz151) (pPt zz404 zz654 zz151 zz151)))]) (T rfl ((hF642 5 rfl).trans ((hF392 5 rfl).trans f74))) (T rfl rfl) sz40 rfl rfl rfl H689 rfl ?_)
           intro w690 s691 H692
           have E693 := below_st E687 N14 s691
           have H694 := (s691.blk H688 (by omega))
           refine ⟨.inr H694, ?_⟩
           have H695 := (s691.blk (d686.ext.blk (s682.blk (n671.ext.blk H676) (by omega))) (by omega))
           refine aw_one 4 rfl (by kernel_rfl) .none (oe_store (v := .agg #[.int .u64 0, .int .u64 0, .int .u64 0, .int .u64 0, .int .u64 0, .int .u64 0, .int .u64 0, .int .u64 0, .int .u64 0, .int .u64 0, .int .u64 0, .int .u64 0]) (vs := [.int .u64 0, .int .u64 0, .int .u64 0, .int .u64 0, .int .u64 0, .int .u64 0, .int .u64 0, .int .u64 0, .int .u64 0, .int .u64 0, .int .u64 0, .int .u64 0]) (l := [.int .u64 0, .int .u64 0, .int .u64 0, .int .u64 0, .int .u64 0, .int .u64 0, .int .u64 0, .int .u64 0, .int .u64 0, .int .u64 0, .int .u64 0, .int .u64 0]) (T rfl ((hF642 6 rfl).trans ((hF392 6 rfl).trans f75))) (T rfl rfl) sz40 rfl rfl rfl H695 rfl ?_)
           intro w696 s697 H698
           have E699 := below_st E693 N19 s697
           refine ⟨.inl rfl, ?_⟩
           refine aw_done (by kernel_rfl) ?_
           have H700 := (s697.blk H692 (by omega))
           refine rk_ret Try.func48 (v := .tuple #[.int .i64 1, .agg #[.int .u64 (wv3 (pkz (pFit zz404 zz654 zz151) (pPt zz404 zz654 zz151 zz404))), .int .u64 (wv2 (pkz (pFit zz404 zz654 zz151) (pPt zz404 zz654 zz151 zz404))), .int .u64 (wv1 (pkz (pFit zz404 zz654 zz151) (pPt zz404 zz654 zz151 zz404))), .int .u64 (wv0 (pkz (pFit zz404 zz654 zz151) (pPt zz404 zz654 zz151 zz404))), .int .u64 (wv3 (pkz (pFit zz404 zz654 zz151) (pPt zz404 zz654 zz151 zz654))), .int .u64 (wv2 (pkz (pFit zz404 zz654 zz151) (pPt zz404 zz654 zz151 zz654))), .int .u64 (wv1 (pkz (pFit zz404 zz654 zz151) (pPt zz404 zz654 zz151 zz654))), .int .u64 (wv0 (pkz (pFit zz404 zz654 zz151) (pPt zz404 zz654 zz151 zz654))), .int .u64 (wv3 (pkz (pFit zz404 zz654 zz151) (pPt zz404 zz654 zz151 zz151))), .int .u64 (wv2 (pkz (pFit zz404 zz654 zz151) (pPt zz404 zz654 zz151 zz151))), .int .u64 (wv1 (pkz (pFit zz404 zz654 zz151) (pPt zz404 zz654 zz151 zz151))), .int .u64 (wv0 (pkz (pFit zz404 zz654 zz151) (pPt zz404 zz654 zz151 zz151)))], .agg #[.int .u64 0, .int .u64 0, .int .u64 0, .int .u64 0, .int .u64 0, .int .u64 0, .int .u64 0, .int .u64 0, .int .u64 0, .int .u64 0, .int .u64 0, .int .u64 0]]) (res3 Try.results48 (rv_tmp rfl rfl) (rv_cells (l := [.int .u64 (wv3 (pkz (pFit zz404 zz654 zz151) (pPt zz404 zz654 zz151 zz404))), .int .u64 (wv2 (pkz (pFit zz404 zz654 zz151) (pPt zz404 zz654 zz151 zz404))), .int .u64 (wv1 (pkz (pFit zz404 zz654 zz151) (pPt zz404 zz654 zz151 zz404))), .int .u64 (wv0 (pkz (pFit zz404 zz654 zz151) (pPt zz404 zz654 zz151 zz404))), .int .u64 (wv3 (pkz (pFit zz404 zz654 zz151) (pPt zz404 zz654 zz151 zz654))), .int .u64 (wv2 (pkz (pFit zz404 zz654 zz151) (pPt zz404 zz654 zz151 zz654))), .int .u64 (wv1 (pkz (pFit zz404 zz654 zz151) (pPt zz404 zz654 zz151 zz654))), .int .u64 (wv0 (pkz (pFit zz404 zz654 zz151) (pPt zz404 zz654 zz151 zz654))), .int .u64 (wv3 (pkz (pFit zz404 zz654 zz151) (pPt zz404 zz654 zz151 zz151))), .int .u64 (wv2 (pkz (pFit zz404 zz654 zz151) (pPt zz404 zz654 zz151 zz151))), .int .u64 (wv1 (pkz (pFit zz404 zz654 zz151) (pPt zz404 zz654 zz151 zz151))), .int .u64 (wv0 (pkz (pFit zz404 zz654 zz151) (pPt zz404 zz654 zz151 zz151)))]) agt40 sz40 rfl ((hF642 5 rfl).trans ((hF392 5 rfl).trans f74)) H700 rfl) (rv_cells (l := [.int .u64 0, .int .u64 0, .int .u64 0, .int .u64 0, .int .u64 0, .int .u64 0, .int .u64 0, .int .u64 0, .int .u64 0, .int .u64 0, .int .u64 0, .int .u64 0]) agt40 sz40 rfl ((hF642 6 rfl).trans ((hF392 6 rfl).trans f75)) H698 rfl)) ⟨_, rfl, ?_⟩
           have hm := mt_cr hb23 hb38 h0
           exact ⟨1, wv3 (pkz (pFit zz404 zz654 zz151) (pPt zz404 zz654 zz151 zz404)), wv2 (pkz (pFit zz404 zz654 zz151) (pPt zz404 zz654 zz151 zz404)), wv1 (pkz (pFit zz404 zz654 zz151) (pPt zz404 zz654 zz151 zz404)), wv0 (pkz (pFit zz404 zz654 zz151) (pPt zz404 zz654 zz151 zz404)), wv3 (pkz (pFit zz404 zz654 zz151) (pPt zz404 zz654 zz151 zz654)), wv2 (pkz (pFit zz404 zz654 zz151) (pPt zz404 zz654 zz151 zz654)), wv1 (pkz (pFit zz404 zz654 zz151) (pPt zz404 zz654 zz151 zz654)), wv0 (pkz (pFit zz404 zz654 zz151) (pPt zz404 zz654 zz151 zz654)), wv3 (pkz (pFit zz404 zz654 zz151) (pPt zz404 zz654 zz151 zz151)), wv2 (pkz (pFit zz404 zz654 zz151) (pPt zz404 zz654 zz151 zz151)), wv1 (pkz (pFit zz404 zz654 zz151) (pPt zz404 zz654 zz151 zz151)), wv0 (pkz (pFit zz404 zz654 zz151) (pPt zz404 zz654 zz151 zz151)), 0, 0, 0, 0, 0, 0, 0, 0, 0, 0, 0, 0, rfl, E699, (by rw [hm]; omega)⟩
     · refine rk_seq ?_
       refine rk_reg ?_
       refine lw_v (.int .i64 (crossI ax ay bx b_y cx cy)) (dv_move (T rfl rfl)) ?_
       refine lw_v (.bool (decide ((crossI ax ay bx b_y cx cy) = 0))) (dv_eql (a := crossI ax ay bx b_y cx cy) (b := 0) (T rfl rfl) C) ?_
       refine lw_v (.bool (decide ((crossI ax ay bx b_y cx cy) = 0))) (dv_move (T rfl rfl)) ?_
       by_cases hb701 : (crossI ax ay bx b_y cx cy) = 0
       · refine lw_vy (.int .i64 (crossI ax ay bx b_y dx dy)) (d := 89) rfl rfl (congrArg Value.bool (decide_eq_true hb701)) (dv_move (T rfl rfl)) ?_
         refine lw_vy (.bool (decide ((crossI ax ay bx b_y dx dy) = 0))) (d := 89) rfl rfl (congrArg Value.bool (decide_eq_true hb701)) (dv_eql (a := crossI ax ay bx b_y dx dy) (b := 0) (T rfl rfl) C) ?_
         refine lw_v (.bool (decide ((crossI ax ay bx b_y dx dy) = 0))) (dv_pick_t (T rfl (congrArg Value.bool (decide_eq_true hb701))) (T rfl rfl)) ?_
         refine lw_nil ?_
         by_cases hb702 : (crossI ax ay bx b_y dx dy) = 0
         · refine rk_ct (T rfl (congrArg Value.bool (decide_eq_true hb702))) ?_
           refine rk_seq ?_
           have : b1 < w63.heap.size := lt_of_blk H66
           have : b6 < w63.heap.size := lt_of_blk H67
           have H703 := (e64.blk (e59.blk (d54.ext.blk (n18.ext.blk n13.blk))))
           have : b11 < w63.heap.size := lt_of_blk H703
           have H704 := (e64.blk (e59.blk (d54.ext.blk n18.blk)))
           have : b16 < w63.heap.size := lt_of_blk H704
           have : w.heap.size ≤ w63.heap.size := E65.size
           refine rk_par2 [fun vq wq_ => vq = .pointer (some ⟨b1, 0, none⟩), fun vq wq_ => vq = .agg #[.int .i64 ax, .int .i64 ay], fun vq wq_ => vq = .pointer (some ⟨b1, 2, none⟩), fun vq wq_ => vq = .agg #[.int .i64 bx, .int .i64 b_y], fun _ _ => True, fun _ _ => True, fun _ _ => True, fun _ _ => True] [⟨4, 6, 1, 25, #[.int .i64 0, .int .i64 0]⟩, ⟨5, 7, 3, 25, #[.int .i64 0, .int .i64 0]⟩] [25] mo (by kernel_rfl) (by kernel_rfl) ?_ ?_ ?_ ?_ ?_
           · intro e he e2 he2 h; simp only [List.mem_cons, List.not_mem_nil, or_false] at he he2; rcases he with rfl | rfl <;> rcases he2 with rfl | rfl <;> first | rfl | exact absurd h (by decide)
           · exact ⟨⟨fun v w w2 e h => h, fun v w w2 b cs T fz s hb hT h => h⟩, ⟨fun v w w2 e h => h, fun v w w2 b cs T fz s hb hT h => h⟩, ⟨fun v w w2 e h => h, fun v w w2 b cs T fz s hb hT h => h⟩, ⟨fun v w w2 e h => h, fun v w w2 b cs T fz s hb hT h => h⟩, ⟨fun v w w2 e h => h, fun v w w2 b cs T fz s hb hT h => h⟩, ⟨fun v w w2 e h => h, fun v w w2 b cs T fz s hb hT h => h⟩, ⟨fun v w w2 e h => h, fun v w w2 b cs T fz s hb hT h => h⟩, ⟨fun v w w2 e h => h, fun v w w2 b cs T fz s hb hT h => h⟩, trivial⟩
           · refine ⟨?_, ?_, ?_, ?_, ?_, ?_, ?_, ?_, trivial⟩
             · refine .inr ⟨by kernel_rfl, ?_⟩
               intro fr706 w705 e707 hF708 hD709
               have E710 := below_ext E65 E65.size e707
               exact DV.oe (dv_fieldAddr (a := ⟨b1, 0, none⟩) (a' := ⟨b1, 0, none⟩) fo27_0 (T rfl (hF708 2 (by kernel_rfl))) rfl) ⟨Below.refl _ _, rfl⟩
             · refine .inr ⟨by kernel_rfl, ?_⟩
               intro fr712 w711 e713 hF714 hD715
               have E716 := below_ext E65 E65.size e713
               have hv717 : fr712 93 = .pointer (some ⟨b1, 0, none⟩) := hD715 0 _ (by kernel_rfl) rfl (by kernel_rfl)
               have H718 := (e713.blk H66)
               exact DV.oe (dv_loads (l := [.int .i64 ax, .int .i64 ay]) agt25 sz25 (T rfl hv717) H718 rfl) ⟨Below.refl _ _, rfl⟩
             · refine .inr ⟨by kernel_rfl, ?_⟩
               intro fr720 w719 e721 hF722 hD723
               have E724 := below_ext E65 E65.size e721
               exact DV.oe (dv_fieldAddr (a := ⟨b1, 0, none⟩) (a' := ⟨b1, 2, none⟩) fo27_1 (T rfl (hF722 2 (by kernel_rfl))) rfl) ⟨Below.refl _ _, rfl⟩
             · refine .inr ⟨by kernel_rfl, ?_⟩
               intro fr726 w725 e727 hF728 hD729
               have E730 := below_ext E65 E65.size e727
               have hv731 : fr726 95 = .pointer (some ⟨b1, 2, none⟩) := hD729 2 _ (by kernel_rfl) rfl (by kernel_rfl)
               have H732 := (e727.blk H66)
               exact DV.oe (dv_loads (l := [.int .i64 bx, .int .i64 b_y]) agt25 sz25 (T rfl hv731) H732 rfl) ⟨Below.refl _ _, rfl⟩
             · exact .inl (.inr ⟨by kernel_rfl, fun _ _ => trivial⟩)
             · exact .inl (.inr ⟨by kernel_rfl, fun _ _ => trivial⟩)
             · exact .inl (.inl (by kernel_rfl))
             · exact .inl (.inl (by kernel_rfl))
           · refine ⟨⟨⟨_, rfl, fun _ _ => oe_alloc ze25 fun b w hn => ⟨b, rfl, hn⟩⟩, ⟨_, rfl, ?_⟩⟩, ⟨⟨_, rfl, fun _ _ => oe_alloc ze25 fun b w hn => ⟨b, rfl, hn⟩⟩, ⟨_, rfl, ?_⟩⟩, trivial⟩
             · intro fr734 w733 b738 e735 hF736 hD737 hA739 hB740
               have E741 := below_ext E65 E65.size e735
               have hv742 : fr734 94 = .agg #[.int .i64 ax, .int .i64 ay] := hD737 1 _ (by kernel_rfl) rfl (by kernel_rfl)
               refine id (oe_store (v := .agg #[.int .i64 ax, .int .i64 ay]) (vs := [.int .i64 ax, .int .i64 ay]) (l := [.int .i64 ax, .int .i64 ay]) (T rfl hA739) (T rfl hv742) sz25 rfl rfl rfl hB740 rfl ?_)
               intro w743 s744 H745
               exact ⟨s744, H745.trans (congrArg (fun v : Value => some (Obj.cells v.cells 25)) (show fr734 94 = _ from hv742).symm)⟩
             · intro fr748 w747 b752 e749 hF750 hD751 hA753 hB754
               have E755 := below_ext E65 E65.size e749
               have hv756 : fr748 96 = .agg #[.int .i64 bx, .int .i64 b_y] := hD751 3 _ (by kernel_rfl) rfl (by kernel_rfl)
               refine id (oe_store (v := .agg #[.int .i64 bx, .int .i64 b_y]) (vs := [.int .i64 bx, .int .i64 b_y]) (l := [.int .i64 bx, .int .i64 b_y]) (T rfl hA753) (T rfl hv756) sz25 rfl rfl rfl hB754 rfl ?_)
               intro w757 s758 H759
               exact ⟨s758, H759.trans (congrArg (fun v : Value => some (Obj.cells v.cells 25)) (show fr748 96 = _ from hv756).symm)⟩
           intro fr762 w761 e763 hF764 hP765 hM766 hN767
           have E768 := below_ext E65 E65.size e763
           obtain ⟨_, p769, _, p770, _, _, _, _, _⟩ := hP765
           have hv771 : fr762 94 = .agg #[.int .i64 ax, .int .i64 ay] := p769.resolve_left (nst (by kernel_rfl))
           have hv772 : fr762 96 = .agg #[.int .i64 bx, .int .i64 b_y] := p770.resolve_left (nst (by kernel_rfl))
           obtain ⟨⟨b773, hA774, hB775, hC776⟩, ⟨b777, hA778, hB779, hC780⟩, _⟩ := hM766
           have H781 : w761.heap[b773]? = some (.cells #[.int .i64 ax, .int .i64 ay] 25) := hC776.trans (congrArg (fun v : Value => some (Obj.cells v.cells 25)) hv771)
           have N782 : w.heap.size ≤ b773 := by omega
           have H783 : w761.heap[b777]? = some (.cells #[.int .i64 bx, .int .i64 b_y] 25) := hC780.trans (congrArg (fun v : Value => some (Obj.cells v.cells 25)) hv772)
           have N784 : w.heap.size ≤ b777 := by omega
           have : b777 ≠ b773 := fun hh => hN767 _ (.tail _ (.head _)) _ (.head _) (by decide) (hA778.trans ((congrArg (fun q => Value.pointer (some ⟨q, 0, none⟩)) hh).trans hA774.symm))
           refine rk_seq ?_
           refine rk_seq ?_
           refine rk_reg ?_
           refine lw_v (.pointer (some ⟨b6, 0, none⟩)) (dv_fieldAddr (a := ⟨b6, 0, none⟩) (a' := ⟨b6, 0, none⟩) fo27_0 (T rfl (hF764 3 rfl)) rfl) ?_
           have H785 := (e763.blk H67)
           refine lw_v (.agg #[.int .i64 cx, .int .i64 cy]) (dv_loads (l := [.int .i64 cx, .int .i64 cy]) agt25 sz25 (T rfl rfl) H785 rfl) ?_
           refine lw_v (.agg #[.int .i64 ax, .int .i64 ay]) (dv_loads (l := [.int .i64 ax, .int .i64 ay]) agt25 sz25 (T rfl hA774) H781 rfl) ?_
           refine lw_e (oe_callf (vs := [.agg #[.int .i64 cx, .int .i64 cy], .agg #[.int .i64 ax, .int .i64 ay]]) co45 (ar2 (T rfl rfl) (T rfl rfl)) (cmpSpots_ok (ax := cx) (ay := cy) (bx := ax) (b_y := ay)  ) ?_)
           rintro _ w786 ⟨rfl, e787⟩
           have E788 := below_ext E768 E768.size e787
           refine lw_v (.bool (decide (0 < (cmpS cx cy ax ay)))) (dv_gtr (a := cmpS cx cy ax ay) (b := 0) (T rfl rfl) C) ?_
           refine lw_nil ?_
           by_cases hb789 : 0 < (cmpS cx cy ax ay)
           · refine rk_ct (T rfl (congrArg Value.bool (decide_eq_true hb789))) ?_
             refine rk_reg ?_
             refine lw_v (.pointer (some ⟨b6, 0, none⟩)) (dv_fieldAddr (a := ⟨b6, 0, none⟩) (a' := ⟨b6, 0, none⟩) fo27_0 (T rfl (hF764 3 rfl)) rfl) ?_
             have H790 := (e787.blk H785)
             refine lw_v (.agg #[.int .i64 cx, .int .i64 cy]) (dv_loads (l := [.int .i64 cx, .int .i64 cy]) agt25 sz25 (T rfl rfl) H790 rfl) ?_
             have H791 := (e787.blk H781)
             refine lw_e (oe_store (v := .agg #[.int .i64 cx, .int .i64 cy]) (vs := [.int .i64 cx, .int .i64 cy]) (l := [.int .i64 cx, .int .i64 cy]) (T rfl hA774) (T rfl rfl) sz25 rfl rfl rfl H791 rfl ?_)
             intro w792 s793 H794
             have E795 := below_st E788 N782 s793
             refine lw_nil ?_
             refine rk_seq ?_
             refine rk_seq ?_
             refine rk_reg ?_
             refine lw_v (.pointer (some ⟨b6, 2, none⟩)) (dv_fieldAddr (a := ⟨b6, 0, none⟩) (a' := ⟨b6, 2, none⟩) fo27_1 (T rfl (hF764 3 rfl)) rfl) ?_
             have H796 := (s793.blk H790 (by omega))
             refine lw_v (.agg #[.int .i64 dx, .int .i64 dy]) (dv_loads (l := [.int .i64 dx, .int .i64 dy]) agt25 sz25 (T rfl rfl) H796 rfl) ?_
             have H797 := (s793.blk (e787.blk H783) (by omega))
             refine lw_v (.agg #[.int .i64 bx, .int .i64 b_y]) (dv_loads (l := [.int .i64 bx, .int .i64 b_y]) agt25 sz25 (T rfl hA778) H797 rfl) ?_
             refine lw_e (oe_callf (vs := [.agg #[.int .i64 dx, .int .i64 dy], .agg #[.int .i64 bx, .int .i64 b_y]]) co45 (ar2 (T rfl rfl) (T rfl rfl)) (cmpSpots_ok (ax := dx) (ay := dy) (bx := bx) (b_y := b_y)  ) ?_)
             rintro _ w798 ⟨rfl, e799⟩
             have E800 := below_ext E795 E795.size e799
             refine lw_v (.bool (decide ((cmpS dx dy bx b_y) < 0))) (dv_lss (a := cmpS dx dy bx b_y) (b := 0) (T rfl rfl) C) ?_
             refine lw_nil ?_
             by_cases hb801 : (cmpS dx dy bx b_y) < 0
             · refine rk_ct (T rfl (congrArg Value.bool (decide_eq_true hb801))) ?_
               refine rk_reg ?_
               refine lw_v (.pointer (some ⟨b6, 2, none⟩)) (dv_fieldAddr (a := ⟨b6, 0, none⟩) (a' := ⟨b6, 2, none⟩) fo27_1 (T rfl (hF764 3 rfl)) rfl) ?_
               have H802 := (e799.blk H796)
               refine lw_v (.agg #[.int .i64 dx, .int .i64 dy]) (dv_loads (l := [.int .i64 dx, .int .i64 dy]) agt25 sz25 (T rfl rfl) H802 rfl) ?_
               have H803 := (e799.blk H797)
               refine lw_e (oe_store (v := .agg #[.int .i64 dx, .int .i64 dy]) (vs := [.int .i64 dx, .int .i64 dy]) (l := [.int .i64 dx, .int .i64 dy]) (T rfl hA778) (T rfl rfl) sz25 rfl rfl rfl H803 rfl ?_)
               intro w804 s805 H806
               have E807 := below_st E800 N784 s805
               refine lw_nil ?_
               refine rk_seq ?_
               refine rk_seq ?_
               refine rk_reg ?_
               have H808 := (s805.blk (e799.blk H794) (by omega))
               refine lw_v (.agg #[.int .i64 cx, .int .i64 cy]) (dv_loads (l := [.int .i64 cx, .int .i64 cy]) agt25 sz25 (T rfl hA774) H808 rfl) ?_
               refine lw_v (.agg #[.int .i64 dx, .int .i64 dy]) (dv_loads (l := [.int .i64 dx, .int .i64 dy]) agt25 sz25 (T rfl hA778) H806 rfl) ?_
               refine lw_e (oe_callf (vs := [.agg #[.int .i64 cx, .int .i64 cy], .agg #[.int .i64 dx, .int .i64 dy]]) co45 (ar2 (T rfl rfl) (T rfl rfl)) (cmpSpots_ok (ax := cx) (ay := cy) (bx := dx) (b_y := dy)  ) ?_)
               rintro _ w809 ⟨rfl, e810⟩
               have E811 := below_ext E807 E807.size e810
               refine lw_v (.int .i64 (cmpS cx cy dx dy)) (dv_assign (T rfl rfl)) ?_
               refine lw_nil ?_
               refine rk_block ?_
               refine rk_seq ?_
               refine rk_reg ?_
               refine lw_v (.int .i64 (cmpS cx cy dx dy)) (dv_move (T rfl rfl)) ?_
               refine lw_v (.bool (decide (0 < (cmpS cx cy dx dy)))) (dv_gtr (a := cmpS cx cy dx dy) (b := 0) (T rfl rfl) C) ?_
               refine lw_v (.bool (decide (0 < (cmpS cx cy dx dy)))) (dv_assign (T rfl rfl)) ?_
               refine lw_nil ?_
               by_cases hb812 : 0 < (cmpS cx cy dx dy)
               · refine rk_ct (T rfl (congrArg Value.bool (decide_eq_true hb812))) ?_
                 refine rk_seq ?_
                 refine rk_reg ?_
                 refine lw_v (.func (.func 91) #[] #[]) (dv_move (T rfl (hF764 7 rfl))) ?_
                 refine lw_e (oe_callv (vs := []) (T rfl rfl) co91 ar0 (meetNone_ok ) ?_)
                 rintro _ w813 ⟨rfl, e814⟩
                 have E815 := below_ext E811 E811.size e814
                 refine lw_v (.int .i64 0) (dv_extract (vs := #[.int .i64 0, .agg #[.int .u64 0, .int .u64 0, .int .u64 0, .int .u64 0, .int .u64 0, .int .u64 0, .int .u64 0, .int .u64 0, .int .u64 0, .int .u64 0, .int .u64 0, .int .u64 0], .agg #[.int .u64 0, .int .u64 0, .int .u64 0, .int .u64 0, .int .u64 0, .int .u64 0, .int .u64 0, .int .u64 0, .int .u64 0, .int .u64 0, .int .u64 0, .int .u64 0]]) (T rfl rfl) rfl) ?_
                 refine lw_v (.agg #[.int .u64 0, .int .u64 0, .int .u64 0, .int .u64 0, .int .u64 0, .int .u64 0, .int .u64 0, .int .u64 0, .int .u64 0, .int .u64 0, .int .u64 0, .int .u64 0]) (dv_extract (vs := #[.int .i64 0, .agg #[.int .u64 0, .int .u64 0, .int .u64 0, .int .u64 0, .int .u64 0, .int .u64 0, .int .u64 0, .int .u64 0, .int .u64 0, .int .u64 0, .int .u64 0, .int .u64 0], .agg #[.int .u64 0, .int .u64 0, .int .u64 0, .int .u64 0, .int .u64 0, .int .u64 0, .int .u64 0, .int .u64 0, .int .u64 0, .int .u64 0, .int .u64 0, .int .u64 0]]) (T rfl rfl) rfl) ?_
                 refine lw_v (.agg #[.int .u64 0, .int .u64 0, .int .u64 0, .int .u64 0, .int .u64 0, .int .u64 0, .int .u64 0, .int .u64 0, .int .u64 0, .int .u64 0, .int .u64 0, .int .u64 0]) (dv_extract (vs := #[.int .i64 0, .agg #[.int .u64 0, .int .u64 0, .int .u64 0, .int .u64 0, .int .u64 0, .int .u64 0, .int .u64 0, .int .u64 0, .int .u64 0, .int .u64 0, .int .u64 0, .int .u64 0], .agg #[.int .u64 0, .int .u64 0, .int .u64 0, .int .u64 0, .int .u64 0, .int .u64 0, .int .u64 0, .int .u64 0, .int .u64 0, .int .u64 0, .int .u64 0, .int .u64 0]]) (T rfl rfl) rfl) ?_
                 refine lw_v (.int .i64 0) (dv_assign (T rfl rfl)) ?_
                 have H816 := (e814.blk (e810.blk (s805.blk (e799.blk (s793.blk (e787.blk (e763.blk H703)) (by omega))) (by omega))))
                 refine lw_e (oe_store (v := .agg #[.int .u64 0, .int .u64 0, .int .u64 0, .int .u64 0, .int .u64 0, .int .u64 0, .int .u64 0, .int .u64 0, .int .u64 0, .int .u64 0, .int .u64 0, .int .u64 0]) (vs := [.int .u64 0, .int .u64 0, .int .u64 0, .int .u64 0, .int .u64 0, .int .u64 0, .int .u64 0, .int .u64 0, .int .u64 0, .int .u64 0, .int .u64 0, .int .u64 0]) (l := [.int .u64 0, .int .u64 0, .int .u64 0, .int .u64 0, .int .u64 0, .int .u64 0, .int .u64 0, .int .u64 0, .int .u64 0, .int .u64 0, .int .u64 0, .int .u64 0]) (T rfl (hF764 5 rfl)) (T rfl rfl) sz40 rfl rfl rfl H816 rfl ?_)
                 intro w817 s818 H819
                 have E820 := below_st E815 N14 s818
                 have H821 := (s818.blk (e814.blk (e810.blk (s805.blk (e799.blk (s793.blk (e787.blk (e763.blk H704)) (by omega))) (by omega)))) (by omega))
                 refine lw_e (oe_store (v := .agg #[.int .u64 0, .int .u64 0, .int .u64 0, .int .u64 0, .int .u64 0, .int .u64 0, .int .u64 0, .int .u64 0, .int .u64 0, .int .u64 0, .int .u64 0, .int .u64 0]) (vs := [.int .u64 0, .int .u64 0, .int .u64 0, .int .u64 0, .int .u64 0, .int .u64 0, .int .u64 0, .int .u64 0, .int .u64 0, .int .u64 0, .int .u64 0, .int .u64 0]) (l := [.int .u64 0, .int .u64 0, .int .u64 0, .int .u64 0, .int .u64 0, .int .u64 0, .int .u64 0, .int .u64 0, .int .u64 0, .int .u64 0, .int .u64 0, .int .u64 0]) (T rfl (hF764 6 rfl)) (T rfl rfl) sz40 rfl rfl rfl H821 rfl ?_)
                 intro w822 s823 H824
                 have E825 := below_st E820 N19 s823
                 refine lw_nil ?_
                 have H826 := (s823.blk H819 (by omega))
                 refine rk_ret Try.func48 (v := .tuple #[.int .i64 0, .agg #[.int .u64 0, .int .u64 0, .int .u64 0, .int .u64 0, .int .u64 0, .int .u64 0, .int .u64 0, .int .u64 0, .int .u64 0, .int .u64 0, .int .u64 0, .int .u64 0], .agg #[.int .u64 0, .int .u64 0, .int .u64 0, .int .u64 0, .int .u64 0, .int .u64 0, .int .u64 0, .int .u64 0, .int .u64 0, .int .u64 0, .int .u64 0, .int .u64 0]]) (res3 Try.results48 (rv_tmp rfl rfl) (rv_cells (l := [.int .u64 0, .int .u64 0, .int .u64 0, .int .u64 0, .int .u64 0, .int .u64 0, .int .u64 0, .int .u64 0, .int .u64 0, .int .u64 0, .int .u64 0, .int .u64 0]) agt40 sz40 rfl (hF764 5 rfl) H826 rfl) (rv_cells (l := [.int .u64 0, .int .u64 0, .int .u64 0, .int .u64 0, .int .u64 0, .int .u64 0, .int .u64 0, .int .u64 0, .int .u64 0, .int .u64 0, .int .u64 0, .int .u64 0]) agt40 sz40 rfl (hF764 6 rfl) H824 rfl)) ⟨_, rfl, ?_⟩
                 have hm := mt_col hb23 hb38 hb701 hb702
                 unfold loS hiS at hm
                 rw [if_pos hb789, if_pos hb789, if_pos hb801, if_pos hb801] at hm
                 exact ⟨0, 0, 0, 0, 0, 0, 0, 0, 0, 0, 0, 0, 0, 0, 0, 0, 0, 0, 0, 0, 0, 0, 0, 0, 0, rfl, E825, (by rw [hm]; omega)⟩
               · refine rk_cf (T rfl (congrArg Value.bool (decide_eq_false hb812))) ?_
                 refine rk_seq ?_
                 refine rk_reg ?_
                 refine lw_v (.int .i64 (cmpS cx cy dx dy)) (dv_move (T rfl rfl)) ?_
                 refine lw_v (.bool (decide ((cmpS cx cy dx dy) = 0))) (dv_eql (a := cmpS cx cy dx dy) (b := 0) (T rfl rfl) C) ?_
                 refine lw_v (.bool (decide ((cmpS cx cy dx dy) = 0))) (dv_assign (T rfl rfl)) ?_
                 refine lw_nil ?_
                 by_cases hb827 : (cmpS cx cy dx dy) = 0
                 · refine rk_ct (T rfl (congrArg Value.bool (decide_eq_true hb827))) ?_
                   refine rk_seq ?_
                   refine rk_reg ?_
                   have H828 := (e810.blk H808)
                   refine lw_v (.agg #[.int .i64 cx, .int .i64 cy]) (dv_loads (l := [.int .i64 cx, .int .i64 cy]) agt25 sz25 (T rfl hA774) H828 rfl) ?_
                   refine lw_e (oe_callf (vs := [.agg #[.int .i64 cx, .int .i64 cy]]) co92 (ar1 (T rfl rfl)) (PointOf_ok (x := cx) (y := cy)  (by omega) (by omega)) ?_)
                   rintro _ w829 ⟨rfl, e830⟩
                   have E831 := below_ext E811 E811.size e830
                   refine lw_v (.agg #[.int .u64 0, .int .u64 0, .int .u64 0, .int .u64 0, .int .u64 0, .int .u64 0, .int .u64 0, .int .u64 0, .int .u64 0, .int .u64 0, .int .u64 0, .int .u64 0]) (dv_build (pv := []) (l := [.int .u64 0, .int .u64 0, .int .u64 0, .int .u64 0, .int .u64 0, .int .u64 0, .int .u64 0, .int .u64 0, .int .u64 0, .int .u64 0, .int .u64 0, .int .u64 0]) zc40 pl40 trivial rfl) ?_
                   refine lw_v (.int .i64 1) (dv_assign C) ?_
                   have H832 := (e830.blk (e810.blk (s805.blk (e799.blk (s793.blk (e787.blk (e763.blk H703)) (by omega))) (by omega))))
                   refine lw_e (oe_store (v := .agg #[.int .u64 (wv3 cx), .int .u64 (wv2 cx), .int .u64 (wv1 cx), .int .u64 (wv0 cx), .int .u64 (wv3 cy), .int .u64 (wv2 cy), .int .u64 (wv1 cy), .int .u64 (wv0 cy), .int .u64 (wv3 1), .int .u64 (wv2 1), .int .u64 (wv1 1), .int .u64 (wv0 1)]) (vs := [.int .u64 (wv3 cx), .int .u64 (wv2 cx), .int .u64 (wv1 cx), .int .u64 (wv0 cx), .int .u64 (wv3 cy), .int .u64 (wv2 cy), .int .u64 (wv1 cy), .int .u64 (wv0 cy), .int .u64 (wv3 1), .int .u64 (wv2 1), .int .u64 (wv1 1), .int .u64 (wv0 1)]) (l := [.int .u64 (wv3 cx), .int .u64 (wv2 cx), .int .u64 (wv1 cx), .int .u64 (wv0 cx), .int .u64 (wv3 cy), .int .u64 (wv2 cy), .int .u64 (wv1 cy), .int .u64 (wv0 cy), .int .u64 (wv3 1), .int .u64 (wv2 1), .int .u64 (wv1 1), .int .u64 (wv0 1)]) (T rfl (hF764 5 rfl)) (T rfl rfl) sz40 rfl rfl rfl H832 rfl ?_)
                   intro w833 s834 H835
                   have E836 := below_st E831 N14 s834
                   have H837 := (s834.blk (e830.blk (e810.blk (s805.blk (e799.blk (s793.blk (e787.blk (e763.blk H704)) (by omega))) (by omega)))) (by omega))
                   refine lw_e (oe_store (v := .agg #[.int .u64 0, .int .u64 0, .int .u64 0, .int .u64 0, .int .u64 0, .int .u64 0, .int .u64 0, .int .u64 0, .int .u64 0, .int .u64 0, .int .u64 0, .int .u64 0]) (vs := [.int .u64 0, .int .u64 0, .int .u64 0, .int .u64 0, .int .u64 0, .int .u64 0, .int .u64 0, .int .u64 0, .int .u64 0, .int .u64 0, .int .u64 0, .int .u64 0]) (l := [.int .u64 0, .int .u64 0, .int .u64 0, .int .u64 0, .int .u64 0, .int .u64 0, .int .u64 0, .int .u64 0, .int .u64 0, .int .u64 0, .int .u64 0, .int .u64 0]) (T rfl (hF764 6 rfl)) (T rfl rfl) sz40 rfl rfl rfl H837 rfl ?_)
                   intro w838 s839 H840
                   have E841 := below_st E836 N19 s839
                   refine lw_nil ?_
                   have H842 := (s839.blk H835 (by omega))
                   refine rk_ret Try.func48 (v := .tuple #[.int .i64 1, .agg #[.int .u64 (wv3 cx), .int .u64 (wv2 cx), .int .u64 (wv1 cx), .int .u64 (wv0 cx), .int .u64 (wv3 cy), .int .u64 (wv2 cy), .int .u64 (wv1 cy), .int .u64 (wv0 cy), .int .u64 (wv3 1), .int .u64 (wv2 1), .int .u64 (wv1 1), .int .u64 (wv0 1)], .agg #[.int .u64 0, .int .u64 0, .int .u64 0, .int .u64 0, .int .u64 0, .int .u64 0, .int .u64 0, .int .u64 0, .int .u64 0, .int .u64 0, .int .u64 0, .int .u64 0]]) (res3 Try.results48 (rv_tmp rfl rfl) (rv_cells (l := [.int .u64 (wv3 cx), .int .u64 (wv2 cx), .int .u64 (wv1 cx), .int .u64 (wv0 cx), .int .u64 (wv3 cy), .int .u64 (wv2 cy), .int .u64 (wv1 cy), .int .u64 (wv0 cy), .int .u64 (wv3 1), .int .u64 (wv2 1), .int .u64 (wv1 1), .int .u64 (wv0 1)]) agt40 sz40 rfl (hF764 5 rfl) H842 rfl) (rv_cells (l := [.int .u64 0, .int .u64 0, .int .u64 0, .int .u64 0, .int .u64 0, .int .u64 0, .int .u64 0, .int .u64 0, .int .u64 0, .int .u64 0, .int .u64 0, .int .u64 0]) agt40 sz40 rfl (hF764 6 rfl) H840 rfl)) ⟨_, rfl, ?_⟩
                   have hm := mt_col hb23 hb38 hb701 hb702
                   unfold loS hiS at hm
                   rw [if_pos hb789, if_pos hb789, if_pos hb801, if_pos hb801] at hm
                   exact ⟨1, wv3 cx, wv2 cx, wv1 cx, wv0 cx, wv3 cy, wv2 cy, wv1 cy, wv0 cy, wv3 1, wv2 1, wv1 1, wv0 1, 0, 0, 0, 0, 0, 0, 0, 0, 0, 0, 0, 0, rfl, E841, (by rw [hm]; omega)⟩
                 · refine rk_cf (T rfl (congrArg Value.bool (decide_eq_false hb827))) ?_
                   refine rk_skip ?_
                   refine rk_inBlock ?_
                   refine rk_seq ?_
                   refine rk_any (fun w => w.heap[b773]? = some (.cells #[.int .i64 cx, .int .i64 cy] 25) ∧ w.heap[b777]? = some (.cells #[.int .i64 dx, .int .i64 dy] 25)) [6] mo ?_
                   intro w843 d844
                   have E845 := below_ext E811 E811.size d844.ext
                   have H846 := (d844.ext.blk (e810.blk H808))
                   have H847 := (d844.ext.blk (e810.blk H806))
                   refine aw_load 0 (.agg #[.int .i64 cx, .int .i64 cy]) rfl (by kernel_rfl) .none ⟨H846, H847⟩ (fun _ s => dv_loads (l := [.int .i64 cx, .int .i64 cy]) agt25 sz25 (T rfl hA774) s.1 rfl) ?_
                   refine aw_load 2 (.agg #[.int .i64 dx, .int .i64 dy]) rfl (by kernel_rfl) .none ⟨H846, H847⟩ (fun _ s => dv_loads (l := [.int .i64 dx, .int .i64 dy]) agt25 sz25 (T rfl hA778) s.2 rfl) ?_
                   refine aw_one 1 rfl (by kernel_rfl) .none (oe_callf (vs := [.agg #[.int .i64 cx, .int .i64 cy]]) co92 (ar1 (T rfl rfl)) (PointOf_ok (x := cx) (y := cy)  (by omega) (by omega)) ?_)
                   rintro _ w848 ⟨rfl, e849⟩
                   have E850 := below_ext E845 E845.size e849
                   have H851 := (e849.blk H846)
                   have H852 := (e849.blk H847)
                   refine ⟨.inr ⟨H851, H852⟩, ?_⟩
                   refine aw_one 3 rfl (by kernel_rfl) .none (oe_callf (vs := [.agg #[.int .i64 dx, .int .i64 dy]]) co92 (ar1 (T rfl rfl)) (PointOf_ok (x := dx) (y := dy)  (by omega) (by omega)) ?_)
                   rintro _ w853 ⟨rfl, e854⟩
                   have E855 := below_ext E850 E850.size e854
                   have H856 := (e854.blk H851)
                   have H857 := (e854.blk H852)
                   refine ⟨.inr ⟨H856, H857⟩, ?_⟩
                   refine aw_pure 4 (.int .i64 2) rfl (by kernel_rfl) .none ⟨H856, H857⟩ (fun _ => dv_assign C) ?_
                   have H858 := (e854.blk (e849.blk (d844.ext.blk (e810.blk (s805.blk (e799.blk (s793.blk (e787.blk (e763.blk H703)) (by omega))) (by omega))))))
                   refine aw_one 5 rfl (by kernel_rfl) .none (oe_store (v := .agg #[.int .u64 (wv3 cx), .int .u64 (wv2 cx), .int .u64 (wv1 cx), .int .u64 (wv0 cx), .int .u64 (wv3 cy), .int .u64 (wv2 cy), .int .u64 (wv1 cy), .int .u64 (wv0 cy), .int .u64 (wv3 1), .int .u64 (wv2 1), .int .u64 (wv1 1), .int .u64 (wv0 1)]) (vs := [.int .u64 (wv3 cx), .int .u64 (wv2 cx), .int .u64 (wv1 cx), .int .u64 (wv0 cx), .int .u64 (wv3 cy), .int .u64 (wv2 cy), .int .u64 (wv1 cy), .int .u64 (wv0 cy), .int .u64 (wv3 1), .int .u64 (wv2 1), .int .u64 (wv1 1), .int .u64 (wv0 1)]) (l := [.int .u64 (wv3 cx), .int .u64 (wv2 cx), .int .u64 (wv1 cx), .int .u64 (wv0 cx), .int .u64 (wv3 cy), .int .u64 (wv2 cy), .int .u64 (wv1 cy), .int .u64 (wv0 cy), .int .u64 (wv3 1), .int .u64 (wv2 1), .int .u64 (wv1 1), .int .u64 (wv0 1)]) (T rfl (hF764 5 rfl)) (T rfl rfl) sz40 rfl rfl rfl H858 rfl ?_)
                   intro w859 s860 H861
                   have E862 := below_st E855 N14 s860
                   have H863 := (s860.blk H856 (by omega))
                   have H864 := (s860.blk H857 (by omega))
                   refine ⟨.inr ⟨H863, H864⟩, ?_⟩
                   have H865 := (s860.blk (e854.blk (e849.blk (d844.ext.blk (e810.blk (s805.blk (e799.blk (s793.blk (e787.blk (e763.blk H704)) (by omega))) (by omega)))))) (by omega))
                   refine aw_one 6 rfl (by kernel_rfl) .none (oe_store (v := .agg #[.int .u64 (wv3 dx), .int .u64 (wv2 dx), .int .u64 (wv1 dx), .int .u64 (wv0 dx), .int .u64 (wv3 dy), .int .u64 (wv2 dy), .int .u64 (wv1 dy), .int .u64 (wv0 dy), .int .u64 (wv3 1), .int .u64 (wv2 1), .int .u64 (wv1 1), .int .u64 (wv0 1)]) (vs := [.int .u64 (wv3 dx), .int .u64 (wv2 dx), .int .u64 (wv1 dx), .int .u64 (wv0 dx), .int .u64 (wv3 dy), .int .u64 (wv2 dy), .int .u64 (wv1 dy), .int .u64 (wv0 dy), .int .u64 (wv3 1), .int .u64 (wv2 1), .int .u64 (wv1 1), .int .u64 (wv0 1)]) (l := [.int .u64 (wv3 dx), .int .u64 (wv2 dx), .int .u64 (wv1 dx), .int .u64 (wv0 dx), .int .u64 (wv3 dy), .int .u64 (wv2 dy), .int .u64 (wv1 dy), .int .u64 (wv0 dy), .int .u64 (wv3 1), .int .u64 (wv2 1), .int .u64 (wv1 1), .int .u64 (wv0 1)]) (T rfl (hF764 6 rfl)) (T rfl rfl) sz40 rfl rfl rfl H865 rfl ?_)
                   intro w866 s867 H868
                   have E869 := below_st E862 N19 s867
                   refine ⟨.inl rfl, ?_⟩
                   refine aw_done (by kernel_rfl) ?_
                   have H870 := (s867.blk H861 (by omega))
                   refine rk_ret Try.func48 (v := .tuple #[.int .i64 2, .agg #[.int .u64 (wv3 cx), .int .u64 (wv2 cx), .int .u64 (wv1 cx), .int .u64 (wv0 cx), .int .u64 (wv3 cy), .int .u64 (wv2 cy), .int .u64 (wv1 cy), .int .u64 (wv0 cy), .int .u64 (wv3 1), .int .u64 (wv2 1), .int .u64 (wv1 1), .int .u64 (wv0 1)], .agg #[.int .u64 (wv3 dx), .int .u64 (wv2 dx), .int .u64 (wv1 dx), .int .u64 (wv0 dx), .int .u64 (wv3 dy), .int .u64 (wv2 dy), .int .u64 (wv1 dy), .int .u64 (wv0 dy), .int .u64 (wv3 1), .int .u64 (wv2 1), .int .u64 (wv1 1), .int .u64 (wv0 1)]]) (res3 Try.results48 (rv_tmp rfl rfl) (rv_cells (l := [.int .u64 (wv3 cx), .int .u64 (wv2 cx), .int .u64 (wv1 cx), .int .u64 (wv0 cx), .int .u64 (wv3 cy), .int .u64 (wv2 cy), .int .u64 (wv1 cy), .int .u64 (wv0 cy), .int .u64 (wv3 1), .int .u64 (wv2 1), .int .u64 (wv1 1), .int .u64 (wv0 1)]) agt40 sz40 rfl (hF764 5 rfl) H870 rfl) (rv_cells (l := [.int .u64 (wv3 dx), .int .u64 (wv2 dx), .int .u64 (wv1 dx), .int .u64 (wv0 dx), .int .u64 (wv3 dy), .int .u64 (wv2 dy), .int .u64 (wv1 dy), .int .u64 (wv0 dy), .int .u64 (wv3 1), .int .u64 (wv2 1), .int .u64 (wv1 1), .int .u64 (wv0 1)]) agt40 sz40 rfl (hF764 6 rfl) H868 rfl)) ⟨_, rfl, ?_⟩
                   have hm := mt_col hb23 hb38 hb701 hb702
                   unfold loS hiS at hm
                   rw [if_pos hb789, if_pos hb789, if_pos hb801, if_pos hb801] at hm
                   exact ⟨2, wv3 cx, wv2 cx, wv1 cx, wv0 cx, wv3 cy, wv2 cy, wv1 cy, wv0 cy, wv3 1, wv2 1, wv1 1, wv0 1, wv3 dx, wv2 dx, wv1 dx, wv0 dx, wv3 dy, wv2 dy, wv1 dy, wv0 dy, wv3 1, wv2 1, wv1 1, wv0 1, rfl, E869, (by rw [hm]; omega)⟩
             · refine rk_cf (T rfl (congrArg Value.bool (decide_eq_false hb801))) ?_
               refine rk_skip ?_
               refine rk_seq ?_
               refine rk_seq ?_
               refine rk_reg ?_
               have H871 := (e799.blk H794)
               refine lw_v (.agg #[.int .i64 cx, .int .i64 cy]) (dv_loads (l := [.int .i64 cx, .int .i64 cy]) agt25 sz25 (T rfl hA774) H871 rfl) ?_
               have H872 := (e799.blk H797)
               refine lw_v (.agg #[.int .i64 bx, .int .i64 b_y]) (dv_loads (l := [.int .i64 bx, .int .i64 b_y]) agt25 sz25 (T rfl hA778) H872 rfl) ?_
               refine lw_e (oe_callf (vs := [.agg #[.int .i64 cx, .int .i64 cy], .agg #[.int .i64 bx, .int .i64 b_y]]) co45 (ar2 (T rfl rfl) (T rfl rfl)) (cmpSpots_ok (ax := cx) (ay := cy) (bx := bx) (b_y := b_y)  ) ?_)
               rintro _ w873 ⟨rfl, e874⟩
               have E875 := below_ext E800 E800.size e874
               refine lw_v (.int .i64 (cmpS cx cy bx b_y)) (dv_assign (T rfl rfl)) ?_
               refine lw_nil ?_
               refine rk_block ?_
               refine rk_seq ?_
               refine rk_reg ?_
               refine lw_v (.int .i64 (cmpS cx cy bx b_y)) (dv_move (T rfl rfl)) ?_
               refine lw_v (.bool (decide (0 < (cmpS cx cy bx b_y)))) (dv_gtr (a := cmpS cx cy bx b_y) (b := 0) (T rfl rfl) C) ?_
               refine lw_v (.bool (decide (0 < (cmpS cx cy bx b_y)))) (dv_assign (T rfl rfl)) ?_
               refine lw_nil ?_
               by_cases hb876 : 0 < (cmpS cx cy bx b_y)
               · refine rk_ct (T rfl (congrArg Value.bool (decide_eq_true hb876))) ?_
                 refine rk_seq ?_
                 refine rk_reg ?_
                 refine lw_v (.func (.func 91) #[] #[]) (dv_move (T rfl (hF764 7 rfl))) ?_
                 refine lw_e (oe_callv (vs := []) (T rfl rfl) co91 ar0 (meetNone_ok ) ?_)
                 rintro _ w877 ⟨rfl, e878⟩
                 have E879 := below_ext E875 E875.size e878
                 refine lw_v (.int .i64 0) (dv_extract (vs := #[.int .i64 0, .agg #[.int .u64 0, .int .u64 0, .int .u64 0, .int .u64 0, .int .u64 0, .int .u64 0, .int .u64 0, .int .u64 0, .int .u64 0, .int .u64 0, .int .u64 0, .int .u64 0], .agg #[.int .u64 0, .int .u64 0, .int .u64 0, .int .u64 0, .int .u64 0, .int .u64 0, .int .u64 0, .int .u64 0, .int .u64 0, .int .u64 0, .int .u64 0, .int .u64 0]]) (T rfl rfl) rfl) ?_
                 refine lw_v (.agg #[.int .u64 0, .int .u64 0, .int .u64 0, .int .u64 0, .int .u64 0, .int .u64 0, .int .u64 0, .int .u64 0, .int .u64 0, .int .u64 0, .int .u64 0, .int .u64 0]) (dv_extract (vs := #[.int .i64 0, .agg #[.int .u64 0, .int .u64 0, .int .u64 0, .int .u64 0, .int .u64 0, .int .u64 0, .int .u64 0, .int .u64 0, .int .u64 0, .int .u64 0, .int .u64 0, .int .u64 0], .agg #[.int .u64 0, .int .u64 0, .int .u64 0, .int .u64 0, .int .u64 0, .int .u64 0, .int .u64 0, .int .u64 0, .int .u64 0, .int .u64 0, .int .u64 0, .int .u64 0]]) (T rfl rfl) rfl) ?_
                 refine lw_v (.agg #[.int .u64 0, .int .u64 0, .int .u64 0, .int .u64 0, .int .u64 0, .int .u64 0, .int .u64 0, .int .u64 0, .int .u64 0, .int .u64 0, .int .u64 0, .int .u64 0]) (dv_extract (vs := #[.int .i64 0, .agg #[.int .u64 0, .int .u64 0, .int .u64 0, .int .u64 0, .int .u64 0, .int .u64 0, .int .u64 0, .int .u64 0, .int .u64 0, .int .u64 0, .int .u64 0, .int .u64 0], .agg #[.int .u64 0, .int .u64 0, .int .u64 0, .int .u64 0, .int .u64 0, .int .u64 0, .int .u64 0, .int .u64 0, .int .u64 0, .int .u64 0, .int .u64 0, .int .u64 0]]) (T rfl rfl) rfl) ?_
                 refine lw_v (.int .i64 0) (dv_assign (T rfl rfl)) ?_
                 have H880 := (e878.blk (e874.blk (e799.blk (s793.blk (e787.blk (e763.blk H703)) (by omega)))))
                 refine lw_e (oe_store (v := .agg #[.int .u64 0, .int .u64 0, .int .u64 0, .int .u64 0, .int .u64 0, .int .u64 0, .int .u64 0, .int .u64 0, .int .u64 0, .int .u64 0, .int .u64 0, .int .u64 0]) (vs := [.int .u64 0, .int .u64 0, .int .u64 0, .int .u64 0, .int .u64 0, .int .u64 0, .int .u64 0, .int .u64 0, .int .u64 0, .int .u64 0, .int .u64 0, .int .u64 0]) (l := [.int .u64 0, .int .u64 0, .int .u64 0, .int .u64 0, .int .u64 0, .int .u64 0, .int .u64 0, .int .u64 0, .int .u64 0, .int .u64 0, .int .u64 0, .int .u64 0]) (T rfl (hF764 5 rfl)) (T rfl rfl) sz40 rfl rfl rfl H880 rfl ?_)
                 intro w881 s882 H883
                 have E884 := below_st E879 N14 s882
                 have H885 := (s882.blk (e878.blk (e874.blk (e799.blk (s793.blk (e787.blk (e763.blk H704)) (by omega))))) (by omega))
                 refine lw_e (oe_store (v := .agg #[.int .u64 0, .int .u64 0, .int .u64 0, .int .u64 0, .int .u64 0, .int .u64 0, .int .u64 0, .int .u64 0, .int .u64 0, .int .u64 0, .int .u64 0, .int .u64 0]) (vs := [.int .u64 0, .int .u64 0, .int .u64 0, .int .u64 0, .int .u64 0, .int .u64 0, .int .u64 0, .int .u64 0, .int .u64 0, .int .u64 0, .int .u64 0, .int .u64 0]) (l := [.int .u64 0, .int .u64 0, .int .u64 0, .int .u64 0, .int .u64 0, .int .u64 0, .int .u64 0, .int .u64 0, .int .u64 0, .int .u64 0, .int .u64 0, .int .u64 0]) (T rfl (hF764 6 rfl)) (T rfl rfl) sz40 rfl rfl rfl H885 rfl ?_)
                 intro w886 s887 H888
                 have E889 := below_st E884 N19 s887
                 refine lw_nil ?_
                 have H890 := (s887.blk H883 (by omega))
                 refine rk_ret Try.func48 (v := .tuple #[.int .i64 0, .agg #[.int .u64 0, .int .u64 0, .int .u64 0, .int .u64 0, .int .u64 0, .int .u64 0, .int .u64 0, .int .u64 0, .int .u64 0, .int .u64 0, .int .u64 0, .int .u64 0], .agg #[.int .u64 0, .int .u64 0, .int .u64 0, .int .u64 0, .int .u64 0, .int .u64 0, .int .u64 0, .int .u64 0, .int .u64 0, .int .u64 0, .int .u64 0, .int .u64 0]]) (res3 Try.results48 (rv_tmp rfl rfl) (rv_cells (l := [.int .u64 0, .int .u64 0, .int .u64 0, .int .u64 0, .int .u64 0, .int .u64 0, .int .u64 0, .int .u64 0, .int .u64 0, .int .u64 0, .int .u64 0, .int .u64 0]) agt40 sz40 rfl (hF764 5 rfl) H890 rfl) (rv_cells (l := [.int .u64 0, .int .u64 0, .int .u64 0, .int .u64 0, .int .u64 0, .int .u64 0, .int .u64 0, .int .u64 0, .int .u64 0, .int .u64 0, .int .u64 0, .int .u64 0]) agt40 sz40 rfl (hF764 6 rfl) H888 rfl)) ⟨_, rfl, ?_⟩
                 have hm := mt_col hb23 hb38 hb701 hb702
                 unfold loS hiS at hm
                 rw [if_pos hb789, if_pos hb789, if_neg hb801, if_neg hb801] at hm
                 exact ⟨0, 0, 0, 0, 0, 0, 0, 0, 0, 0, 0, 0, 0, 0, 0, 0, 0, 0, 0, 0, 0, 0, 0, 0, 0, rfl, E889, (by rw [hm]; omega)⟩
               · refine rk_cf (T rfl (congrArg Value.bool (decide_eq_false hb876))) ?_
                 refine rk_seq ?_
                 refine rk_reg ?_
                 refine lw_v (.int .i64 (cmpS cx cy bx b_y)) (dv_move (T rfl rfl)) ?_
                 refine lw_v (.bool (decide ((cmpS cx cy bx b_y) = 0))) (dv_eql (a := cmpS cx cy bx b_y) (b := 0) (T rfl rfl) C) ?_
                 refine lw_v (.bool (decide ((cmpS cx cy bx b_y) = 0))) (dv_assign (T rfl rfl)) ?_
                 refine lw_nil ?_
                 by_cases hb891 : (cmpS cx cy bx b_y) = 0
                 · refine rk_ct (T rfl (congrArg Value.bool (decide_eq_true hb891))) ?_
                   refine rk_seq ?_
                   refine rk_reg ?_
                   have H892 := (e874.blk H871)
                   refine lw_v (.agg #[.int .i64 cx, .int .i64 cy]) (dv_loads (l := [.int .i64 cx, .int .i64 cy]) agt25 sz25 (T rfl hA774) H892 rfl) ?_
                   refine lw_e (oe_callf (vs := [.agg #[.int .i64 cx, .int .i64 cy]]) co92 (ar1 (T rfl rfl)) (PointOf_ok (x := cx) (y := cy)  (by omega) (by omega)) ?_)
                   rintro _ w893 ⟨rfl, e894⟩
                   have E895 := below_ext E875 E875.size e894
                   refine lw_v (.agg #[.int .u64 0, .int .u64 0, .int .u64 0, .int .u64 0, .int .u64 0, .int .u64 0, .int .u64 0, .int .u64 0, .int .u64 0, .int .u64 0, .int .u64 0, .int .u64 0]) (dv_build (pv := []) (l := [.int .u64 0, .int .u64 0, .int .u64 0, .int .u64 0, .int .u64 0, .int .u64 0, .int .u64 0, .int .u64 0, .int .u64 0, .int .u64 0, .int .u64 0, .int .u64 0]) zc40 pl40 trivial rfl) ?_
                   refine lw_v (.int .i64 1) (dv_assign C) ?_
                   have H896 := (e894.blk (e874.blk (e799.blk (s793.blk (e787.blk (e763.blk H703)) (by omega)))))
                   refine lw_e (oe_store (v := .agg #[.int .u64 (wv3 cx), .int .u64 (wv2 cx), .int .u64 (wv1 cx), .int .u64 (wv0 cx), .int .u64 (wv3 cy), .int .u64 (wv2 cy), .int .u64 (wv1 cy), .int .u64 (wv0 cy), .int .u64 (wv3 1), .int .u64 (wv2 1), .int .u64 (wv1 1), .int .u64 (wv0 1)]) (vs := [.int .u64 (wv3 cx), .int .u64 (wv2 cx), .int .u64 (wv1 cx), .int .u64 (wv0 cx), .int .u64 (wv3 cy), .int .u64 (wv2 cy), .int .u64 (wv1 cy), .int .u64 (wv0 cy), .int .u64 (wv3 1), .int .u64 (wv2 1), .int .u64 (wv1 1), .int .u64 (wv0 1)]) (l := [.int .u64 (wv3 cx), .int .u64 (wv2 cx), .int .u64 (wv1 cx), .int .u64 (wv0 cx), .int .u64 (wv3 cy), .int .u64 (wv2 cy), .int .u64 (wv1 cy), .int .u64 (wv0 cy), .int .u64 (wv3 1), .int .u64 (wv2 1), .int .u64 (wv1 1), .int .u64 (wv0 1)]) (T rfl (hF764 5 rfl)) (T rfl rfl) sz40 rfl rfl rfl H896 rfl ?_)
                   intro w897 s898 H899
                   have E900 := below_st E895 N14 s898
                   have H901 := (s898.blk (e894.blk (e874.blk (e799.blk (s793.blk (e787.blk (e763.blk H704)) (by omega))))) (by omega))
                   refine lw_e (oe_store (v := .agg #[.int .u64 0, .int .u64 0, .int .u64 0, .int .u64 0, .int .u64 0, .int .u64 0, .int .u64 0, .int .u64 0, .int .u64 0, .int .u64 0, .int .u64 0, .int .u64 0]) (vs := [.int .u64 0, .int .u64 0, .int .u64 0, .int .u64 0, .int .u64 0, .int .u64 0, .int .u64 0, .int .u64 0, .int .u64 0, .int .u64 0, .int .u64 0, .int .u64 0]) (l := [.int .u64 0, .int .u64 0, .int .u64 0, .int .u64 0, .int .u64 0, .int .u64 0, .int .u64 0, .int .u64 0, .int .u64 0, .int .u64 0, .int .u64 0, .int .u64 0]) (T rfl (hF764 6 rfl)) (T rfl rfl) sz40 rfl rfl rfl H901 rfl ?_)
                   intro w902 s903 H904
                   have E905 := below_st E900 N19 s903
                   refine lw_nil ?_
                   have H906 := (s903.blk H899 (by omega))
                   refine rk_ret Try.func48 (v := .tuple #[.int .i64 1, .agg #[.int .u64 (wv3 cx), .int .u64 (wv2 cx), .int .u64 (wv1 cx), .int .u64 (wv0 cx), .int .u64 (wv3 cy), .int .u64 (wv2 cy), .int .u64 (wv1 cy), .int .u64 (wv0 cy), .int .u64 (wv3 1), .int .u64 (wv2 1), .int .u64 (wv1 1), .int .u64 (wv0 1)], .agg #[.int .u64 0, .int .u64 0, .int .u64 0, .int .u64 0, .int .u64 0, .int .u64 0, .int .u64 0, .int .u64 0, .int .u64 0, .int .u64 0, .int .u64 0, .int .u64 0]]) (res3 Try.results48 (rv_tmp rfl rfl) (rv_cells (l := [.int .u64 (wv3 cx), .int .u64 (wv2 cx), .int .u64 (wv1 cx), .int .u64 (wv0 cx), .int .u64 (wv3 cy), .int .u64 (wv2 cy), .int .u64 (wv1 cy), .int .u64 (wv0 cy), .int .u64 (wv3 1), .int .u64 (wv2 1), .int .u64 (wv1 1), .int .u64 (wv0 1)]) agt40 sz40 rfl (hF764 5 rfl) H906 rfl) (rv_cells (l := [.int .u64 0, .int .u64 0, .int .u64 0, .int .u64 0, .int .u64 0, .int .u64 0, .int .u64 0, .int .u64 0, .int .u64 0, .int .u64 0, .int .u64 0, .int .u64 0]) agt40 sz40 rfl (hF764 6 rfl) H904 rfl)) ⟨_, rfl, ?_⟩
                   have hm := mt_col hb23 hb38 hb701 hb702
                   unfold loS hiS at hm
                   rw [if_pos hb789, if_pos hb789, if_neg hb801, if_neg hb801] at hm
                   exact ⟨1, wv3 cx, wv2 cx, wv1 cx, wv0 cx, wv3 cy, wv2 cy, wv1 cy, wv0 cy, wv3 1, wv2 1, wv1 1, wv0 1, 0, 0, 0, 0, 0, 0, 0, 0, 0, 0, 0, 0, rfl, E905, (by rw [hm]; omega)⟩
                 · refine rk_cf (T rfl (congrArg Value.bool (decide_eq_false hb891))) ?_
                   refine rk_skip ?_
                   refine rk_inBlock ?_
                   refine rk_seq ?_
                   refine rk_any (fun w => w.heap[b773]? = some (.cells #[.int .i64 cx, .int .i64 cy] 25) ∧ w.heap[b777]? = some (.cells #[.int .i64 bx, .int .i64 b_y] 25)) [6] mo ?_
                   intro w907 d908
                   have E909 := below_ext E875 E875.size d908.ext
                   have H910 := (d908.ext.blk (e874.blk H871))
                   have H911 := (d908.ext.blk (e874.blk H872))
                   refine aw_load 0 (.agg #[.int .i64 cx, .int .i64 cy]) rfl (by kernel_rfl) .none ⟨H910, H911⟩ (fun _ s => dv_loads (l := [.int .i64 cx, .int .i64 cy]) agt25 sz25 (T rfl hA774) s.1 rfl) ?_
                   refine aw_load 2 (.agg #[.int .i64 bx, .int .i64 b_y]) rfl (by kernel_rfl) .none ⟨H910, H911⟩ (fun _ s => dv_loads (l := [.int .i64 bx, .int .i64 b_y]) agt25 sz25 (T rfl hA778) s.2 rfl) ?_
                   refine aw_one 1 rfl (by kernel_rfl) .none (oe_callf (vs := [.agg #[.int .i64 cx, .int .i64 cy]]) co92 (ar1 (T rfl rfl)) (PointOf_ok (x := cx) (y := cy)  (by omega) (by omega)) ?_)
                   rintro _ w912 ⟨rfl, e913⟩
                   have E914 := below_ext E909 E909.size e913
                   have H915 := (e913.blk H910)
                   have H916 := (e913.blk H911)
                   refine ⟨.inr ⟨H915, H916⟩, ?_⟩
                   refine aw_one 3 rfl (by kernel_rfl) .none (oe_callf (vs := [.agg #[.int .i64 bx, .int .i64 b_y]]) co92 (ar1 (T rfl rfl)) (PointOf_ok (x := bx) (y := b_y)  (by omega) (by omega)) ?_)
                   rintro _ w917 ⟨rfl, e918⟩
                   have E919 := below_ext E914 E914.size e918
                   have H920 := (e918.blk H915)
                   have H921 := (e918.blk H916)
                   refine ⟨.inr ⟨H920, H921⟩, ?_⟩
                   refine aw_pure 4 (.int .i64 2) rfl (by kernel_rfl) .none ⟨H920, H921⟩ (fun _ => dv_assign C) ?_
                   have H922 := (e918.blk (e913.blk (d908.ext.blk (e874.blk (e799.blk (s793.blk (e787.blk (e763.blk H703)) (by omega)))))))
                   refine aw_one 5 rfl (by kernel_rfl) .none (oe_store (v := .agg #[.int .u64 (wv3 cx), .int .u64 (wv2 cx), .int .u64 (wv1 cx), .int .u64 (wv0 cx), .int .u64 (wv3 cy), .int .u64 (wv2 cy), .int .u64 (wv1 cy), .int .u64 (wv0 cy), .int .u64 (wv3 1), .int .u64 (wv2 1), .int .u64 (wv1 1), .int .u64 (wv0 1)]) (vs := [.int .u64 (wv3 cx), .int .u64 (wv2 cx), .int .u64 (wv1 cx), .int .u64 (wv0 cx), .int .u64 (wv3 cy), .int .u64 (wv2 cy), .int .u64 (wv1 cy), .int .u64 (wv0 cy), .int .u64 (wv3 1), .int .u64 (wv2 1), .int .u64 (wv1 1), .int .u64 (wv0 1)]) (l := [.int .u64 (wv3 cx), .int .u64 (wv2 cx), .int .u64 (wv1 cx), .int .u64 (wv0 cx), .int .u64 (wv3 cy), .int .u64 (wv2 cy), .int .u64 (wv1 cy), .int .u64 (wv0 cy), .int .u64 (wv3 1), .int .u64 (wv2 1), .int .u64 (wv1 1), .int .u64 (wv0 1)]) (T rfl (hF764 5 rfl)) (T rfl rfl) sz40 rfl rfl rfl H922 rfl ?_)
                   intro w923 s924 H925
                   have E926 := below_st E919 N14 s924
                   have H927 := (s924.blk H920 (by omega))
                   have H928 := (s924.blk H921 (by omega))
                   refine ⟨.inr ⟨H927, H928⟩, ?_⟩
                   have H929 := (s924.blk (e918.blk (e913.blk (d908.ext.blk (e874.blk (e799.blk (s793.blk (e787.blk (e763.blk H704)) (by omega))))))) (by omega))
                   refine aw_one 6 rfl (by kernel_rfl) .none (oe_store (v := .agg #[.int .u64 (wv3 bx), .int .u64 (wv2 bx), .int .u64 (wv1 bx), .int .u64 (wv0 bx), .int .u64 (wv3 b_y), .int .u64 (wv2 b_y), .int .u64 (wv1 b_y), .int .u64 (wv0 b_y), .int .u64 (wv3 1), .int .u64 (wv2 1), .int .u64 (wv1 1), .int .u64 (wv0 1)]) (vs := [.int .u64 (wv3 bx), .int .u64 (wv2 bx), .int .u64 (wv1 bx), .int .u64 (wv0 bx), .int .u64 (wv3 b_y), .int .u64 (wv2 b_y), .int .u64 (wv1 b_y), .int .u64 (wv0 b_y), .int .u64 (wv3 1), .int .u64 (wv2 1), .int .u64 (wv1 1), .int .u64 (wv0 1)]) (l := [.int .u64 (wv3 bx), .int .u64 (wv2 bx), .int .u64 (wv1 bx), .int .u64 (wv0 bx), .int .u64 (wv3 b_y), .int .u64 (wv2 b_y), .int .u64 (wv1 b_y), .int .u64 (wv0 b_y), .int .u64 (wv3 1), .int .u64 (wv2 1), .int .u64 (wv1 1), .int .u64 (wv0 1)]) (T rfl (hF764 6 rfl)) (T rfl rfl) sz40 rfl rfl rfl H929 rfl ?_)
                   intro w930 s931 H932
                   have E933 := below_st E926 N19 s931
                   refine ⟨.inl rfl, ?_⟩
                   refine aw_done (by kernel_rfl) ?_
                   have H934 := (s931.blk H925 (by omega))
                   refine rk_ret Try.func48 (v := .tuple #[.int .i64 2, .agg #[.int .u64 (wv3 cx), .int .u64 (wv2 cx), .int .u64 (wv1 cx), .int .u64 (wv0 cx), .int .u64 (wv3 cy), .int .u64 (wv2 cy), .int .u64 (wv1 cy), .int .u64 (wv0 cy), .int .u64 (wv3 1), .int .u64 (wv2 1), .int .u64 (wv1 1), .int .u64 (wv0 1)], .agg #[.int .u64 (wv3 bx), .int .u64 (wv2 bx), .int .u64 (wv1 bx), .int .u64 (wv0 bx), .int .u64 (wv3 b_y), .int .u64 (wv2 b_y), .int .u64 (wv1 b_y), .int .u64 (wv0 b_y), .int .u64 (wv3 1), .int .u64 (wv2 1), .int .u64 (wv1 1), .int .u64 (wv0 1)]]) (res3 Try.results48 (rv_tmp rfl rfl) (rv_cells (l := [.int .u64 (wv3 cx), .int .u64 (wv2 cx), .int .u64 (wv1 cx), .int .u64 (wv0 cx), .int .u64 (wv3 cy), .int .u64 (wv2 cy), .int .u64 (wv1 cy), .int .u64 (wv0 cy), .int .u64 (wv3 1), .int .u64 (wv2 1), .int .u64 (wv1 1), .int .u64 (wv0 1)]) agt40 sz40 rfl (hF764 5 rfl) H934 rfl) (rv_cells (l := [.int .u64 (wv3 bx), .int .u64 (wv2 bx), .int .u64 (wv1 bx), .int .u64 (wv0 bx), .int .u64 (wv3 b_y), .int .u64 (wv2 b_y), .int .u64 (wv1 b_y), .int .u64 (wv0 b_y), .int .u64 (wv3 1), .int .u64 (wv2 1), .int .u64 (wv1 1), .int .u64 (wv0 1)]) agt40 sz40 rfl (hF764 6 rfl) H932 rfl)) ⟨_, rfl, ?_⟩
                   have hm := mt_col hb23 hb38 hb701 hb702
                   unfold loS hiS at hm
                   rw [if_pos hb789, if_pos hb789, if_neg hb801, if_neg hb801] at hm
                   exact ⟨2, wv3 cx, wv2 cx, wv1 cx, wv0 cx, wv3 cy, wv2 cy, wv1 cy, wv0 cy, wv3 1, wv2 1, wv1 1, wv0 1, wv3 bx, wv2 bx, wv1 bx, wv0 bx, wv3 b_y, wv2 b_y, wv1 b_y, wv0 b_y, wv3 1, wv2 1, wv1 1, wv0 1, rfl, E933, (by rw [hm]; omega)⟩
           · refine rk_cf (T rfl (congrArg Value.bool (decide_eq_false hb789))) ?_
             refine rk_skip ?_
             refine rk_seq ?_
             refine rk_seq ?_
             refine rk_reg ?_
             refine lw_v (.pointer (some ⟨b6, 2, none⟩)) (dv_fieldAddr (a := ⟨b6, 0, none⟩) (a' := ⟨b6, 2, none⟩) fo27_1 (T rfl (hF764 3 rfl)) rfl) ?_
             have H935 := (e787.blk H785)
             refine lw_v (.agg #[.int .i64 dx, .int .i64 dy]) (dv_loads (l := [.int .i64 dx, .int .i64 dy]) agt25 sz25 (T rfl rfl) H935 rfl) ?_
             have H936 := (e787.blk H783)
             refine lw_v (.agg #[.int .i64 bx, .int .i64 b_y]) (dv_loads (l := [.int .i64 bx, .int .i64 b_y]) agt25 sz25 (T rfl hA778) H936 rfl) ?_
             refine lw_e (oe_callf (vs := [.agg #[.int .i64 dx, .int .i64 dy], .agg #[.int .i64 bx, .int .i64 b_y]]) co45 (ar2 (T rfl rfl) (T rfl rfl)) (cmpSpots_ok (ax := dx) (ay := dy) (bx := bx) (b_y := b_y)  ) ?_)
             rintro _ w937 ⟨rfl, e938⟩
             have E939 := below_ext E788 E788.size e938
             refine lw_v (.bool (decide ((cmpS dx dy bx b_y) < 0))) (dv_lss (a := cmpS dx dy bx b_y) (b := 0) (T rfl rfl) C) ?_
             refine lw_nil ?_
             by_cases hb940 : (cmpS dx dy bx b_y) < 0
             · refine rk_ct (T rfl (congrArg Value.bool (decide_eq_true hb940))) ?_
               refine rk_reg ?_
               refine lw_v (.pointer (some ⟨b6, 2, none⟩)) (dv_fieldAddr (a := ⟨b6, 0, none⟩) (a' := ⟨b6, 2, none⟩) fo27_1 (T rfl (hF764 3 rfl)) rfl) ?_
               have H941 := (e938.blk H935)
               refine lw_v (.agg #[.int .i64 dx, .int .i64 dy]) (dv_loads (l := [.int .i64 dx, .int .i64 dy]) agt25 sz25 (T rfl rfl) H941 rfl) ?_
               have H942 := (e938.blk H936)
               refine lw_e (oe_store (v := .agg #[.int .i64 dx, .int .i64 dy]) (vs := [.int .i64 dx, .int .i64 dy]) (l := [.int .i64 dx, .int .i64 dy]) (T rfl hA778) (T rfl rfl) sz25 rfl rfl rfl H942 rfl ?_)
               intro w943 s944 H945
               have E946 := below_st E939 N784 s944
               refine lw_nil ?_
               refine rk_seq ?_
               refine rk_seq ?_
               refine rk_reg ?_
               have H947 := (s944.blk (e938.blk (e787.blk H781)) (by omega))
               refine lw_v (.agg #[.int .i64 ax, .int .i64 ay]) (dv_loads (l := [.int .i64 ax, .int .i64 ay]) agt25 sz25 (T rfl hA774) H947 rfl) ?_
               refine lw_v (.agg #[.int .i64 dx, .int .i64 dy]) (dv_loads (l := [.int .i64 dx, .int .i64 dy]) agt25 sz25 (T rfl hA778) H945 rfl) ?_
               refine lw_e (oe_callf (vs := [.agg #[.int .i64 ax, .int .i64 ay], .agg #[.int .i64 dx, .int .i64 dy]]) co45 (ar2 (T rfl rfl) (T rfl rfl)) (cmpSpots_ok (ax := ax) (ay := ay) (bx := dx) (b_y := dy)  ) ?_)
               rintro _ w948 ⟨rfl, e949⟩
               have E950 := below_ext E946 E946.size e949
               refine lw_v (.int .i64 (cmpS ax ay dx dy)) (dv_assign (T rfl rfl)) ?_
               refine lw_nil ?_
               refine rk_block ?_
               refine rk_seq ?_
               refine rk_reg ?_
               refine lw_v (.int .i64 (cmpS ax ay dx dy)) (dv_move (T rfl rfl)) ?_
               refine lw_v (.bool (decide (0 < (cmpS ax ay dx dy)))) (dv_gtr (a := cmpS ax ay dx dy) (b := 0) (T rfl rfl) C) ?_
               refine lw_v (.bool (decide (0 < (cmpS ax ay dx dy)))) (dv_assign (T rfl rfl)) ?_
               refine lw_nil ?_
               by_cases hb951 : 0 < (cmpS ax ay dx dy)
               · refine rk_ct (T rfl (congrArg Value.bool (decide_eq_true hb951))) ?_
                 refine rk_seq ?_
                 refine rk_reg ?_
                 refine lw_v (.func (.func 91) #[] #[]) (dv_move (T rfl (hF764 7 rfl))) ?_
                 refine lw_e (oe_callv (vs := []) (T rfl rfl) co91 ar0 (meetNone_ok ) ?_)
                 rintro _ w952 ⟨rfl, e953⟩
                 have E954 := below_ext E950 E950.size e953
                 refine lw_v (.int .i64 0) (dv_extract (vs := #[.int .i64 0, .agg #[.int .u64 0, .int .u64 0, .int .u64 0, .int .u64 0, .int .u64 0, .int .u64 0, .int .u64 0, .int .u64 0, .int .u64 0, .int .u64 0, .int .u64 0, .int .u64 0], .agg #[.int .u64 0, .int .u64 0, .int .u64 0, .int .u64 0, .int .u64 0, .int .u64 0, .int .u64 0, .int .u64 0, .int .u64 0, .int .u64 0, .int .u64 0, .int .u64 0]]) (T rfl rfl) rfl) ?_
                 refine lw_v (.agg #[.int .u64 0, .int .u64 0, .int .u64 0, .int .u64 0, .int .u64 0, .int .u64 0, .int .u64 0, .int .u64 0, .int .u64 0, .int .u64 0, .int .u64 0, .int .u64 0]) (dv_extract (vs := #[.int .i64 0, .agg #[.int .u64 0, .int .u64 0, .int .u64 0, .int .u64 0, .int .u64 0, .int .u64 0, .int .u64 0, .int .u64 0, .int .u64 0, .int .u64 0, .int .u64 0, .int .u64 0], .agg #[.int .u64 0, .int .u64 0, .int .u64 0, .int .u64 0, .int .u64 0, .int .u64 0, .int .u64 0, .int .u64 0, .int .u64 0, .int .u64 0, .int .u64 0, .int .u64 0]]) (T rfl rfl) rfl) ?_
                 refine lw_v (.agg #[.int .u64 0, .int .u64 0, .int .u64 0, .int .u64 0, .int .u64 0, .int .u64 0, .int .u64 0, .int .u64 0, .int .u64 0, .int .u64 0, .int .u64 0, .int .u64 0]) (dv_extract (vs := #[.int .i64 0, .agg #[.int .u64 0, .int .u64 0, .int .u64 0, .int .u64 0, .int .u64 0, .int .u64 0, .int .u64 0, .int .u64 0, .int .u64 0, .int .u64 0, .int .u64 0, .int .u64 0], .agg #[.int .u64 0, .int .u64 0, .int .u64 0, .int .u64 0, .int .u64 0, .int .u64 0, .int .u64 0, .int .u64 0, .int .u64 0, .int .u64 0, .int .u64 0, .int .u64 0]]) (T rfl rfl) rfl) ?_
                 refine lw_v (.int .i64 0) (dv_assign (T rfl rfl)) ?_
                 have H955 := (e953.blk (e949.blk (s944.blk (e938.blk (e787.blk (e763.blk H703))) (by omega))))
                 refine lw_e (oe_store (v := .agg #[.int .u64 0, .int .u64 0, .int .u64 0, .int .u64 0, .int .u64 0, .int .u64 0, .int .u64 0, .int .u64 0, .int .u64 0, .int .u64 0, .int .u64 0, .int .u64 0]) (vs := [.int .u64 0, .int .u64 0, .int .u64 0, .int .u64 0, .int .u64 0, .int .u64 0, .int .u64 0, .int .u64 0, .int .u64 0, .int .u64 0, .int .u64 0, .int .u64 0]) (l := [.int .u64 0, .int .u64 0, .int .u64 0, .int .u64 0, .int .u64 0, .int .u64 0, .int .u64 0, .int .u64 0, .int .u64 0, .int .u64 0, .int .u64 0, .int .u64 0]) (T rfl (hF764 5 rfl)) (T rfl rfl) sz40 rfl rfl rfl H955 rfl ?_)
                 intro w956 s957 H958
                 have E959 := below_st E954 N14 s957
                 have H960 := (s957.blk (e953.blk (e949.blk (s944.blk (e938.blk (e787.blk (e763.blk H704))) (by omega)))) (by omega))
                 refine lw_e (oe_store (v := .agg #[.int .u64 0, .int .u64 0, .int .u64 0, .int .u64 0, .int .u64 0, .int .u64 0, .int .u64 0, .int .u64 0, .int .u64 0, .int .u64 0, .int .u64 0, .int .u64 0]) (vs := [.int .u64 0, .int .u64 0, .int .u64 0, .int .u64 0, .int .u64 0, .int .u64 0, .int .u64 0, .int .u64 0, .int .u64 0, .int .u64 0, .int .u64 0, .int .u64 0]) (l := [.int .u64 0, .int .u64 0, .int .u64 0, .int .u64 0, .int .u64 0, .int .u64 0, .int .u64 0, .int .u64 0, .int .u64 0, .int .u64 0, .int .u64 0, .int .u64 0]) (T rfl (hF764 6 rfl)) (T rfl rfl) sz40 rfl rfl rfl H960 rfl ?_)
                 intro w961 s962 H963
                 have E964 := below_st E959 N19 s962
                 refine lw_nil ?_
                 have H965 := (s962.blk H958 (by omega))
                 refine rk_ret Try.func48 (v := .tuple #[.int .i64 0, .agg #[.int .u64 0, .int .u64 0, .int .u64 0, .int .u64 0, .int .u64 0, .int .u64 0, .int .u64 0, .int .u64 0, .int .u64 0, .int .u64 0, .int .u64 0, .int .u64 0], .agg #[.int .u64 0, .int .u64 0, .int .u64 0, .int .u64 0, .int .u64 0, .int .u64 0, .int .u64 0, .int .u64 0, .int .u64 0, .int .u64 0, .int .u64 0, .int .u64 0]]) (res3 Try.results48 (rv_tmp rfl rfl) (rv_cells (l := [.int .u64 0, .int .u64 0, .int .u64 0, .int .u64 0, .int .u64 0, .int .u64 0, .int .u64 0, .int .u64 0, .int .u64 0, .int .u64 0, .int .u64 0, .int .u64 0]) agt40 sz40 rfl (hF764 5 rfl) H965 rfl) (rv_cells (l := [.int .u64 0, .int .u64 0, .int .u64 0, .int .u64 0, .int .u64 0, .int .u64 0, .int .u64 0, .int .u64 0, .int .u64 0, .int .u64 0, .int .u64 0, .int .u64 0]) agt40 sz40 rfl (hF764 6 rfl) H963 rfl)) ⟨_, rfl, ?_⟩
                 have hm := mt_col hb23 hb38 hb701 hb702
                 unfold loS hiS at hm
                 rw [if_neg hb789, if_neg hb789, if_pos hb940, if_pos hb940] at hm
                 exact ⟨0, 0, 0, 0, 0, 0, 0, 0, 0, 0, 0, 0, 0, 0, 0, 0, 0, 0, 0, 0, 0, 0, 0, 0, 0, rfl, E964, (by rw [hm]; omega)⟩
               · refine rk_cf (T rfl (congrArg Value.bool (decide_eq_false hb951))) ?_
                 refine rk_seq ?_
                 refine rk_reg ?_
                 refine lw_v (.int .i64 (cmpS ax ay dx dy)) (dv_move (T rfl rfl)) ?_
                 refine lw_v (.bool (decide ((cmpS ax ay dx dy) = 0))) (dv_eql (a := cmpS ax ay dx dy) (b := 0) (T rfl rfl) C) ?_
                 refine lw_v (.bool (decide ((cmpS ax ay dx dy) = 0))) (dv_assign (T rfl rfl)) ?_
                 refine lw_nil ?_
                 by_cases hb966 : (cmpS ax ay dx dy) = 0
                 · refine rk_ct (T rfl (congrArg Value.bool (decide_eq_true hb966))) ?_
                   refine rk_seq ?_
                   refine rk_reg ?_
                   have H967 := (e949.blk H947)
                   refine lw_v (.agg #[.int .i64 ax, .int .i64 ay]) (dv_loads (l := [.int .i64 ax, .int .i64 ay]) agt25 sz25 (T rfl hA774) H967 rfl) ?_
                   refine lw_e (oe_callf (vs := [.agg #[.int .i64 ax, .int .i64 ay]]) co92 (ar1 (T rfl rfl)) (PointOf_ok (x := ax) (y := ay)  (by omega) (by omega)) ?_)
                   rintro _ w968 ⟨rfl, e969⟩
                   have E970 := below_ext E950 E950.size e969
                   refine lw_v (.agg #[.int .u64 0, .int .u64 0, .int .u64 0, .int .u64 0, .int .u64 0, .int .u64 0, .int .u64 0, .int .u64 0, .int .u64 0, .int .u64 0, .int .u64 0, .int .u64 0]) (dv_build (pv := []) (l := [.int .u64 0, .int .u64 0, .int .u64 0, .int .u64 0, .int .u64 0, .int .u64 0, .int .u64 0, .int .u64 0, .int .u64 0, .int .u64 0, .int .u64 0, .int .u64 0]) zc40 pl40 trivial rfl) ?_
                   refine lw_v (.int .i64 1) (dv_assign C) ?_
                   have H971 := (e969.blk (e949.blk (s944.blk (e938.blk (e787.blk (e763.blk H703))) (by omega))))
                   refine lw_e (oe_store (v := .agg #[.int .u64 (wv3 ax), .int .u64 (wv2 ax), .int .u64 (wv1 ax), .int .u64 (wv0 ax), .int .u64 (wv3 ay), .int .u64 (wv2 ay), .int .u64 (wv1 ay), .int .u64 (wv0 ay), .int .u64 (wv3 1), .int .u64 (wv2 1), .int .u64 (wv1 1), .int .u64 (wv0 1)]) (vs := [.int .u64 (wv3 ax), .int .u64 (wv2 ax), .int .u64 (wv1 ax), .int .u64 (wv0 ax), .int .u64 (wv3 ay), .int .u64 (wv2 ay), .int .u64 (wv1 ay), .int .u64 (wv0 ay), .int .u64 (wv3 1), .int .u64 (wv2 1), .int .u64 (wv1 1), .int .u64 (wv0 1)]) (l := [.int .u64 (wv3 ax), .int .u64 (wv2 ax), .int .u64 (wv1 ax), .int .u64 (wv0 ax), .int .u64 (wv3 ay), .int .u64 (wv2 ay), .int .u64 (wv1 ay), .int .u64 (wv0 ay), .int .u64 (wv3 1), .int .u64 (wv2 1), .int .u64 (wv1 1), .int .u64 (wv0 1)]) (T rfl (hF764 5 rfl)) (T rfl rfl) sz40 rfl rfl rfl H971 rfl ?_)
                   intro w972 s973 H974
                   have E975 := below_st E970 N14 s973
                   have H976 := (s973.blk (e969.blk (e949.blk (s944.blk (e938.blk (e787.blk (e763.blk H704))) (by omega)))) (by omega))
                   refine lw_e (oe_store (v := .agg #[.int .u64 0, .int .u64 0, .int .u64 0, .int .u64 0, .int .u64 0, .int .u64 0, .int .u64 0, .int .u64 0, .int .u64 0, .int .u64 0, .int .u64 0, .int .u64 0]) (vs := [.int .u64 0, .int .u64 0, .int .u64 0, .int .u64 0, .int .u64 0, .int .u64 0, .int .u64 0, .int .u64 0, .int .u64 0, .int .u64 0, .int .u64 0, .int .u64 0]) (l := [.int .u64 0, .int .u64 0, .int .u64 0, .int .u64 0, .int .u64 0, .int .u64 0, .int .u64 0, .int .u64 0, .int .u64 0, .int .u64 0, .int .u64 0, .int .u64 0]) (T rfl (hF764 6 rfl)) (T rfl rfl) sz40 rfl rfl rfl H976 rfl ?_)
                   intro w977 s978 H979
                   have E980 := below_st E975 N19 s978
                   refine lw_nil ?_
                   have H981 := (s978.blk H974 (by omega))
                   refine rk_ret Try.func48 (v := .tuple #[.int .i64 1, .agg #[.int .u64 (wv3 ax), .int .u64 (wv2 ax), .int .u64 (wv1 ax), .int .u64 (wv0 ax), .int .u64 (wv3 ay), .int .u64 (wv2 ay), .int .u64 (wv1 ay), .int .u64 (wv0 ay), .int .u64 (wv3 1), .int .u64 (wv2 1), .int .u64 (wv1 1), .int .u64 (wv0 1)], .agg #[.int .u64 0, .int .u64 0, .int .u64 0, .int .u64 0, .int .u64 0, .int .u64 0, .int .u64 0, .int .u64 0, .int .u64 0, .int .u64 0, .int .u64 0, .int .u64 0]]) (res3 Try.results48 (rv_tmp rfl rfl) (rv_cells (l := [.int .u64 (wv3 ax), .int .u64 (wv2 ax), .int .u64 (wv1 ax), .int .u64 (wv0 ax), .int .u64 (wv3 ay), .int .u64 (wv2 ay), .int .u64 (wv1 ay), .int .u64 (wv0 ay), .int .u64 (wv3 1), .int .u64 (wv2 1), .int .u64 (wv1 1), .int .u64 (wv0 1)]) agt40 sz40 rfl (hF764 5 rfl) H981 rfl) (rv_cells (l := [.int .u64 0, .int .u64 0, .int .u64 0, .int .u64 0, .int .u64 0, .int .u64 0, .int .u64 0, .int .u64 0, .int .u64 0, .int .u64 0, .int .u64 0, .int .u64 0]) agt40 sz40 rfl (hF764 6 rfl) H979 rfl)) ⟨_, rfl, ?_⟩
                   have hm := mt_col hb23 hb38 hb701 hb702
                   unfold loS hiS at hm
                   rw [if_neg hb789, if_neg hb789, if_pos hb940, if_pos hb940] at hm
                   exact ⟨1, wv3 ax, wv2 ax, wv1 ax, wv0 ax, wv3 ay, wv2 ay, wv1 ay, wv0 ay, wv3 1, wv2 1, wv1 1, wv0 1, 0, 0, 0, 0, 0, 0, 0, 0, 0, 0, 0, 0, rfl, E980, (by rw [hm]; omega)⟩
                 · refine rk_cf (T rfl (congrArg Value.bool (decide_eq_false hb966))) ?_
                   refine rk_skip ?_
                   refine rk_inBlock ?_
                   refine rk_seq ?_
                   refine rk_any (fun w => w.heap[b773]? = some (.cells #[.int .i64 ax, .int .i64 ay] 25) ∧ w.heap[b777]? = some (.cells #[.int .i64 dx, .int .i64 dy] 25)) [6] mo ?_
                   intro w982 d983
                   have E984 := below_ext E950 E950.size d983.ext
                   have H985 := (d983.ext.blk (e949.blk H947))
                   have H986 := (d983.ext.blk (e949.blk H945))
                   refine aw_load 0 (.agg #[.int .i64 ax, .int .i64 ay]) rfl (by kernel_rfl) .none ⟨H985, H986⟩ (fun _ s => dv_loads (l := [.int .i64 ax, .int .i64 ay]) agt25 sz25 (T rfl hA774) s.1 rfl) ?_
                   refine aw_load 2 (.agg #[.int .i64 dx, .int .i64 dy]) rfl (by kernel_rfl) .none ⟨H985, H986⟩ (fun _ s => dv_loads (l := [.int .i64 dx, .int .i64 dy]) agt25 sz25 (T rfl hA778) s.2 rfl) ?_
                   refine aw_one 1 rfl (by kernel_rfl) .none (oe_callf (vs := [.agg #[.int .i64 ax, .int .i64 ay]]) co92 (ar1 (T rfl rfl)) (PointOf_ok (x := ax) (y := ay)  (by omega) (by omega)) ?_)
                   rintro _ w987 ⟨rfl, e988⟩
                   have E989 := below_ext E984 E984.size e988
                   have H990 := (e988.blk H985)
                   have H991 := (e988.blk H986)
                   refine ⟨.inr ⟨H990, H991⟩, ?_⟩
                   refine aw_one 3 rfl (by kernel_rfl) .none (oe_callf (vs := [.agg #[.int .i64 dx, .int .i64 dy]]) co92 (ar1 (T rfl rfl)) (PointOf_ok (x := dx) (y := dy)  (by omega) (by omega)) ?_)
                   rintro _ w992 ⟨rfl, e993⟩
                   have E994 := below_ext E989 E989.size e993
                   have H995 := (e993.blk H990)
                   have H996 := (e993.blk H991)
                   refine ⟨.inr ⟨H995, H996⟩, ?_⟩
                   refine aw_pure 4 (.int .i64 2) rfl (by kernel_rfl) .none ⟨H995, H996⟩ (fun _ => dv_assign C) ?_
                   have H997 := (e993.blk (e988.blk (d983.ext.blk (e949.blk (s944.blk (e938.blk (e787.blk (e763.blk H703))) (by omega))))))
                   refine aw_one 5 rfl (by kernel_rfl) .none (oe_store (v := .agg #[.int .u64 (wv3 ax), .int .u64 (wv2 ax), .int .u64 (wv1 ax), .int .u64 (wv0 ax), .int .u64 (wv3 ay), .int .u64 (wv2 ay), .int .u64 (wv1 ay), .int .u64 (wv0 ay), .int .u64 (wv3 1), .int .u64 (wv2 1), .int .u64 (wv1 1), .int .u64 (wv0 1)]) (vs := [.int .u64 (wv3 ax), .int .u64 (wv2 ax), .int .u64 (wv1 ax), .int .u64 (wv0 ax), .int .u64 (wv3 ay), .int .u64 (wv2 ay), .int .u64 (wv1 ay), .int .u64 (wv0 ay), .int .u64 (wv3 1), .int .u64 (wv2 1), .int .u64 (wv1 1), .int .u64 (wv0 1)]) (l := [.int .u64 (wv3 ax), .int .u64 (wv2 ax), .int .u64 (wv1 ax), .int .u64 (wv0 ax), .int .u64 (wv3 ay), .int .u64 (wv2 ay), .int .u64 (wv1 ay), .int .u64 (wv0 ay), .int .u64 (wv3 1), .int .u64 (wv2 1), .int .u64 (wv1 1), .int .u64 (wv0 1)]) (T rfl (hF764 5 rfl)) (T rfl rfl) sz40 rfl rfl rfl H997 rfl ?_)
                   intro w998 s999 H1000
                   have E1001 := below_st E994 N14 s999
                   have H1002 := (s999.blk H995 (by omega))
                   have H1003 := (s999.blk H996 (by omega))
                   refine ⟨.inr ⟨H1002, H1003⟩, ?_⟩
                   have H1004 := (s999.blk (e993.blk (e988.blk (d983.ext.blk (e949.blk (s944.blk (e938.blk (e787.blk (e763.blk H704))) (by omega)))))) (by omega))
                   refine aw_one 6 rfl (by kernel_rfl) .none (oe_store (v := .agg #[.int .u64 (wv3 dx), .int .u64 (wv2 dx), .int .u64 (wv1 dx), .int .u64 (wv0 dx), .int .u64 (wv3 dy), .int .u64 (wv2 dy), .int .u64 (wv1 dy), .int .u64 (wv0 dy), .int .u64 (wv3 1), .int .u64 (wv2 1), .int .u64 (wv1 1), .int .u64 (wv0 1)]) (vs := [.int .u64 (wv3 dx), .int .u64 (wv2 dx), .int .u64 (wv1 dx), .int .u64 (wv0 dx), .int .u64 (wv3 dy), .int .u64 (wv2 dy), .int .u64 (wv1 dy), .int .u64 (wv0 dy), .int .u64 (wv3 1), .int .u64 (wv2 1), .int .u64 (wv1 1), .int .u64 (wv0 1)]) (l := [.int .u64 (wv3 dx), .int .u64 (wv2 dx), .int .u64 (wv1 dx), .int .u64 (wv0 dx), .int .u64 (wv3 dy), .int .u64 (wv2 dy), .int .u64 (wv1 dy), .int .u64 (wv0 dy), .int .u64 (wv3 1), .int .u64 (wv2 1), .int .u64 (wv1 1), .int .u64 (wv0 1)]) (T rfl (hF764 6 rfl)) (T rfl rfl) sz40 rfl rfl rfl H1004 rfl ?_)
                   intro w1005 s1006 H1007
                   have E1008 := below_st E1001 N19 s1006
                   refine ⟨.inl rfl, ?_⟩
                   refine aw_done (by kernel_rfl) ?_
                   have H1009 := (s1006.blk H1000 (by omega))
                   refine rk_ret Try.func48 (v := .tuple #[.int .i64 2, .agg #[.int .u64 (wv3 ax), .int .u64 (wv2 ax), .int .u64 (wv1 ax), .int .u64 (wv0 ax), .int .u64 (wv3 ay), .int .u64 (wv2 ay), .int .u64 (wv1 ay), .int .u64 (wv0 ay), .int .u64 (wv3 1), .int .u64 (wv2 1), .int .u64 (wv1 1), .int .u64 (wv0 1)], .agg #[.int .u64 (wv3 dx), .int .u64 (wv2 dx), .int .u64 (wv1 dx), .int .u64 (wv0 dx), .int .u64 (wv3 dy), .int .u64 (wv2 dy), .int .u64 (wv1 dy), .int .u64 (wv0 dy), .int .u64 (wv3 1), .int .u64 (wv2 1), .int .u64 (wv1 1), .int .u64 (wv0 1)]]) (res3 Try.results48 (rv_tmp rfl rfl) (rv_cells (l := [.int .u64 (wv3 ax), .int .u64 (wv2 ax), .int .u64 (wv1 ax), .int .u64 (wv0 ax), .int .u64 (wv3 ay), .int .u64 (wv2 ay), .int .u64 (wv1 ay), .int .u64 (wv0 ay), .int .u64 (wv3 1), .int .u64 (wv2 1), .int .u64 (wv1 1), .int .u64 (wv0 1)]) agt40 sz40 rfl (hF764 5 rfl) H1009 rfl) (rv_cells (l := [.int .u64 (wv3 dx), .int .u64 (wv2 dx), .int .u64 (wv1 dx), .int .u64 (wv0 dx), .int .u64 (wv3 dy), .int .u64 (wv2 dy), .int .u64 (wv1 dy), .int .u64 (wv0 dy), .int .u64 (wv3 1), .int .u64 (wv2 1), .int .u64 (wv1 1), .int .u64 (wv0 1)]) agt40 sz40 rfl (hF764 6 rfl) H1007 rfl)) ⟨_, rfl, ?_⟩
                   have hm := mt_col hb23 hb38 hb701 hb702
                   unfold loS hiS at hm
                   rw [if_neg hb789, if_neg hb789, if_pos hb940, if_pos hb940] at hm
                   exact ⟨2, wv3 ax, wv2 ax, wv1 ax, wv0 ax, wv3 ay, wv2 ay, wv1 ay, wv0 ay, wv3 1, wv2 1, wv1 1, wv0 1, wv3 dx, wv2 dx, wv1 dx, wv0 dx, wv3 dy, wv2 dy, wv1 dy, wv0 dy, wv3 1, wv2 1, wv1 1, wv0 1, rfl, E1008, (by rw [hm]; omega)⟩
             · refine rk_cf (T rfl (congrArg Value.bool (decide_eq_false hb940))) ?_
               refine rk_skip ?_
               refine rk_seq ?_
               refine rk_seq ?_
               refine rk_reg ?_
               have H1010 := (e938.blk (e787.blk H781))
               refine lw_v (.agg #[.int .i64 ax, .int .i64 ay]) (dv_loads (l := [.int .i64 ax, .int .i64 ay]) agt25 sz25 (T rfl hA774) H1010 rfl) ?_
               have H1011 := (e938.blk H936)
               refine lw_v (.agg #[.int .i64 bx, .int .i64 b_y]) (dv_loads (l := [.int .i64 bx, .int .i64 b_y]) agt25 sz25 (T rfl hA778) H1011 rfl) ?_
               refine lw_e (oe_callf (vs := [.agg #[.int .i64 ax, .int .i64 ay], .agg #[.int .i64 bx, .int .i64 b_y]]) co45 (ar2 (T rfl rfl) (T rfl rfl)) (cmpSpots_ok (ax := ax) (ay := ay) (bx := bx) (b_y := b_y)  ) ?_)
               rintro _ w1012 ⟨rfl, e1013⟩
               have E1014 := below_ext E939 E939.size e1013
               refine lw_v (.int .i64 (cmpS ax ay bx b_y)) (dv_assign (T rfl rfl)) ?_
               refine lw_nil ?_
               refine rk_block ?_
               refine rk_seq ?_
               refine rk_reg ?_
               refine lw_v (.int .i64 (cmpS ax ay bx b_y)) (dv_move (T rfl rfl)) ?_
               refine lw_v (.bool (decide (0 < (cmpS ax ay bx b_y)))) (dv_gtr (a := cmpS ax ay bx b_y) (b := 0) (T rfl rfl) C) ?_
               refine lw_v (.bool (decide (0 < (cmpS ax ay bx b_y)))) (dv_assign (T rfl rfl)) ?_
               refine lw_nil ?_
               by_cases hb1015 : 0 < (cmpS ax ay bx b_y)
               · refine rk_ct (T rfl (congrArg Value.bool (decide_eq_true hb1015))) ?_
                 refine rk_seq ?_
                 refine rk_reg ?_
                 refine lw_v (.func (.func 91) #[] #[]) (dv_move (T rfl (hF764 7 rfl))) ?_
                 refine lw_e (oe_callv (vs := []) (T rfl rfl) co91 ar0 (meetNone_ok ) ?_)
                 rintro _ w1016 ⟨rfl, e1017⟩
                 have E1018 := below_ext E1014 E1014.size e1017
                 refine lw_v (.int .i64 0) (dv_extract (vs := #[.int .i64 0, .agg #[.int .u64 0, .int .u64 0, .int .u64 0, .int .u64 0, .int .u64 0, .int .u64 0, .int .u64 0, .int .u64 0, .int .u64 0, .int .u64 0, .int .u64 0, .int .u64 0], .agg #[.int .u64 0, .int .u64 0, .int .u64 0, .int .u64 0, .int .u64 0, .int .u64 0, .int .u64 0, .int .u64 0, .int .u64 0, .int .u64 0, .int .u64 0, .int .u64 0]]) (T rfl rfl) rfl) ?_
                 refine lw_v (.agg #[.int .u64 0, .int .u64 0, .int .u64 0, .int .u64 0, .int .u64 0, .int .u64 0, .int .u64 0, .int .u64 0, .int .u64 0, .int .u64 0, .int .u64 0, .int .u64 0]) (dv_extract (vs := #[.int .i64 0, .agg #[.int .u64 0, .int .u64 0, .int .u64 0, .int .u64 0, .int .u64 0, .int .u64 0, .int .u64 0, .int .u64 0, .int .u64 0, .int .u64 0, .int .u64 0, .int .u64 0], .agg #[.int .u64 0, .int .u64 0, .int .u64 0, .int .u64 0, .int .u64 0, .int .u64 0, .int .u64 0, .int .u64 0, .int .u64 0, .int .u64 0, .int .u64 0, .int .u64 0]]) (T rfl rfl) rfl) ?_
                 refine lw_v (.agg #[.int .u64 0, .int .u64 0, .int .u64 0, .int .u64 0, .int .u64 0, .int .u64 0, .int .u64 0, .int .u64 0, .int .u64 0, .int .u64 0, .int .u64 0, .int .u64 0]) (dv_extract (vs := #[.int .i64 0, .agg #[.int .u64 0, .int .u64 0, .int .u64 0, .int .u64 0, .int .u64 0, .int .u64 0, .int .u64 0, .int .u64 0, .int .u64 0, .int .u64 0, .int .u64 0, .int .u64 0], .agg #[.int .u64 0, .int .u64 0, .int .u64 0, .int .u64 0, .int .u64 0, .int .u64 0, .int .u64 0, .int .u64 0, .int .u64 0, .int .u64 0, .int .u64 0, .int .u64 0]]) (T rfl rfl) rfl) ?_
                 refine lw_v (.int .i64 0) (dv_assign (T rfl rfl)) ?_
                 have H1019 := (e1017.blk (e1013.blk (e938.blk (e787.blk (e763.blk H703)))))
                 refine lw_e (oe_store (v := .agg #[.int .u64 0, .int .u64 0, .int .u64 0, .int .u64 0, .int .u64 0, .int .u64 0, .int .u64 0, .int .u64 0, .int .u64 0, .int .u64 0, .int .u64 0, .int .u64 0]) (vs := [.int .u64 0, .int .u64 0, .int .u64 0, .int .u64 0, .int .u64 0, .int .u64 0, .int .u64 0, .int .u64 0, .int .u64 0, .int .u64 0, .int .u64 0, .int .u64 0]) (l := [.int .u64 0, .int .u64 0, .int .u64 0, .int .u64 0, .int .u64 0, .int .u64 0, .int .u64 0, .int .u64 0, .int .u64 0, .int .u64 0, .int .u64 0, .int .u64 0]) (T rfl (hF764 5 rfl)) (T rfl rfl) sz40 rfl rfl rfl H1019 rfl ?_)
                 intro w1020 s1021 H1022
                 have E1023 := below_st E1018 N14 s1021
                 have H1024 := (s1021.blk (e1017.blk (e1013.blk (e938.blk (e787.blk (e763.blk H704))))) (by omega))
                 refine lw_e (oe_store (v := .agg #[.int .u64 0, .int .u64 0, .int .u64 0, .int .u64 0, .int .u64 0, .int .u64 0, .int .u64 0, .int .u64 0, .int .u64 0, .int .u64 0, .int .u64 0, .int .u64 0]) (vs := [.int .u64 0, .int .u64 0, .int .u64 0, .int .u64 0, .int .u64 0, .int .u64 0, .int .u64 0, .int .u64 0, .int .u64 0, .int .u64 0, .int .u64 0, .int .u64 0]) (l := [.int .u64 0, .int .u64 0, .int .u64 0, .int .u64 0, .int .u64 0, .int .u64 0, .int .u64 0, .int .u64 0, .int .u64 0, .int .u64 0, .int .u64 0, .int .u64 0]) (T rfl (hF764 6 rfl)) (T rfl rfl) sz40 rfl rfl rfl H1024 rfl ?_)
                 intro w1025 s1026 H1027
                 have E1028 := below_st E1023 N19 s1026
                 refine lw_nil ?_
                 have H1029 := (s1026.blk H1022 (by omega))
                 refine rk_ret Try.func48 (v := .tuple #[.int .i64 0, .agg #[.int .u64 0, .int .u64 0, .int .u64 0, .int .u64 0, .int .u64 0, .int .u64 0, .int .u64 0, .int .u64 0, .int .u64 0, .int .u64 0, .int .u64 0, .int .u64 0], .agg #[.int .u64 0, .int .u64 0, .int .u64 0, .int .u64 0, .int .u64 0, .int .u64 0, .int .u64 0, .int .u64 0, .int .u64 0, .int .u64 0, .int .u64 0, .int .u64 0]]) (res3 Try.results48 (rv_tmp rfl rfl) (rv_cells (l := [.int .u64 0, .int .u64 0, .int .u64 0, .int .u64 0, .int .u64 0, .int .u64 0, .int .u64 0, .int .u64 0, .int .u64 0, .int .u64 0, .int .u64 0, .int .u64 0]) agt40 sz40 rfl (hF764 5 rfl) H1029 rfl) (rv_cells (l := [.int .u64 0, .int .u64 0, .int .u64 0, .int .u64 0, .int .u64 0, .int .u64 0, .int .u64 0, .int .u64 0, .int .u64 0, .int .u64 0, .int .u64 0, .int .u64 0]) agt40 sz40 rfl (hF764 6 rfl) H1027 rfl)) ⟨_, rfl, ?_⟩
                 have hm := mt_col hb23 hb38 hb701 hb702
                 unfold loS hiS at hm
                 rw [if_neg hb789, if_neg hb789, if_neg hb940, if_neg hb940] at hm
                 exact ⟨0, 0, 0, 0, 0, 0, 0, 0, 0, 0, 0, 0, 0, 0, 0, 0, 0, 0, 0, 0, 0, 0, 0, 0, 0, rfl, E1028, (by rw [hm]; omega)⟩
               · refine rk_cf (T rfl (congrArg Value.bool (decide_eq_false hb1015))) ?_
                 refine rk_seq ?_
                 refine rk_reg ?_
                 refine lw_v (.int .i64 (cmpS ax ay bx b_y)) (dv_move (T rfl rfl)) ?_
                 refine lw_v (.bool (decide ((cmpS ax ay bx b_y) = 0))) (dv_eql (a := cmpS ax ay bx b_y) (b := 0) (T rfl rfl) C) ?_
                 refine lw_v (.bool (decide ((cmpS ax ay bx b_y) = 0))) (dv_assign (T rfl rfl)) ?_
                 refine lw_nil ?_
                 by_cases hb1030 : (cmpS ax ay bx b_y) = 0
                 · refine rk_ct (T rfl (congrArg Value.bool (decide_eq_true hb1030))) ?_
                   refine rk_seq ?_
                   refine rk_reg ?_
                   have H1031 := (e1013.blk H1010)
                   refine lw_v (.agg #[.int .i64 ax, .int .i64 ay]) (dv_loads (l := [.int .i64 ax, .int .i64 ay]) agt25 sz25 (T rfl hA774) H1031 rfl) ?_
                   refine lw_e (oe_callf (vs := [.agg #[.int .i64 ax, .int .i64 ay]]) co92 (ar1 (T rfl rfl)) (PointOf_ok (x := ax) (y := ay)  (by omega) (by omega)) ?_)
                   rintro _ w1032 ⟨rfl, e1033⟩
                   have E1034 := below_ext E1014 E1014.size e1033
                   refine lw_v (.agg #[.int .u64 0, .int .u64 0, .int .u64 0, .int .u64 0, .int .u64 0, .int .u64 0, .int .u64 0, .int .u64 0, .int .u64 0, .int .u64 0, .int .u64 0, .int .u64 0]) (dv_build (pv := []) (l := [.int .u64 0, .int .u64 0, .int .u64 0, .int .u64 0, .int .u64 0, .int .u64 0, .int .u64 0, .int .u64 0, .int .u64 0, .int .u64 0, .int .u64 0, .int .u64 0]) zc40 pl40 trivial rfl) ?_
                   refine lw_v (.int .i64 1) (dv_assign C) ?_
                   have H1035 := (e1033.blk (e1013.blk (e938.blk (e787.blk (e763.blk H703)))))
                   refine lw_e (oe_store (v := .agg #[.int .u64 (wv3 ax), .int .u64 (wv2 ax), .int .u64 (wv1 ax), .int .u64 (wv0 ax), .int .u64 (wv3 ay), .int .u64 (wv2 ay), .int .u64 (wv1 ay), .int .u64 (wv0 ay), .int .u64 (wv3 1), .int .u64 (wv2 1), .int .u64 (wv1 1), .int .u64 (wv0 1)]) (vs := [.int .u64 (wv3 ax), .int .u64 (wv2 ax), .int .u64 (wv1 ax), .int .u64 (wv0 ax), .int .u64 (wv3 ay), .int .u64 (wv2 ay), .int .u64 (wv1 ay), .int .u64 (wv0 ay), .int .u64 (wv3 1), .int .u64 (wv2 1), .int .u64 (wv1 1), .int .u64 (wv0 1)]) (l := [.int .u64 (wv3 ax), .int .u64 (wv2 ax), .int .u64 (wv1 ax), .int .u64 (wv0 ax), .int .u64 (wv3 ay), .int .u64 (wv2 ay), .int .u64 (wv1 ay), .int .u64 (wv0 ay), .int .u64 (wv3 1), .int .u64 (wv2 1), .int .u64 (wv1 1), .int .u64 (wv0 1)]) (T rfl (hF764 5 rfl)) (T rfl rfl) sz40 rfl rfl rfl H1035 rfl ?_)
                   intro w1036 s1037 H1038
                   have E1039 := below_st E1034 N14 s1037
                   have H1040 := (s1037.blk (e1033.blk (e1013.blk (e938.blk (e787.blk (e763.blk H704))))) (by omega))
                   refine lw_e (oe_store (v := .agg #[.int .u64 0, .int .u64 0, .int .u64 0, .int .u64 0, .int .u64 0, .int .u64 0, .int .u64 0, .int .u64 0, .int .u64 0, .int .u64 0, .int .u64 0, .int .u64 0]) (vs := [.int .u64 0, .int .u64 0, .int .u64 0, .int .u64 0, .int .u64 0, .int .u64 0, .int .u64 0, .int .u64 0, .int .u64 0, .int .u64 0, .int .u64 0, .int .u64 0]) (l := [.int .u64 0, .int .u64 0, .int .u64 0, .int .u64 0, .int .u64 0, .int .u64 0, .int .u64 0, .int .u64 0, .int .u64 0, .int .u64 0, .int .u64 0, .int .u64 0]) (T rfl (hF764 6 rfl)) (T rfl rfl) sz40 rfl rfl rfl H1040 rfl ?_)
                   intro w1041 s1042 H1043
                   have E1044 := below_st E1039 N19 s1042
                   refine lw_nil ?_
                   have H1045 := (s1042.blk H1038 (by omega))
                   refine rk_ret Try.func48 (v := .tuple #[.int .i64 1, .agg #[.int .u64 (wv3 ax), .int .u64 (wv2 ax), .int .u64 (wv1 ax), .int .u64 (wv0 ax), .int .u64 (wv3 ay), .int .u64 (wv2 ay), .int .u64 (wv1 ay), .int .u64 (wv0 ay), .int .u64 (wv3 1), .int .u64 (wv2 1), .int .u64 (wv1 1), .int .u64 (wv0 1)], .agg #[.int .u64 0, .int .u64 0, .int .u64 0, .int .u64 0, .int .u64 0, .int .u64 0, .int .u64 0, .int .u64 0, .int .u64 0, .int .u64 0, .int .u64 0, .int .u64 0]]) (res3 Try.results48 (rv_tmp rfl rfl) (rv_cells (l := [.int .u64 (wv3 ax), .int .u64 (wv2 ax), .int .u64 (wv1 ax), .int .u64 (wv0 ax), .int .u64 (wv3 ay), .int .u64 (wv2 ay), .int .u64 (wv1 ay), .int .u64 (wv0 ay), .int .u64 (wv3 1), .int .u64 (wv2 1), .int .u64 (wv1 1), .int .u64 (wv0 1)]) agt40 sz40 rfl (hF764 5 rfl) H1045 rfl) (rv_cells (l := [.int .u64 0, .int .u64 0, .int .u64 0, .int .u64 0, .int .u64 0, .int .u64 0, .int .u64 0, .int .u64 0, .int .u64 0, .int .u64 0, .int .u64 0, .int .u64 0]) agt40 sz40 rfl (hF764 6 rfl) H1043 rfl)) ⟨_, rfl, ?_⟩
                   have hm := mt_col hb23 hb38 hb701 hb702
                   unfold loS hiS at hm
                   rw [if_neg hb789, if_neg hb789, if_neg hb940, if_neg hb940] at hm
                   exact ⟨1, wv3 ax, wv2 ax, wv1 ax, wv0 ax, wv3 ay, wv2 ay, wv1 ay, wv0 ay, wv3 1, wv2 1, wv1 1, wv0 1, 0, 0, 0, 0, 0, 0, 0, 0, 0, 0, 0, 0, rfl, E1044, (by rw [hm]; omega)⟩
                 · refine rk_cf (T rfl (congrArg Value.bool (decide_eq_false hb1030))) ?_
                   refine rk_skip ?_
                   refine rk_inBlock ?_
                   refine rk_seq ?_
                   refine rk_any (fun w => w.heap[b773]? = some (.cells #[.int .i64 ax, .int .i64 ay] 25) ∧ w.heap[b777]? = some (.cells #[.int .i64 bx, .int .i64 b_y] 25)) [6] mo ?_
                   intro w1046 d1047
                   have E1048 := below_ext E1014 E1014.size d1047.ext
                   have H1049 := (d1047.ext.blk (e1013.blk H1010))
                   have H1050 := (d1047.ext.blk (e1013.blk H1011))
                   refine aw_load 0 (.agg #[.int .i64 ax, .int .i64 ay]) rfl (by kernel_rfl) .none ⟨H1049, H1050⟩ (fun _ s => dv_loads (l := [.int .i64 ax, .int .i64 ay]) agt25 sz25 (T rfl hA774) s.1 rfl) ?_
                   refine aw_load 2 (.agg #[.int .i64 bx, .int .i64 b_y]) rfl (by kernel_rfl) .none ⟨H1049, H1050⟩ (fun _ s => dv_loads (l := [.int .i64 bx, .int .i64 b_y]) agt25 sz25 (T rfl hA778) s.2 rfl) ?_
                   refine aw_one 1 rfl (by kernel_rfl) .none (oe_callf (vs := [.agg #[.int .i64 ax, .int .i64 ay]]) co92 (ar1 (T rfl rfl)) (PointOf_ok (x := ax) (y := ay)  (by omega) (by omega)) ?_)
                   rintro _ w1051 ⟨rfl, e1052⟩
                   have E1053 := below_ext E1048 E1048.size e1052
                   have H1054 := (e1052.blk H1049)
                   have H1055 := (e1052.blk H1050)
                   refine ⟨.inr ⟨H1054, H1055⟩, ?_⟩
                   refine aw_one 3 rfl (by kernel_rfl) .none (oe_callf (vs := [.agg #[.int .i64 bx, .int .i64 b_y]]) co92 (ar1 (T rfl rfl)) (PointOf_ok (x := bx) (y := b_y)  (by omega) (by omega)) ?_)
                   rintro _ w1056 ⟨rfl, e1057⟩
                   have E1058 := below_ext E1053 E1053.size e1057
                   have H1059 := (e1057.blk H1054)
                   have H1060 := (e1057.blk H1055)
                   refine ⟨.inr ⟨H1059, H1060⟩, ?_⟩
                   refine aw_pure 4 (.int .i64 2) rfl (by kernel_rfl) .none ⟨H1059, H1060⟩ (fun _ => dv_assign C) ?_
                   have H1061 := (e1057.blk (e1052.blk (d1047.ext.blk (e1013.blk (e938.blk (e787.blk (e763.blk H703)))))))
                   refine aw_one 5 rfl (by kernel_rfl) .none (oe_store (v := .agg #[.int .u64 (wv3 ax), .int .u64 (wv2 ax), .int .u64 (wv1 ax), .int .u64 (wv0 ax), .int .u64 (wv3 ay), .int .u64 (wv2 ay), .int .u64 (wv1 ay), .int .u64 (wv0 ay), .int .u64 (wv3 1), .int .u64 (wv2 1), .int .u64 (wv1 1), .int .u64 (wv0 1)]) (vs := [.int .u64 (wv3 ax), .int .u64 (wv2 ax), .int .u64 (wv1 ax), .int .u64 (wv0 ax), .int .u64 (wv3 ay), .int .u64 (wv2 ay), .int .u64 (wv1 ay), .int .u64 (wv0 ay), .int .u64 (wv3 1), .int .u64 (wv2 1), .int .u64 (wv1 1), .int .u64 (wv0 1)]) (l := [.int .u64 (wv3 ax), .int .u64 (wv2 ax), .int .u64 (wv1 ax), .int .u64 (wv0 ax), .int .u64 (wv3 ay), .int .u64 (wv2 ay), .int .u64 (wv1 ay), .int .u64 (wv0 ay), .int .u64 (wv3 1), .int .u64 (wv2 1), .int .u64 (wv1 1), .int .u64 (wv0 1)]) (T rfl (hF764 5 rfl)) (T rfl rfl) sz40 rfl rfl rfl H1061 rfl ?_)
                   intro w1062 s1063 H1064
                   have E1065 := below_st E1058 N14 s1063
                   have H1066 := (s1063.blk H1059 (by omega))
                   have H1067 := (s1063.blk H1060 (by omega))
                   refine ⟨.inr ⟨H1066, H1067⟩, ?_⟩
                   have H1068 := (s1063.blk (e1057.blk (e1052.blk (d1047.ext.blk (e1013.blk (e938.blk (e787.blk (e763.blk H704))))))) (by omega))
                   refine aw_one 6 rfl (by kernel_rfl) .none (oe_store (v := .agg #[.int .u64 (wv3 bx), .int .u64 (wv2 bx), .int .u64 (wv1 bx), .int .u64 (wv0 bx), .int .u64 (wv3 b_y), .int .u64 (wv2 b_y), .int .u64 (wv1 b_y), .int .u64 (wv0 b_y), .int .u64 (wv3 1), .int .u64 (wv2 1), .int .u64 (wv1 1), .int .u64 (wv0 1)]) (vs := [.int .u64 (wv3 bx), .int .u64 (wv2 bx), .int .u64 (wv1 bx), .int .u64 (wv0 bx), .int .u64 (wv3 b_y), .int .u64 (wv2 b_y), .int .u64 (wv1 b_y), .int .u64 (wv0 b_y), .int .u64 (wv3 1), .int .u64 (wv2 1), .int .u64 (wv1 1), .int .u64 (wv0 1)]) (l := [.int .u64 (wv3 bx), .int .u64 (wv2 bx), .int .u64 (wv1 bx), .int .u64 (wv0 bx), .int .u64 (wv3 b_y), .int .u64 (wv2 b_y), .int .u64 (wv1 b_y), .int .u64 (wv0 b_y), .int .u64 (wv3 1), .int .u64 (wv2 1), .int .u64 (wv1 1), .int .u64 (wv0 1)]) (T rfl (hF764 6 rfl)) (T rfl rfl) sz40 rfl rfl rfl H1068 rfl ?_)
                   intro w1069 s1070 H1071
                   have E1072 := below_st E1065 N19 s1070
                   refine ⟨.inl rfl, ?_⟩
                   refine aw_done (by kernel_rfl) ?_
                   have H1073 := (s1070.blk H1064 (by omega))
                   refine rk_ret Try.func48 (v := .tuple #[.int .i64 2, .agg #[.int .u64 (wv3 ax), .int .u64 (wv2 ax), .int .u64 (wv1 ax), .int .u64 (wv0 ax), .int .u64 (wv3 ay), .int .u64 (wv2 ay), .int .u64 (wv1 ay), .int .u64 (wv0 ay), .int .u64 (wv3 1), .int .u64 (wv2 1), .int .u64 (wv1 1), .int .u64 (wv0 1)], .agg #[.int .u64 (wv3 bx), .int .u64 (wv2 bx), .int .u64 (wv1 bx), .int .u64 (wv0 bx), .int .u64 (wv3 b_y), .int .u64 (wv2 b_y), .int .u64 (wv1 b_y), .int .u64 (wv0 b_y), .int .u64 (wv3 1), .int .u64 (wv2 1), .int .u64 (wv1 1), .int .u64 (wv0 1)]]) (res3 Try.results48 (rv_tmp rfl rfl) (rv_cells (l := [.int .u64 (wv3 ax), .int .u64 (wv2 ax), .int .u64 (wv1 ax), .int .u64 (wv0 ax), .int .u64 (wv3 ay), .int .u64 (wv2 ay), .int .u64 (wv1 ay), .int .u64 (wv0 ay), .int .u64 (wv3 1), .int .u64 (wv2 1), .int .u64 (wv1 1), .int .u64 (wv0 1)]) agt40 sz40 rfl (hF764 5 rfl) H1073 rfl) (rv_cells (l := [.int .u64 (wv3 bx), .int .u64 (wv2 bx), .int .u64 (wv1 bx), .int .u64 (wv0 bx), .int .u64 (wv3 b_y), .int .u64 (wv2 b_y), .int .u64 (wv1 b_y), .int .u64 (wv0 b_y), .int .u64 (wv3 1), .int .u64 (wv2 1), .int .u64 (wv1 1), .int .u64 (wv0 1)]) agt40 sz40 rfl (hF764 6 rfl) H1071 rfl)) ⟨_, rfl, ?_⟩
                   have hm := mt_col hb23 hb38 hb701 hb702
                   unfold loS hiS at hm
                   rw [if_neg hb789, if_neg hb789, if_neg hb940, if_neg hb940] at hm
                   exact ⟨2, wv3 ax, wv2 ax, wv1 ax, wv0 ax, wv3 ay, wv2 ay, wv1 ay, wv0 ay, wv3 1, wv2 1, wv1 1, wv0 1, wv3 bx, wv2 bx, wv1 bx, wv0 bx, wv3 b_y, wv2 b_y, wv1 b_y, wv0 b_y, wv3 1, wv2 1, wv1 1, wv0 1, rfl, E1072, (by rw [hm]; omega)⟩
         · refine rk_cf (T rfl (congrArg Value.bool (decide_eq_false hb702))) ?_
           refine rk_skip ?_
           have H1074 := (e64.blk (e59.blk (d54.ext.blk (n18.ext.blk n13.blk))))
           have H1075 := (e64.blk (e59.blk (d54.ext.blk n18.blk)))
           exact hj70 _ _ ⟨rfl, rfl, rfl, rfl, rfl, rfl, rfl, E65, H66, H67, H1074, H1075, (fun h_ => hb702 h_.2)⟩
       · refine lw_no (d := 89) rfl rfl (congrArg Value.bool (decide_eq_false hb701)) ?_
         refine lw_no (d := 89) rfl rfl (congrArg Value.bool (decide_eq_false hb701)) ?_
         refine lw_v (.bool false) (dv_pick_f (T rfl (congrArg Value.bool (decide_eq_false hb701))) C) ?_
         refine lw_nil ?_
         refine rk_cf (T rfl rfl) ?_
         refine rk_skip ?_
         have H1076 := (e64.blk (e59.blk (d54.ext.blk (n18.ext.blk n13.blk))))
         have H1077 := (e64.blk (e59.blk (d54.ext.blk n18.blk)))
         exact hj70 _ _ ⟨rfl, rfl, rfl, rfl, rfl, rfl, rfl, E65, H66, H67, H1076, H1077, (fun h_ => hb701 h_.1)⟩
end Go.Proofs.Ytmbpomcbdopgnaa.W
set_option linter.unusedVariables false
set_option linter.unusedSimpArgs false
namespace Go.Proofs.Ytmbpomcbdopgnaa.W
open Go Go.RowKit Go.Proofs.Ytmbpomcbdopgnaa.Fw
attribute [local irreducible] RunK LW AW DV OE Ct
theorem co48 : callOk Try.prog 48 = true := by kernel_rfl
set_option maxHeartbeats 1000000 in
theorem iMeet_ok {w : World} {ax ay bx b_y cx cy dx dy : Int} : Ct Try.prog 14 [.agg #[.int .i64 ax, .int .i64 ay, .int .i64 bx, .int .i64 b_y], .agg #[.int .i64 cx, .int .i64 cy, .int .i64 dx, .int .i64 dy]] w fun v w1 => ∃ k_ r0_ r1_ r2_ r3_ r4_ r5_ r6_ r7_ r8_ r9_ r10_ r11_ r12_ r13_ r14_ r15_ r16_ r17_ r18_ r19_ r20_ r21_ r22_ r23_ : Int, v = .tuple #[.int .i64 k_, .agg #[.int .u64 r0_, .int .u64 r1_, .int .u64 r2_, .int .u64 r3_, .int .u64 r4_, .int .u64 r5_, .int .u64 r6_, .int .u64 r7_, .int .u64 r8_, .int .u64 r9_, .int .u64 r10_, .int .u64 r11_], .agg #[.int .u64 r12_, .int .u64 r13_, .int .u64 r14_, .int .u64 r15_, .int .u64 r16_, .int .u64 r17_, .int .u64 r18_, .int .u64 r19_, .int .u64 r20_, .int .u64 r21_, .int .u64 r22_, .int .u64 r23_]] ∧ Ext w w1 ∧ (k_ ≠ 0 ↔ segOk ax ay bx b_y ∧ segOk cx cy dx dy ∧ mtS ax ay bx b_y cx cy dx dy) := by
 refine ct_run (n := 23) Try.func14 rfl Try.ntmps14 rfl ?_
 have E0 : Below w.heap.size w w := Below.refl _ _
 refine rk_seq ?_
 refine rk_reg ?_
 refine lw_e (oe_box (v := .agg #[.int .i64 ax, .int .i64 ay, .int .i64 bx, .int .i64 b_y]) (cs := #[.int .i64 ax, .int .i64 ay, .int .i64 bx, .int .i64 b_y]) (T rfl rfl) rfl ?_)
 intro b1 w2 n3
 have N4 : w.heap.size ≤ b1 := n3.eq ▸ E0.size
 have E5 := below_ext E0 E0.size n3.ext
 refine lw_e (oe_box (v := .agg #[.int .i64 cx, .int .i64 cy, .int .i64 dx, .int .i64 dy]) (cs := #[.int .i64 cx, .int .i64 cy, .int .i64 dx, .int .i64 dy]) (T rfl rfl) rfl ?_)
 intro b6 w7 n8
 have N9 : w.heap.size ≤ b6 := n8.eq ▸ E5.size
 have : b1 < b6 := n8.eq ▸ lt_of_blk n3.blk
 have E10 := below_ext E5 E5.size n8.ext
 refine lw_v (.int .i64 0) (dv_assign C) ?_
 refine lw_e (oe_alloc ze40 ?_)
 intro b11 w12 n13
 have N14 : w.heap.size ≤ b11 := n13.eq ▸ E10.size
 have : b6 < b11 := n13.eq ▸ lt_of_blk n8.blk
 have E15 := below_ext E10 E10.size n13.ext
 refine lw_e (oe_alloc ze40 ?_)
 intro b16 w17 n18
 have N19 : w.heap.size ≤ b16 := n18.eq ▸ E15.size
 have : b11 < b16 := n18.eq ▸ lt_of_blk n13.blk
 have E20 := below_ext E15 E15.size n18.ext
 refine lw_nil ?_
 refine rk_seq ?_
 refine rk_seq ?_
 refine rk_reg ?_
 have H21 := (n18.ext.blk (n13.ext.blk (n8.ext.blk n3.blk)))
 refine lw_v (.agg #[.int .i64 ax, .int .i64 ay, .int .i64 bx, .int .i64 b_y]) (dv_loads (l := [.int .i64 ax, .int .i64 ay, .int .i64 bx, .int .i64 b_y]) agt27 sz27 (T rfl rfl) H21 rfl) ?_
 refine lw_e (oe_callf (vs := [.agg #[.int .i64 ax, .int .i64 ay, .int .i64 bx, .int .i64 b_y]]) co11 (ar1 (T rfl rfl)) (iSegOk_ok (ax := ax) (ay := ay) (bx := bx) (b_y := b_y)  ) ?_)
 rintro _ w22 ⟨rfl, e23⟩
 have E24 := below_ext E20 E20.size e23
 refine lw_v (.bool (decide (¬ (segOk ax ay bx b_y)))) (dv_notd (p := segOk ax ay bx b_y) (T rfl rfl)) ?_
 refine lw_v (.bool (decide (¬ (segOk ax ay bx b_y)))) (dv_move (T rfl rfl)) ?_
 by_cases hb25 : segOk ax ay bx b_y
 · have := segOk_rg hb25
   have H26 := (e23.blk (n18.ext.blk (n13.ext.blk n8.blk)))
   refine lw_vy (.agg #[.int .i64 cx, .int .i64 cy, .int .i64 dx, .int .i64 dy]) (d := 10) rfl rfl (congrArg Value.bool (decide_eq_false (not_not_intro hb25))) (dv_loads (l := [.int .i64 cx, .int .i64 cy, .int .i64 dx, .int .i64 dy]) agt27 sz27 (T rfl rfl) H26 rfl) ?_
   refine lw_ey (d := 10) rfl rfl (congrArg Value.bool (decide_eq_false (not_not_intro hb25))) (oe_callf (vs := [.agg #[.int .i64 cx, .int .i64 cy, .int .i64 dx, .int .i64 dy]]) co11 (ar1 (T rfl rfl)) (iSegOk_ok (ax := cx) (ay := cy) (bx := dx) (b_y := dy)  ) ?_)
   rintro _ w27 ⟨rfl, e28⟩
   have E29 := below_ext E24 E24.size e28
   refine lw_vy (.bool (decide (¬ (segOk cx cy dx dy)))) (d := 10) rfl rfl (congrArg Value.bool (decide_eq_false (not_not_intro hb25))) (dv_notd (p := segOk cx cy dx dy) (T rfl rfl)) ?_
   refine lw_v (.bool (decide (¬ (segOk cx cy dx dy)))) (dv_pick_f (T rfl (congrArg Value.bool (decide_eq_false (not_not_intro hb25)))) (T rfl rfl)) ?_
   refine lw_nil ?_
   by_cases hb30 : segOk cx cy dx dy
   · have := segOk_rg hb30
     refine rk_cf (T rfl (congrArg Value.bool (decide_eq_false (not_not_intro hb30)))) ?_
     refine rk_skip ?_
     refine rk_seq ?_
     refine rk_reg ?_
     have H31 := (e28.blk (e23.blk H21))
     refine lw_v (.agg #[.int .i64 ax, .int .i64 ay, .int .i64 bx, .int .i64 b_y]) (dv_loads (l := [.int .i64 ax, .int .i64 ay, .int .i64 bx, .int .i64 b_y]) agt27 sz27 (T rfl rfl) H31 rfl) ?_
     have H32 := (e28.blk H26)
     refine lw_v (.agg #[.int .i64 cx, .int .i64 cy, .int .i64 dx, .int .i64 dy]) (dv_loads (l := [.int .i64 cx, .int .i64 cy, .int .i64 dx, .int .i64 dy]) agt27 sz27 (T rfl rfl) H32 rfl) ?_
     refine lw_e (oe_callf (vs := [.agg #[.int .i64 ax, .int .i64 ay, .int .i64 bx, .int .i64 b_y], .agg #[.int .i64 cx, .int .i64 cy, .int .i64 dx, .int .i64 dy]]) co48 (ar2 (T rfl rfl) (T rfl rfl)) (meet_ok (ax := ax) (ay := ay) (bx := bx) (b_y := b_y) (cx := cx) (cy := cy) (dx := dx) (dy := dy) (by omega) (by omega)) ?_)
     rintro _ w59 ⟨k33, r34, r35, r36, r37, r38, r39, r40, r41, r42, r43, r44, r45, r46, r47, r48, r49, r50, r51, r52, r53, r54, r55, r56, r57, rfl, e60, hk58⟩
     have E61 := below_ext E29 E29.size e60
     refine lw_v (.int .i64 k33) (dv_extract (vs := #[.int .i64 k33, .agg #[.int .u64 r34, .int .u64 r35, .int .u64 r36, .int .u64 r37, .int .u64 r38, .int .u64 r39, .int .u64 r40, .int .u64 r41, .int .u64 r42, .int .u64 r43, .int .u64 r44, .int .u64 r45], .agg #[.int .u64 r46, .int .u64 r47, .int .u64 r48, .int .u64 r49, .int .u64 r50, .int .u64 r51, .int .u64 r52, .int .u64 r53, .int .u64 r54, .int .u64 r55, .int .u64 r56, .int .u64 r57]]) (T rfl rfl) rfl) ?_
     refine lw_v (.agg #[.int .u64 r34, .int .u64 r35, .int .u64 r36, .int .u64 r37, .int .u64 r38, .int .u64 r39, .int .u64 r40, .int .u64 r41, .int .u64 r42, .int .u64 r43, .int .u64 r44, .int .u64 r45]) (dv_extract (vs := #[.int .i64 k33, .agg #[.int .u64 r34, .int .u64 r35, .int .u64 r36, .int .u64 r37, .int .u64 r38, .int .u64 r39, .int .u64 r40, .int .u64 r41, .int .u64 r42, .int .u64 r43, .int .u64 r44, .int .u64 r45], .agg #[.int .u64 r46, .int .u64 r47, .int .u64 r48, .int .u64 r49, .int .u64 r50, .int .u64 r51, .int .u64 r52, .int .u64 r53, .int .u64 r54, .int .u64 r55, .int .u64 r56, .int .u64 r57]]) (T rfl rfl) rfl) ?_
     refine lw_v (.agg #[.int .u64 r46, .int .u64 r47, .int .u64 r48, .int .u64 r49, .int .u64 r50, .int .u64 r51, .int .u64 r52, .int .u64 r53, .int .u64 r54, .int .u64 r55, .int .u64 r56, .int .u64 r57]) (dv_extract (vs := #[.int .i64 k33, .agg #[.int .u64 r34, .int .u64 r35, .int .u64 r36, .int .u64 r37, .int .u64 r38, .int .u64 r39, .int .u64 r40, .int .u64 r41, .int .u64 r42, .int .u64 r43, .int .u64 r44, .int .u64 r45], .agg #[.int .u64 r46, .int .u64 r47, .int .u64 r48, .int .u64 r49, .int .u64 r50, .int .u64 r51, .int .u64 r52, .int .u64 r53, .int .u64 r54, .int .u64 r55, .int .u64 r56, .int .u64 r57]]) (T rfl rfl) rfl) ?_
     refine lw_v (.int .i64 k33) (dv_assign (T rfl rfl)) ?_
     have H62 := (e60.blk (e28.blk (e23.blk (n18.ext.blk n13.blk))))
     refine lw_e (oe_store (v := .agg #[.int .u64 r34, .int .u64 r35, .int .u64 r36, .int .u64 r37, .int .u64 r38, .int .u64 r39, .int .u64 r40, .int .u64 r41, .int .u64 r42, .int .u64 r43, .int .u64 r44, .int .u64 r45]) (vs := [.int .u64 r34, .int .u64 r35, .int .u64 r36, .int .u64 r37, .int .u64 r38, .int .u64 r39, .int .u64 r40, .int .u64 r41, .int .u64 r42, .int .u64 r43, .int .u64 r44, .int .u64 r45]) (l := [.int .u64 r34, .int .u64 r35, .int .u64 r36, .int .u64 r37, .int .u64 r38, .int .u64 r39, .int .u64 r40, .int .u64 r41, .int .u64 r42, .int .u64 r43, .int .u64 r44, .int .u64 r45]) (T rfl rfl) (T rfl rfl) sz40 rfl rfl rfl H62 rfl ?_)
     intro w63 s64 H65
     have E66 := below_st E61 N14 s64
     have H67 := (s64.blk (e60.blk (e28.blk (e23.blk n18.blk))) (by omega))
     refine lw_e (oe_store (v := .agg #[.int .u64 r46, .int .u64 r47, .int .u64 r48, .int .u64 r49, .int .u64 r50, .int .u64 r51, .int .u64 r52, .int .u64 r53, .int .u64 r54, .int .u64 r55, .int .u64 r56, .int .u64 r57]) (vs := [.int .u64 r46, .int .u64 r47, .int .u64 r48, .int .u64 r49, .int .u64 r50, .int .u64 r51, .int .u64 r52, .int .u64 r53, .int .u64 r54, .int .u64 r55, .int .u64 r56, .int .u64 r57]) (l := [.int .u64 r46, .int .u64 r47, .int .u64 r48, .int .u64 r49, .int .u64 r50, .int .u64 r51, .int .u64 r52, .int .u64 r53, .int .u64 r54, .int .u64 r55, .int .u64 r56, .int .u64 r57]) (T rfl rfl) (T rfl rfl) sz40 rfl rfl rfl H67 rfl ?_)
     intro w68 s69 H70
     have E71 := below_st E66 N19 s69
     refine lw_nil ?_
     have H72 := (s69.blk H65 (by omega))
     refine rk_ret Try.func14 (v := .tuple #[.int .i64 k33, .agg #[.int .u64 r34, .int .u64 r35, .int .u64 r36, .int .u64 r37, .int .u64 r38, .int .u64 r39, .int .u64 r40, .int .u64 r41, .int .u64 r42, .int .u64 r43, .int .u64 r44, .int .u64 r45], .agg #[.int .u64 r46, .int .u64 r47, .int .u64 r48, .int .u64 r49, .int .u64 r50, .int .u64 r51, .int .u64 r52, .int .u64 r53, .int .u64 r54, .int .u64 r55, .int .u64 r56, .int .u64 r57]]) (res3 Try.results14 (rv_tmp rfl rfl) (rv_cells (l := [.int .u64 r34, .int .u64 r35, .int .u64 r36, .int .u64 r37, .int .u64 r38, .int .u64 r39, .int .u64 r40, .int .u64 r41, .int .u64 r42, .int .u64 r43, .int .u64 r44, .int .u64 r45]) agt40 sz40 rfl rfl H72 rfl) (rv_cells (l := [.int .u64 r46, .int .u64 r47, .int .u64 r48, .int .u64 r49, .int .u64 r50, .int .u64 r51, .int .u64 r52, .int .u64 r53, .int .u64 r54, .int .u64 r55, .int .u64 r56, .int .u64 r57]) agt40 sz40 rfl rfl H70 rfl)) ⟨_, rfl, ?_⟩
     exact ⟨k33, r34, r35, r36, r37, r38, r39, r40, r41, r42, r43, r44, r45, r46, r47, r48, r49, r50, r51, r52, r53, r54, r55, r56, r57, rfl, E71, ⟨fun h => ⟨hb25, hb30, hk58.1 h⟩, fun h => hk58.2 h.2.2⟩⟩
   · refine rk_ct (T rfl (congrArg Value.bool (decide_eq_true hb30))) ?_
     refine rk_seq ?_
     refine rk_reg ?_
     refine lw_v (.agg #[.int .u64 0, .int .u64 0, .int .u64 0, .int .u64 0, .int .u64 0, .int .u64 0, .int .u64 0, .int .u64 0, .int .u64 0, .int .u64 0, .int .u64 0, .int .u64 0]) (dv_build (pv := []) (l := [.int .u64 0, .int .u64 0, .int .u64 0, .int .u64 0, .int .u64 0, .int .u64 0, .int .u64 0, .int .u64 0, .int .u64 0, .int .u64 0, .int .u64 0, .int .u64 0]) zc40 pl40 trivial rfl) ?_
     refine lw_v (.agg #[.int .u64 0, .int .u64 0, .int .u64 0, .int .u64 0, .int .u64 0, .int .u64 0, .int .u64 0, .int .u64 0, .int .u64 0, .int .u64 0, .int .u64 0, .int .u64 0]) (dv_build (pv := []) (l := [.int .u64 0, .int .u64 0, .int .u64 0, .int .u64 0, .int .u64 0, .int .u64 0, .int .u64 0, .int .u64 0, .int .u64 0, .int .u64 0, .int .u64 0, .int .u64 0]) zc40 pl40 trivial rfl) ?_
     refine lw_v (.int .i64 0) (dv_assign C) ?_
     have H73 := (e28.blk (e23.blk (n18.ext.blk n13.blk)))
     refine lw_e (oe_store (v := .agg #[.int .u64 0, .int .u64 0, .int .u64 0, .int .u64 0, .int .u64 0, .int .u64 0, .int .u64 0, .int .u64 0, .int .u64 0, .int .u64 0, .int .u64 0, .int .u64 0]) (vs := [.int .u64 0, .int .u64 0, .int .u64 0, .int .u64 0, .int .u64 0, .int .u64 0, .int .u64 0, .int .u64 0, .int .u64 0, .int .u64 0, .int .u64 0, .int .u64 0]) (l := [.int .u64 0, .int .u64 0, .int .u64 0, .int .u64 0, .int .u64 0, .int .u64 0, .int .u64 0, .int .u64 0, .int .u64 0, .int .u64 0, .int .u64 0, .int .u64 0]) (T rfl rfl) (T rfl rfl) sz40 rfl rfl rfl H73 rfl ?_)
     intro w74 s75 H76
     have E77 := below_st E29 N14 s75
     have H78 := (s75.blk (e28.blk (e23.blk n18.blk)) (by omega))
     refine lw_e (oe_store (v := .agg #[.int .u64 0, .int .u64 0, .int .u64 0, .int .u64 0, .int .u64 0, .int .u64 0, .int .u64 0, .int .u64 0, .int .u64 0, .int .u64 0, .int .u64 0, .int .u64 0]) (vs := [.int .u64 0, .int .u64 0, .int .u64 0, .int .u64 0, .int .u64 0, .int .u64 0, .int .u64 0, .int .u64 0, .int .u64 0, .int .u64 0, .int .u64 0, .int .u64 0]) (l := [.int .u64 0, .int .u64 0, .int .u64 0, .int .u64 0, .int .u64 0, .int .u64 0, .int .u64 0, .int .u64 0, .int .u64 0, .int .u64 0, .int .u64 0, .int .u64 0]) (T rfl rfl) (T rfl rfl) sz40 rfl rfl rfl H78 rfl ?_)
     intro w79 s80 H81
     have E82 := below_st E77 N19 s80
     refine lw_nil ?_
     have H83 := (s80.blk H76 (by omega))
     refine rk_ret Try.func14 (v := .tuple #[.int .i64 0, .agg #[.int .u64 0, .int .u64 0, .int .u64 0, .int .u64 0, .int .u64 0, .int .u64 0, .int .u64 0, .int .u64 0, .int .u64 0, .int .u64 0, .int .u64 0, .int .u64 0], .agg #[.int .u64 0, .int .u64 0, .int .u64 0, .int .u64 0, .int .u64 0, .int .u64 0, .int .u64 0, .int .u64 0, .int .u64 0, .int .u64 0, .int .u64 0, .int .u64 0]]) (res3 Try.results14 (rv_tmp rfl rfl) (rv_cells (l := [.int .u64 0, .int .u64 0, .int .u64 0, .int .u64 0, .int .u64 0, .int .u64 0, .int .u64 0, .int .u64 0, .int .u64 0, .int .u64 0, .int .u64 0, .int .u64 0]) agt40 sz40 rfl rfl H83 rfl) (rv_cells (l := [.int .u64 0, .int .u64 0, .int .u64 0, .int .u64 0, .int .u64 0, .int .u64 0, .int .u64 0, .int .u64 0, .int .u64 0, .int .u64 0, .int .u64 0, .int .u64 0]) agt40 sz40 rfl rfl H81 rfl)) ⟨_, rfl, ?_⟩
     exact ⟨0, 0, 0, 0, 0, 0, 0, 0, 0, 0, 0, 0, 0, 0, 0, 0, 0, 0, 0, 0, 0, 0, 0, 0, 0, rfl, E82, ⟨fun h => absurd rfl h, fun h => by first | exact absurd h.1 (by assumption) | exact absurd h.2.1 (by assumption)⟩⟩
 · refine lw_no (d := 10) rfl rfl (congrArg Value.bool (decide_eq_true hb25)) ?_
   refine lw_no (d := 10) rfl rfl (congrArg Value.bool (decide_eq_true hb25)) ?_
   refine lw_no (d := 10) rfl rfl (congrArg Value.bool (decide_eq_true hb25)) ?_
   refine lw_v (.bool true) (dv_pick_t (T rfl (congrArg Value.bool (decide_eq_true hb25))) C) ?_
   refine lw_nil ?_
   refine rk_ct (T rfl rfl) ?_
   refine rk_seq ?_
   refine rk_reg ?_
   refine lw_v (.agg #[.int .u64 0, .int .u64 0, .int .u64 0, .int .u64 0, .int .u64 0, .int .u64 0, .int .u64 0, .int .u64 0, .int .u64 0, .int .u64 0, .int .u64 0, .int .u64 0]) (dv_build (pv := []) (l := [.int .u64 0, .int .u64 0, .int .u64 0, .int .u64 0, .int .u64 0, .int .u64 0, .int .u64 0, .int .u64 0, .int .u64 0, .int .u64 0, .int .u64 0, .int .u64 0]) zc40 pl40 trivial rfl) ?_
   refine lw_v (.agg #[.int .u64 0, .int .u64 0, .int .u64 0, .int .u64 0, .int .u64 0, .int .u64 0, .int .u64 0, .int .u64 0, .int .u64 0, .int .u64 0, .int .u64 0, .int .u64 0]) (dv_build (pv := []) (l := [.int .u64 0, .int .u64 0, .int .u64 0, .int .u64 0, .int .u64 0, .int .u64 0, .int .u64 0, .int .u64 0, .int .u64 0, .int .u64 0, .int .u64 0, .int .u64 0]) zc40 pl40 trivial rfl) ?_
   refine lw_v (.int .i64 0) (dv_assign C) ?_
   have H84 := (e23.blk (n18.ext.blk n13.blk))
   refine lw_e (oe_store (v := .agg #[.int .u64 0, .int .u64 0, .int .u64 0, .int .u64 0, .int .u64 0, .int .u64 0, .int .u64 0, .int .u64 0, .int .u64 0, .int .u64 0, .int .u64 0, .int .u64 0]) (vs := [.int .u64 0, .int .u64 0, .int .u64 0, .int .u64 0, .int .u64 0, .int .u64 0, .int .u64 0, .int .u64 0, .int .u64 0, .int .u64 0, .int .u64 0, .int .u64 0]) (l := [.int .u64 0, .int .u64 0, .int .u64 0, .int .u64 0, .int .u64 0, .int .u64 0, .int .u64 0, .int .u64 0, .int .u64 0, .int .u64 0, .int .u64 0, .int .u64 0]) (T rfl rfl) (T rfl rfl) sz40 rfl rfl rfl H84 rfl ?_)
   intro w85 s86 H87
   have E88 := below_st E24 N14 s86
   have H89 := (s86.blk (e23.blk n18.blk) (by omega))
   refine lw_e (oe_store (v := .agg #[.int .u64 0, .int .u64 0, .int .u64 0, .int .u64 0, .int .u64 0, .int .u64 0, .int .u64 0, .int .u64 0, .int .u64 0, .int .u64 0, .int .u64 0, .int .u64 0]) (vs := [.int .u64 0, .int .u64 0, .int .u64 0, .int .u64 0, .int .u64 0, .int .u64 0, .int .u64 0, .int .u64 0, .int .u64 0, .int .u64 0, .int .u64 0, .int .u64 0]) (l := [.int .u64 0, .int .u64 0, .int .u64 0, .int .u64 0, .int .u64 0, .int .u64 0, .int .u64 0, .int .u64 0, .int .u64 0, .int .u64 0, .int .u64 0, .int .u64 0]) (T rfl rfl) (T rfl rfl) sz40 rfl rfl rfl H89 rfl ?_)
   intro w90 s91 H92
   have E93 := below_st E88 N19 s91
   refine lw_nil ?_
   have H94 := (s91.blk H87 (by omega))
   refine rk_ret Try.func14 (v := .tuple #[.int .i64 0, .agg #[.int .u64 0, .int .u64 0, .int .u64 0, .int .u64 0, .int .u64 0, .int .u64 0, .int .u64 0, .int .u64 0, .int .u64 0, .int .u64 0, .int .u64 0, .int .u64 0], .agg #[.int .u64 0, .int .u64 0, .int .u64 0, .int .u64 0, .int .u64 0, .int .u64 0, .int .u64 0, .int .u64 0, .int .u64 0, .int .u64 0, .int .u64 0, .int .u64 0]]) (res3 Try.results14 (rv_tmp rfl rfl) (rv_cells (l := [.int .u64 0, .int .u64 0, .int .u64 0, .int .u64 0, .int .u64 0, .int .u64 0, .int .u64 0, .int .u64 0, .int .u64 0, .int .u64 0, .int .u64 0, .int .u64 0]) agt40 sz40 rfl rfl H94 rfl) (rv_cells (l := [.int .u64 0, .int .u64 0, .int .u64 0, .int .u64 0, .int .u64 0, .int .u64 0, .int .u64 0, .int .u64 0, .int .u64 0, .int .u64 0, .int .u64 0, .int .u64 0]) agt40 sz40 rfl rfl H92 rfl)) ⟨_, rfl, ?_⟩
   exact ⟨0, 0, 0, 0, 0, 0, 0, 0, 0, 0, 0, 0, 0, 0, 0, 0, 0, 0, 0, 0, 0, 0, 0, 0, 0, rfl, E93, ⟨fun h => absurd rfl h, fun h => by first | exact absurd h.1 (by assumption) | exact absurd h.2.1 (by assumption)⟩⟩
end Go.Proofs.Ytmbpomcbdopgnaa.W
set_option linter.unusedVariables false
set_option linter.unusedSimpArgs false
namespace Go.Proofs.Ytmbpomcbdopgnaa.W
open Go Go.RowKit Go.Proofs.Ytmbpomcbdopgnaa.Fw
attribute [local irreducible] RunK LW AW DV OE Ct
set_option maxHeartbeats 1000000 in
theorem lbig_ok {w : World} {A : Option Addr} {l c : Nat}  : Ct Try.prog 7 [.slice A l c] w fun v w1 => v = .bool (decide (1048576 < (l : Int))) ∧ Ext w w1 := by
 refine ct_run (n := 6) Try.func7 rfl Try.ntmps7 rfl ?_
 have E0 : Below w.heap.size w w := Below.refl _ _
 refine rk_seq ?_
 refine rk_reg ?_
 refine lw_v (.bool false) (dv_assign C) ?_
 refine lw_nil ?_
 refine rk_seq ?_
 refine rk_reg ?_
 refine lw_v (.slice A l c) (dv_move (T rfl rfl)) ?_
 refine lw_v (.int .i64 ((l : Int))) (dv_len (ad := A) (l := l) (c := c) us22 (T rfl rfl)) ?_
 refine lw_v (.bool (decide (1048576 < ((l : Int))))) (dv_gtr (a := (l : Int)) (b := 1048576) (T rfl rfl) C) ?_
 refine lw_v (.bool (decide (1048576 < ((l : Int))))) (dv_assign (T rfl rfl)) ?_
 refine lw_nil ?_
 refine rk_ret Try.func7 (v := .bool (decide (1048576 < ((l : Int))))) (res1 Try.results7 (rv_tmp rfl rfl)) ⟨_, rfl, ?_⟩
 exact ⟨(vb (by rfl)), E0⟩
end Go.Proofs.Ytmbpomcbdopgnaa.W
