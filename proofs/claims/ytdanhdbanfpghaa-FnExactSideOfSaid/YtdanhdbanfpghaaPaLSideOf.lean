/- Walks of one law, packed by a program of this session. -/
import Derived.Test.YtdanhdbanfpghaaPaf
set_option linter.unusedVariables false
set_option linter.unusedSimpArgs false
namespace Go.Proofs.Ytdanhdbanfpghaa.W
open Go Go.RowKit Go.Proofs.Ytdanhdbanfpghaa.Fw
attribute [local irreducible] RunK LW AW DV OE Ct
theorem agt43 : aggB Try.prog 43 = some true := by kernel_rfl
theorem co23 : callOk Try.prog 23 = true := by kernel_rfl
theorem co24 : callOk Try.prog 24 = true := by kernel_rfl
theorem co25 : callOk Try.prog 25 = true := by kernel_rfl
theorem sz43 : sizeB Try.prog 43 = some 4 := by kernel_rfl
set_option maxHeartbeats 1000000 in
theorem lawSideOf_ok {w : World} {ax ay bx b_y x y u : Int} (fx_ : fits x) (fy_ : fits y) (fu_ : fits u) (iax_ : -9223372036854775808 ≤ ax ∧ ax ≤ 9223372036854775807) (iay_ : -9223372036854775808 ≤ ay ∧ ay ≤ 9223372036854775807) (ibx_ : -9223372036854775808 ≤ bx ∧ bx ≤ 9223372036854775807) (ib_y_ : -9223372036854775808 ≤ b_y ∧ b_y ≤ 9223372036854775807) : Ct Try.prog 5 [.agg #[.int .i64 ax, .int .i64 ay, .int .i64 bx, .int .i64 b_y], .agg #[.int .u64 (wv3 x), .int .u64 (wv2 x), .int .u64 (wv1 x), .int .u64 (wv0 x), .int .u64 (wv3 y), .int .u64 (wv2 y), .int .u64 (wv1 y), .int .u64 (wv0 y), .int .u64 (wv3 u), .int .u64 (wv2 u), .int .u64 (wv1 u), .int .u64 (wv0 u)]] w fun v w1 => v = .bool true ∧ Ext w w1 := by
 refine ct_run (n := 20) Try.func5 rfl Try.ntmps5 rfl ?_
 have E0 : Below w.heap.size w w := Below.refl _ _
 refine rk_seq ?_
 refine rk_reg ?_
 refine lw_e (oe_box (v := .agg #[.int .i64 ax, .int .i64 ay, .int .i64 bx, .int .i64 b_y]) (cs := #[.int .i64 ax, .int .i64 ay, .int .i64 bx, .int .i64 b_y]) (T rfl rfl) rfl ?_)
 intro b1 w2 n3
 have N4 : w.heap.size ≤ b1 := n3.eq ▸ E0.size
 have E5 := below_ext E0 E0.size n3.ext
 refine lw_e (oe_box (v := .agg #[.int .u64 (wv3 x), .int .u64 (wv2 x), .int .u64 (wv1 x), .int .u64 (wv0 x), .int .u64 (wv3 y), .int .u64 (wv2 y), .int .u64 (wv1 y), .int .u64 (wv0 y), .int .u64 (wv3 u), .int .u64 (wv2 u), .int .u64 (wv1 u), .int .u64 (wv0 u)]) (cs := #[.int .u64 (wv3 x), .int .u64 (wv2 x), .int .u64 (wv1 x), .int .u64 (wv0 x), .int .u64 (wv3 y), .int .u64 (wv2 y), .int .u64 (wv1 y), .int .u64 (wv0 y), .int .u64 (wv3 u), .int .u64 (wv2 u), .int .u64 (wv1 u), .int .u64 (wv0 u)]) (T rfl rfl) rfl ?_)
 intro b6 w7 n8
 have N9 : w.heap.size ≤ b6 := n8.eq ▸ E5.size
 have : b1 < b6 := n8.eq ▸ lt_of_blk n3.blk
 have E10 := below_ext E5 E5.size n8.ext
 refine lw_v (.bool false) (dv_assign C) ?_
 refine lw_nil ?_
 refine rk_seq ?_
 refine rk_any (fun w => w.heap[b1]? = some (.cells #[.int .i64 ax, .int .i64 ay, .int .i64 bx, .int .i64 b_y] 43) ∧ w.heap[b6]? = some (.cells #[.int .u64 (wv3 x), .int .u64 (wv2 x), .int .u64 (wv1 x), .int .u64 (wv0 x), .int .u64 (wv3 y), .int .u64 (wv2 y), .int .u64 (wv1 y), .int .u64 (wv0 y), .int .u64 (wv3 u), .int .u64 (wv2 u), .int .u64 (wv1 u), .int .u64 (wv0 u)] 33)) [5] mo ?_
 intro w11 d12
 have E13 := below_ext E10 E10.size d12.ext
 have H14 := (d12.ext.blk (n8.ext.blk n3.blk))
 have H15 := (d12.ext.blk n8.blk)
 refine aw_load 0 (.agg #[.int .i64 ax, .int .i64 ay, .int .i64 bx, .int .i64 b_y]) rfl (by kernel_rfl) .none ⟨H14, H15⟩ (fun _ s => dv_loads (l := [.int .i64 ax, .int .i64 ay, .int .i64 bx, .int .i64 b_y]) agt43 sz43 (T rfl rfl) s.1 rfl) ?_
 refine aw_load 2 (.agg #[.int .u64 (wv3 x), .int .u64 (wv2 x), .int .u64 (wv1 x), .int .u64 (wv0 x), .int .u64 (wv3 y), .int .u64 (wv2 y), .int .u64 (wv1 y), .int .u64 (wv0 y), .int .u64 (wv3 u), .int .u64 (wv2 u), .int .u64 (wv1 u), .int .u64 (wv0 u)]) rfl (by kernel_rfl) .none ⟨H14, H15⟩ (fun _ s => dv_loads (l := [.int .u64 (wv3 x), .int .u64 (wv2 x), .int .u64 (wv1 x), .int .u64 (wv0 x), .int .u64 (wv3 y), .int .u64 (wv2 y), .int .u64 (wv1 y), .int .u64 (wv0 y), .int .u64 (wv3 u), .int .u64 (wv2 u), .int .u64 (wv1 u), .int .u64 (wv0 u)]) agt33 sz33 (T rfl rfl) s.2 rfl) ?_
 refine aw_one 1 rfl (by kernel_rfl) .none (oe_callf (vs := [.agg #[.int .i64 ax, .int .i64 ay, .int .i64 bx, .int .i64 b_y]]) co24 (ar1 (T rfl rfl)) (toSeg_ok (ax := ax) (ay := ay) (bx := bx) (b_y := b_y)  ) ?_)
 rintro _ w16 ⟨rfl, e17⟩
 have E18 := below_ext E13 E13.size e17
 have H19 := (e17.blk H14)
 have H20 := (e17.blk H15)
 refine ⟨.inr ⟨H19, H20⟩, ?_⟩
 refine aw_one 3 rfl (by kernel_rfl) .none (oe_callf (vs := [.agg #[.int .u64 (wv3 x), .int .u64 (wv2 x), .int .u64 (wv1 x), .int .u64 (wv0 x), .int .u64 (wv3 y), .int .u64 (wv2 y), .int .u64 (wv1 y), .int .u64 (wv0 y), .int .u64 (wv3 u), .int .u64 (wv2 u), .int .u64 (wv1 u), .int .u64 (wv0 u)]]) co21 (ar1 (T rfl rfl)) (toPoint_ok (x := x) (y := y) (u := u)  ) ?_)
 rintro _ w21 ⟨rfl, e22⟩
 have E23 := below_ext E18 E18.size e22
 have H24 := (e22.blk H19)
 have H25 := (e22.blk H20)
 refine ⟨.inr ⟨H24, H25⟩, ?_⟩
 refine aw_one 4 rfl (by kernel_rfl) .none (oe_callf (vs := [.agg #[.int .i64 ax, .int .i64 ay, .int .i64 bx, .int .i64 b_y], .agg #[.int .u64 (wv3 x), .int .u64 (wv2 x), .int .u64 (wv1 x), .int .u64 (wv0 x), .int .u64 (wv3 y), .int .u64 (wv2 y), .int .u64 (wv1 y), .int .u64 (wv0 y), .int .u64 (wv3 u), .int .u64 (wv2 u), .int .u64 (wv1 u), .int .u64 (wv0 u)]]) co23 (ar2 (T rfl rfl) (T rfl rfl)) (sSideOf_ok (ax := ax) (ay := ay) (bx := bx) (b_y := b_y) (x := x) (y := y) (u := u) fx_ fy_ fu_ ) ?_)
 rintro _ w26 ⟨rfl, e27⟩
 have E28 := below_ext E23 E23.size e27
 have H29 := (e27.blk H24)
 have H30 := (e27.blk H25)
 refine ⟨.inr ⟨H29, H30⟩, ?_⟩
 refine aw_last 5 (.int .i64 (sideR ax ay bx b_y x y u)) rfl (by kernel_rfl) .none (fun _ => dv_assign (T rfl rfl)) ?_
 refine aw_done (by kernel_rfl) ?_
 refine rk_seq ?_
 refine rk_any (fun w => w.heap[b1]? = some (.cells #[.int .i64 ax, .int .i64 ay, .int .i64 bx, .int .i64 b_y] 43) ∧ w.heap[b6]? = some (.cells #[.int .u64 (wv3 x), .int .u64 (wv2 x), .int .u64 (wv1 x), .int .u64 (wv0 x), .int .u64 (wv3 y), .int .u64 (wv2 y), .int .u64 (wv1 y), .int .u64 (wv0 y), .int .u64 (wv3 u), .int .u64 (wv2 u), .int .u64 (wv1 u), .int .u64 (wv0 u)] 33)) [5] mo ?_
 intro w31 d32
 have E33 := below_ext E28 E28.size d32.ext
 have H34 := (d32.ext.blk H29)
 have H35 := (d32.ext.blk H30)
 refine aw_load 0 (.agg #[.int .i64 ax, .int .i64 ay, .int .i64 bx, .int .i64 b_y]) rfl (by kernel_rfl) .none ⟨H34, H35⟩ (fun _ s => dv_loads (l := [.int .i64 ax, .int .i64 ay, .int .i64 bx, .int .i64 b_y]) agt43 sz43 (T rfl rfl) s.1 rfl) ?_
 refine aw_load 2 (.agg #[.int .u64 (wv3 x), .int .u64 (wv2 x), .int .u64 (wv1 x), .int .u64 (wv0 x), .int .u64 (wv3 y), .int .u64 (wv2 y), .int .u64 (wv1 y), .int .u64 (wv0 y), .int .u64 (wv3 u), .int .u64 (wv2 u), .int .u64 (wv1 u), .int .u64 (wv0 u)]) rfl (by kernel_rfl) .none ⟨H34, H35⟩ (fun _ s => dv_loads (l := [.int .u64 (wv3 x), .int .u64 (wv2 x), .int .u64 (wv1 x), .int .u64 (wv0 x), .int .u64 (wv3 y), .int .u64 (wv2 y), .int .u64 (wv1 y), .int .u64 (wv0 y), .int .u64 (wv3 u), .int .u64 (wv2 u), .int .u64 (wv1 u), .int .u64 (wv0 u)]) agt33 sz33 (T rfl rfl) s.2 rfl) ?_
 refine aw_one 1 rfl (by kernel_rfl) .none (oe_callf (vs := [.agg #[.int .i64 ax, .int .i64 ay, .int .i64 bx, .int .i64 b_y]]) co24 (ar1 (T rfl rfl)) (toSeg_ok (ax := ax) (ay := ay) (bx := bx) (b_y := b_y)  ) ?_)
 rintro _ w36 ⟨rfl, e37⟩
 have E38 := below_ext E33 E33.size e37
 have H39 := (e37.blk H34)
 have H40 := (e37.blk H35)
 refine ⟨.inr ⟨H39, H40⟩, ?_⟩
 refine aw_one 3 rfl (by kernel_rfl) .none (oe_callf (vs := [.agg #[.int .u64 (wv3 x), .int .u64 (wv2 x), .int .u64 (wv1 x), .int .u64 (wv0 x), .int .u64 (wv3 y), .int .u64 (wv2 y), .int .u64 (wv1 y), .int .u64 (wv0 y), .int .u64 (wv3 u), .int .u64 (wv2 u), .int .u64 (wv1 u), .int .u64 (wv0 u)]]) co21 (ar1 (T rfl rfl)) (toPoint_ok (x := x) (y := y) (u := u)  ) ?_)
 rintro _ w41 ⟨rfl, e42⟩
 have E43 := below_ext E38 E38.size e42
 have H44 := (e42.blk H39)
 have H45 := (e42.blk H40)
 refine ⟨.inr ⟨H44, H45⟩, ?_⟩
 refine aw_one 4 rfl (by kernel_rfl) .none (oe_callf (vs := [.agg #[.int .i64 ax, .int .i64 ay, .int .i64 bx, .int .i64 b_y], .agg #[.int .u64 (wv3 x), .int .u64 (wv2 x), .int .u64 (wv1 x), .int .u64 (wv0 x), .int .u64 (wv3 y), .int .u64 (wv2 y), .int .u64 (wv1 y), .int .u64 (wv0 y), .int .u64 (wv3 u), .int .u64 (wv2 u), .int .u64 (wv1 u), .int .u64 (wv0 u)]]) co25 (ar2 (T rfl rfl) (T rfl rfl)) (iSideOf_ok (ax := ax) (ay := ay) (bx := bx) (b_y := b_y) (x := x) (y := y) (u := u) fx_ fy_ fu_ ) ?_)
 rintro _ w46 ⟨rfl, e47⟩
 have E48 := below_ext E43 E43.size e47
 have H49 := (e47.blk H44)
 have H50 := (e47.blk H45)
 refine ⟨.inr ⟨H49, H50⟩, ?_⟩
 refine aw_last 5 (.int .i64 (sideR ax ay bx b_y x y u)) rfl (by kernel_rfl) .none (fun _ => dv_assign (T rfl rfl)) ?_
 refine aw_done (by kernel_rfl) ?_
 refine rk_seq ?_
 refine rk_seq ?_
 refine rk_reg ?_
 refine lw_v (.int .i64 (sideR ax ay bx b_y x y u)) (dv_move (T rfl rfl)) ?_
 refine lw_v (.int .i64 (sideR ax ay bx b_y x y u)) (dv_move (T rfl rfl)) ?_
 refine lw_v (.bool (decide ((sideR ax ay bx b_y x y u) ≠ (sideR ax ay bx b_y x y u)))) (dv_neq (a := sideR ax ay bx b_y x y u) (b := sideR ax ay bx b_y x y u) (T rfl rfl) (T rfl rfl)) ?_
 refine lw_nil ?_
 by_cases hb51 : (sideR ax ay bx b_y x y u) ≠ (sideR ax ay bx b_y x y u)
 · refine rk_ct (T rfl (congrArg Value.bool (decide_eq_true hb51))) ?_
   refine rk_seq ?_
   refine rk_reg ?_
   refine lw_v (.bool false) (dv_assign C) ?_
   refine lw_nil ?_
   refine rk_ret Try.func5 (v := .bool false) (res1 Try.results5 (rv_tmp rfl rfl)) ⟨_, rfl, ?_⟩
   exact ⟨(by exfalso; grind), E48⟩
 · refine rk_cf (T rfl (congrArg Value.bool (decide_eq_false hb51))) ?_
   refine rk_skip ?_
   refine rk_seq ?_
   refine rk_reg ?_
   refine lw_v (.bool true) (dv_assign C) ?_
   refine lw_nil ?_
   refine rk_ret Try.func5 (v := .bool true) (res1 Try.results5 (rv_tmp rfl rfl)) ⟨_, rfl, ?_⟩
   exact ⟨rfl, E48⟩
theorem lawSideOf_w {w : World} {ax ay bx b_y x3 x2 x1 x0 y3 y2 y1 y0 u3 u2 u1 u0 : Int} (iax_ : -9223372036854775808 ≤ ax ∧ ax ≤ 9223372036854775807) (iay_ : -9223372036854775808 ≤ ay ∧ ay ≤ 9223372036854775807) (ibx_ : -9223372036854775808 ≤ bx ∧ bx ≤ 9223372036854775807) (ib_y_ : -9223372036854775808 ≤ b_y ∧ b_y ≤ 9223372036854775807) (hx3 : 0 ≤ x3 ∧ x3 < 18446744073709551616) (hx2 : 0 ≤ x2 ∧ x2 < 18446744073709551616) (hx1 : 0 ≤ x1 ∧ x1 < 18446744073709551616) (hx0 : 0 ≤ x0 ∧ x0 < 18446744073709551616) (hy3 : 0 ≤ y3 ∧ y3 < 18446744073709551616) (hy2 : 0 ≤ y2 ∧ y2 < 18446744073709551616) (hy1 : 0 ≤ y1 ∧ y1 < 18446744073709551616) (hy0 : 0 ≤ y0 ∧ y0 < 18446744073709551616) (hu3 : 0 ≤ u3 ∧ u3 < 18446744073709551616) (hu2 : 0 ≤ u2 ∧ u2 < 18446744073709551616) (hu1 : 0 ≤ u1 ∧ u1 < 18446744073709551616) (hu0 : 0 ≤ u0 ∧ u0 < 18446744073709551616) : Ct Try.prog 5 [.agg #[.int .i64 ax, .int .i64 ay, .int .i64 bx, .int .i64 b_y], .agg #[.int .u64 x3, .int .u64 x2, .int .u64 x1, .int .u64 x0, .int .u64 y3, .int .u64 y2, .int .u64 y1, .int .u64 y0, .int .u64 u3, .int .u64 u2, .int .u64 u1, .int .u64 u0]] w fun v w1 => v = .bool true ∧ Ext w w1 := by
 obtain ⟨x, fx, rfl, rfl, rfl, rfl⟩ := words_z hx3 hx2 hx1 hx0
 obtain ⟨y, fy, rfl, rfl, rfl, rfl⟩ := words_z hy3 hy2 hy1 hy0
 obtain ⟨u, fu, rfl, rfl, rfl, rfl⟩ := words_z hu3 hu2 hu1 hu0
 exact lawSideOf_ok fx fy fu iax_ iay_ ibx_ ib_y_
end Go.Proofs.Ytdanhdbanfpghaa.W
