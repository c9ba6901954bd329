/- Walks of one law, packed by a program of this session. -/
import Derived.Test.YtdanhdbanfpghaaPaf
set_option linter.unusedVariables false
set_option linter.unusedSimpArgs false
namespace Go.Proofs.Ytdanhdbanfpghaa.W
open Go Go.RowKit Go.Proofs.Ytdanhdbanfpghaa.Fw
attribute [local irreducible] RunK LW AW DV OE Ct
set_option maxHeartbeats 1000000 in
theorem lawBetween_ok {w : World} {x y u p q r xt yt ut : Int} (fx_ : fits x) (fy_ : fits y) (fu_ : fits u) (fp_ : fits p) (fq_ : fits q) (fr_ : fits r) (fxt_ : fits xt) (fyt_ : fits yt) (fut_ : fits ut)  : Ct Try.prog 4 [.agg #[.int .u64 (wv3 x), .int .u64 (wv2 x), .int .u64 (wv1 x), .int .u64 (wv0 x), .int .u64 (wv3 y), .int .u64 (wv2 y), .int .u64 (wv1 y), .int .u64 (wv0 y), .int .u64 (wv3 u), .int .u64 (wv2 u), .int .u64 (wv1 u), .int .u64 (wv0 u)], .agg #[.int .u64 (wv3 p), .int .u64 (wv2 p), .int .u64 (wv1 p), .int .u64 (wv0 p), .int .u64 (wv3 q), .int .u64 (wv2 q), .int .u64 (wv1 q), .int .u64 (wv0 q), .int .u64 (wv3 r), .int .u64 (wv2 r), .int .u64 (wv1 r), .int .u64 (wv0 r)], .agg #[.int .u64 (wv3 xt), .int .u64 (wv2 xt), .int .u64 (wv1 xt), .int .u64 (wv0 xt), .int .u64 (wv3 yt), .int .u64 (wv2 yt), .int .u64 (wv1 yt), .int .u64 (wv0 yt), .int .u64 (wv3 ut), .int .u64 (wv2 ut), .int .u64 (wv1 ut), .int .u64 (wv0 ut)]] w fun v w1 => v = .bool true ∧ Ext w w1 := by
 refine ct_run (n := 26) Try.func4 rfl Try.ntmps4 rfl ?_
 have E0 : Below w.heap.size w w := Below.refl _ _
 refine rk_seq ?_
 refine rk_reg ?_
 refine lw_e (oe_box (v := .agg #[.int .u64 (wv3 x), .int .u64 (wv2 x), .int .u64 (wv1 x), .int .u64 (wv0 x), .int .u64 (wv3 y), .int .u64 (wv2 y), .int .u64 (wv1 y), .int .u64 (wv0 y), .int .u64 (wv3 u), .int .u64 (wv2 u), .int .u64 (wv1 u), .int .u64 (wv0 u)]) (cs := #[.int .u64 (wv3 x), .int .u64 (wv2 x), .int .u64 (wv1 x), .int .u64 (wv0 x), .int .u64 (wv3 y), .int .u64 (wv2 y), .int .u64 (wv1 y), .int .u64 (wv0 y), .int .u64 (wv3 u), .int .u64 (wv2 u), .int .u64 (wv1 u), .int .u64 (wv0 u)]) (T rfl rfl) rfl ?_)
 intro b1 w2 n3
 have N4 : w.heap.size ≤ b1 := n3.eq ▸ E0.size
 have E5 := below_ext E0 E0.size n3.ext
 refine lw_e (oe_box (v := .agg #[.int .u64 (wv3 p), .int .u64 (wv2 p), .int .u64 (wv1 p), .int .u64 (wv0 p), .int .u64 (wv3 q), .int .u64 (wv2 q), .int .u64 (wv1 q), .int .u64 (wv0 q), .int .u64 (wv3 r), .int .u64 (wv2 r), .int .u64 (wv1 r), .int .u64 (wv0 r)]) (cs := #[.int .u64 (wv3 p), .int .u64 (wv2 p), .int .u64 (wv1 p), .int .u64 (wv0 p), .int .u64 (wv3 q), .int .u64 (wv2 q), .int .u64 (wv1 q), .int .u64 (wv0 q), .int .u64 (wv3 r), .int .u64 (wv2 r), .int .u64 (wv1 r), .int .u64 (wv0 r)]) (T rfl rfl) rfl ?_)
 intro b6 w7 n8
 have N9 : w.heap.size ≤ b6 := n8.eq ▸ E5.size
 have : b1 < b6 := n8.eq ▸ lt_of_blk n3.blk
 have E10 := below_ext E5 E5.size n8.ext
 refine lw_e (oe_box (v := .agg #[.int .u64 (wv3 xt), .int .u64 (wv2 xt), .int .u64 (wv1 xt), .int .u64 (wv0 xt), .int .u64 (wv3 yt), .int .u64 (wv2 yt), .int .u64 (wv1 yt), .int .u64 (wv0 yt), .int .u64 (wv3 ut), .int .u64 (wv2 ut), .int .u64 (wv1 ut), .int .u64 (wv0 ut)]) (cs := #[.int .u64 (wv3 xt), .int .u64 (wv2 xt), .int .u64 (wv1 xt), .int .u64 (wv0 xt), .int .u64 (wv3 yt), .int .u64 (wv2 yt), .int .u64 (wv1 yt), .int .u64 (wv0 yt), .int .u64 (wv3 ut), .int .u64 (wv2 ut), .int .u64 (wv1 ut), .int .u64 (wv0 ut)]) (T rfl rfl) rfl ?_)
 intro b11 w12 n13
 have N14 : w.heap.size ≤ b11 := n13.eq ▸ E10.size
 have : b6 < b11 := n13.eq ▸ lt_of_blk n8.blk
 have E15 := below_ext E10 E10.size n13.ext
 refine lw_v (.bool false) (dv_assign C) ?_
 refine lw_nil ?_
 refine rk_seq ?_
 refine rk_any (fun w => w.heap[b1]? = some (.cells #[.int .u64 (wv3 x), .int .u64 (wv2 x), .int .u64 (wv1 x), .int .u64 (wv0 x), .int .u64 (wv3 y), .int .u64 (wv2 y), .int .u64 (wv1 y), .int .u64 (wv0 y), .int .u64 (wv3 u), .int .u64 (wv2 u), .int .u64 (wv1 u), .int .u64 (wv0 u)] 33) ∧ w.heap[b6]? = some (.cells #[.int .u64 (wv3 p), .int .u64 (wv2 p), .int .u64 (wv1 p), .int .u64 (wv0 p), .int .u64 (wv3 q), .int .u64 (wv2 q), .int .u64 (wv1 q), .int .u64 (wv0 q), .int .u64 (wv3 r), .int .u64 (wv2 r), .int .u64 (wv1 r), .int .u64 (wv0 r)] 33) ∧ w.heap[b11]? = some (.cells #[.int .u64 (wv3 xt), .int .u64 (wv2 xt), .int .u64 (wv1 xt), .int .u64 (wv0 xt), .int .u64 (wv3 yt), .int .u64 (wv2 yt), .int .u64 (wv1 yt), .int .u64 (wv0 yt), .int .u64 (wv3 ut), .int .u64 (wv2 ut), .int .u64 (wv1 ut), .int .u64 (wv0 ut)] 33)) [7] mo ?_
 intro w16 d17
 have E18 := below_ext E15 E15.size d17.ext
 have H19 := (d17.ext.blk (n13.ext.blk (n8.ext.blk n3.blk)))
 have H20 := (d17.ext.blk (n13.ext.blk n8.blk))
 have H21 := (d17.ext.blk n13.blk)
 refine aw_load 0 (.agg #[.int .u64 (wv3 x), .int .u64 (wv2 x), .int .u64 (wv1 x), .int .u64 (wv0 x), .int .u64 (wv3 y), .int .u64 (wv2 y), .int .u64 (wv1 y), .int .u64 (wv0 y), .int .u64 (wv3 u), .int .u64 (wv2 u), .int .u64 (wv1 u), .int .u64 (wv0 u)]) rfl (by kernel_rfl) .none ⟨H19, H20, H21⟩ (fun _ s => dv_loads (l := [.int .u64 (wv3 x), .int .u64 (wv2 x), .int .u64 (wv1 x), .int .u64 (wv0 x), .int .u64 (wv3 y), .int .u64 (wv2 y), .int .u64 (wv1 y), .int .u64 (wv0 y), .int .u64 (wv3 u), .int .u64 (wv2 u), .int .u64 (wv1 u), .int .u64 (wv0 u)]) agt33 sz33 (T rfl rfl) s.1 rfl) ?_
 refine aw_load 2 (.agg #[.int .u64 (wv3 p), .int .u64 (wv2 p), .int .u64 (wv1 p), .int .u64 (wv0 p), .int .u64 (wv3 q), .int .u64 (wv2 q), .int .u64 (wv1 q), .int .u64 (wv0 q), .int .u64 (wv3 r), .int .u64 (wv2 r), .int .u64 (wv1 r), .int .u64 (wv0 r)]) rfl (by kernel_rfl) .none ⟨H19, H20, H21⟩ (fun _ s => dv_loads (l := [.int .u64 (wv3 p), .int .u64 (wv2 p), .int .u64 (wv1 p), .int .u64 (wv0 p), .int .u64 (wv3 q), .int .u64 (wv2 q), .int .u64 (wv1 q), .int .u64 (wv0 q), .int .u64 (wv3 r), .int .u64 (wv2 r), .int .u64 (wv1 r), .int .u64 (wv0 r)]) agt33 sz33 (T rfl rfl) s.2.1 rfl) ?_
 refine aw_load 4 (.agg #[.int .u64 (wv3 xt), .int .u64 (wv2 xt), .int .u64 (wv1 xt), .int .u64 (wv0 xt), .int .u64 (wv3 yt), .int .u64 (wv2 yt), .int .u64 (wv1 yt), .int .u64 (wv0 yt), .int .u64 (wv3 ut), .int .u64 (wv2 ut), .int .u64 (wv1 ut), .int .u64 (wv0 ut)]) rfl (by kernel_rfl) .none ⟨H19, H20, H21⟩ (fun _ s => dv_loads (l := [.int .u64 (wv3 xt), .int .u64 (wv2 xt), .int .u64 (wv1 xt), .int .u64 (wv0 xt), .int .u64 (wv3 yt), .int .u64 (wv2 yt), .int .u64 (wv1 yt), .int .u64 (wv0 yt), .int .u64 (wv3 ut), .int .u64 (wv2 ut), .int .u64 (wv1 ut), .int .u64 (wv0 ut)]) agt33 sz33 (T rfl rfl) s.2.2 rfl) ?_
 refine aw_one 1 rfl (by kernel_rfl) .none (oe_callf (vs := [.agg #[.int .u64 (wv3 x), .int .u64 (wv2 x), .int .u64 (wv1 x), .int .u64 (wv0 x), .int .u64 (wv3 y), .int .u64 (wv2 y), .int .u64 (wv1 y), .int .u64 (wv0 y), .int .u64 (wv3 u), .int .u64 (wv2 u), .int .u64 (wv1 u), .int .u64 (wv0 u)]]) co21 (ar1 (T rfl rfl)) (toPoint_ok (x := x) (y := y) (u := u)  ) ?_)
 rintro _ w22 ⟨rfl, e23⟩
 have E24 := below_ext E18 E18.size e23
 have H25 := (e23.blk H19)
 have H26 := (e23.blk H20)
 have H27 := (e23.blk H21)
 refine ⟨.inr ⟨H25, H26, H27⟩, ?_⟩
 refine aw_one 3 rfl (by kernel_rfl) .none (oe_callf (vs := [.agg #[.int .u64 (wv3 p), .int .u64 (wv2 p), .int .u64 (wv1 p), .int .u64 (wv0 p), .int .u64 (wv3 q), .int .u64 (wv2 q), .int .u64 (wv1 q), .int .u64 (wv0 q), .int .u64 (wv3 r), .int .u64 (wv2 r), .int .u64 (wv1 r), .int .u64 (wv0 r)]]) co21 (ar1 (T rfl rfl)) (toPoint_ok (x := p) (y := q) (u := r)  ) ?_)
 rintro _ w28 ⟨rfl, e29⟩
 have E30 := below_ext E24 E24.size e29
 have H31 := (e29.blk H25)
 have H32 := (e29.blk H26)
 have H33 := (e29.blk H27)
 refine ⟨.inr ⟨H31, H32, H33⟩, ?_⟩
 refine aw_one 5 rfl (by kernel_rfl) .none (oe_callf (vs := [.agg #[.int .u64 (wv3 xt), .int .u64 (wv2 xt), .int .u64 (wv1 xt), .int .u64 (wv0 xt), .int .u64 (wv3 yt), .int .u64 (wv2 yt), .int .u64 (wv1 yt), .int .u64 (wv0 yt), .int .u64 (wv3 ut), .int .u64 (wv2 ut), .int .u64 (wv1 ut), .int .u64 (wv0 ut)]]) co21 (ar1 (T rfl rfl)) (toPoint_ok (x := xt) (y := yt) (u := ut)  ) ?_)
 rintro _ w34 ⟨rfl, e35⟩
 have E36 := below_ext E30 E30.size e35
 have H37 := (e35.blk H31)
 have H38 := (e35.blk H32)
 have H39 := (e35.blk H33)
 refine ⟨.inr ⟨H37, H38, H39⟩, ?_⟩
 refine aw_one 6 rfl (by kernel_rfl) .none (oe_callf (vs := [.agg #[.int .u64 (wv3 x), .int .u64 (wv2 x), .int .u64 (wv1 x), .int .u64 (wv0 x), .int .u64 (wv3 y), .int .u64 (wv2 y), .int .u64 (wv1 y), .int .u64 (wv0 y), .int .u64 (wv3 u), .int .u64 (wv2 u), .int .u64 (wv1 u), .int .u64 (wv0 u)], .agg #[.int .u64 (wv3 p), .int .u64 (wv2 p), .int .u64 (wv1 p), .int .u64 (wv0 p), .int .u64 (wv3 q), .int .u64 (wv2 q), .int .u64 (wv1 q), .int .u64 (wv0 q), .int .u64 (wv3 r), .int .u64 (wv2 r), .int .u64 (wv1 r), .int .u64 (wv0 r)], .agg #[.int .u64 (wv3 xt), .int .u64 (wv2 xt), .int .u64 (wv1 xt), .int .u64 (wv0 xt), .int .u64 (wv3 yt), .int .u64 (wv2 yt), .int .u64 (wv1 yt), .int .u64 (wv0 yt), .int .u64 (wv3 ut), .int .u64 (wv2 ut), .int .u64 (wv1 ut), .int .u64 (wv0 ut)]]) co20 (ar3 (T rfl rfl) (T rfl rfl) (T rfl rfl)) (sBetween_ok (x := x) (y := y) (u := u) (p := p) (q := q) (r := r) (xt := xt) (yt := yt) (ut := ut) fx_ fy_ fu_ fp_ fq_ fr_ fxt_ fyt_ fut_ ) ?_)
 rintro _ w40 ⟨rfl, e41⟩
 have E42 := below_ext E36 E36.size e41
 have H43 := (e41.blk H37)
 have H44 := (e41.blk H38)
 have H45 := (e41.blk H39)
 refine ⟨.inr ⟨H43, H44, H45⟩, ?_⟩
 refine aw_last 7 (.bool (decide ((pOk x y u ∧ pOk p q r ∧ pOk xt yt ut) ∧ btw x y u p q r xt yt ut))) rfl (by kernel_rfl) .none (fun _ => dv_assign (T rfl rfl)) ?_
 refine aw_done (by kernel_rfl) ?_
 refine rk_seq ?_
 refine rk_any (fun w => w.heap[b1]? = some (.cells #[.int .u64 (wv3 x), .int .u64 (wv2 x), .int .u64 (wv1 x), .int .u64 (wv0 x), .int .u64 (wv3 y), .int .u64 (wv2 y), .int .u64 (wv1 y), .int .u64 (wv0 y), .int .u64 (wv3 u), .int .u64 (wv2 u), .int .u64 (wv1 u), .int .u64 (wv0 u)] 33) ∧ w.heap[b6]? = some (.cells #[.int .u64 (wv3 p), .int .u64 (wv2 p), .int .u64 (wv1 p), .int .u64 (wv0 p), .int .u64 (wv3 q), .int .u64 (wv2 q), .int .u64 (wv1 q), .int .u64 (wv0 q), .int .u64 (wv3 r), .int .u64 (wv2 r), .int .u64 (wv1 r), .int .u64 (wv0 r)] 33) ∧ w.heap[b11]? = some (.cells #[.int .u64 (wv3 xt), .int .u64 (wv2 xt), .int .u64 (wv1 xt), .int .u64 (wv0 xt), .int .u64 (wv3 yt), .int .u64 (wv2 yt), .int .u64 (wv1 yt), .int .u64 (wv0 yt), .int .u64 (wv3 ut), .int .u64 (wv2 ut), .int .u64 (wv1 ut), .int .u64 (wv0 ut)] 33)) [7] mo ?_
 intro w46 d47
 have E48 := below_ext E42 E42.size d47.ext
 have H49 := (d47.ext.blk H43)
 have H50 := (d47.ext.blk H44)
 have H51 := (d47.ext.blk H45)
 refine aw_load 0 (.agg #[.int .u64 (wv3 x), .int .u64 (wv2 x), .int .u64 (wv1 x), .int .u64 (wv0 x), .int .u64 (wv3 y), .int .u64 (wv2 y), .int .u64 (wv1 y), .int .u64 (wv0 y), .int .u64 (wv3 u), .int .u64 (wv2 u), .int .u64 (wv1 u), .int .u64 (wv0 u)]) rfl (by kernel_rfl) .none ⟨H49, H50, H51⟩ (fun _ s => dv_loads (l := [.int .u64 (wv3 x), .int .u64 (wv2 x), .int .u64 (wv1 x), .int .u64 (wv0 x), .int .u64 (wv3 y), .int .u64 (wv2 y), .int .u64 (wv1 y), .int .u64 (wv0 y), .int .u64 (wv3 u), .int .u64 (wv2 u), .int .u64 (wv1 u), .int .u64 (wv0 u)]) agt33 sz33 (T rfl rfl) s.1 rfl) ?_
 refine aw_load 2 (.agg #[.int .u64 (wv3 p), .int .u64 (wv2 p), .int .u64 (wv1 p), .int .u64 (wv0 p), .int .u64 (wv3 q), .int .u64 (wv2 q), .int .u64 (wv1 q), .int .u64 (wv0 q), .int .u64 (wv3 r), .int .u64 (wv2 r), .int .u64 (wv1 r), .int .u64 (wv0 r)]) rfl (by kernel_rfl) .none ⟨H49, H50, H51⟩ (fun _ s => dv_loads (l := [.int .u64 (wv3 p), .int .u64 (wv2 p), .int .u64 (wv1 p), .int .u64 (wv0 p), .int .u64 (wv3 q), .int .u64 (wv2 q), .int .u64 (wv1 q), .int .u64 (wv0 q), .int .u64 (wv3 r), .int .u64 (wv2 r), .int .u64 (wv1 r), .int .u64 (wv0 r)]) agt33 sz33 (T rfl rfl) s.2.1 rfl) ?_
 refine aw_load 4 (.agg #[.int .u64 (wv3 xt), .int .u64 (wv2 xt), .int .u64 (wv1 xt), .int .u64 (wv0 xt), .int .u64 (wv3 yt), .int .u64 (wv2 yt), .int .u64 (wv1 yt), .int .u64 (wv0 yt), .int .u64 (wv3 ut), .int .u64 (wv2 ut), .int .u64 (wv1 ut), .int .u64 (wv0 ut)]) rfl (by kernel_rfl) .none ⟨H49, H50, H51⟩ (fun _ s => dv_loads (l := [.int .u64 (wv3 xt), .int .u64 (wv2 xt), .int .u64 (wv1 xt), .int .u64 (wv0 xt), .int .u64 (wv3 yt), .int .u64 (wv2 yt), .int .u64 (wv1 yt), .int .u64 (wv0 yt), .int .u64 (wv3 ut), .int .u64 (wv2 ut), .int .u64 (wv1 ut), .int .u64 (wv0 ut)]) agt33 sz33 (T rfl rfl) s.2.2 rfl) ?_
 refine aw_one 1 rfl (by kernel_rfl) .none (oe_callf (vs := [.agg #[.int .u64 (wv3 x), .int .u64 (wv2 x), .int .u64 (wv1 x), .int .u64 (wv0 x), .int .u64 (wv3 y), .int .u64 (wv2 y), .int .u64 (wv1 y), .int .u64 (wv0 y), .int .u64 (wv3 u), .int .u64 (wv2 u), .int .u64 (wv1 u), .int .u64 (wv0 u)]]) co21 (ar1 (T rfl rfl)) (toPoint_ok (x := x) (y := y) (u := u)  ) ?_)
 rintro _ w52 ⟨rfl, e53⟩
 have E54 := below_ext E48 E48.size e53
 have H55 := (e53.blk H49)
 have H56 := (e53.blk H50)
 have H57 := (e53.blk H51)
 refine ⟨.inr ⟨H55, H56, H57⟩, ?_⟩
 refine aw_one 3 rfl (by kernel_rfl) .none (oe_callf (vs := [.agg #[.int .u64 (wv3 p), .int .u64 (wv2 p), .int .u64 (wv1 p), .int .u64 (wv0 p), .int .u64 (wv3 q), .int .u64 (wv2 q), .int .u64 (wv1 q), .int .u64 (wv0 q), .int .u64 (wv3 r), .int .u64 (wv2 r), .int .u64 (wv1 r), .int .u64 (wv0 r)]]) co21 (ar1 (T rfl rfl)) (toPoint_ok (x := p) (y := q) (u := r)  ) ?_)
 rintro _ w58 ⟨rfl, e59⟩
 have E60 := below_ext E54 E54.size e59
 have H61 := (e59.blk H55)
 have H62 := (e59.blk H56)
 have H63 := (e59.blk H57)
 refine ⟨.inr ⟨H61, H62, H63⟩, ?_⟩
 refine aw_one 5 rfl (by kernel_rfl) .none (oe_callf (vs := [.agg #[.int .u64 (wv3 xt), .int .u64 (wv2 xt), .int .u64 (wv1 xt), .int .u64 (wv0 xt), .int .u64 (wv3 yt), .int .u64 (wv2 yt), .int .u64 (wv1 yt), .int .u64 (wv0 yt), .int .u64 (wv3 ut), .int .u64 (wv2 ut), .int .u64 (wv1 ut), .int .u64 (wv0 ut)]]) co21 (ar1 (T rfl rfl)) (toPoint_ok (x := xt) (y := yt) (u := ut)  ) ?_)
 rintro _ w64 ⟨rfl, e65⟩
 have E66 := below_ext E60 E60.size e65
 have H67 := (e65.blk H61)
 have H68 := (e65.blk H62)
 have H69 := (e65.blk H63)
 refine ⟨.inr ⟨H67, H68, H69⟩, ?_⟩
 refine aw_one 6 rfl (by kernel_rfl) .none (oe_callf (vs := [.agg #[.int .u64 (wv3 x), .int .u64 (wv2 x), .int .u64 (wv1 x), .int .u64 (wv0 x), .int .u64 (wv3 y), .int .u64 (wv2 y), .int .u64 (wv1 y), .int .u64 (wv0 y), .int .u64 (wv3 u), .int .u64 (wv2 u), .int .u64 (wv1 u), .int .u64 (wv0 u)], .agg #[.int .u64 (wv3 p), .int .u64 (wv2 p), .int .u64 (wv1 p), .int .u64 (wv0 p), .int .u64 (wv3 q), .int .u64 (wv2 q), .int .u64 (wv1 q), .int .u64 (wv0 q), .int .u64 (wv3 r), .int .u64 (wv2 r), .int .u64 (wv1 r), .int .u64 (wv0 r)], .agg #[.int .u64 (wv3 xt), .int .u64 (wv2 xt), .int .u64 (wv1 xt), .int .u64 (wv0 xt), .int .u64 (wv3 yt), .int .u64 (wv2 yt), .int .u64 (wv1 yt), .int .u64 (wv0 yt), .int .u64 (wv3 ut), .int .u64 (wv2 ut), .int .u64 (wv1 ut), .int .u64 (wv0 ut)]]) co22 (ar3 (T rfl rfl) (T rfl rfl) (T rfl rfl)) (iBetween_ok (x := x) (y := y) (u := u) (p := p) (q := q) (r := r) (xt := xt) (yt := yt) (ut := ut) fx_ fy_ fu_ fp_ fq_ fr_ fxt_ fyt_ fut_ ) ?_)
 rintro _ w70 ⟨rfl, e71⟩
 have E72 := below_ext E66 E66.size e71
 have H73 := (e71.blk H67)
 have H74 := (e71.blk H68)
 have H75 := (e71.blk H69)
 refine ⟨.inr ⟨H73, H74, H75⟩, ?_⟩
 refine aw_last 7 (.bool (decide ((pOk x y u ∧ pOk p q r ∧ pOk xt yt ut) ∧ btw x y u p q r xt yt ut))) rfl (by kernel_rfl) .none (fun _ => dv_assign (T rfl rfl)) ?_
 refine aw_done (by kernel_rfl) ?_
 refine rk_seq ?_
 refine rk_seq ?_
 refine rk_reg ?_
 refine lw_v (.bool (decide ((pOk x y u ∧ pOk p q r ∧ pOk xt yt ut) ∧ btw x y u p q r xt yt ut))) (dv_move (T rfl rfl)) ?_
 refine lw_v (.bool (decide ((pOk x y u ∧ pOk p q r ∧ pOk xt yt ut) ∧ btw x y u p q r xt yt ut))) (dv_move (T rfl rfl)) ?_
 refine lw_v (.bool ((decide ((pOk x y u ∧ pOk p q r ∧ pOk xt yt ut) ∧ btw x y u p q r xt yt ut)) != (decide ((pOk x y u ∧ pOk p q r ∧ pOk xt yt ut) ∧ btw x y u p q r xt yt ut)))) (dv_neqb (a := decide ((pOk x y u ∧ pOk p q r ∧ pOk xt yt ut) ∧ btw x y u p q r xt yt ut)) (b := decide ((pOk x y u ∧ pOk p q r ∧ pOk xt yt ut) ∧ btw x y u p q r xt yt ut)) ub4 (T rfl rfl) (T rfl rfl)) ?_
 refine lw_nil ?_
 rcases Bool.eq_false_or_eq_true ((decide ((pOk x y u ∧ pOk p q r ∧ pOk xt yt ut) ∧ btw x y u p q r xt yt ut)) != (decide ((pOk x y u ∧ pOk p q r ∧ pOk xt yt ut) ∧ btw x y u p q r xt yt ut))) with hb76 | hb76
 · refine rk_ct (T rfl (congrArg Value.bool hb76)) ?_
   refine rk_seq ?_
   refine rk_reg ?_
   refine lw_v (.bool false) (dv_assign C) ?_
   refine lw_nil ?_
   refine rk_ret Try.func4 (v := .bool false) (res1 Try.results4 (rv_tmp rfl rfl)) ⟨_, rfl, ?_⟩
   exact ⟨(by exfalso; grind), E72⟩
 · refine rk_cf (T rfl (congrArg Value.bool hb76)) ?_
   refine rk_skip ?_
   refine rk_seq ?_
   refine rk_reg ?_
   refine lw_v (.bool true) (dv_assign C) ?_
   refine lw_nil ?_
   refine rk_ret Try.func4 (v := .bool true) (res1 Try.results4 (rv_tmp rfl rfl)) ⟨_, rfl, ?_⟩
   exact ⟨rfl, E72⟩
theorem lawBetween_w {w : World} {x3 x2 x1 x0 y3 y2 y1 y0 u3 u2 u1 u0 p3 p2 p1 p0 q3 q2 q1 q0 r3 r2 r1 r0 xt3 xt2 xt1 xt0 yt3 yt2 yt1 yt0 ut3 ut2 ut1 ut0 : Int} (hx3 : 0 ≤ x3 ∧ x3 < 18446744073709551616) (hx2 : 0 ≤ x2 ∧ x2 < 18446744073709551616) (hx1 : 0 ≤ x1 ∧ x1 < 18446744073709551616) (hx0 : 0 ≤ x0 ∧ x0 < 18446744073709551616) (hy3 : 0 ≤ y3 ∧ y3 < 18446744073709551616) (hy2 : 0 ≤ y2 ∧ y2 < 18446744073709551616) (hy1 : 0 ≤ y1 ∧ y1 < 18446744073709551616) (hy0 : 0 ≤ y0 ∧ y0 < 18446744073709551616) (hu3 : 0 ≤ u3 ∧ u3 < 18446744073709551616) (hu2 : 0 ≤ u2 ∧ u2 < 18446744073709551616) (hu1 : 0 ≤ u1 ∧ u1 < 18446744073709551616) (hu0 : 0 ≤ u0 ∧ u0 < 18446744073709551616) (hp3 : 0 ≤ p3 ∧ p3 < 18446744073709551616) (hp2 : 0 ≤ p2 ∧ p2 < 18446744073709551616) (hp1 : 0 ≤ p1 ∧ p1 < 18446744073709551616) (hp0 : 0 ≤ p0 ∧ p0 < 18446744073709551616) (hq3 : 0 ≤ q3 ∧ q3 < 18446744073709551616) (hq2 : 0 ≤ q2 ∧ q2 < 18446744073709551616) (hq1 : 0 ≤ q1 ∧ q1 < 18446744073709551616) (hq0 : 0 ≤ q0 ∧ q0 < 18446744073709551616) (hr3 : 0 ≤ r3 ∧ r3 < 18446744073709551616) (hr2 : 0 ≤ r2 ∧ r2 < 18446744073709551616) (hr1 : 0 ≤ r1 ∧ r1 < 18446744073709551616) (hr0 : 0 ≤ r0 ∧ r0 < 18446744073709551616) (hxt3 : 0 ≤ xt3 ∧ xt3 < 18446744073709551616) (hxt2 : 0 ≤ xt2 ∧ xt2 < 18446744073709551616) (hxt1 : 0 ≤ xt1 ∧ xt1 < 18446744073709551616) (hxt0 : 0 ≤ xt0 ∧ xt0 < 18446744073709551616) (hyt3 : 0 ≤ yt3 ∧ yt3 < 18446744073709551616) (hyt2 : 0 ≤ yt2 ∧ yt2 < 18446744073709551616) (hyt1 : 0 ≤ yt1 ∧ yt1 < 18446744073709551616) (hyt0 : 0 ≤ yt0 ∧ yt0 < 18446744073709551616) (hut3 : 0 ≤ ut3 ∧ ut3 < 18446744073709551616) (hut2 : 0 ≤ ut2 ∧ ut2 < 18446744073709551616) (hut1 : 0 ≤ ut1 ∧ ut1 < 18446744073709551616) (hut0 : 0 ≤ ut0 ∧ ut0 < 18446744073709551616) : Ct Try.prog 4 [.agg #[.int .u64 x3, .int .u64 x2, .int .u64 x1, .int .u64 x0, .int .u64 y3, .int .u64 y2, .int .u64 y1, .int .u64 y0, .int .u64 u3, .int .u64 u2, .int .u64 u1, .int .u64 u0], .agg #[.int .u64 p3, .int .u64 p2, .int .u64 p1, .int .u64 p0, .int .u64 q3, .int .u64 q2, .int .u64 q1, .int .u64 q0, .int .u64 r3, .int .u64 r2, .int .u64 r1, .int .u64 r0], .agg #[.int .u64 xt3, .int .u64 xt2, .int .u64 xt1, .int .u64 xt0, .int .u64 yt3, .int .u64 yt2, .int .u64 yt1, .int .u64 yt0, .int .u64 ut3, .int .u64 ut2, .int .u64 ut1, .int .u64 ut0]] w fun v w1 => v = .bool true ∧ Ext w w1 := by
 obtain ⟨x, fx, rfl, rfl, rfl, rfl⟩ := words_z hx3 hx2 hx1 hx0
 obtain ⟨y, fy, rfl, rfl, rfl, rfl⟩ := words_z hy3 hy2 hy1 hy0
 obtain ⟨u, fu, rfl, rfl, rfl, rfl⟩ := words_z hu3 hu2 hu1 hu0
 obtain ⟨p, fp, rfl, rfl, rfl, rfl⟩ := words_z hp3 hp2 hp1 hp0
 obtain ⟨q, fq, rfl, rfl, rfl, rfl⟩ := words_z hq3 hq2 hq1 hq0
 obtain ⟨r, fr, rfl, rfl, rfl, rfl⟩ := words_z hr3 hr2 hr1 hr0
 obtain ⟨xt, fxt, rfl, rfl, rfl, rfl⟩ := words_z hxt3 hxt2 hxt1 hxt0
 obtain ⟨yt, fyt, rfl, rfl, rfl, rfl⟩ := words_z hyt3 hyt2 hyt1 hyt0
 obtain ⟨ut, fut, rfl, rfl, rfl, rfl⟩ := words_z hut3 hut2 hut1 hut0
 exact lawBetween_ok fx fy fu fp fq fr fxt fyt fut
end Go.Proofs.Ytdanhdbanfpghaa.W
