/- Walks of one law, packed by a program of this session. -/
import Derived.Test.YtdanhdbanfpghaaPaf
set_option linter.unusedVariables false
set_option linter.unusedSimpArgs false
namespace Go.Proofs.Ytdanhdbanfpghaa.W
open Go Go.RowKit Go.Proofs.Ytdanhdbanfpghaa.Fw
attribute [local irreducible] RunK LW AW DV OE Ct
theorem agt43 : aggB Try.prog 43 = some true := by kernel_rfl
theorem co145 : callOk Try.prog 145 = true := by kernel_rfl
theorem co162 : callOk Try.prog 162 = true := by kernel_rfl
theorem co175 : callOk Try.prog 175 = true := by kernel_rfl
theorem co23 : callOk Try.prog 23 = true := by kernel_rfl
theorem co24 : callOk Try.prog 24 = true := by kernel_rfl
theorem co25 : callOk Try.prog 25 = true := by kernel_rfl
theorem co34 : callOk Try.prog 34 = true := by kernel_rfl
theorem co35 : callOk Try.prog 35 = true := by kernel_rfl
theorem co94 : callOk Try.prog 94 = true := by kernel_rfl
theorem co95 : callOk Try.prog 95 = true := by kernel_rfl
theorem pl37 : placesB Try.prog 37 = some [(0, 4), (4, 4), (8, 4)] := by kernel_rfl
theorem sz43 : sizeB Try.prog 43 = some 4 := by kernel_rfl
set_option maxHeartbeats 1000000 in
theorem iWideOf_ok {w : World} {x : Int}  (hx : -9223372036854775808 ≤ x ∧ x < 9223372036854775808) : Ct Try.prog 175 [.int .i64 x] w fun v w1 => v = .agg #[.int .u64 (wv3 x), .int .u64 (wv2 x), .int .u64 (wv1 x), .int .u64 (wv0 x)] ∧ Ext w w1 := by
 refine ct_run (n := 12) Try.func175 rfl Try.ntmps175 rfl ?_
 have E0 : Below w.heap.size w w := Below.refl _ _
 refine rk_seq ?_
 refine rk_reg ?_
 refine lw_e (oe_alloc ze35 ?_)
 intro b1 w2 n3
 have N4 : w.heap.size ≤ b1 := n3.eq ▸ E0.size
 have E5 := below_ext E0 E0.size n3.ext
 refine lw_nil ?_
 refine rk_seq ?_
 refine rk_reg ?_
 refine lw_v (.int .i64 x) (dv_move (T rfl rfl)) ?_
 refine lw_e (oe_callf (vs := [.int .i64 x]) co92 (ar1 (T rfl rfl)) (whole_ok  (by omega)) ?_)
 rintro _ w11 ⟨nr6, A7, n8, c9, rfl, e12, h10⟩
 have E13 := below_ext E5 E5.size e12
 have lh10 := Num.len (by decide) h10
 refine lw_e (oe_callf (vs := [.agg #[.bool nr6, .slice A7 n8 c9]]) co162 (ar1 (T rfl rfl)) (nwide_ok h10 (by first | decide | omega)) ?_)
 rintro _ w15 ⟨rfl, e16⟩
 have E17 := below_ext E13 E13.size e16
 have bw14 := w_rg (x)
 refine lw_v (.tuple #[.agg #[.int .u64 (wv3 x), .int .u64 (wv2 x), .int .u64 (wv1 x), .int .u64 (wv0 x)], .bool (decide (fits x))]) (dv_move (T rfl rfl)) ?_
 refine lw_v (.agg #[.int .u64 (wv3 x), .int .u64 (wv2 x), .int .u64 (wv1 x), .int .u64 (wv0 x)]) (dv_extract (vs := #[.agg #[.int .u64 (wv3 x), .int .u64 (wv2 x), .int .u64 (wv1 x), .int .u64 (wv0 x)], .bool (decide (fits x))]) (T rfl rfl) rfl) ?_
 refine lw_v (.bool (decide (fits x))) (dv_extract (vs := #[.agg #[.int .u64 (wv3 x), .int .u64 (wv2 x), .int .u64 (wv1 x), .int .u64 (wv0 x)], .bool (decide (fits x))]) (T rfl rfl) rfl) ?_
 refine lw_e (oe_alloc ze35 ?_)
 intro b18 w19 n20
 have N21 : w.heap.size ≤ b18 := n20.eq ▸ E17.size
 have H22 := (e16.blk (e12.blk n3.blk))
 have : b1 < b18 := n20.eq ▸ lt_of_blk H22
 have E23 := below_ext E17 E17.size n20.ext
 refine lw_e (oe_store (v := .agg #[.int .u64 (wv3 x), .int .u64 (wv2 x), .int .u64 (wv1 x), .int .u64 (wv0 x)]) (vs := [.int .u64 (wv3 x), .int .u64 (wv2 x), .int .u64 (wv1 x), .int .u64 (wv0 x)]) (l := [.int .u64 (wv3 x), .int .u64 (wv2 x), .int .u64 (wv1 x), .int .u64 (wv0 x)]) (T rfl rfl) (T rfl rfl) sz35 rfl rfl rfl n20.blk rfl ?_)
 intro w24 s25 H26
 have E27 := below_st E23 N21 s25
 refine lw_v (.bool (decide (fits x))) (dv_assign (T rfl rfl)) ?_
 refine lw_nil ?_
 refine rk_seq ?_
 refine rk_reg ?_
 refine lw_v (.agg #[.int .u64 (wv3 x), .int .u64 (wv2 x), .int .u64 (wv1 x), .int .u64 (wv0 x)]) (dv_loads (l := [.int .u64 (wv3 x), .int .u64 (wv2 x), .int .u64 (wv1 x), .int .u64 (wv0 x)]) agt35 sz35 (T rfl rfl) H26 rfl) ?_
 have H28 := (s25.blk (n20.ext.blk H22) (by omega))
 refine lw_e (oe_store (v := .agg #[.int .u64 (wv3 x), .int .u64 (wv2 x), .int .u64 (wv1 x), .int .u64 (wv0 x)]) (vs := [.int .u64 (wv3 x), .int .u64 (wv2 x), .int .u64 (wv1 x), .int .u64 (wv0 x)]) (l := [.int .u64 (wv3 x), .int .u64 (wv2 x), .int .u64 (wv1 x), .int .u64 (wv0 x)]) (T rfl rfl) (T rfl rfl) sz35 rfl rfl rfl H28 rfl ?_)
 intro w29 s30 H31
 have E32 := below_st E27 N4 s30
 refine lw_nil ?_
 refine rk_ret Try.func175 (v := .agg #[.int .u64 (wv3 x), .int .u64 (wv2 x), .int .u64 (wv1 x), .int .u64 (wv0 x)]) (res1 Try.results175 (rv_cells (l := [.int .u64 (wv3 x), .int .u64 (wv2 x), .int .u64 (wv1 x), .int .u64 (wv0 x)]) agt35 sz35 rfl rfl H31 rfl)) ⟨_, rfl, ?_⟩
 exact ⟨rfl, E32⟩
set_option maxHeartbeats 1000000 in
theorem PointOf_ok {w : World} {x y : Int}  (hx : -9223372036854775808 ≤ x ∧ x ≤ 9223372036854775807) (hy : -9223372036854775808 ≤ y ∧ y ≤ 9223372036854775807) : Ct Try.prog 145 [.agg #[.int .i64 x, .int .i64 y]] w fun v w1 => v = .agg #[.int .u64 (wv3 x), .int .u64 (wv2 x), .int .u64 (wv1 x), .int .u64 (wv0 x), .int .u64 (wv3 y), .int .u64 (wv2 y), .int .u64 (wv1 y), .int .u64 (wv0 y), .int .u64 (wv3 1), .int .u64 (wv2 1), .int .u64 (wv1 1), .int .u64 (wv0 1)] ∧ Ext w w1 := by
 refine ct_run (n := 11) Try.func145 rfl Try.ntmps145 rfl ?_
 have E0 : Below w.heap.size w w := Below.refl _ _
 refine rk_seq ?_
 refine rk_reg ?_
 refine lw_e (oe_box (v := .agg #[.int .i64 x, .int .i64 y]) (cs := #[.int .i64 x, .int .i64 y]) (T rfl rfl) rfl ?_)
 intro b1 w2 n3
 have N4 : w.heap.size ≤ b1 := n3.eq ▸ E0.size
 have E5 := below_ext E0 E0.size n3.ext
 refine lw_e (oe_alloc ze37 ?_)
 intro b6 w7 n8
 have N9 : w.heap.size ≤ b6 := n8.eq ▸ E5.size
 have : b1 < b6 := n8.eq ▸ lt_of_blk n3.blk
 have E10 := below_ext E5 E5.size n8.ext
 refine lw_nil ?_
 refine rk_seq ?_
 refine rk_any (fun w => w.heap[b1]? = some (.cells #[.int .i64 x, .int .i64 y] 45)) [8] mo ?_
 intro w11 d12
 have E13 := below_ext E10 E10.size d12.ext
 have H14 := (d12.ext.blk (n8.ext.blk n3.blk))
 refine aw_pure 0 (.pointer (some ⟨b1, 0, none⟩)) rfl (by kernel_rfl) .none H14 (fun _ => dv_fieldAddr (a := ⟨b1, 0, none⟩) (a' := ⟨b1, 0, none⟩) fo45_0 (T rfl rfl) rfl) ?_
 refine aw_load 1 (.int .i64 x) rfl (by kernel_rfl) .none H14 (fun _ s => dv_load1 (b := b1) (o := 0) agt2 (T rfl rfl) s rfl) ?_
 refine aw_pure 3 (.pointer (some ⟨b1, 1, none⟩)) rfl (by kernel_rfl) .none H14 (fun _ => dv_fieldAddr (a := ⟨b1, 0, none⟩) (a' := ⟨b1, 1, none⟩) fo45_1 (T rfl rfl) rfl) ?_
 refine aw_load 4 (.int .i64 y) rfl (by kernel_rfl) .none H14 (fun _ s => dv_load1 (b := b1) (o := 1) agt2 (T rfl rfl) s rfl) ?_
 refine aw_one 2 rfl (by kernel_rfl) .none (oe_callf (vs := [.int .i64 x]) co175 (ar1 (T rfl rfl)) (iWideOf_ok (x := x)  (by omega)) ?_)
 rintro _ w15 ⟨rfl, e16⟩
 have E17 := below_ext E13 E13.size e16
 have H18 := (e16.blk H14)
 refine ⟨.inr H18, ?_⟩
 refine aw_one 5 rfl (by kernel_rfl) .none (oe_callf (vs := [.int .i64 y]) co175 (ar1 (T rfl rfl)) (iWideOf_ok (x := y)  (by omega)) ?_)
 rintro _ w19 ⟨rfl, e20⟩
 have E21 := below_ext E17 E17.size e20
 have H22 := (e20.blk H18)
 refine ⟨.inr H22, ?_⟩
 refine aw_one 6 rfl (by kernel_rfl) .none (oe_callf (vs := [.int .i64 1]) co175 (ar1 C) (iWideOf_ok (x := 1)  (by omega)) ?_)
 rintro _ w23 ⟨rfl, e24⟩
 have E25 := below_ext E21 E21.size e24
 have H26 := (e24.blk H22)
 refine ⟨.inr H26, ?_⟩
 refine aw_pure 7 (.agg #[.int .u64 (wv3 x), .int .u64 (wv2 x), .int .u64 (wv1 x), .int .u64 (wv0 x), .int .u64 (wv3 y), .int .u64 (wv2 y), .int .u64 (wv1 y), .int .u64 (wv0 y), .int .u64 (wv3 (1 : Int)), .int .u64 (wv2 (1 : Int)), .int .u64 (wv1 (1 : Int)), .int .u64 (wv0 (1 : Int))]) rfl (by kernel_rfl) .none H26 (fun _ => dv_build (pv := [(0, .agg #[.int .u64 (wv3 x), .int .u64 (wv2 x), .int .u64 (wv1 x), .int .u64 (wv0 x)]), (1, .agg #[.int .u64 (wv3 y), .int .u64 (wv2 y), .int .u64 (wv1 y), .int .u64 (wv0 y)]), (2, .agg #[.int .u64 (wv3 (1 : Int)), .int .u64 (wv2 (1 : Int)), .int .u64 (wv1 (1 : Int)), .int .u64 (wv0 (1 : Int))])]) (l := [.int .u64 (wv3 x), .int .u64 (wv2 x), .int .u64 (wv1 x), .int .u64 (wv0 x), .int .u64 (wv3 y), .int .u64 (wv2 y), .int .u64 (wv1 y), .int .u64 (wv0 y), .int .u64 (wv3 (1 : Int)), .int .u64 (wv2 (1 : Int)), .int .u64 (wv1 (1 : Int)), .int .u64 (wv0 (1 : Int))]) zc37 pl37 ⟨rfl, (T rfl rfl), ⟨rfl, (T rfl rfl), ⟨rfl, (T rfl rfl), trivial⟩⟩⟩ rfl) ?_
 have H27 := (e24.blk (e20.blk (e16.blk (d12.ext.blk n8.blk))))
 refine aw_one 8 rfl (by kernel_rfl) .none (oe_store (v := .agg #[.int .u64 (wv3 x), .int .u64 (wv2 x), .int .u64 (wv1 x), .int .u64 (wv0 x), .int .u64 (wv3 y), .int .u64 (wv2 y), .int .u64 (wv1 y), .int .u64 (wv0 y), .int .u64 (wv3 (1 : Int)), .int .u64 (wv2 (1 : Int)), .int .u64 (wv1 (1 : Int)), .int .u64 (wv0 (1 : Int))]) (vs := [.int .u64 (wv3 x), .int .u64 (wv2 x), .int .u64 (wv1 x), .int .u64 (wv0 x), .int .u64 (wv3 y), .int .u64 (wv2 y), .int .u64 (wv1 y), .int .u64 (wv0 y), .int .u64 (wv3 (1 : Int)), .int .u64 (wv2 (1 : Int)), .int .u64 (wv1 (1 : Int)), .int .u64 (wv0 (1 : Int))]) (l := [.int .u64 (wv3 x), .int .u64 (wv2 x), .int .u64 (wv1 x), .int .u64 (wv0 x), .int .u64 (wv3 y), .int .u64 (wv2 y), .int .u64 (wv1 y), .int .u64 (wv0 y), .int .u64 (wv3 (1 : Int)), .int .u64 (wv2 (1 : Int)), .int .u64 (wv1 (1 : Int)), .int .u64 (wv0 (1 : Int))]) (T rfl rfl) (T rfl rfl) sz37 rfl rfl rfl H27 rfl ?_)
 intro w28 s29 H30
 have E31 := below_st E25 N9 s29
 refine ⟨.inl rfl, ?_⟩
 refine aw_done (by kernel_rfl) ?_
 refine rk_ret Try.func145 (v := .agg #[.int .u64 (wv3 x), .int .u64 (wv2 x), .int .u64 (wv1 x), .int .u64 (wv0 x), .int .u64 (wv3 y), .int .u64 (wv2 y), .int .u64 (wv1 y), .int .u64 (wv0 y), .int .u64 (wv3 (1 : Int)), .int .u64 (wv2 (1 : Int)), .int .u64 (wv1 (1 : Int)), .int .u64 (wv0 (1 : Int))]) (res1 Try.results145 (rv_cells (l := [.int .u64 (wv3 x), .int .u64 (wv2 x), .int .u64 (wv1 x), .int .u64 (wv0 x), .int .u64 (wv3 y), .int .u64 (wv2 y), .int .u64 (wv1 y), .int .u64 (wv0 y), .int .u64 (wv3 (1 : Int)), .int .u64 (wv2 (1 : Int)), .int .u64 (wv1 (1 : Int)), .int .u64 (wv0 (1 : Int))]) agt37 sz37 rfl rfl H30 rfl)) ⟨_, rfl, ?_⟩
 exact ⟨(ag12 rfl rfl rfl rfl rfl rfl rfl rfl (vi (by rfl)) (vi (by rfl)) (vi (by rfl)) (vi (by rfl))), E31⟩
set_option maxHeartbeats 1000000 in
theorem onSeg_ok {w : World} {ax ay bx b_y x y u : Int} (fx_ : fits x) (fy_ : fits y) (fu_ : fits u) (hs_ : (-1000000 ≤ ax ∧ ax ≤ 1000000) ∧ (-1000000 ≤ ay ∧ ay ≤ 1000000) ∧ (-1000000 ≤ bx ∧ bx ≤ 1000000) ∧ (-1000000 ≤ b_y ∧ b_y ≤ 1000000)) : Ct Try.prog 95 [.agg #[.int .i64 ax, .int .i64 ay, .int .i64 bx, .int .i64 b_y], .agg #[.int .u64 (wv3 x), .int .u64 (wv2 x), .int .u64 (wv1 x), .int .u64 (wv0 x), .int .u64 (wv3 y), .int .u64 (wv2 y), .int .u64 (wv1 y), .int .u64 (wv0 y), .int .u64 (wv3 u), .int .u64 (wv2 u), .int .u64 (wv1 u), .int .u64 (wv0 u)]] w fun v w1 => v = .bool (decide (onV ax ay bx b_y x y u)) ∧ Ext w w1 := by
 refine ct_run (n := 25) Try.func95 rfl Try.ntmps95 rfl ?_
 have E0 : Below w.heap.size w w := Below.refl _ _
 refine rk_seq ?_
 refine rk_reg ?_
 refine lw_e (oe_box (v := .agg #[.int .i64 ax, .int .i64 ay, .int .i64 bx, .int .i64 b_y]) (cs := #[.int .i64 ax, .int .i64 ay, .int .i64 bx, .int .i64 b_y]) (T rfl rfl) rfl ?_)
 intro b1 w2 n3
 have N4 : w.heap.size ≤ b1 := n3.eq ▸ E0.size
 have E5 := below_ext E0 E0.size n3.ext
 refine lw_e (oe_box (v := .agg #[.int .u64 (wv3 x), .int .u64 (wv2 x), .int .u64 (wv1 x), .int .u64 (wv0 x), .int .u64 (wv3 y), .int .u64 (wv2 y), .int .u64 (wv1 y), .int .u64 (wv0 y), .int .u64 (wv3 u), .int .u64 (wv2 u), .int .u64 (wv1 u), .int .u64 (wv0 u)]) (cs := #[.int .u64 (wv3 x), .int .u64 (wv2 x), .int .u64 (wv1 x), .int .u64 (wv0 x), .int .u64 (wv3 y), .int .u64 (wv2 y), .int .u64 (wv1 y), .int .u64 (wv0 y), .int .u64 (wv3 u), .int .u64 (wv2 u), .int .u64 (wv1 u), .int .u64 (wv0 u)]) (T rfl rfl) rfl ?_)
 intro b6 w7 n8
 have N9 : w.heap.size ≤ b6 := n8.eq ▸ E5.size
 have : b1 < b6 := n8.eq ▸ lt_of_blk n3.blk
 have E10 := below_ext E5 E5.size n8.ext
 refine lw_v (.bool false) (dv_assign C) ?_
 refine lw_nil ?_
 refine rk_seq ?_
 refine rk_any (fun w => w.heap[b1]? = some (.cells #[.int .i64 ax, .int .i64 ay, .int .i64 bx, .int .i64 b_y] 47) ∧ w.heap[b6]? = some (.cells #[.int .u64 (wv3 x), .int .u64 (wv2 x), .int .u64 (wv1 x), .int .u64 (wv0 x), .int .u64 (wv3 y), .int .u64 (wv2 y), .int .u64 (wv1 y), .int .u64 (wv0 y), .int .u64 (wv3 u), .int .u64 (wv2 u), .int .u64 (wv1 u), .int .u64 (wv0 u)] 37)) [20] mo ?_
 intro w11 d12
 have E13 := below_ext E10 E10.size d12.ext
 have H14 := (d12.ext.blk (n8.ext.blk n3.blk))
 have H15 := (d12.ext.blk n8.blk)
 refine aw_pure 0 (.pointer (some ⟨b1, 0, none⟩)) rfl (by kernel_rfl) .none ⟨H14, H15⟩ (fun _ => dv_fieldAddr (a := ⟨b1, 0, none⟩) (a' := ⟨b1, 0, none⟩) fo47_0 (T rfl rfl) rfl) ?_
 refine aw_load 1 (.agg #[.int .i64 ax, .int .i64 ay]) rfl (by kernel_rfl) .none ⟨H14, H15⟩ (fun _ s => dv_loads (l := [.int .i64 ax, .int .i64 ay]) agt45 sz45 (T rfl rfl) s.1 rfl) ?_
 refine aw_load 3 (.agg #[.int .u64 (wv3 x), .int .u64 (wv2 x), .int .u64 (wv1 x), .int .u64 (wv0 x), .int .u64 (wv3 y), .int .u64 (wv2 y), .int .u64 (wv1 y), .int .u64 (wv0 y), .int .u64 (wv3 u), .int .u64 (wv2 u), .int .u64 (wv1 u), .int .u64 (wv0 u)]) rfl (by kernel_rfl) .none ⟨H14, H15⟩ (fun _ s => dv_loads (l := [.int .u64 (wv3 x), .int .u64 (wv2 x), .int .u64 (wv1 x), .int .u64 (wv0 x), .int .u64 (wv3 y), .int .u64 (wv2 y), .int .u64 (wv1 y), .int .u64 (wv0 y), .int .u64 (wv3 u), .int .u64 (wv2 u), .int .u64 (wv1 u), .int .u64 (wv0 u)]) agt37 sz37 (T rfl rfl) s.2 rfl) ?_
 refine aw_one 2 rfl (by kernel_rfl) .none (oe_callf (vs := [.agg #[.int .i64 ax, .int .i64 ay]]) co145 (ar1 (T rfl rfl)) (PointOf_ok (x := ax) (y := ay)  (by omega) (by omega)) ?_)
 rintro _ w16 ⟨rfl, e17⟩
 have E18 := below_ext E13 E13.size e17
 have H19 := (e17.blk H14)
 have H20 := (e17.blk H15)
 refine ⟨.inr ⟨H19, H20⟩, ?_⟩
 refine aw_one 4 rfl (by kernel_rfl) .none (oe_callf (vs := [.agg #[.int .u64 (wv3 ax), .int .u64 (wv2 ax), .int .u64 (wv1 ax), .int .u64 (wv0 ax), .int .u64 (wv3 ay), .int .u64 (wv2 ay), .int .u64 (wv1 ay), .int .u64 (wv0 ay), .int .u64 (wv3 1), .int .u64 (wv2 1), .int .u64 (wv1 1), .int .u64 (wv0 1)], .agg #[.int .u64 (wv3 x), .int .u64 (wv2 x), .int .u64 (wv1 x), .int .u64 (wv0 x), .int .u64 (wv3 y), .int .u64 (wv2 y), .int .u64 (wv1 y), .int .u64 (wv0 y), .int .u64 (wv3 u), .int .u64 (wv2 u), .int .u64 (wv1 u), .int .u64 (wv0 u)]]) co117 (ar2 (T rfl rfl) (T rfl rfl)) (cmpPoints_ok (x := ax) (y := ay) (u := 1) (p := x) (q := y) (r := u) (fits_i (by omega)) (fits_i (by omega)) (⟨by decide, by decide⟩ : fits 1) fx_ fy_ fu_ ) ?_)
 rintro _ w21 ⟨rfl, e22⟩
 have E23 := below_ext E18 E18.size e22
 have := pc_rg ax ay 1 x y u
 have H24 := (e22.blk H19)
 have H25 := (e22.blk H20)
 refine ⟨.inr ⟨H24, H25⟩, ?_⟩
 refine aw_pure 5 (.bool (decide ((pc ax ay (1 : Int) x y u) ≤ 0))) rfl (by kernel_rfl) .none ⟨H24, H25⟩ (fun _ => dv_leq (a := pc ax ay (1 : Int) x y u) (b := 0) (T rfl rfl) C) ?_
 refine aw_pure 6 (.bool (decide ((pc ax ay (1 : Int) x y u) ≤ 0))) rfl (by kernel_rfl) .none ⟨H24, H25⟩ (fun _ => dv_move (T rfl rfl)) ?_
 by_cases hb26 : (pc ax ay (1 : Int) x y u) ≤ 0
 · refine aw_load 7 (.agg #[.int .u64 (wv3 x), .int .u64 (wv2 x), .int .u64 (wv1 x), .int .u64 (wv0 x), .int .u64 (wv3 y), .int .u64 (wv2 y), .int .u64 (wv1 y), .int .u64 (wv0 y), .int .u64 (wv3 u), .int .u64 (wv2 u), .int .u64 (wv1 u), .int .u64 (wv0 u)]) rfl (by kernel_rfl) (.yes (d := 11) rfl rfl (congrArg Value.bool (decide_eq_true hb26))) ⟨H24, H25⟩ (fun _ s => dv_loads (l := [.int .u64 (wv3 x), .int .u64 (wv2 x), .int .u64 (wv1 x), .int .u64 (wv0 x), .int .u64 (wv3 y), .int .u64 (wv2 y), .int .u64 (wv1 y), .int .u64 (wv0 y), .int .u64 (wv3 u), .int .u64 (wv2 u), .int .u64 (wv1 u), .int .u64 (wv0 u)]) agt37 sz37 (T rfl rfl) s.2 rfl) ?_
   refine aw_pure 8 (.pointer (some ⟨b1, 2, none⟩)) rfl (by kernel_rfl) (.yes (d := 11) rfl rfl (congrArg Value.bool (decide_eq_true hb26))) ⟨H24, H25⟩ (fun _ => dv_fieldAddr (a := ⟨b1, 0, none⟩) (a' := ⟨b1, 2, none⟩) fo47_1 (T rfl rfl) rfl) ?_
   refine aw_load 9 (.agg #[.int .i64 bx, .int .i64 b_y]) rfl (by kernel_rfl) (.yes (d := 11) rfl rfl (congrArg Value.bool (decide_eq_true hb26))) ⟨H24, H25⟩ (fun _ s => dv_loads (l := [.int .i64 bx, .int .i64 b_y]) agt45 sz45 (T rfl rfl) s.1 rfl) ?_
   refine aw_one 10 rfl (by kernel_rfl) (.yes (d := 11) rfl rfl (congrArg Value.bool (decide_eq_true hb26))) (oe_callf (vs := [.agg #[.int .i64 bx, .int .i64 b_y]]) co145 (ar1 (T rfl rfl)) (PointOf_ok (x := bx) (y := b_y)  (by omega) (by omega)) ?_)
   rintro _ w27 ⟨rfl, e28⟩
   have E29 := below_ext E23 E23.size e28
   have H30 := (e28.blk H24)
   have H31 := (e28.blk H25)
   refine ⟨.inr ⟨H30, H31⟩, ?_⟩
   refine aw_one 11 rfl (by kernel_rfl) (.yes (d := 11) rfl rfl (congrArg Value.bool (decide_eq_true hb26))) (oe_callf (vs := [.agg #[.int .u64 (wv3 x), .int .u64 (wv2 x), .int .u64 (wv1 x), .int .u64 (wv0 x), .int .u64 (wv3 y), .int .u64 (wv2 y), .int .u64 (wv1 y), .int .u64 (wv0 y), .int .u64 (wv3 u), .int .u64 (wv2 u), .int .u64 (wv1 u), .int .u64 (wv0 u)], .agg #[.int .u64 (wv3 bx), .int .u64 (wv2 bx), .int .u64 (wv1 bx), .int .u64 (wv0 bx), .int .u64 (wv3 b_y), .int .u64 (wv2 b_y), .int .u64 (wv1 b_y), .int .u64 (wv0 b_y), .int .u64 (wv3 1), .int .u64 (wv2 1), .int .u64 (wv1 1), .int .u64 (wv0 1)]]) co117 (ar2 (T rfl rfl) (T rfl rfl)) (cmpPoints_ok (x := x) (y := y) (u := u) (p := bx) (q := b_y) (r := 1) fx_ fy_ fu_ (fits_i (by omega)) (fits_i (by omega)) (⟨by decide, by decide⟩ : fits 1) ) ?_)
   rintro _ w32 ⟨rfl, e33⟩
   have E34 := below_ext E29 E29.size e33
   have := pc_rg x y u bx b_y 1
   have H35 := (e33.blk H30)
   have H36 := (e33.blk H31)
   refine ⟨.inr ⟨H35, H36⟩, ?_⟩
   refine aw_pure 12 (.bool (decide ((pc x y u bx b_y (1 : Int)) ≤ 0))) rfl (by kernel_rfl) (.yes (d := 11) rfl rfl (congrArg Value.bool (decide_eq_true hb26))) ⟨H35, H36⟩ (fun _ => dv_leq (a := pc x y u bx b_y (1 : Int)) (b := 0) (T rfl rfl) C) ?_
   refine aw_pure 13 (.bool (decide ((pc x y u bx b_y (1 : Int)) ≤ 0))) rfl (by kernel_rfl) .none ⟨H35, H36⟩ (fun _ => dv_pick_t (T rfl (congrArg Value.bool (decide_eq_true hb26))) (T rfl rfl)) ?_
   refine aw_pure 14 (.bool (decide ((pc x y u bx b_y (1 : Int)) ≤ 0))) rfl (by kernel_rfl) .none ⟨H35, H36⟩ (fun _ => dv_move (T rfl rfl)) ?_
   by_cases hb37 : (pc x y u bx b_y (1 : Int)) ≤ 0
   · refine aw_load 15 (.agg #[.int .i64 ax, .int .i64 ay, .int .i64 bx, .int .i64 b_y]) rfl (by kernel_rfl) (.yes (d := 19) rfl rfl (congrArg Value.bool (decide_eq_true hb37))) ⟨H35, H36⟩ (fun _ s => dv_loads (l := [.int .i64 ax, .int .i64 ay, .int .i64 bx, .int .i64 b_y]) agt47 sz47 (T rfl rfl) s.1 rfl) ?_
     refine aw_load 16 (.agg #[.int .u64 (wv3 x), .int .u64 (wv2 x), .int .u64 (wv1 x), .int .u64 (wv0 x), .int .u64 (wv3 y), .int .u64 (wv2 y), .int .u64 (wv1 y), .int .u64 (wv0 y), .int .u64 (wv3 u), .int .u64 (wv2 u), .int .u64 (wv1 u), .int .u64 (wv0 u)]) rfl (by kernel_rfl) (.yes (d := 19) rfl rfl (congrArg Value.bool (decide_eq_true hb37))) ⟨H35, H36⟩ (fun _ s => dv_loads (l := [.int .u64 (wv3 x), .int .u64 (wv2 x), .int .u64 (wv1 x), .int .u64 (wv0 x), .int .u64 (wv3 y), .int .u64 (wv2 y), .int .u64 (wv1 y), .int .u64 (wv0 y), .int .u64 (wv3 u), .int .u64 (wv2 u), .int .u64 (wv1 u), .int .u64 (wv0 u)]) agt37 sz37 (T rfl rfl) s.2 rfl) ?_
     refine aw_one 17 rfl (by kernel_rfl) (.yes (d := 19) rfl rfl (congrArg Value.bool (decide_eq_true hb37))) (oe_callf (vs := [.agg #[.int .i64 ax, .int .i64 ay, .int .i64 bx, .int .i64 b_y], .agg #[.int .u64 (wv3 x), .int .u64 (wv2 x), .int .u64 (wv1 x), .int .u64 (wv0 x), .int .u64 (wv3 y), .int .u64 (wv2 y), .int .u64 (wv1 y), .int .u64 (wv0 y), .int .u64 (wv3 u), .int .u64 (wv2 u), .int .u64 (wv1 u), .int .u64 (wv0 u)]]) co76 (ar2 (T rfl rfl) (T rfl rfl)) (sideOf_ok (ax := ax) (ay := ay) (bx := bx) (b_y := b_y) (x := x) (y := y) (u := u) fx_ fy_ fu_ (by omega)) ?_)
     rintro _ w38 ⟨rfl, e39⟩
     have E40 := below_ext E34 E34.size e39
     have := sideV_rg ax ay bx b_y x y u
     have H41 := (e39.blk H35)
     have H42 := (e39.blk H36)
     refine ⟨.inr ⟨H41, H42⟩, ?_⟩
     refine aw_pure 18 (.bool (decide ((sideV ax ay bx b_y x y u) = 0))) rfl (by kernel_rfl) (.yes (d := 19) rfl rfl (congrArg Value.bool (decide_eq_true hb37))) ⟨H41, H42⟩ (fun _ => dv_eql (a := sideV ax ay bx b_y x y u) (b := 0) (T rfl rfl) C) ?_
     refine aw_pure 19 (.bool (decide ((sideV ax ay bx b_y x y u) = 0))) rfl (by kernel_rfl) .none ⟨H41, H42⟩ (fun _ => dv_pick_t (T rfl (congrArg Value.bool (decide_eq_true hb37))) (T rfl rfl)) ?_
     refine aw_last 20 (.bool (decide ((sideV ax ay bx b_y x y u) = 0))) rfl (by kernel_rfl) .none (fun _ => dv_assign (T rfl rfl)) ?_
     refine aw_done (by kernel_rfl) ?_
     refine rk_ret Try.func95 (v := .bool (decide ((sideV ax ay bx b_y x y u) = 0))) (res1 Try.results95 (rv_tmp rfl rfl)) ⟨_, rfl, ?_⟩
     exact ⟨(vb ⟨fun hh => ⟨by assumption, by assumption, hh⟩, fun hh => hh.2.2⟩), E40⟩
   · refine aw_no 15 rfl (by kernel_rfl) (d := 19) rfl rfl (congrArg Value.bool (decide_eq_false hb37)) ⟨H35, H36⟩ ?_
     refine aw_no 16 rfl (by kernel_rfl) (d := 19) rfl rfl (congrArg Value.bool (decide_eq_false hb37)) ⟨H35, H36⟩ ?_
     refine aw_no 17 rfl (by kernel_rfl) (d := 19) rfl rfl (congrArg Value.bool (decide_eq_false hb37)) ⟨H35, H36⟩ ?_
     refine aw_no 18 rfl (by kernel_rfl) (d := 19) rfl rfl (congrArg Value.bool (decide_eq_false hb37)) ⟨H35, H36⟩ ?_
     refine aw_pure 19 (.bool false) rfl (by kernel_rfl) .none ⟨H35, H36⟩ (fun _ => dv_pick_f (T rfl (congrArg Value.bool (decide_eq_false hb37))) C) ?_
     refine aw_last 20 (.bool false) rfl (by kernel_rfl) .none (fun _ => dv_assign (T rfl rfl)) ?_
     refine aw_done (by kernel_rfl) ?_
     refine rk_ret Try.func95 (v := .bool false) (res1 Try.results95 (rv_tmp rfl rfl)) ⟨_, rfl, ?_⟩
     exact ⟨(vf (by intro hh; first | exact absurd hh.1 (by assumption) | exact absurd hh.2.1 (by assumption))), E34⟩
 · refine aw_no 7 rfl (by kernel_rfl) (d := 11) rfl rfl (congrArg Value.bool (decide_eq_false hb26)) ⟨H24, H25⟩ ?_
   refine aw_no 8 rfl (by kernel_rfl) (d := 11) rfl rfl (congrArg Value.bool (decide_eq_false hb26)) ⟨H24, H25⟩ ?_
   refine aw_no 9 rfl (by kernel_rfl) (d := 11) rfl rfl (congrArg Value.bool (decide_eq_false hb26)) ⟨H24, H25⟩ ?_
   refine aw_no 10 rfl (by kernel_rfl) (d := 11) rfl rfl (congrArg Value.bool (decide_eq_false hb26)) ⟨H24, H25⟩ ?_
   refine aw_no 11 rfl (by kernel_rfl) (d := 11) rfl rfl (congrArg Value.bool (decide_eq_false hb26)) ⟨H24, H25⟩ ?_
   refine aw_no 12 rfl (by kernel_rfl) (d := 11) rfl rfl (congrArg Value.bool (decide_eq_false hb26)) ⟨H24, H25⟩ ?_
   refine aw_pure 13 (.bool false) rfl (by kernel_rfl) .none ⟨H24, H25⟩ (fun _ => dv_pick_f (T rfl (congrArg Value.bool (decide_eq_false hb26))) C) ?_
   refine aw_pure 14 (.bool false) rfl (by kernel_rfl) .none ⟨H24, H25⟩ (fun _ => dv_move (T rfl rfl)) ?_
   refine aw_no 15 rfl (by kernel_rfl) (d := 19) rfl rfl (rfl) ⟨H24, H25⟩ ?_
   refine aw_no 16 rfl (by kernel_rfl) (d := 19) rfl rfl (rfl) ⟨H24, H25⟩ ?_
   refine aw_no 17 rfl (by kernel_rfl) (d := 19) rfl rfl (rfl) ⟨H24, H25⟩ ?_
   refine aw_no 18 rfl (by kernel_rfl) (d := 19) rfl rfl (rfl) ⟨H24, H25⟩ ?_
   refine aw_pure 19 (.bool false) rfl (by kernel_rfl) .none ⟨H24, H25⟩ (fun _ => dv_pick_f (T rfl rfl) C) ?_
   refine aw_last 20 (.bool false) rfl (by kernel_rfl) .none (fun _ => dv_assign (T rfl rfl)) ?_
   refine aw_done (by kernel_rfl) ?_
   refine rk_ret Try.func95 (v := .bool false) (res1 Try.results95 (rv_tmp rfl rfl)) ⟨_, rfl, ?_⟩
   exact ⟨(vf (by intro hh; first | exact absurd hh.1 (by assumption) | exact absurd hh.2.1 (by assumption))), E23⟩
set_option maxHeartbeats 1000000 in
theorem l4On_ok {w : World}  {ax ay bx b_y : Int}  {na : Bool} {Aa : Option Addr} {la ca : Nat} {x : Int} {sx : Nat} (ha : Num 32 183 .u32 w na Aa la ca x sx) {nb : Bool} {Ab : Option Addr} {lb cb : Nat} {y : Int} {sy : Nat} (hb : Num 32 183 .u32 w nb Ab lb cb y sy) {nm : Bool} {Am : Option Addr} {lm cm : Nat} {u : Int} {su : Nat} (hm : Num 32 183 .u32 w nm Am lm cm u su) (hbsx : sx ≤ 10000) (hbsy : sy ≤ 10000) (hbsu : su ≤ 10000) (hs_ : (-1000000 ≤ ax ∧ ax ≤ 1000000) ∧ (-1000000 ≤ ay ∧ ay ≤ 1000000) ∧ (-1000000 ≤ bx ∧ bx ≤ 1000000) ∧ (-1000000 ≤ b_y ∧ b_y ≤ 1000000)) (hl_ : spotLt ax ay bx b_y) : Ct Try.prog 94 [.agg #[.int .i64 ax, .int .i64 ay, .int .i64 bx, .int .i64 b_y], .agg #[.bool na, .slice Aa la ca, .bool nb, .slice Ab lb cb, .bool nm, .slice Am lm cm]] w fun v w1 => v = .bool (decide (onV ax ay bx b_y x y u)) ∧ Ext w w1 := by
 refine ct_run (n := 13) Try.func94 rfl Try.ntmps94 rfl ?_
 have E0 : Below w.heap.size w w := Below.refl _ _
 have lha := Num.len (by decide) ha
 have lhb := Num.len (by decide) hb
 have lhm := Num.len (by decide) hm
 refine rk_seq ?_
 refine rk_reg ?_
 refine lw_e (oe_box (v := .agg #[.int .i64 ax, .int .i64 ay, .int .i64 bx, .int .i64 b_y]) (cs := #[.int .i64 ax, .int .i64 ay, .int .i64 bx, .int .i64 b_y]) (T rfl rfl) rfl ?_)
 intro b1 w2 n3
 have N4 : w.heap.size ≤ b1 := n3.eq ▸ E0.size
 have E5 := below_ext E0 E0.size n3.ext
 refine lw_e (oe_box (v := .agg #[.bool na, .slice Aa la ca, .bool nb, .slice Ab lb cb, .bool nm, .slice Am lm cm]) (cs := #[.bool na, .slice Aa la ca, .bool nb, .slice Ab lb cb, .bool nm, .slice Am lm cm]) (T rfl rfl) rfl ?_)
 intro b6 w7 n8
 have N9 : w.heap.size ≤ b6 := n8.eq ▸ E5.size
 have : b1 < b6 := n8.eq ▸ lt_of_blk n3.blk
 have E10 := below_ext E5 E5.size n8.ext
 refine lw_v (.bool false) (dv_assign C) ?_
 refine lw_nil ?_
 refine rk_seq ?_
 refine rk_any (fun w => w.heap[b1]? = some (.cells #[.int .i64 ax, .int .i64 ay, .int .i64 bx, .int .i64 b_y] 47) ∧ w.heap[b6]? = some (.cells #[.bool na, .slice Aa la ca, .bool nb, .slice Ab lb cb, .bool nm, .slice Am lm cm] 102)) [8] mo ?_
 intro w11 d12
 have E13 := below_ext E10 E10.size d12.ext
 have H14 := (d12.ext.blk (n8.ext.blk n3.blk))
 have H15 := (d12.ext.blk n8.blk)
 refine aw_pure 0 (.pointer (some ⟨b1, 0, none⟩)) rfl (by kernel_rfl) .none ⟨H14, H15⟩ (fun _ => dv_fieldAddr (a := ⟨b1, 0, none⟩) (a' := ⟨b1, 0, none⟩) fo47_0 (T rfl rfl) rfl) ?_
 refine aw_load 1 (.agg #[.int .i64 ax, .int .i64 ay]) rfl (by kernel_rfl) .none ⟨H14, H15⟩ (fun _ s => dv_loads (l := [.int .i64 ax, .int .i64 ay]) agt45 sz45 (T rfl rfl) s.1 rfl) ?_
 refine aw_pure 3 (.pointer (some ⟨b1, 2, none⟩)) rfl (by kernel_rfl) .none ⟨H14, H15⟩ (fun _ => dv_fieldAddr (a := ⟨b1, 0, none⟩) (a' := ⟨b1, 2, none⟩) fo47_1 (T rfl rfl) rfl) ?_
 refine aw_load 4 (.agg #[.int .i64 bx, .int .i64 b_y]) rfl (by kernel_rfl) .none ⟨H14, H15⟩ (fun _ s => dv_loads (l := [.int .i64 bx, .int .i64 b_y]) agt45 sz45 (T rfl rfl) s.1 rfl) ?_
 refine aw_load 6 (.agg #[.bool na, .slice Aa la ca, .bool nb, .slice Ab lb cb, .bool nm, .slice Am lm cm]) rfl (by kernel_rfl) .none ⟨H14, H15⟩ (fun _ s => dv_loads (l := [.bool na, .slice Aa la ca, .bool nb, .slice Ab lb cb, .bool nm, .slice Am lm cm]) agt102 sz102 (T rfl rfl) s.2 rfl) ?_
 refine aw_one 2 rfl (by kernel_rfl) .none (oe_callf (vs := [.agg #[.int .i64 ax, .int .i64 ay]]) co74 (ar1 (T rfl rfl)) (l3Spot_ok   (by omega) (by omega)) ?_)
 rintro _ w31 ⟨nr16, A17, n18, c19, nr20, A21, n22, c23, nr24, A25, n26, c27, rfl, e32, h28, h29, h30⟩
 have E33 := below_ext E13 E13.size e32
 have lh28 := Num.len (by decide) h28
 have lh29 := Num.len (by decide) h29
 have lh30 := Num.len (by decide) h30
 have H34 := (e32.blk H14)
 have H35 := (e32.blk H15)
 refine ⟨.inr ⟨H34, H35⟩, ?_⟩
 refine aw_one 5 rfl (by kernel_rfl) .none (oe_callf (vs := [.agg #[.int .i64 bx, .int .i64 b_y]]) co74 (ar1 (T rfl rfl)) (l3Spot_ok   (by omega) (by omega)) ?_)
 rintro _ w51 ⟨nr36, A37, n38, c39, nr40, A41, n42, c43, nr44, A45, n46, c47, rfl, e52, h48, h49, h50⟩
 have E53 := below_ext E33 E33.size e52
 have lh48 := Num.len (by decide) h48
 have lh49 := Num.len (by decide) h49
 have lh50 := Num.len (by decide) h50
 have H54 := (e52.blk H34)
 have H55 := (e52.blk H35)
 refine ⟨.inr ⟨H54, H55⟩, ?_⟩
 have h56 := (h28.ext e52)
 have h57 := (h29.ext e52)
 have h58 := (h30.ext e52)
 have h59 := (((((ha.ext n3.ext).ext n8.ext).ext d12.ext).ext e32).ext e52)
 have h60 := (((((hb.ext n3.ext).ext n8.ext).ext d12.ext).ext e32).ext e52)
 have h61 := (((((hm.ext n3.ext).ext n8.ext).ext d12.ext).ext e32).ext e52)
 refine aw_one 7 rfl (by kernel_rfl) .none (oe_callf (vs := [.agg #[.bool nr16, .slice A17 n18 c19, .bool nr20, .slice A21 n22 c23, .bool nr24, .slice A25 n26 c27], .agg #[.bool nr36, .slice A37 n38 c39, .bool nr40, .slice A41 n42 c43, .bool nr44, .slice A45 n46 c47], .agg #[.bool na, .slice Aa la ca, .bool nb, .slice Ab lb cb, .bool nm, .slice Am lm cm]]) co68 (ar3 (T rfl rfl) (T rfl rfl) (T rfl rfl)) (l3Between_ok h56 h57 h58 h48 h49 h50 h59 h60 h61 (by first | decide | omega) (by first | decide | omega) (by first | decide | omega) (by first | decide | omega) (by first | decide | omega) (by first | decide | omega) (by first | decide | omega) (by first | decide | omega) (by first | decide | omega) ) ?_)
 rintro _ w62 ⟨rfl, e63⟩
 have E64 := below_ext E53 E53.size e63
 have H65 := (e63.blk H54)
 have H66 := (e63.blk H55)
 refine ⟨.inr ⟨H65, H66⟩, ?_⟩
 refine aw_last 8 (.bool (decide (btw ax ay 1 bx b_y 1 x y u))) rfl (by kernel_rfl) .none (fun _ => dv_assign (T rfl rfl)) ?_
 refine aw_done (by kernel_rfl) ?_
 refine rk_ret Try.func94 (v := .bool (decide (btw ax ay 1 bx b_y 1 x y u))) (res1 Try.results94 (rv_tmp rfl rfl)) ⟨_, rfl, ?_⟩
 exact ⟨(vb (btw_on hl_)), E64⟩
set_option maxHeartbeats 1000000 in
theorem sOnSeg_ok {w : World} {ax ay bx b_y x y u : Int} (fx_ : fits x) (fy_ : fits y) (fu_ : fits u)  : Ct Try.prog 36 [.agg #[.int .i64 ax, .int .i64 ay, .int .i64 bx, .int .i64 b_y], .agg #[.int .u64 (wv3 x), .int .u64 (wv2 x), .int .u64 (wv1 x), .int .u64 (wv0 x), .int .u64 (wv3 y), .int .u64 (wv2 y), .int .u64 (wv1 y), .int .u64 (wv0 y), .int .u64 (wv3 u), .int .u64 (wv2 u), .int .u64 (wv1 u), .int .u64 (wv0 u)]] w fun v w1 => v = .bool (decide (segOk ax ay bx b_y ∧ pOk x y u ∧ onV ax ay bx b_y x y u)) ∧ Ext w w1 := by
 refine ct_run (n := 17) Try.func36 rfl Try.ntmps36 rfl ?_
 have E0 : Below w.heap.size w w := Below.refl _ _
 refine rk_seq ?_
 refine rk_reg ?_
 refine lw_e (oe_box (v := .agg #[.int .i64 ax, .int .i64 ay, .int .i64 bx, .int .i64 b_y]) (cs := #[.int .i64 ax, .int .i64 ay, .int .i64 bx, .int .i64 b_y]) (T rfl rfl) rfl ?_)
 intro b1 w2 n3
 have N4 : w.heap.size ≤ b1 := n3.eq ▸ E0.size
 have E5 := below_ext E0 E0.size n3.ext
 refine lw_e (oe_box (v := .agg #[.int .u64 (wv3 x), .int .u64 (wv2 x), .int .u64 (wv1 x), .int .u64 (wv0 x), .int .u64 (wv3 y), .int .u64 (wv2 y), .int .u64 (wv1 y), .int .u64 (wv0 y), .int .u64 (wv3 u), .int .u64 (wv2 u), .int .u64 (wv1 u), .int .u64 (wv0 u)]) (cs := #[.int .u64 (wv3 x), .int .u64 (wv2 x), .int .u64 (wv1 x), .int .u64 (wv0 x), .int .u64 (wv3 y), .int .u64 (wv2 y), .int .u64 (wv1 y), .int .u64 (wv0 y), .int .u64 (wv3 u), .int .u64 (wv2 u), .int .u64 (wv1 u), .int .u64 (wv0 u)]) (T rfl rfl) rfl ?_)
 intro b6 w7 n8
 have N9 : w.heap.size ≤ b6 := n8.eq ▸ E5.size
 have : b1 < b6 := n8.eq ▸ lt_of_blk n3.blk
 have E10 := below_ext E5 E5.size n8.ext
 refine lw_v (.bool false) (dv_assign C) ?_
 refine lw_nil ?_
 refine rk_seq ?_
 refine rk_any (fun w => w.heap[b1]? = some (.cells #[.int .i64 ax, .int .i64 ay, .int .i64 bx, .int .i64 b_y] 47) ∧ w.heap[b6]? = some (.cells #[.int .u64 (wv3 x), .int .u64 (wv2 x), .int .u64 (wv1 x), .int .u64 (wv0 x), .int .u64 (wv3 y), .int .u64 (wv2 y), .int .u64 (wv1 y), .int .u64 (wv0 y), .int .u64 (wv3 u), .int .u64 (wv2 u), .int .u64 (wv1 u), .int .u64 (wv0 u)] 37)) [12] mo ?_
 intro w11 d12
 have E13 := below_ext E10 E10.size d12.ext
 have H14 := (d12.ext.blk (n8.ext.blk n3.blk))
 have H15 := (d12.ext.blk n8.blk)
 refine aw_load 0 (.agg #[.int .i64 ax, .int .i64 ay, .int .i64 bx, .int .i64 b_y]) rfl (by kernel_rfl) .none ⟨H14, H15⟩ (fun _ s => dv_loads (l := [.int .i64 ax, .int .i64 ay, .int .i64 bx, .int .i64 b_y]) agt47 sz47 (T rfl rfl) s.1 rfl) ?_
 refine aw_one 1 rfl (by kernel_rfl) .none (oe_callf (vs := [.agg #[.int .i64 ax, .int .i64 ay, .int .i64 bx, .int .i64 b_y]]) co65 (ar1 (T rfl rfl)) (sSegOk_ok (ax := ax) (ay := ay) (bx := bx) (b_y := b_y)  ) ?_)
 rintro _ w16 ⟨rfl, e17⟩
 have E18 := below_ext E13 E13.size e17
 have H19 := (e17.blk H14)
 have H20 := (e17.blk H15)
 refine ⟨.inr ⟨H19, H20⟩, ?_⟩
 refine aw_pure 2 (.bool (decide (segOk ax ay bx b_y))) rfl (by kernel_rfl) .none ⟨H19, H20⟩ (fun _ => dv_move (T rfl rfl)) ?_
 by_cases hb21 : segOk ax ay bx b_y
 · have := segOk_rg hb21
   have := hb21.2.2
   refine aw_load 3 (.agg #[.int .u64 (wv3 x), .int .u64 (wv2 x), .int .u64 (wv1 x), .int .u64 (wv0 x), .int .u64 (wv3 y), .int .u64 (wv2 y), .int .u64 (wv1 y), .int .u64 (wv0 y), .int .u64 (wv3 u), .int .u64 (wv2 u), .int .u64 (wv1 u), .int .u64 (wv0 u)]) rfl (by kernel_rfl) (.yes (d := 7) rfl rfl (congrArg Value.bool (decide_eq_true hb21))) ⟨H19, H20⟩ (fun _ s => dv_loads (l := [.int .u64 (wv3 x), .int .u64 (wv2 x), .int .u64 (wv1 x), .int .u64 (wv0 x), .int .u64 (wv3 y), .int .u64 (wv2 y), .int .u64 (wv1 y), .int .u64 (wv0 y), .int .u64 (wv3 u), .int .u64 (wv2 u), .int .u64 (wv1 u), .int .u64 (wv0 u)]) agt37 sz37 (T rfl rfl) s.2 rfl) ?_
   refine aw_one 4 rfl (by kernel_rfl) (.yes (d := 7) rfl rfl (congrArg Value.bool (decide_eq_true hb21))) (oe_callf (vs := [.agg #[.int .u64 (wv3 x), .int .u64 (wv2 x), .int .u64 (wv1 x), .int .u64 (wv0 x), .int .u64 (wv3 y), .int .u64 (wv2 y), .int .u64 (wv1 y), .int .u64 (wv0 y), .int .u64 (wv3 u), .int .u64 (wv2 u), .int .u64 (wv1 u), .int .u64 (wv0 u)]]) co67 (ar1 (T rfl rfl)) (sPointOk_ok (x := x) (y := y) (u := u) fx_ fy_ fu_ ) ?_)
   rintro _ w22 ⟨rfl, e23⟩
   have E24 := below_ext E18 E18.size e23
   have H25 := (e23.blk H19)
   have H26 := (e23.blk H20)
   refine ⟨.inr ⟨H25, H26⟩, ?_⟩
   refine aw_pure 5 (.bool (decide (pOk x y u))) rfl (by kernel_rfl) .none ⟨H25, H26⟩ (fun _ => dv_pick_t (T rfl (congrArg Value.bool (decide_eq_true hb21))) (T rfl rfl)) ?_
   refine aw_pure 6 (.bool (decide (pOk x y u))) rfl (by kernel_rfl) .none ⟨H25, H26⟩ (fun _ => dv_move (T rfl rfl)) ?_
   by_cases hb27 : pOk x y u
   · refine aw_load 7 (.agg #[.int .i64 ax, .int .i64 ay, .int .i64 bx, .int .i64 b_y]) rfl (by kernel_rfl) (.yes (d := 11) rfl rfl (congrArg Value.bool (decide_eq_true hb27))) ⟨H25, H26⟩ (fun _ s => dv_loads (l := [.int .i64 ax, .int .i64 ay, .int .i64 bx, .int .i64 b_y]) agt47 sz47 (T rfl rfl) s.1 rfl) ?_
     refine aw_load 8 (.agg #[.int .u64 (wv3 x), .int .u64 (wv2 x), .int .u64 (wv1 x), .int .u64 (wv0 x), .int .u64 (wv3 y), .int .u64 (wv2 y), .int .u64 (wv1 y), .int .u64 (wv0 y), .int .u64 (wv3 u), .int .u64 (wv2 u), .int .u64 (wv1 u), .int .u64 (wv0 u)]) rfl (by kernel_rfl) (.yes (d := 11) rfl rfl (congrArg Value.bool (decide_eq_true hb27))) ⟨H25, H26⟩ (fun _ s => dv_loads (l := [.int .u64 (wv3 x), .int .u64 (wv2 x), .int .u64 (wv1 x), .int .u64 (wv0 x), .int .u64 (wv3 y), .int .u64 (wv2 y), .int .u64 (wv1 y), .int .u64 (wv0 y), .int .u64 (wv3 u), .int .u64 (wv2 u), .int .u64 (wv1 u), .int .u64 (wv0 u)]) agt37 sz37 (T rfl rfl) s.2 rfl) ?_
     refine aw_one 9 rfl (by kernel_rfl) (.yes (d := 11) rfl rfl (congrArg Value.bool (decide_eq_true hb27))) (oe_callf (vs := [.agg #[.int .u64 (wv3 x), .int .u64 (wv2 x), .int .u64 (wv1 x), .int .u64 (wv0 x), .int .u64 (wv3 y), .int .u64 (wv2 y), .int .u64 (wv1 y), .int .u64 (wv0 y), .int .u64 (wv3 u), .int .u64 (wv2 u), .int .u64 (wv1 u), .int .u64 (wv0 u)]]) co69 (ar1 (T rfl rfl)) (l3Of_ok fx_ fy_ fu_  ) ?_)
     rintro _ w43 ⟨nr28, A29, n30, c31, nr32, A33, n34, c35, nr36, A37, n38, c39, rfl, e44, h40, h41, h42⟩
     have E45 := below_ext E24 E24.size e44
     have lh40 := Num.len (by decide) h40
     have lh41 := Num.len (by decide) h41
     have lh42 := Num.len (by decide) h42
     have H46 := (e44.blk H25)
     have H47 := (e44.blk H26)
     refine ⟨.inr ⟨H46, H47⟩, ?_⟩
     refine aw_one 10 rfl (by kernel_rfl) (.yes (d := 11) rfl rfl (congrArg Value.bool (decide_eq_true hb27))) (oe_callf (vs := [.agg #[.int .i64 ax, .int .i64 ay, .int .i64 bx, .int .i64 b_y], .agg #[.bool nr28, .slice A29 n30 c31, .bool nr32, .slice A33 n34 c35, .bool nr36, .slice A37 n38 c39]]) co94 (ar2 (T rfl rfl) (T rfl rfl)) (l4On_ok h40 h41 h42 (by first | decide | omega) (by first | decide | omega) (by first | decide | omega) (by omega) (by assumption)) ?_)
     rintro _ w48 ⟨rfl, e49⟩
     have E50 := below_ext E45 E45.size e49
     have H51 := (e49.blk H46)
     have H52 := (e49.blk H47)
     refine ⟨.inr ⟨H51, H52⟩, ?_⟩
     refine aw_pure 11 (.bool (decide (onV ax ay bx b_y x y u))) rfl (by kernel_rfl) .none ⟨H51, H52⟩ (fun _ => dv_pick_t (T rfl (congrArg Value.bool (decide_eq_true hb27))) (T rfl rfl)) ?_
     refine aw_last 12 (.bool (decide (onV ax ay bx b_y x y u))) rfl (by kernel_rfl) .none (fun _ => dv_assign (T rfl rfl)) ?_
     refine aw_done (by kernel_rfl) ?_
     refine rk_ret Try.func36 (v := .bool (decide (onV ax ay bx b_y x y u))) (res1 Try.results36 (rv_tmp rfl rfl)) ⟨_, rfl, ?_⟩
     exact ⟨(vb ⟨fun hh => ⟨by assumption, by assumption, hh⟩, fun hh => hh.2.2⟩), E50⟩
   · refine aw_no 7 rfl (by kernel_rfl) (d := 11) rfl rfl (congrArg Value.bool (decide_eq_false hb27)) ⟨H25, H26⟩ ?_
     refine aw_no 8 rfl (by kernel_rfl) (d := 11) rfl rfl (congrArg Value.bool (decide_eq_false hb27)) ⟨H25, H26⟩ ?_
     refine aw_no 9 rfl (by kernel_rfl) (d := 11) rfl rfl (congrArg Value.bool (decide_eq_false hb27)) ⟨H25, H26⟩ ?_
     refine aw_no 10 rfl (by kernel_rfl) (d := 11) rfl rfl (congrArg Value.bool (decide_eq_false hb27)) ⟨H25, H26⟩ ?_
     refine aw_pure 11 (.bool false) rfl (by kernel_rfl) .none ⟨H25, H26⟩ (fun _ => dv_pick_f (T rfl (congrArg Value.bool (decide_eq_false hb27))) C) ?_
     refine aw_last 12 (.bool false) rfl (by kernel_rfl) .none (fun _ => dv_assign (T rfl rfl)) ?_
     refine aw_done (by kernel_rfl) ?_
     refine rk_ret Try.func36 (v := .bool false) (res1 Try.results36 (rv_tmp rfl rfl)) ⟨_, rfl, ?_⟩
     exact ⟨(vf (by first | assumption | (intro hh; first | exact absurd hh (by assumption) | exact absurd hh.1 (by assumption) | exact absurd hh.2 (by assumption) | exact absurd hh.2.1 (by assumption) | exact absurd hh.2.2 (by assumption) | exact absurd hh.1.1 (by assumption) | exact absurd hh.1.2.1 (by assumption) | exact absurd hh.1.2.2 (by assumption)))), E24⟩
 · refine aw_no 3 rfl (by kernel_rfl) (d := 7) rfl rfl (congrArg Value.bool (decide_eq_false hb21)) ⟨H19, H20⟩ ?_
   refine aw_no 4 rfl (by kernel_rfl) (d := 7) rfl rfl (congrArg Value.bool (decide_eq_false hb21)) ⟨H19, H20⟩ ?_
   refine aw_pure 5 (.bool false) rfl (by kernel_rfl) .none ⟨H19, H20⟩ (fun _ => dv_pick_f (T rfl (congrArg Value.bool (decide_eq_false hb21))) C) ?_
   refine aw_pure 6 (.bool false) rfl (by kernel_rfl) .none ⟨H19, H20⟩ (fun _ => dv_move (T rfl rfl)) ?_
   refine aw_no 7 rfl (by kernel_rfl) (d := 11) rfl rfl (rfl) ⟨H19, H20⟩ ?_
   refine aw_no 8 rfl (by kernel_rfl) (d := 11) rfl rfl (rfl) ⟨H19, H20⟩ ?_
   refine aw_no 9 rfl (by kernel_rfl) (d := 11) rfl rfl (rfl) ⟨H19, H20⟩ ?_
   refine aw_no 10 rfl (by kernel_rfl) (d := 11) rfl rfl (rfl) ⟨H19, H20⟩ ?_
   refine aw_pure 11 (.bool false) rfl (by kernel_rfl) .none ⟨H19, H20⟩ (fun _ => dv_pick_f (T rfl rfl) C) ?_
   refine aw_last 12 (.bool false) rfl (by kernel_rfl) .none (fun _ => dv_assign (T rfl rfl)) ?_
   refine aw_done (by kernel_rfl) ?_
   refine rk_ret Try.func36 (v := .bool false) (res1 Try.results36 (rv_tmp rfl rfl)) ⟨_, rfl, ?_⟩
   exact ⟨(vf (by first | assumption | (intro hh; first | exact absurd hh (by assumption) | exact absurd hh.1 (by assumption) | exact absurd hh.2 (by assumption) | exact absurd hh.2.1 (by assumption) | exact absurd hh.2.2 (by assumption) | exact absurd hh.1.1 (by assumption) | exact absurd hh.1.2.1 (by assumption) | exact absurd hh.1.2.2 (by assumption)))), E18⟩
set_option maxHeartbeats 1000000 in
theorem iOnSeg_ok {w : World} {ax ay bx b_y x y u : Int} (fx_ : fits x) (fy_ : fits y) (fu_ : fits u)  : Ct Try.prog 37 [.agg #[.int .i64 ax, .int .i64 ay, .int .i64 bx, .int .i64 b_y], .agg #[.int .u64 (wv3 x), .int .u64 (wv2 x), .int .u64 (wv1 x), .int .u64 (wv0 x), .int .u64 (wv3 y), .int .u64 (wv2 y), .int .u64 (wv1 y), .int .u64 (wv0 y), .int .u64 (wv3 u), .int .u64 (wv2 u), .int .u64 (wv1 u), .int .u64 (wv0 u)]] w fun v w1 => v = .bool (decide (segOk ax ay bx b_y ∧ pOk x y u ∧ onV ax ay bx b_y x y u)) ∧ Ext w w1 := by
 refine ct_run (n := 16) Try.func37 rfl Try.ntmps37 rfl ?_
 have E0 : Below w.heap.size w w := Below.refl _ _
 refine rk_seq ?_
 refine rk_reg ?_
 refine lw_e (oe_box (v := .agg #[.int .i64 ax, .int .i64 ay, .int .i64 bx, .int .i64 b_y]) (cs := #[.int .i64 ax, .int .i64 ay, .int .i64 bx, .int .i64 b_y]) (T rfl rfl) rfl ?_)
 intro b1 w2 n3
 have N4 : w.heap.size ≤ b1 := n3.eq ▸ E0.size
 have E5 := below_ext E0 E0.size n3.ext
 refine lw_e (oe_box (v := .agg #[.int .u64 (wv3 x), .int .u64 (wv2 x), .int .u64 (wv1 x), .int .u64 (wv0 x), .int .u64 (wv3 y), .int .u64 (wv2 y), .int .u64 (wv1 y), .int .u64 (wv0 y), .int .u64 (wv3 u), .int .u64 (wv2 u), .int .u64 (wv1 u), .int .u64 (wv0 u)]) (cs := #[.int .u64 (wv3 x), .int .u64 (wv2 x), .int .u64 (wv1 x), .int .u64 (wv0 x), .int .u64 (wv3 y), .int .u64 (wv2 y), .int .u64 (wv1 y), .int .u64 (wv0 y), .int .u64 (wv3 u), .int .u64 (wv2 u), .int .u64 (wv1 u), .int .u64 (wv0 u)]) (T rfl rfl) rfl ?_)
 intro b6 w7 n8
 have N9 : w.heap.size ≤ b6 := n8.eq ▸ E5.size
 have : b1 < b6 := n8.eq ▸ lt_of_blk n3.blk
 have E10 := below_ext E5 E5.size n8.ext
 refine lw_v (.bool false) (dv_assign C) ?_
 refine lw_nil ?_
 refine rk_seq ?_
 refine rk_reg ?_
 have H11 := (n8.ext.blk n3.blk)
 refine lw_v (.agg #[.int .i64 ax, .int .i64 ay, .int .i64 bx, .int .i64 b_y]) (dv_loads (l := [.int .i64 ax, .int .i64 ay, .int .i64 bx, .int .i64 b_y]) agt47 sz47 (T rfl rfl) H11 rfl) ?_
 refine lw_e (oe_callf (vs := [.agg #[.int .i64 ax, .int .i64 ay, .int .i64 bx, .int .i64 b_y]]) co30 (ar1 (T rfl rfl)) (iSegOk_ok (ax := ax) (ay := ay) (bx := bx) (b_y := b_y)  ) ?_)
 rintro _ w12 ⟨rfl, e13⟩
 have E14 := below_ext E10 E10.size e13
 refine lw_v (.bool (decide (segOk ax ay bx b_y))) (dv_move (T rfl rfl)) ?_
 by_cases hb15 : segOk ax ay bx b_y
 · have := segOk_rg hb15
   have := hb15.2.2
   have H16 := (e13.blk n8.blk)
   refine lw_vy (.agg #[.int .u64 (wv3 x), .int .u64 (wv2 x), .int .u64 (wv1 x), .int .u64 (wv0 x), .int .u64 (wv3 y), .int .u64 (wv2 y), .int .u64 (wv1 y), .int .u64 (wv0 y), .int .u64 (wv3 u), .int .u64 (wv2 u), .int .u64 (wv1 u), .int .u64 (wv0 u)]) (d := 7) rfl rfl (congrArg Value.bool (decide_eq_true hb15)) (dv_loads (l := [.int .u64 (wv3 x), .int .u64 (wv2 x), .int .u64 (wv1 x), .int .u64 (wv0 x), .int .u64 (wv3 y), .int .u64 (wv2 y), .int .u64 (wv1 y), .int .u64 (wv0 y), .int .u64 (wv3 u), .int .u64 (wv2 u), .int .u64 (wv1 u), .int .u64 (wv0 u)]) agt37 sz37 (T rfl rfl) H16 rfl) ?_
   refine lw_ey (d := 7) rfl rfl (congrArg Value.bool (decide_eq_true hb15)) (oe_callf (vs := [.agg #[.int .u64 (wv3 x), .int .u64 (wv2 x), .int .u64 (wv1 x), .int .u64 (wv0 x), .int .u64 (wv3 y), .int .u64 (wv2 y), .int .u64 (wv1 y), .int .u64 (wv0 y), .int .u64 (wv3 u), .int .u64 (wv2 u), .int .u64 (wv1 u), .int .u64 (wv0 u)]]) co75 (ar1 (T rfl rfl)) (iPointOk_ok (x := x) (y := y) (u := u) fx_ fy_ fu_ ) ?_)
   rintro _ w17 ⟨rfl, e18⟩
   have E19 := below_ext E14 E14.size e18
   refine lw_v (.bool (decide (pOk x y u))) (dv_pick_t (T rfl (congrArg Value.bool (decide_eq_true hb15))) (T rfl rfl)) ?_
   refine lw_v (.bool (decide (pOk x y u))) (dv_move (T rfl rfl)) ?_
   by_cases hb20 : pOk x y u
   · have H21 := (e18.blk (e13.blk H11))
     refine lw_vy (.agg #[.int .i64 ax, .int .i64 ay, .int .i64 bx, .int .i64 b_y]) (d := 11) rfl rfl (congrArg Value.bool (decide_eq_true hb20)) (dv_loads (l := [.int .i64 ax, .int .i64 ay, .int .i64 bx, .int .i64 b_y]) agt47 sz47 (T rfl rfl) H21 rfl) ?_
     have H22 := (e18.blk H16)
     refine lw_vy (.agg #[.int .u64 (wv3 x), .int .u64 (wv2 x), .int .u64 (wv1 x), .int .u64 (wv0 x), .int .u64 (wv3 y), .int .u64 (wv2 y), .int .u64 (wv1 y), .int .u64 (wv0 y), .int .u64 (wv3 u), .int .u64 (wv2 u), .int .u64 (wv1 u), .int .u64 (wv0 u)]) (d := 11) rfl rfl (congrArg Value.bool (decide_eq_true hb20)) (dv_loads (l := [.int .u64 (wv3 x), .int .u64 (wv2 x), .int .u64 (wv1 x), .int .u64 (wv0 x), .int .u64 (wv3 y), .int .u64 (wv2 y), .int .u64 (wv1 y), .int .u64 (wv0 y), .int .u64 (wv3 u), .int .u64 (wv2 u), .int .u64 (wv1 u), .int .u64 (wv0 u)]) agt37 sz37 (T rfl rfl) H22 rfl) ?_
     refine lw_ey (d := 11) rfl rfl (congrArg Value.bool (decide_eq_true hb20)) (oe_callf (vs := [.agg #[.int .i64 ax, .int .i64 ay, .int .i64 bx, .int .i64 b_y], .agg #[.int .u64 (wv3 x), .int .u64 (wv2 x), .int .u64 (wv1 x), .int .u64 (wv0 x), .int .u64 (wv3 y), .int .u64 (wv2 y), .int .u64 (wv1 y), .int .u64 (wv0 y), .int .u64 (wv3 u), .int .u64 (wv2 u), .int .u64 (wv1 u), .int .u64 (wv0 u)]]) co95 (ar2 (T rfl rfl) (T rfl rfl)) (onSeg_ok (ax := ax) (ay := ay) (bx := bx) (b_y := b_y) (x := x) (y := y) (u := u) fx_ fy_ fu_ (by omega)) ?_)
     rintro _ w23 ⟨rfl, e24⟩
     have E25 := below_ext E19 E19.size e24
     refine lw_v (.bool (decide (onV ax ay bx b_y x y u))) (dv_pick_t (T rfl (congrArg Value.bool (decide_eq_true hb20))) (T rfl rfl)) ?_
     refine lw_v (.bool (decide (onV ax ay bx b_y x y u))) (dv_assign (T rfl rfl)) ?_
     refine lw_nil ?_
     refine rk_ret Try.func37 (v := .bool (decide (onV ax ay bx b_y x y u))) (res1 Try.results37 (rv_tmp rfl rfl)) ⟨_, rfl, ?_⟩
     exact ⟨(vb ⟨fun hh => ⟨by assumption, by assumption, hh⟩, fun hh => hh.2.2⟩), E25⟩
   · refine lw_no (d := 11) rfl rfl (congrArg Value.bool (decide_eq_false hb20)) ?_
     refine lw_no (d := 11) rfl rfl (congrArg Value.bool (decide_eq_false hb20)) ?_
     refine lw_no (d := 11) rfl rfl (congrArg Value.bool (decide_eq_false hb20)) ?_
     refine lw_v (.bool false) (dv_pick_f (T rfl (congrArg Value.bool (decide_eq_false hb20))) C) ?_
     refine lw_v (.bool false) (dv_assign (T rfl rfl)) ?_
     refine lw_nil ?_
     refine rk_ret Try.func37 (v := .bool false) (res1 Try.results37 (rv_tmp rfl rfl)) ⟨_, rfl, ?_⟩
     exact ⟨(vf (by first | assumption | (intro hh; first | exact absurd hh (by assumption) | exact absurd hh.1 (by assumption) | exact absurd hh.2 (by assumption) | exact absurd hh.2.1 (by assumption) | exact absurd hh.2.2 (by assumption) | exact absurd hh.1.1 (by assumption) | exact absurd hh.1.2.1 (by assumption) | exact absurd hh.1.2.2 (by assumption)))), E19⟩
 · refine lw_no (d := 7) rfl rfl (congrArg Value.bool (decide_eq_false hb15)) ?_
   refine lw_no (d := 7) rfl rfl (congrArg Value.bool (decide_eq_false hb15)) ?_
   refine lw_v (.bool false) (dv_pick_f (T rfl (congrArg Value.bool (decide_eq_false hb15))) C) ?_
   refine lw_v (.bool false) (dv_move (T rfl rfl)) ?_
   refine lw_no (d := 11) rfl rfl (rfl) ?_
   refine lw_no (d := 11) rfl rfl (rfl) ?_
   refine lw_no (d := 11) rfl rfl (rfl) ?_
   refine lw_v (.bool false) (dv_pick_f (T rfl rfl) C) ?_
   refine lw_v (.bool false) (dv_assign (T rfl rfl)) ?_
   refine lw_nil ?_
   refine rk_ret Try.func37 (v := .bool false) (res1 Try.results37 (rv_tmp rfl rfl)) ⟨_, rfl, ?_⟩
   exact ⟨(vf (by first | assumption | (intro hh; first | exact absurd hh (by assumption) | exact absurd hh.1 (by assumption) | exact absurd hh.2 (by assumption) | exact absurd hh.2.1 (by assumption) | exact absurd hh.2.2 (by assumption) | exact absurd hh.1.1 (by assumption) | exact absurd hh.1.2.1 (by assumption) | exact absurd hh.1.2.2 (by assumption)))), E14⟩
end Go.Proofs.Ytdanhdbanfpghaa.W
set_option linter.unusedVariables false
set_option linter.unusedSimpArgs false
namespace Go.Proofs.Ytdanhdbanfpghaa.W
open Go Go.RowKit Go.Proofs.Ytdanhdbanfpghaa.Fw
attribute [local irreducible] RunK LW AW DV OE Ct
theorem co36 : callOk Try.prog 36 = true := by kernel_rfl
theorem co37 : callOk Try.prog 37 = true := by kernel_rfl
set_option maxHeartbeats 1000000 in
theorem lawOnSeg_ok {w : World} {ax ay bx b_y x y u : Int} (fx_ : fits x) (fy_ : fits y) (fu_ : fits u) (iax_ : -9223372036854775808 ≤ ax ∧ ax ≤ 9223372036854775807) (iay_ : -9223372036854775808 ≤ ay ∧ ay ≤ 9223372036854775807) (ibx_ : -9223372036854775808 ≤ bx ∧ bx ≤ 9223372036854775807) (ib_y_ : -9223372036854775808 ≤ b_y ∧ b_y ≤ 9223372036854775807) : Ct Try.prog 8 [.agg #[.int .i64 ax, .int .i64 ay, .int .i64 bx, .int .i64 b_y], .agg #[.int .u64 (wv3 x), .int .u64 (wv2 x), .int .u64 (wv1 x), .int .u64 (wv0 x), .int .u64 (wv3 y), .int .u64 (wv2 y), .int .u64 (wv1 y), .int .u64 (wv0 y), .int .u64 (wv3 u), .int .u64 (wv2 u), .int .u64 (wv1 u), .int .u64 (wv0 u)]] w fun v w1 => v = .bool true ∧ Ext w w1 := by
 refine ct_run (n := 20) Try.func8 rfl Try.ntmps8 rfl ?_
 have E0 : Below w.heap.size w w := Below.refl _ _
 refine rk_seq ?_
 refine rk_reg ?_
 refine lw_e (oe_box (v := .agg #[.int .i64 ax, .int .i64 ay, .int .i64 bx, .int .i64 b_y]) (cs := #[.int .i64 ax, .int .i64 ay, .int .i64 bx, .int .i64 b_y]) (T rfl rfl) rfl ?_)
 intro b1 w2 n3
 have N4 : w.heap.size ≤ b1 := n3.eq ▸ E0.size
 have E5 := below_ext E0 E0.size n3.ext
 refine lw_e (oe_box (v := .agg #[.int .u64 (wv3 x), .int .u64 (wv2 x), .int .u64 (wv1 x), .int .u64 (wv0 x), .int .u64 (wv3 y), .int .u64 (wv2 y), .int .u64 (wv1 y), .int .u64 (wv0 y), .int .u64 (wv3 u), .int .u64 (wv2 u), .int .u64 (wv1 u), .int .u64 (wv0 u)]) (cs := #[.int .u64 (wv3 x), .int .u64 (wv2 x), .int .u64 (wv1 x), .int .u64 (wv0 x), .int .u64 (wv3 y), .int .u64 (wv2 y), .int .u64 (wv1 y), .int .u64 (wv0 y), .int .u64 (wv3 u), .int .u64 (wv2 u), .int .u64 (wv1 u), .int .u64 (wv0 u)]) (T rfl rfl) rfl ?_)
 intro b6 w7 n8
 have N9 : w.heap.size ≤ b6 := n8.eq ▸ E5.size
 have : b1 < b6 := n8.eq ▸ lt_of_blk n3.blk
 have E10 := below_ext E5 E5.size n8.ext
 refine lw_v (.bool false) (dv_assign C) ?_
 refine lw_nil ?_
 refine rk_seq ?_
 refine rk_any (fun w => w.heap[b1]? = some (.cells #[.int .i64 ax, .int .i64 ay, .int .i64 bx, .int .i64 b_y] 43) ∧ w.heap[b6]? = some (.cells #[.int .u64 (wv3 x), .int .u64 (wv2 x), .int .u64 (wv1 x), .int .u64 (wv0 x), .int .u64 (wv3 y), .int .u64 (wv2 y), .int .u64 (wv1 y), .int .u64 (wv0 y), .int .u64 (wv3 u), .int .u64 (wv2 u), .int .u64 (wv1 u), .int .u64 (wv0 u)] 33)) [5] mo ?_
 intro w11 d12
 have E13 := below_ext E10 E10.size d12.ext
 have H14 := (d12.ext.blk (n8.ext.blk n3.blk))
 have H15 := (d12.ext.blk n8.blk)
 refine aw_load 0 (.agg #[.int .i64 ax, .int .i64 ay, .int .i64 bx, .int .i64 b_y]) rfl (by kernel_rfl) .none ⟨H14, H15⟩ (fun _ s => dv_loads (l := [.int .i64 ax, .int .i64 ay, .int .i64 bx, .int .i64 b_y]) agt43 sz43 (T rfl rfl) s.1 rfl) ?_
 refine aw_load 2 (.agg #[.int .u64 (wv3 x), .int .u64 (wv2 x), .int .u64 (wv1 x), .int .u64 (wv0 x), .int .u64 (wv3 y), .int .u64 (wv2 y), .int .u64 (wv1 y), .int .u64 (wv0 y), .int .u64 (wv3 u), .int .u64 (wv2 u), .int .u64 (wv1 u), .int .u64 (wv0 u)]) rfl (by kernel_rfl) .none ⟨H14, H15⟩ (fun _ s => dv_loads (l := [.int .u64 (wv3 x), .int .u64 (wv2 x), .int .u64 (wv1 x), .int .u64 (wv0 x), .int .u64 (wv3 y), .int .u64 (wv2 y), .int .u64 (wv1 y), .int .u64 (wv0 y), .int .u64 (wv3 u), .int .u64 (wv2 u), .int .u64 (wv1 u), .int .u64 (wv0 u)]) agt33 sz33 (T rfl rfl) s.2 rfl) ?_
 refine aw_one 1 rfl (by kernel_rfl) .none (oe_callf (vs := [.agg #[.int .i64 ax, .int .i64 ay, .int .i64 bx, .int .i64 b_y]]) co24 (ar1 (T rfl rfl)) (toSeg_ok (ax := ax) (ay := ay) (bx := bx) (b_y := b_y)  ) ?_)
 rintro _ w16 ⟨rfl, e17⟩
 have E18 := below_ext E13 E13.size e17
 have H19 := (e17.blk H14)
 have H20 := (e17.blk H15)
 refine ⟨.inr ⟨H19, H20⟩, ?_⟩
 refine aw_one 3 rfl (by kernel_rfl) .none (oe_callf (vs := [.agg #[.int .u64 (wv3 x), .int .u64 (wv2 x), .int .u64 (wv1 x), .int .u64 (wv0 x), .int .u64 (wv3 y), .int .u64 (wv2 y), .int .u64 (wv1 y), .int .u64 (wv0 y), .int .u64 (wv3 u), .int .u64 (wv2 u), .int .u64 (wv1 u), .int .u64 (wv0 u)]]) co21 (ar1 (T rfl rfl)) (toPoint_ok (x := x) (y := y) (u := u)  ) ?_)
 rintro _ w21 ⟨rfl, e22⟩
 have E23 := below_ext E18 E18.size e22
 have H24 := (e22.blk H19)
 have H25 := (e22.blk H20)
 refine ⟨.inr ⟨H24, H25⟩, ?_⟩
 refine aw_one 4 rfl (by kernel_rfl) .none (oe_callf (vs := [.agg #[.int .i64 ax, .int .i64 ay, .int .i64 bx, .int .i64 b_y], .agg #[.int .u64 (wv3 x), .int .u64 (wv2 x), .int .u64 (wv1 x), .int .u64 (wv0 x), .int .u64 (wv3 y), .int .u64 (wv2 y), .int .u64 (wv1 y), .int .u64 (wv0 y), .int .u64 (wv3 u), .int .u64 (wv2 u), .int .u64 (wv1 u), .int .u64 (wv0 u)]]) co36 (ar2 (T rfl rfl) (T rfl rfl)) (sOnSeg_ok (ax := ax) (ay := ay) (bx := bx) (b_y := b_y) (x := x) (y := y) (u := u) fx_ fy_ fu_ ) ?_)
 rintro _ w26 ⟨rfl, e27⟩
 have E28 := below_ext E23 E23.size e27
 have H29 := (e27.blk H24)
 have H30 := (e27.blk H25)
 refine ⟨.inr ⟨H29, H30⟩, ?_⟩
 refine aw_last 5 (.bool (decide (segOk ax ay bx b_y ∧ pOk x y u ∧ onV ax ay bx b_y x y u))) rfl (by kernel_rfl) .none (fun _ => dv_assign (T rfl rfl)) ?_
 refine aw_done (by kernel_rfl) ?_
 refine rk_seq ?_
 refine rk_any (fun w => w.heap[b1]? = some (.cells #[.int .i64 ax, .int .i64 ay, .int .i64 bx, .int .i64 b_y] 43) ∧ w.heap[b6]? = some (.cells #[.int .u64 (wv3 x), .int .u64 (wv2 x), .int .u64 (wv1 x), .int .u64 (wv0 x), .int .u64 (wv3 y), .int .u64 (wv2 y), .int .u64 (wv1 y), .int .u64 (wv0 y), .int .u64 (wv3 u), .int .u64 (wv2 u), .int .u64 (wv1 u), .int .u64 (wv0 u)] 33)) [5] mo ?_
 intro w31 d32
 have E33 := below_ext E28 E28.size d32.ext
 have H34 := (d32.ext.blk H29)
 have H35 := (d32.ext.blk H30)
 refine aw_load 0 (.agg #[.int .i64 ax, .int .i64 ay, .int .i64 bx, .int .i64 b_y]) rfl (by kernel_rfl) .none ⟨H34, H35⟩ (fun _ s => dv_loads (l := [.int .i64 ax, .int .i64 ay, .int .i64 bx, .int .i64 b_y]) agt43 sz43 (T rfl rfl) s.1 rfl) ?_
 refine aw_load 2 (.agg #[.int .u64 (wv3 x), .int .u64 (wv2 x), .int .u64 (wv1 x), .int .u64 (wv0 x), .int .u64 (wv3 y), .int .u64 (wv2 y), .int .u64 (wv1 y), .int .u64 (wv0 y), .int .u64 (wv3 u), .int .u64 (wv2 u), .int .u64 (wv1 u), .int .u64 (wv0 u)]) rfl (by kernel_rfl) .none ⟨H34, H35⟩ (fun _ s => dv_loads (l := [.int .u64 (wv3 x), .int .u64 (wv2 x), .int .u64 (wv1 x), .int .u64 (wv0 x), .int .u64 (wv3 y), .int .u64 (wv2 y), .int .u64 (wv1 y), .int .u64 (wv0 y), .int .u64 (wv3 u), .int .u64 (wv2 u), .int .u64 (wv1 u), .int .u64 (wv0 u)]) agt33 sz33 (T rfl rfl) s.2 rfl) ?_
 refine aw_one 1 rfl (by kernel_rfl) .none (oe_callf (vs := [.agg #[.int .i64 ax, .int .i64 ay, .int .i64 bx, .int .i64 b_y]]) co24 (ar1 (T rfl rfl)) (toSeg_ok (ax := ax) (ay := ay) (bx := bx) (b_y := b_y)  ) ?_)
 rintro _ w36 ⟨rfl, e37⟩
 have E38 := below_ext E33 E33.size e37
 have H39 := (e37.blk H34)
 have H40 := (e37.blk H35)
 refine ⟨.inr ⟨H39, H40⟩, ?_⟩
 refine aw_one 3 rfl (by kernel_rfl) .none (oe_callf (vs := [.agg #[.int .u64 (wv3 x), .int .u64 (wv2 x), .int .u64 (wv1 x), .int .u64 (wv0 x), .int .u64 (wv3 y), .int .u64 (wv2 y), .int .u64 (wv1 y), .int .u64 (wv0 y), .int .u64 (wv3 u), .int .u64 (wv2 u), .int .u64 (wv1 u), .int .u64 (wv0 u)]]) co21 (ar1 (T rfl rfl)) (toPoint_ok (x := x) (y := y) (u := u)  ) ?_)
 rintro _ w41 ⟨rfl, e42⟩
 have E43 := below_ext E38 E38.size e42
 have H44 := (e42.blk H39)
 have H45 := (e42.blk H40)
 refine ⟨.inr ⟨H44, H45⟩, ?_⟩
 refine aw_one 4 rfl (by kernel_rfl) .none (oe_callf (vs := [.agg #[.int .i64 ax, .int .i64 ay, .int .i64 bx, .int .i64 b_y], .agg #[.int .u64 (wv3 x), .int .u64 (wv2 x), .int .u64 (wv1 x), .int .u64 (wv0 x), .int .u64 (wv3 y), .int .u64 (wv2 y), .int .u64 (wv1 y), .int .u64 (wv0 y), .int .u64 (wv3 u), .int .u64 (wv2 u), .int .u64 (wv1 u), .int .u64 (wv0 u)]]) co37 (ar2 (T rfl rfl) (T rfl rfl)) (iOnSeg_ok (ax := ax) (ay := ay) (bx := bx) (b_y := b_y) (x := x) (y := y) (u := u) fx_ fy_ fu_ ) ?_)
 rintro _ w46 ⟨rfl, e47⟩
 have E48 := below_ext E43 E43.size e47
 have H49 := (e47.blk H44)
 have H50 := (e47.blk H45)
 refine ⟨.inr ⟨H49, H50⟩, ?_⟩
 refine aw_last 5 (.bool (decide (segOk ax ay bx b_y ∧ pOk x y u ∧ onV ax ay bx b_y x y u))) rfl (by kernel_rfl) .none (fun _ => dv_assign (T rfl rfl)) ?_
 refine aw_done (by kernel_rfl) ?_
 refine rk_seq ?_
 refine rk_seq ?_
 refine rk_reg ?_
 refine lw_v (.bool (decide (segOk ax ay bx b_y ∧ pOk x y u ∧ onV ax ay bx b_y x y u))) (dv_move (T rfl rfl)) ?_
 refine lw_v (.bool (decide (segOk ax ay bx b_y ∧ pOk x y u ∧ onV ax ay bx b_y x y u))) (dv_move (T rfl rfl)) ?_
 refine lw_v (.bool ((decide (segOk ax ay bx b_y ∧ pOk x y u ∧ onV ax ay bx b_y x y u)) != (decide (segOk ax ay bx b_y ∧ pOk x y u ∧ onV ax ay bx b_y x y u)))) (dv_neqb (a := decide (segOk ax ay bx b_y ∧ pOk x y u ∧ onV ax ay bx b_y x y u)) (b := decide (segOk ax ay bx b_y ∧ pOk x y u ∧ onV ax ay bx b_y x y u)) ub4 (T rfl rfl) (T rfl rfl)) ?_
 refine lw_nil ?_
 rcases Bool.eq_false_or_eq_true ((decide (segOk ax ay bx b_y ∧ pOk x y u ∧ onV ax ay bx b_y x y u)) != (decide (segOk ax ay bx b_y ∧ pOk x y u ∧ onV ax ay bx b_y x y u))) with hb51 | hb51
 · refine rk_ct (T rfl (congrArg Value.bool hb51)) ?_
   refine rk_seq ?_
   refine rk_reg ?_
   refine lw_v (.bool false) (dv_assign C) ?_
   refine lw_nil ?_
   refine rk_ret Try.func8 (v := .bool false) (res1 Try.results8 (rv_tmp rfl rfl)) ⟨_, rfl, ?_⟩
   exact ⟨(by exfalso; grind), E48⟩
 · refine rk_cf (T rfl (congrArg Value.bool hb51)) ?_
   refine rk_skip ?_
   refine rk_seq ?_
   refine rk_reg ?_
   refine lw_v (.bool true) (dv_assign C) ?_
   refine lw_nil ?_
   refine rk_ret Try.func8 (v := .bool true) (res1 Try.results8 (rv_tmp rfl rfl)) ⟨_, rfl, ?_⟩
   exact ⟨rfl, E48⟩
theorem lawOnSeg_w {w : World} {ax ay bx b_y x3 x2 x1 x0 y3 y2 y1 y0 u3 u2 u1 u0 : Int} (iax_ : -9223372036854775808 ≤ ax ∧ ax ≤ 9223372036854775807) (iay_ : -9223372036854775808 ≤ ay ∧ ay ≤ 9223372036854775807) (ibx_ : -9223372036854775808 ≤ bx ∧ bx ≤ 9223372036854775807) (ib_y_ : -9223372036854775808 ≤ b_y ∧ b_y ≤ 9223372036854775807) (hx3 : 0 ≤ x3 ∧ x3 < 18446744073709551616) (hx2 : 0 ≤ x2 ∧ x2 < 18446744073709551616) (hx1 : 0 ≤ x1 ∧ x1 < 18446744073709551616) (hx0 : 0 ≤ x0 ∧ x0 < 18446744073709551616) (hy3 : 0 ≤ y3 ∧ y3 < 18446744073709551616) (hy2 : 0 ≤ y2 ∧ y2 < 18446744073709551616) (hy1 : 0 ≤ y1 ∧ y1 < 18446744073709551616) (hy0 : 0 ≤ y0 ∧ y0 < 18446744073709551616) (hu3 : 0 ≤ u3 ∧ u3 < 18446744073709551616) (hu2 : 0 ≤ u2 ∧ u2 < 18446744073709551616) (hu1 : 0 ≤ u1 ∧ u1 < 18446744073709551616) (hu0 : 0 ≤ u0 ∧ u0 < 18446744073709551616) : Ct Try.prog 8 [.agg #[.int .i64 ax, .int .i64 ay, .int .i64 bx, .int .i64 b_y], .agg #[.int .u64 x3, .int .u64 x2, .int .u64 x1, .int .u64 x0, .int .u64 y3, .int .u64 y2, .int .u64 y1, .int .u64 y0, .int .u64 u3, .int .u64 u2, .int .u64 u1, .int .u64 u0]] w fun v w1 => v = .bool true ∧ Ext w w1 := by
 obtain ⟨x, fx, rfl, rfl, rfl, rfl⟩ := words_z hx3 hx2 hx1 hx0
 obtain ⟨y, fy, rfl, rfl, rfl, rfl⟩ := words_z hy3 hy2 hy1 hy0
 obtain ⟨u, fu, rfl, rfl, rfl, rfl⟩ := words_z hu3 hu2 hu1 hu0
 exact lawOnSeg_ok fx fy fu iax_ iay_ ibx_ ib_y_
end Go.Proofs.Ytdanhdbanfpghaa.W
