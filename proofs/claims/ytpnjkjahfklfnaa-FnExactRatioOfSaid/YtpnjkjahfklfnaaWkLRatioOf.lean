/- WkLRatioOf: walks, written by a program of this session. -/
import Derived.Test.YtpnjkjahfklfnaaWk22
set_option linter.unusedVariables false
set_option linter.unusedSimpArgs false
namespace Go.Proofs.Ytpnjkjahfklfnaa.W
open Go Go.RowKit Go.Proofs.Ytpnjkjahfklfnaa.Fw
attribute [local irreducible] RunK LW AW DV OE Ct
theorem co15 : callOk Try.prog 15 = true := by kernel_rfl
theorem co17 : callOk Try.prog 17 = true := by kernel_rfl
theorem co18 : callOk Try.prog 18 = true := by kernel_rfl
theorem co44 : callOk Try.prog 44 = true := by kernel_rfl
theorem co48 : callOk Try.prog 48 = true := by kernel_rfl
theorem eg25 : Try.prog.eqGuardType Try.prog.depth 25 = false := by kernel_rfl
theorem fl25 : flatB Try.prog 25 .u64 4 = true := by kernel_rfl
set_option maxHeartbeats 1000000 in
theorem iRatioOf_ok {w : World} {x y : Int} (fx_ : fits x) (fy_ : fits y)  : Ct Try.prog 17 [.agg #[.int .u64 (wv3 x), .int .u64 (wv2 x), .int .u64 (wv1 x), .int .u64 (wv0 x)], .agg #[.int .u64 (wv3 y), .int .u64 (wv2 y), .int .u64 (wv1 y), .int .u64 (wv0 y)]] w fun v w1 => v = .tuple #[.agg #[.int .u64 (wv3 (pkz (rFit x y) (rUp (x) (y)))), .int .u64 (wv2 (pkz (rFit x y) (rUp (x) (y)))), .int .u64 (wv1 (pkz (rFit x y) (rUp (x) (y)))), .int .u64 (wv0 (pkz (rFit x y) (rUp (x) (y)))), .int .u64 (wv3 (pkz (rFit x y) (rDn (x) (y)))), .int .u64 (wv2 (pkz (rFit x y) (rDn (x) (y)))), .int .u64 (wv1 (pkz (rFit x y) (rDn (x) (y)))), .int .u64 (wv0 (pkz (rFit x y) (rDn (x) (y))))], .bool (decide (rFit x y))] ∧ Ext w w1 := by
  refine ct_run (n := 14) Try.func17 rfl Try.ntmps17 rfl ?_
  have E0 : Below w.heap.size w w := Below.refl _ _
  refine rk_seq ?_
  refine rk_reg ?_
  refine lw_e (oe_box (v := .agg #[.int .u64 (wv3 x), .int .u64 (wv2 x), .int .u64 (wv1 x), .int .u64 (wv0 x)]) (cs := #[.int .u64 (wv3 x), .int .u64 (wv2 x), .int .u64 (wv1 x), .int .u64 (wv0 x)]) (T rfl rfl) rfl ?_)
  intro b1 w2 n3
  have N4 : w.heap.size ≤ b1 := n3.eq ▸ E0.size
  have E5 := below_ext E0 E0.size n3.ext
  refine lw_e (oe_box (v := .agg #[.int .u64 (wv3 y), .int .u64 (wv2 y), .int .u64 (wv1 y), .int .u64 (wv0 y)]) (cs := #[.int .u64 (wv3 y), .int .u64 (wv2 y), .int .u64 (wv1 y), .int .u64 (wv0 y)]) (T rfl rfl) rfl ?_)
  intro b6 w7 n8
  have N9 : w.heap.size ≤ b6 := n8.eq ▸ E5.size
  have : b1 < b6 := n8.eq ▸ lt_of_blk n3.blk
  have E10 := below_ext E5 E5.size n8.ext
  refine lw_e (oe_alloc ze27 ?_)
  intro b11 w12 n13
  have N14 : w.heap.size ≤ b11 := n13.eq ▸ E10.size
  have : b6 < b11 := n13.eq ▸ lt_of_blk n8.blk
  have E15 := below_ext E10 E10.size n13.ext
  refine lw_v (.bool false) (dv_assign C) ?_
  refine lw_nil ?_
  refine rk_seq ?_
  refine rk_any (fun w => w.heap[b1]? = some (.cells #[.int .u64 (wv3 x), .int .u64 (wv2 x), .int .u64 (wv1 x), .int .u64 (wv0 x)] 25) ∧ w.heap[b6]? = some (.cells #[.int .u64 (wv3 y), .int .u64 (wv2 y), .int .u64 (wv1 y), .int .u64 (wv0 y)] 25)) [9] mo ?_
  intro w16 d17
  have E18 := below_ext E15 E15.size d17.ext
  have H19 := (d17.ext.blk (n13.ext.blk (n8.ext.blk n3.blk)))
  have H20 := (d17.ext.blk (n13.ext.blk n8.blk))
  refine aw_load 0 (.agg #[.int .u64 (wv3 x), .int .u64 (wv2 x), .int .u64 (wv1 x), .int .u64 (wv0 x)]) rfl (by kernel_rfl) .none ⟨H19, H20⟩ (fun _ s => dv_loads (l := [.int .u64 (wv3 x), .int .u64 (wv2 x), .int .u64 (wv1 x), .int .u64 (wv0 x)]) agt25 sz25 (T rfl rfl) s.1 rfl) ?_
  refine aw_load 2 (.agg #[.int .u64 (wv3 y), .int .u64 (wv2 y), .int .u64 (wv1 y), .int .u64 (wv0 y)]) rfl (by kernel_rfl) .none ⟨H19, H20⟩ (fun _ s => dv_loads (l := [.int .u64 (wv3 y), .int .u64 (wv2 y), .int .u64 (wv1 y), .int .u64 (wv0 y)]) agt25 sz25 (T rfl rfl) s.2 rfl) ?_
  refine aw_one 1 rfl (by kernel_rfl) .none (oe_callf (vs := [.agg #[.int .u64 (wv3 x), .int .u64 (wv2 x), .int .u64 (wv1 x), .int .u64 (wv0 x)]]) co47 (ar1 (T rfl rfl)) (wnumz_ok (z := x) fx_) ?_)
  rintro _ w26 ⟨nr21, A22, n23, c24, rfl, e27, h25⟩
  have E28 := below_ext E18 E18.size e27
  have lh25 := Num.len (by decide) h25
  have H29 := (e27.blk H19)
  have H30 := (e27.blk H20)
  refine ⟨.inr ⟨H29, H30⟩, ?_⟩
  refine aw_one 3 rfl (by kernel_rfl) .none (oe_callf (vs := [.agg #[.int .u64 (wv3 y), .int .u64 (wv2 y), .int .u64 (wv1 y), .int .u64 (wv0 y)]]) co47 (ar1 (T rfl rfl)) (wnumz_ok (z := y) fy_) ?_)
  rintro _ w36 ⟨nr31, A32, n33, c34, rfl, e37, h35⟩
  have E38 := below_ext E28 E28.size e37
  have lh35 := Num.len (by decide) h35
  have H39 := (e37.blk H29)
  have H40 := (e37.blk H30)
  refine ⟨.inr ⟨H39, H40⟩, ?_⟩
  refine aw_pure 4 (.agg #[.bool nr21, .slice A22 n23 c24, .bool nr31, .slice A32 n33 c34]) rfl (by kernel_rfl) .none ⟨H39, H40⟩ (fun _ => dv_build (pv := [(0, .agg #[.bool nr21, .slice A22 n23 c24]), (1, .agg #[.bool nr31, .slice A32 n33 c34])]) (l := [.bool nr21, .slice A22 n23 c24, .bool nr31, .slice A32 n33 c34]) zc72 pl72 ⟨rfl, (T rfl rfl), ⟨rfl, (T rfl rfl), trivial⟩⟩ rfl) ?_
  have h41 := (h25.ext e37)
  refine aw_one 5 rfl (by kernel_rfl) .none (oe_callf (vs := [.agg #[.bool nr21, .slice A22 n23 c24, .bool nr31, .slice A32 n33 c34]]) co48 (ar1 (T rfl rfl)) (told_ok h41 h35 (by first | decide | omega) (by first | decide | omega) ) ?_)
  rintro _ w42 ⟨rfl, e43⟩
  have E44 := below_ext E38 E38.size e43
  have H45 := (e43.blk H39)
  have H46 := (e43.blk H40)
  refine ⟨.inr ⟨H45, H46⟩, ?_⟩
  refine aw_pure 6 (.agg #[.int .u64 (wv3 (pkz (rFit x y) (rUp x y))), .int .u64 (wv2 (pkz (rFit x y) (rUp x y))), .int .u64 (wv1 (pkz (rFit x y) (rUp x y))), .int .u64 (wv0 (pkz (rFit x y) (rUp x y))), .int .u64 (wv3 (pkz (rFit x y) (rDn x y))), .int .u64 (wv2 (pkz (rFit x y) (rDn x y))), .int .u64 (wv1 (pkz (rFit x y) (rDn x y))), .int .u64 (wv0 (pkz (rFit x y) (rDn x y)))]) rfl (by kernel_rfl) .none ⟨H45, H46⟩ (fun _ => dv_extract (vs := #[.agg #[.int .u64 (wv3 (pkz (rFit x y) (rUp x y))), .int .u64 (wv2 (pkz (rFit x y) (rUp x y))), .int .u64 (wv1 (pkz (rFit x y) (rUp x y))), .int .u64 (wv0 (pkz (rFit x y) (rUp x y))), .int .u64 (wv3 (pkz (rFit x y) (rDn x y))), .int .u64 (wv2 (pkz (rFit x y) (rDn x y))), .int .u64 (wv1 (pkz (rFit x y) (rDn x y))), .int .u64 (wv0 (pkz (rFit x y) (rDn x y)))], .bool (decide (rFit x y))]) (T rfl rfl) rfl) ?_
  refine aw_pure 7 (.bool (decide (rFit x y))) rfl (by kernel_rfl) .none ⟨H45, H46⟩ (fun _ => dv_extract (vs := #[.agg #[.int .u64 (wv3 (pkz (rFit x y) (rUp x y))), .int .u64 (wv2 (pkz (rFit x y) (rUp x y))), .int .u64 (wv1 (pkz (rFit x y) (rUp x y))), .int .u64 (wv0 (pkz (rFit x y) (rUp x y))), .int .u64 (wv3 (pkz (rFit x y) (rDn x y))), .int .u64 (wv2 (pkz (rFit x y) (rDn x y))), .int .u64 (wv1 (pkz (rFit x y) (rDn x y))), .int .u64 (wv0 (pkz (rFit x y) (rDn x y)))], .bool (decide (rFit x y))]) (T rfl rfl) rfl) ?_
  have H47 := (e43.blk (e37.blk (e27.blk (d17.ext.blk n13.blk))))
  refine aw_one 8 rfl (by kernel_rfl) .none (oe_store (v := .agg #[.int .u64 (wv3 (pkz (rFit x y) (rUp x y))), .int .u64 (wv2 (pkz (rFit x y) (rUp x y))), .int .u64 (wv1 (pkz (rFit x y) (rUp x y))), .int .u64 (wv0 (pkz (rFit x y) (rUp x y))), .int .u64 (wv3 (pkz (rFit x y) (rDn x y))), .int .u64 (wv2 (pkz (rFit x y) (rDn x y))), .int .u64 (wv1 (pkz (rFit x y) (rDn x y))), .int .u64 (wv0 (pkz (rFit x y) (rDn x y)))]) (vs := [.int .u64 (wv3 (pkz (rFit x y) (rUp x y))), .int .u64 (wv2 (pkz (rFit x y) (rUp x y))), .int .u64 (wv1 (pkz (rFit x y) (rUp x y))), .int .u64 (wv0 (pkz (rFit x y) (rUp x y))), .int .u64 (wv3 (pkz (rFit x y) (rDn x y))), .int .u64 (wv2 (pkz (rFit x y) (rDn x y))), .int .u64 (wv1 (pkz (rFit x y) (rDn x y))), .int .u64 (wv0 (pkz (rFit x y) (rDn x y)))]) (l := [.int .u64 (wv3 (pkz (rFit x y) (rUp x y))), .int .u64 (wv2 (pkz (rFit x y) (rUp x y))), .int .u64 (wv1 (pkz (rFit x y) (rUp x y))), .int .u64 (wv0 (pkz (rFit x y) (rUp x y))), .int .u64 (wv3 (pkz (rFit x y) (rDn x y))), .int .u64 (wv2 (pkz (rFit x y) (rDn x y))), .int .u64 (wv1 (pkz (rFit x y) (rDn x y))), .int .u64 (wv0 (pkz (rFit x y) (rDn x y)))]) (T rfl rfl) (T rfl rfl) sz27 rfl rfl rfl H47 rfl ?_)
  intro w48 s49 H50
  have E51 := below_st E44 N14 s49
  have H52 := (s49.blk H45 (by omega))
  have H53 := (s49.blk H46 (by omega))
  refine ⟨.inr ⟨H52, H53⟩, ?_⟩
  refine aw_last 9 (.bool (decide (rFit x y))) rfl (by kernel_rfl) .none (fun _ => dv_assign (T rfl rfl)) ?_
  refine aw_done (by kernel_rfl) ?_
  refine rk_ret Try.func17 (v := .tuple #[.agg #[.int .u64 (wv3 (pkz (rFit x y) (rUp x y))), .int .u64 (wv2 (pkz (rFit x y) (rUp x y))), .int .u64 (wv1 (pkz (rFit x y) (rUp x y))), .int .u64 (wv0 (pkz (rFit x y) (rUp x y))), .int .u64 (wv3 (pkz (rFit x y) (rDn x y))), .int .u64 (wv2 (pkz (rFit x y) (rDn x y))), .int .u64 (wv1 (pkz (rFit x y) (rDn x y))), .int .u64 (wv0 (pkz (rFit x y) (rDn x y)))], .bool (decide (rFit x y))]) (res2 Try.results17 (rv_cells (l := [.int .u64 (wv3 (pkz (rFit x y) (rUp x y))), .int .u64 (wv2 (pkz (rFit x y) (rUp x y))), .int .u64 (wv1 (pkz (rFit x y) (rUp x y))), .int .u64 (wv0 (pkz (rFit x y) (rUp x y))), .int .u64 (wv3 (pkz (rFit x y) (rDn x y))), .int .u64 (wv2 (pkz (rFit x y) (rDn x y))), .int .u64 (wv1 (pkz (rFit x y) (rDn x y))), .int .u64 (wv0 (pkz (rFit x y) (rDn x y)))]) agt27 sz27 rfl rfl H50 rfl) (rv_tmp rfl rfl)) ⟨_, rfl, ?_⟩
  have hi : (rFit x y) ↔ (rFit x y) := by first | exact Iff.rfl | exact ⟨fun hh => ⟨by assumption, hh⟩, fun hh => hh.2⟩
  exact ⟨(tu2 (ag8 (vi (by rw [pkz_iff hi])) (vi (by rw [pkz_iff hi])) (vi (by rw [pkz_iff hi])) (vi (by rw [pkz_iff hi])) (vi (by rw [pkz_iff hi])) (vi (by rw [pkz_iff hi])) (vi (by rw [pkz_iff hi])) (vi (by rw [pkz_iff hi]))) (vb hi)), E51⟩

set_option maxHeartbeats 1000000 in
theorem sRatioOf_ok {w : World} {x y : Int} (fx_ : fits x) (fy_ : fits y)  : Ct Try.prog 15 [.agg #[.int .u64 (wv3 x), .int .u64 (wv2 x), .int .u64 (wv1 x), .int .u64 (wv0 x)], .agg #[.int .u64 (wv3 y), .int .u64 (wv2 y), .int .u64 (wv1 y), .int .u64 (wv0 y)]] w fun v w1 => v = .tuple #[.agg #[.int .u64 (wv3 (pkz (rFit x y) (rUp (x) (y)))), .int .u64 (wv2 (pkz (rFit x y) (rUp (x) (y)))), .int .u64 (wv1 (pkz (rFit x y) (rUp (x) (y)))), .int .u64 (wv0 (pkz (rFit x y) (rUp (x) (y)))), .int .u64 (wv3 (pkz (rFit x y) (rDn (x) (y)))), .int .u64 (wv2 (pkz (rFit x y) (rDn (x) (y)))), .int .u64 (wv1 (pkz (rFit x y) (rDn (x) (y)))), .int .u64 (wv0 (pkz (rFit x y) (rDn (x) (y))))], .bool (decide (rFit x y))] ∧ Ext w w1 := by
  refine ct_run (n := 18) Try.func15 rfl Try.ntmps15 rfl ?_
  have E0 : Below w.heap.size w w := Below.refl _ _
  refine rk_seq ?_
  refine rk_reg ?_
  refine lw_e (oe_box (v := .agg #[.int .u64 (wv3 x), .int .u64 (wv2 x), .int .u64 (wv1 x), .int .u64 (wv0 x)]) (cs := #[.int .u64 (wv3 x), .int .u64 (wv2 x), .int .u64 (wv1 x), .int .u64 (wv0 x)]) (T rfl rfl) rfl ?_)
  intro b1 w2 n3
  have N4 : w.heap.size ≤ b1 := n3.eq ▸ E0.size
  have E5 := below_ext E0 E0.size n3.ext
  refine lw_e (oe_box (v := .agg #[.int .u64 (wv3 y), .int .u64 (wv2 y), .int .u64 (wv1 y), .int .u64 (wv0 y)]) (cs := #[.int .u64 (wv3 y), .int .u64 (wv2 y), .int .u64 (wv1 y), .int .u64 (wv0 y)]) (T rfl rfl) rfl ?_)
  intro b6 w7 n8
  have N9 : w.heap.size ≤ b6 := n8.eq ▸ E5.size
  have : b1 < b6 := n8.eq ▸ lt_of_blk n3.blk
  have E10 := below_ext E5 E5.size n8.ext
  refine lw_e (oe_alloc ze27 ?_)
  intro b11 w12 n13
  have N14 : w.heap.size ≤ b11 := n13.eq ▸ E10.size
  have : b6 < b11 := n13.eq ▸ lt_of_blk n8.blk
  have E15 := below_ext E10 E10.size n13.ext
  refine lw_v (.bool false) (dv_assign C) ?_
  refine lw_nil ?_
  refine rk_seq ?_
  refine rk_seq ?_
  refine rk_reg ?_
  have H16 := (n13.ext.blk n8.blk)
  refine lw_v (.agg #[.int .u64 (wv3 y), .int .u64 (wv2 y), .int .u64 (wv1 y), .int .u64 (wv0 y)]) (dv_loads (l := [.int .u64 (wv3 y), .int .u64 (wv2 y), .int .u64 (wv1 y), .int .u64 (wv0 y)]) agt25 sz25 (T rfl rfl) H16 rfl) ?_
  refine lw_v (.agg #[.int .u64 0, .int .u64 0, .int .u64 0, .int .u64 0]) (dv_build (pv := []) (l := [.int .u64 0, .int .u64 0, .int .u64 0, .int .u64 0]) zc25 pl25 trivial rfl) ?_
  refine lw_v (.bool (decide (([wv3 y, wv2 y, wv1 y, wv0 y] : List Int) = [0, 0, 0, 0]))) (dv_eqls (k := .u64) (la := [wv3 y, wv2 y, wv1 y, wv0 y]) (lb := [0, 0, 0, 0]) fl25 eg25 (T rfl rfl) (T rfl rfl) rfl rfl) ?_
  refine lw_nil ?_
  by_cases hb17 : ([wv3 y, wv2 y, wv1 y, wv0 y] : List Int) = [0, 0, 0, 0]
  · -- T
    have hz18 := (wl_zero fy_).1 hb17
    refine rk_ct (T rfl (congrArg Value.bool (decide_eq_true hb17))) ?_
    refine rk_seq ?_
    refine rk_reg ?_
    refine lw_v (.agg #[.int .u64 0, .int .u64 0, .int .u64 0, .int .u64 0, .int .u64 0, .int .u64 0, .int .u64 0, .int .u64 0]) (dv_build (pv := []) (l := [.int .u64 0, .int .u64 0, .int .u64 0, .int .u64 0, .int .u64 0, .int .u64 0, .int .u64 0, .int .u64 0]) zc27 pl27 trivial rfl) ?_
    refine lw_e (oe_store (v := .agg #[.int .u64 0, .int .u64 0, .int .u64 0, .int .u64 0, .int .u64 0, .int .u64 0, .int .u64 0, .int .u64 0]) (vs := [.int .u64 0, .int .u64 0, .int .u64 0, .int .u64 0, .int .u64 0, .int .u64 0, .int .u64 0, .int .u64 0]) (l := [.int .u64 0, .int .u64 0, .int .u64 0, .int .u64 0, .int .u64 0, .int .u64 0, .int .u64 0, .int .u64 0]) (T rfl rfl) (T rfl rfl) sz27 rfl rfl rfl n13.blk rfl ?_)
    intro w19 s20 H21
    have E22 := below_st E15 N14 s20
    refine lw_v (.bool false) (dv_assign C) ?_
    refine lw_nil ?_
    refine rk_ret Try.func15 (v := .tuple #[.agg #[.int .u64 0, .int .u64 0, .int .u64 0, .int .u64 0, .int .u64 0, .int .u64 0, .int .u64 0, .int .u64 0], .bool false]) (res2 Try.results15 (rv_cells (l := [.int .u64 0, .int .u64 0, .int .u64 0, .int .u64 0, .int .u64 0, .int .u64 0, .int .u64 0, .int .u64 0]) agt27 sz27 rfl rfl H21 rfl) (rv_tmp rfl rfl)) ⟨_, rfl, ?_⟩
    have hS : ¬ (rFit x y) := by intro hh; exact hh.1 (by assumption)
    exact ⟨(tu2 (ag8 (vi (wf3 hS)) (vi (wf2 hS)) (vi (wf1 hS)) (vi (wf0 hS)) (vi (wf3 hS)) (vi (wf2 hS)) (vi (wf1 hS)) (vi (wf0 hS))) (vf hS)), E22⟩
  · -- F
    have hz23 := mt (wl_zero fy_).2 hb17
    refine rk_cf (T rfl (congrArg Value.bool (decide_eq_false hb17))) ?_
    refine rk_skip ?_
    refine rk_seq ?_
    refine rk_any (fun w => w.heap[b1]? = some (.cells #[.int .u64 (wv3 x), .int .u64 (wv2 x), .int .u64 (wv1 x), .int .u64 (wv0 x)] 25) ∧ w.heap[b6]? = some (.cells #[.int .u64 (wv3 y), .int .u64 (wv2 y), .int .u64 (wv1 y), .int .u64 (wv0 y)] 25)) [9] mo ?_
    intro w24 d25
    have E26 := below_ext E15 E15.size d25.ext
    have H27 := (d25.ext.blk (n13.ext.blk (n8.ext.blk n3.blk)))
    have H28 := (d25.ext.blk H16)
    refine aw_load 0 (.agg #[.int .u64 (wv3 x), .int .u64 (wv2 x), .int .u64 (wv1 x), .int .u64 (wv0 x)]) rfl (by kernel_rfl) .none ⟨H27, H28⟩ (fun _ s => dv_loads (l := [.int .u64 (wv3 x), .int .u64 (wv2 x), .int .u64 (wv1 x), .int .u64 (wv0 x)]) agt25 sz25 (T rfl rfl) s.1 rfl) ?_
    refine aw_load 2 (.agg #[.int .u64 (wv3 y), .int .u64 (wv2 y), .int .u64 (wv1 y), .int .u64 (wv0 y)]) rfl (by kernel_rfl) .none ⟨H27, H28⟩ (fun _ s => dv_loads (l := [.int .u64 (wv3 y), .int .u64 (wv2 y), .int .u64 (wv1 y), .int .u64 (wv0 y)]) agt25 sz25 (T rfl rfl) s.2 rfl) ?_
    refine aw_one 1 rfl (by kernel_rfl) .none (oe_callf (vs := [.agg #[.int .u64 (wv3 x), .int .u64 (wv2 x), .int .u64 (wv1 x), .int .u64 (wv0 x)]]) co46 (ar1 (T rfl rfl)) (l1Fromz_ok (z := x) fx_) ?_)
    rintro _ w34 ⟨nr29, A30, n31, c32, rfl, e35, h33⟩
    have E36 := below_ext E26 E26.size e35
    have lh33 := Num.len (by decide) h33
    have H37 := (e35.blk H27)
    have H38 := (e35.blk H28)
    refine ⟨.inr ⟨H37, H38⟩, ?_⟩
    refine aw_one 3 rfl (by kernel_rfl) .none (oe_callf (vs := [.agg #[.int .u64 (wv3 y), .int .u64 (wv2 y), .int .u64 (wv1 y), .int .u64 (wv0 y)]]) co46 (ar1 (T rfl rfl)) (l1Fromz_ok (z := y) fy_) ?_)
    rintro _ w44 ⟨nr39, A40, n41, c42, rfl, e45, h43⟩
    have E46 := below_ext E36 E36.size e45
    have lh43 := Num.len (by decide) h43
    have H47 := (e45.blk H37)
    have H48 := (e45.blk H38)
    refine ⟨.inr ⟨H47, H48⟩, ?_⟩
    have h49 := (h33.ext e45)
    refine aw_one 4 rfl (by kernel_rfl) .none (oe_callf (vs := [.agg #[.bool nr29, .slice A30 n31 c32], .agg #[.bool nr39, .slice A40 n41 c42]]) co45 (ar2 (T rfl rfl) (T rfl rfl)) (l2Make_ok h49 h43 (by first | decide | omega) (by first | decide | omega) (by assumption)) ?_)
    rintro _ w60 ⟨nr50, A51, n52, c53, nr54, A55, n56, c57, rfl, e61, h58, h59⟩
    have E62 := below_ext E46 E46.size e61
    have lh58 := Num.len (by decide) h58
    have lh59 := Num.len (by decide) h59
    have H63 := (e61.blk H47)
    have H64 := (e61.blk H48)
    refine ⟨.inr ⟨H63, H64⟩, ?_⟩
    refine aw_one 5 rfl (by kernel_rfl) .none (oe_callf (vs := [.agg #[.bool nr50, .slice A51 n52 c53, .bool nr54, .slice A55 n56 c57]]) co44 (ar1 (T rfl rfl)) (l2Ratio_ok h58 h59 (by first | decide | omega) (by first | decide | omega) ) ?_)
    rintro _ w65 ⟨rfl, e66⟩
    have E67 := below_ext E62 E62.size e66
    have H68 := (e66.blk H63)
    have H69 := (e66.blk H64)
    refine ⟨.inr ⟨H68, H69⟩, ?_⟩
    refine aw_pure 6 (.agg #[.int .u64 (wv3 (pkz (fits (rUp x y) ∧ fits (rDn x y)) (rUp x y))), .int .u64 (wv2 (pkz (fits (rUp x y) ∧ fits (rDn x y)) (rUp x y))), .int .u64 (wv1 (pkz (fits (rUp x y) ∧ fits (rDn x y)) (rUp x y))), .int .u64 (wv0 (pkz (fits (rUp x y) ∧ fits (rDn x y)) (rUp x y))), .int .u64 (wv3 (pkz (fits (rUp x y) ∧ fits (rDn x y)) (rDn x y))), .int .u64 (wv2 (pkz (fits (rUp x y) ∧ fits (rDn x y)) (rDn x y))), .int .u64 (wv1 (pkz (fits (rUp x y) ∧ fits (rDn x y)) (rDn x y))), .int .u64 (wv0 (pkz (fits (rUp x y) ∧ fits (rDn x y)) (rDn x y)))]) rfl (by kernel_rfl) .none ⟨H68, H69⟩ (fun _ => dv_extract (vs := #[.agg #[.int .u64 (wv3 (pkz (fits (rUp x y) ∧ fits (rDn x y)) (rUp x y))), .int .u64 (wv2 (pkz (fits (rUp x y) ∧ fits (rDn x y)) (rUp x y))), .int .u64 (wv1 (pkz (fits (rUp x y) ∧ fits (rDn x y)) (rUp x y))), .int .u64 (wv0 (pkz (fits (rUp x y) ∧ fits (rDn x y)) (rUp x y))), .int .u64 (wv3 (pkz (fits (rUp x y) ∧ fits (rDn x y)) (rDn x y))), .int .u64 (wv2 (pkz (fits (rUp x y) ∧ fits (rDn x y)) (rDn x y))), .int .u64 (wv1 (pkz (fits (rUp x y) ∧ fits (rDn x y)) (rDn x y))), .int .u64 (wv0 (pkz (fits (rUp x y) ∧ fits (rDn x y)) (rDn x y)))], .bool (decide (fits (rUp x y) ∧ fits (rDn x y)))]) (T rfl rfl) rfl) ?_
    refine aw_pure 7 (.bool (decide (fits (rUp x y) ∧ fits (rDn x y)))) rfl (by kernel_rfl) .none ⟨H68, H69⟩ (fun _ => dv_extract (vs := #[.agg #[.int .u64 (wv3 (pkz (fits (rUp x y) ∧ fits (rDn x y)) (rUp x y))), .int .u64 (wv2 (pkz (fits (rUp x y) ∧ fits (rDn x y)) (rUp x y))), .int .u64 (wv1 (pkz (fits (rUp x y) ∧ fits (rDn x y)) (rUp x y))), .int .u64 (wv0 (pkz (fits (rUp x y) ∧ fits (rDn x y)) (rUp x y))), .int .u64 (wv3 (pkz (fits (rUp x y) ∧ fits (rDn x y)) (rDn x y))), .int .u64 (wv2 (pkz (fits (rUp x y) ∧ fits (rDn x y)) (rDn x y))), .int .u64 (wv1 (pkz (fits (rUp x y) ∧ fits (rDn x y)) (rDn x y))), .int .u64 (wv0 (pkz (fits (rUp x y) ∧ fits (rDn x y)) (rDn x y)))], .bool (decide (fits (rUp x y) ∧ fits (rDn x y)))]) (T rfl rfl) rfl) ?_
    have H70 := (e66.blk (e61.blk (e45.blk (e35.blk (d25.ext.blk n13.blk)))))
    refine aw_one 8 rfl (by kernel_rfl) .none (oe_store (v := .agg #[.int .u64 (wv3 (pkz (fits (rUp x y) ∧ fits (rDn x y)) (rUp x y))), .int .u64 (wv2 (pkz (fits (rUp x y) ∧ fits (rDn x y)) (rUp x y))), .int .u64 (wv1 (pkz (fits (rUp x y) ∧ fits (rDn x y)) (rUp x y))), .int .u64 (wv0 (pkz (fits (rUp x y) ∧ fits (rDn x y)) (rUp x y))), .int .u64 (wv3 (pkz (fits (rUp x y) ∧ fits (rDn x y)) (rDn x y))), .int .u64 (wv2 (pkz (fits (rUp x y) ∧ fits (rDn x y)) (rDn x y))), .int .u64 (wv1 (pkz (fits (rUp x y) ∧ fits (rDn x y)) (rDn x y))), .int .u64 (wv0 (pkz (fits (rUp x y) ∧ fits (rDn x y)) (rDn x y)))]) (vs := [.int .u64 (wv3 (pkz (fits (rUp x y) ∧ fits (rDn x y)) (rUp x y))), .int .u64 (wv2 (pkz (fits (rUp x y) ∧ fits (rDn x y)) (rUp x y))), .int .u64 (wv1 (pkz (fits (rUp x y) ∧ fits (rDn x y)) (rUp x y))), .int .u64 (wv0 (pkz (fits (rUp x y) ∧ fits (rDn x y)) (rUp x y))), .int .u64 (wv3 (pkz (fits (rUp x y) ∧ fits (rDn x y)) (rDn x y))), .int .u64 (wv2 (pkz (fits (rUp x y) ∧ fits (rDn x y)) (rDn x y))), .int .u64 (wv1 (pkz (fits (rUp x y) ∧ fits (rDn x y)) (rDn x y))), .int .u64 (wv0 (pkz (fits (rUp x y) ∧ fits (rDn x y)) (rDn x y)))]) (l := [.int .u64 (wv3 (pkz (fits (rUp x y) ∧ fits (rDn x y)) (rUp x y))), .int .u64 (wv2 (pkz (fits (rUp x y) ∧ fits (rDn x y)) (rUp x y))), .int .u64 (wv1 (pkz (fits (rUp x y) ∧ fits (rDn x y)) (rUp x y))), .int .u64 (wv0 (pkz (fits (rUp x y) ∧ fits (rDn x y)) (rUp x y))), .int .u64 (wv3 (pkz (fits (rUp x y) ∧ fits (rDn x y)) (rDn x y))), .int .u64 (wv2 (pkz (fits (rUp x y) ∧ fits (rDn x y)) (rDn x y))), .int .u64 (wv1 (pkz (fits (rUp x y) ∧ fits (rDn x y)) (rDn x y))), .int .u64 (wv0 (pkz (fits (rUp x y) ∧ fits (rDn x y)) (rDn x y)))]) (T rfl rfl) (T rfl rfl) sz27 rfl rfl rfl H70 rfl ?_)
    intro w71 s72 H73
    have E74 := below_st E67 N14 s72
    have H75 := (s72.blk H68 (by omega))
    have H76 := (s72.blk H69 (by omega))
    refine ⟨.inr ⟨H75, H76⟩, ?_⟩
    refine aw_last 9 (.bool (decide (fits (rUp x y) ∧ fits (rDn x y)))) rfl (by kernel_rfl) .none (fun _ => dv_assign (T rfl rfl)) ?_
    refine aw_done (by kernel_rfl) ?_
    refine rk_ret Try.func15 (v := .tuple #[.agg #[.int .u64 (wv3 (pkz (fits (rUp x y) ∧ fits (rDn x y)) (rUp x y))), .int .u64 (wv2 (pkz (fits (rUp x y) ∧ fits (rDn x y)) (rUp x y))), .int .u64 (wv1 (pkz (fits (rUp x y) ∧ fits (rDn x y)) (rUp x y))), .int .u64 (wv0 (pkz (fits (rUp x y) ∧ fits (rDn x y)) (rUp x y))), .int .u64 (wv3 (pkz (fits (rUp x y) ∧ fits (rDn x y)) (rDn x y))), .int .u64 (wv2 (pkz (fits (rUp x y) ∧ fits (rDn x y)) (rDn x y))), .int .u64 (wv1 (pkz (fits (rUp x y) ∧ fits (rDn x y)) (rDn x y))), .int .u64 (wv0 (pkz (fits (rUp x y) ∧ fits (rDn x y)) (rDn x y)))], .bool (decide (fits (rUp x y) ∧ fits (rDn x y)))]) (res2 Try.results15 (rv_cells (l := [.int .u64 (wv3 (pkz (fits (rUp x y) ∧ fits (rDn x y)) (rUp x y))), .int .u64 (wv2 (pkz (fits (rUp x y) ∧ fits (rDn x y)) (rUp x y))), .int .u64 (wv1 (pkz (fits (rUp x y) ∧ fits (rDn x y)) (rUp x y))), .int .u64 (wv0 (pkz (fits (rUp x y) ∧ fits (rDn x y)) (rUp x y))), .int .u64 (wv3 (pkz (fits (rUp x y) ∧ fits (rDn x y)) (rDn x y))), .int .u64 (wv2 (pkz (fits (rUp x y) ∧ fits (rDn x y)) (rDn x y))), .int .u64 (wv1 (pkz (fits (rUp x y) ∧ fits (rDn x y)) (rDn x y))), .int .u64 (wv0 (pkz (fits (rUp x y) ∧ fits (rDn x y)) (rDn x y)))]) agt27 sz27 rfl rfl H73 rfl) (rv_tmp rfl rfl)) ⟨_, rfl, ?_⟩
    have hi : (fits (rUp x y) ∧ fits (rDn x y)) ↔ (rFit x y) := by first | exact Iff.rfl | exact ⟨fun hh => ⟨by assumption, hh⟩, fun hh => hh.2⟩
    exact ⟨(tu2 (ag8 (vi (by rw [pkz_iff hi])) (vi (by rw [pkz_iff hi])) (vi (by rw [pkz_iff hi])) (vi (by rw [pkz_iff hi])) (vi (by rw [pkz_iff hi])) (vi (by rw [pkz_iff hi])) (vi (by rw [pkz_iff hi])) (vi (by rw [pkz_iff hi]))) (vb hi)), E74⟩

set_option maxHeartbeats 1000000 in
theorem lawRatioOf_ok {w : World} {x y : Int} (fx_ : fits x) (fy_ : fits y)  : Ct Try.prog 3 [.agg #[.int .u64 (wv3 x), .int .u64 (wv2 x), .int .u64 (wv1 x), .int .u64 (wv0 x)], .agg #[.int .u64 (wv3 y), .int .u64 (wv2 y), .int .u64 (wv1 y), .int .u64 (wv0 y)]] w fun v w1 => v = .bool true ∧ Ext w w1 := by
  refine ct_run (n := 34) Try.func3 rfl Try.ntmps3 rfl ?_
  have E0 : Below w.heap.size w w := Below.refl _ _
  refine rk_seq ?_
  refine rk_reg ?_
  refine lw_e (oe_box (v := .agg #[.int .u64 (wv3 x), .int .u64 (wv2 x), .int .u64 (wv1 x), .int .u64 (wv0 x)]) (cs := #[.int .u64 (wv3 x), .int .u64 (wv2 x), .int .u64 (wv1 x), .int .u64 (wv0 x)]) (T rfl rfl) rfl ?_)
  intro b1 w2 n3
  have N4 : w.heap.size ≤ b1 := n3.eq ▸ E0.size
  have E5 := below_ext E0 E0.size n3.ext
  refine lw_e (oe_box (v := .agg #[.int .u64 (wv3 y), .int .u64 (wv2 y), .int .u64 (wv1 y), .int .u64 (wv0 y)]) (cs := #[.int .u64 (wv3 y), .int .u64 (wv2 y), .int .u64 (wv1 y), .int .u64 (wv0 y)]) (T rfl rfl) rfl ?_)
  intro b6 w7 n8
  have N9 : w.heap.size ≤ b6 := n8.eq ▸ E5.size
  have : b1 < b6 := n8.eq ▸ lt_of_blk n3.blk
  have E10 := below_ext E5 E5.size n8.ext
  refine lw_v (.bool false) (dv_assign C) ?_
  refine lw_nil ?_
  refine rk_seq ?_
  have H11 := (n8.ext.blk n3.blk)
  have : b1 < w7.heap.size := lt_of_blk H11
  have : b6 < w7.heap.size := lt_of_blk n8.blk
  have : w.heap.size ≤ w7.heap.size := E10.size
  refine rk_par2 [fun vq wq_ => vq = .agg #[.int .u64 (wv3 x), .int .u64 (wv2 x), .int .u64 (wv1 x), .int .u64 (wv0 x)], fun vq wq_ => vq = .agg #[.int .u64 (wv3 x), .int .u64 (wv2 x), .int .u64 (wv1 x), .int .u64 (wv0 x)], fun vq wq_ => vq = .agg #[.int .u64 (wv3 y), .int .u64 (wv2 y), .int .u64 (wv1 y), .int .u64 (wv0 y)], fun vq wq_ => vq = .agg #[.int .u64 (wv3 y), .int .u64 (wv2 y), .int .u64 (wv1 y), .int .u64 (wv0 y)], fun vq wq_ => vq = .tuple #[.agg #[.int .u64 (wv3 (pkz (rFit x y) (rUp (x) (y)))), .int .u64 (wv2 (pkz (rFit x y) (rUp (x) (y)))), .int .u64 (wv1 (pkz (rFit x y) (rUp (x) (y)))), .int .u64 (wv0 (pkz (rFit x y) (rUp (x) (y)))), .int .u64 (wv3 (pkz (rFit x y) (rDn (x) (y)))), .int .u64 (wv2 (pkz (rFit x y) (rDn (x) (y)))), .int .u64 (wv1 (pkz (rFit x y) (rDn (x) (y)))), .int .u64 (wv0 (pkz (rFit x y) (rDn (x) (y))))], .bool (decide (rFit x y))], fun vq wq_ => vq = .tuple #[.agg #[.int .u64 (wv3 (pkz (rFit x y) (rUp (x) (y)))), .int .u64 (wv2 (pkz (rFit x y) (rUp (x) (y)))), .int .u64 (wv1 (pkz (rFit x y) (rUp (x) (y)))), .int .u64 (wv0 (pkz (rFit x y) (rUp (x) (y)))), .int .u64 (wv3 (pkz (rFit x y) (rDn (x) (y)))), .int .u64 (wv2 (pkz (rFit x y) (rDn (x) (y)))), .int .u64 (wv1 (pkz (rFit x y) (rDn (x) (y)))), .int .u64 (wv0 (pkz (rFit x y) (rDn (x) (y))))], .bool (decide (rFit x y))], fun vq wq_ => vq = .agg #[.int .u64 (wv3 (pkz (rFit x y) (rUp (x) (y)))), .int .u64 (wv2 (pkz (rFit x y) (rUp (x) (y)))), .int .u64 (wv1 (pkz (rFit x y) (rUp (x) (y)))), .int .u64 (wv0 (pkz (rFit x y) (rUp (x) (y)))), .int .u64 (wv3 (pkz (rFit x y) (rDn (x) (y)))), .int .u64 (wv2 (pkz (rFit x y) (rDn (x) (y)))), .int .u64 (wv1 (pkz (rFit x y) (rDn (x) (y)))), .int .u64 (wv0 (pkz (rFit x y) (rDn (x) (y))))], fun vq wq_ => vq = .bool (decide (rFit x y)), fun _ _ => True, fun _ _ => True, fun vq wq_ => vq = .bool (decide (rFit x y))] [⟨8, 9, 6, 27, #[.int .u64 0, .int .u64 0, .int .u64 0, .int .u64 0, .int .u64 0, .int .u64 0, .int .u64 0, .int .u64 0]⟩] [27] mo (by kernel_rfl) (by kernel_rfl) ?_ ?_ ?_ ?_ ?_
  · intro e he e2 he2 h; simp only [List.mem_cons, List.not_mem_nil, or_false] at he he2; rcases he with rfl <;> rcases he2 with rfl <;> first | rfl | exact absurd h (by decide)
  · exact ⟨⟨fun v w w2 e h => h, fun v w w2 b cs T fz s hb hT h => h⟩, ⟨fun v w w2 e h => h, fun v w w2 b cs T fz s hb hT h => h⟩, ⟨fun v w w2 e h => h, fun v w w2 b cs T fz s hb hT h => h⟩, ⟨fun v w w2 e h => h, fun v w w2 b cs T fz s hb hT h => h⟩, ⟨fun v w w2 e h => h, fun v w w2 b cs T fz s hb hT h => h⟩, ⟨fun v w w2 e h => h, fun v w w2 b cs T fz s hb hT h => h⟩, ⟨fun v w w2 e h => h, fun v w w2 b cs T fz s hb hT h => h⟩, ⟨fun v w w2 e h => h, fun v w w2 b cs T fz s hb hT h => h⟩, ⟨fun v w w2 e h => h, fun v w w2 b cs T fz s hb hT h => h⟩, ⟨fun v w w2 e h => h, fun v w w2 b cs T fz s hb hT h => h⟩, ⟨fun v w w2 e h => h, fun v w w2 b cs T fz s hb hT h => h⟩, trivial⟩
  · refine ⟨?_, ?_, ?_, ?_, ?_, ?_, ?_, ?_, ?_, ?_, ?_, trivial⟩
    · refine .inr ⟨by kernel_rfl, ?_⟩
      intro fr13 w12 e14 hF15 hD16
      have E17 := below_ext E10 E10.size e14
      have H18 := (e14.blk H11)
      exact DV.oe (dv_loads (l := [.int .u64 (wv3 x), .int .u64 (wv2 x), .int .u64 (wv1 x), .int .u64 (wv0 x)]) agt24 sz24 (T rfl (hF15 2 (by kernel_rfl))) H18 rfl) ⟨Below.refl _ _, rfl⟩
    · refine .inr ⟨by kernel_rfl, ?_⟩
      intro fr20 w19 e21 hF22 hD23
      have E24 := below_ext E10 E10.size e21
      have hv25 : fr20 10 = .agg #[.int .u64 (wv3 x), .int .u64 (wv2 x), .int .u64 (wv1 x), .int .u64 (wv0 x)] := hD23 0 _ (by kernel_rfl) rfl (by kernel_rfl)
      refine id (oe_callf (vs := [.agg #[.int .u64 (wv3 x), .int .u64 (wv2 x), .int .u64 (wv1 x), .int .u64 (wv0 x)]]) co16 (ar1 (T rfl hv25)) (toWide_ok (z := x)  ) ?_)
      rintro _ w26 ⟨rfl, e27⟩
      have E28 := below_ext E24 E24.size e27
      exact ⟨e27, rfl⟩
    · refine .inr ⟨by kernel_rfl, ?_⟩
      intro fr30 w29 e31 hF32 hD33
      have E34 := below_ext E10 E10.size e31
      have H35 := (e31.blk n8.blk)
      exact DV.oe (dv_loads (l := [.int .u64 (wv3 y), .int .u64 (wv2 y), .int .u64 (wv1 y), .int .u64 (wv0 y)]) agt24 sz24 (T rfl (hF32 3 (by kernel_rfl))) H35 rfl) ⟨Below.refl _ _, rfl⟩
    · refine .inr ⟨by kernel_rfl, ?_⟩
      intro fr37 w36 e38 hF39 hD40
      have E41 := below_ext E10 E10.size e38
      have hv42 : fr37 12 = .agg #[.int .u64 (wv3 y), .int .u64 (wv2 y), .int .u64 (wv1 y), .int .u64 (wv0 y)] := hD40 2 _ (by kernel_rfl) rfl (by kernel_rfl)
      refine id (oe_callf (vs := [.agg #[.int .u64 (wv3 y), .int .u64 (wv2 y), .int .u64 (wv1 y), .int .u64 (wv0 y)]]) co16 (ar1 (T rfl hv42)) (toWide_ok (z := y)  ) ?_)
      rintro _ w43 ⟨rfl, e44⟩
      have E45 := below_ext E41 E41.size e44
      exact ⟨e44, rfl⟩
    · refine .inr ⟨by kernel_rfl, ?_⟩
      intro fr47 w46 e48 hF49 hD50
      have E51 := below_ext E10 E10.size e48
      have hv52 : fr47 11 = .agg #[.int .u64 (wv3 x), .int .u64 (wv2 x), .int .u64 (wv1 x), .int .u64 (wv0 x)] := hD50 1 _ (by kernel_rfl) rfl (by kernel_rfl)
      have hv53 : fr47 13 = .agg #[.int .u64 (wv3 y), .int .u64 (wv2 y), .int .u64 (wv1 y), .int .u64 (wv0 y)] := hD50 3 _ (by kernel_rfl) rfl (by kernel_rfl)
      refine id (oe_callf (vs := [.agg #[.int .u64 (wv3 x), .int .u64 (wv2 x), .int .u64 (wv1 x), .int .u64 (wv0 x)], .agg #[.int .u64 (wv3 y), .int .u64 (wv2 y), .int .u64 (wv1 y), .int .u64 (wv0 y)]]) co15 (ar2 (T rfl hv52) (T rfl hv53)) (sRatioOf_ok (x := x) (y := y) fx_ fy_ ) ?_)
      rintro _ w54 ⟨rfl, e55⟩
      have E56 := below_ext E51 E51.size e55
      exact ⟨e55, rfl⟩
    · refine .inr ⟨by kernel_rfl, ?_⟩
      intro fr58 w57 e59 hF60 hD61
      have E62 := below_ext E10 E10.size e59
      have hv63 : fr58 14 = .tuple #[.agg #[.int .u64 (wv3 (pkz (rFit x y) (rUp (x) (y)))), .int .u64 (wv2 (pkz (rFit x y) (rUp (x) (y)))), .int .u64 (wv1 (pkz (rFit x y) (rUp (x) (y)))), .int .u64 (wv0 (pkz (rFit x y) (rUp (x) (y)))), .int .u64 (wv3 (pkz (rFit x y) (rDn (x) (y)))), .int .u64 (wv2 (pkz (rFit x y) (rDn (x) (y)))), .int .u64 (wv1 (pkz (rFit x y) (rDn (x) (y)))), .int .u64 (wv0 (pkz (rFit x y) (rDn (x) (y))))], .bool (decide (rFit x y))] := hD61 4 _ (by kernel_rfl) rfl (by kernel_rfl)
      exact DV.oe (dv_move (T rfl hv63)) ⟨Below.refl _ _, rfl⟩
    · refine .inr ⟨by kernel_rfl, ?_⟩
      intro fr65 w64 e66 hF67 hD68
      have E69 := below_ext E10 E10.size e66
      have hv70 : fr65 9 = .tuple #[.agg #[.int .u64 (wv3 (pkz (rFit x y) (rUp (x) (y)))), .int .u64 (wv2 (pkz (rFit x y) (rUp (x) (y)))), .int .u64 (wv1 (pkz (rFit x y) (rUp (x) (y)))), .int .u64 (wv0 (pkz (rFit x y) (rUp (x) (y)))), .int .u64 (wv3 (pkz (rFit x y) (rDn (x) (y)))), .int .u64 (wv2 (pkz (rFit x y) (rDn (x) (y)))), .int .u64 (wv1 (pkz (rFit x y) (rDn (x) (y)))), .int .u64 (wv0 (pkz (rFit x y) (rDn (x) (y))))], .bool (decide (rFit x y))] := hD68 5 _ (by kernel_rfl) rfl (by kernel_rfl)
      exact DV.oe (dv_extract (vs := #[.agg #[.int .u64 (wv3 (pkz (rFit x y) (rUp (x) (y)))), .int .u64 (wv2 (pkz (rFit x y) (rUp (x) (y)))), .int .u64 (wv1 (pkz (rFit x y) (rUp (x) (y)))), .int .u64 (wv0 (pkz (rFit x y) (rUp (x) (y)))), .int .u64 (wv3 (pkz (rFit x y) (rDn (x) (y)))), .int .u64 (wv2 (pkz (rFit x y) (rDn (x) (y)))), .int .u64 (wv1 (pkz (rFit x y) (rDn (x) (y)))), .int .u64 (wv0 (pkz (rFit x y) (rDn (x) (y))))], .bool (decide (rFit x y))]) (T rfl hv70) rfl) ⟨Below.refl _ _, rfl⟩
    · refine .inr ⟨by kernel_rfl, ?_⟩
      intro fr72 w71 e73 hF74 hD75
      have E76 := below_ext E10 E10.size e73
      have hv77 : fr72 9 = .tuple #[.agg #[.int .u64 (wv3 (pkz (rFit x y) (rUp (x) (y)))), .int .u64 (wv2 (pkz (rFit x y) (rUp (x) (y)))), .int .u64 (wv1 (pkz (rFit x y) (rUp (x) (y)))), .int .u64 (wv0 (pkz (rFit x y) (rUp (x) (y)))), .int .u64 (wv3 (pkz (rFit x y) (rDn (x) (y)))), .int .u64 (wv2 (pkz (rFit x y) (rDn (x) (y)))), .int .u64 (wv1 (pkz (rFit x y) (rDn (x) (y)))), .int .u64 (wv0 (pkz (rFit x y) (rDn (x) (y))))], .bool (decide (rFit x y))] := hD75 5 _ (by kernel_rfl) rfl (by kernel_rfl)
      exact DV.oe (dv_extract (vs := #[.agg #[.int .u64 (wv3 (pkz (rFit x y) (rUp (x) (y)))), .int .u64 (wv2 (pkz (rFit x y) (rUp (x) (y)))), .int .u64 (wv1 (pkz (rFit x y) (rUp (x) (y)))), .int .u64 (wv0 (pkz (rFit x y) (rUp (x) (y)))), .int .u64 (wv3 (pkz (rFit x y) (rDn (x) (y)))), .int .u64 (wv2 (pkz (rFit x y) (rDn (x) (y)))), .int .u64 (wv1 (pkz (rFit x y) (rDn (x) (y)))), .int .u64 (wv0 (pkz (rFit x y) (rDn (x) (y))))], .bool (decide (rFit x y))]) (T rfl hv77) rfl) ⟨Below.refl _ _, rfl⟩
    · exact .inl (.inr ⟨by kernel_rfl, fun _ _ => trivial⟩)
    · exact .inl (.inl (by kernel_rfl))
    · refine .inr ⟨by kernel_rfl, ?_⟩
      intro fr93 w92 e94 hF95 hD96
      have E97 := below_ext E10 E10.size e94
      have hv98 : fr93 16 = .bool (decide (rFit x y)) := hD96 7 _ (by kernel_rfl) rfl (by kernel_rfl)
      exact DV.oe (dv_assign (T rfl hv98)) ⟨Below.refl _ _, rfl⟩
  · refine ⟨⟨⟨_, rfl, fun _ _ => oe_alloc ze27 fun b w hn => ⟨b, rfl, hn⟩⟩, ⟨_, rfl, ?_⟩⟩, trivial⟩
    · intro fr79 w78 b83 e80 hF81 hD82 hA84 hB85
      have E86 := below_ext E10 E10.size e80
      have hv87 : fr79 15 = .agg #[.int .u64 (wv3 (pkz (rFit x y) (rUp (x) (y)))), .int .u64 (wv2 (pkz (rFit x y) (rUp (x) (y)))), .int .u64 (wv1 (pkz (rFit x y) (rUp (x) (y)))), .int .u64 (wv0 (pkz (rFit x y) (rUp (x) (y)))), .int .u64 (wv3 (pkz (rFit x y) (rDn (x) (y)))), .int .u64 (wv2 (pkz (rFit x y) (rDn (x) (y)))), .int .u64 (wv1 (pkz (rFit x y) (rDn (x) (y)))), .int .u64 (wv0 (pkz (rFit x y) (rDn (x) (y))))] := hD82 6 _ (by kernel_rfl) rfl (by kernel_rfl)
      refine id (oe_store (v := .agg #[.int .u64 (wv3 (pkz (rFit x y) (rUp (x) (y)))), .int .u64 (wv2 (pkz (rFit x y) (rUp (x) (y)))), .int .u64 (wv1 (pkz (rFit x y) (rUp (x) (y)))), .int .u64 (wv0 (pkz (rFit x y) (rUp (x) (y)))), .int .u64 (wv3 (pkz (rFit x y) (rDn (x) (y)))), .int .u64 (wv2 (pkz (rFit x y) (rDn (x) (y)))), .int .u64 (wv1 (pkz (rFit x y) (rDn (x) (y)))), .int .u64 (wv0 (pkz (rFit x y) (rDn (x) (y))))]) (vs := [.int .u64 (wv3 (pkz (rFit x y) (rUp (x) (y)))), .int .u64 (wv2 (pkz (rFit x y) (rUp (x) (y)))), .int .u64 (wv1 (pkz (rFit x y) (rUp (x) (y)))), .int .u64 (wv0 (pkz (rFit x y) (rUp (x) (y)))), .int .u64 (wv3 (pkz (rFit x y) (rDn (x) (y)))), .int .u64 (wv2 (pkz (rFit x y) (rDn (x) (y)))), .int .u64 (wv1 (pkz (rFit x y) (rDn (x) (y)))), .int .u64 (wv0 (pkz (rFit x y) (rDn (x) (y))))]) (l := [.int .u64 (wv3 (pkz (rFit x y) (rUp (x) (y)))), .int .u64 (wv2 (pkz (rFit x y) (rUp (x) (y)))), .int .u64 (wv1 (pkz (rFit x y) (rUp (x) (y)))), .int .u64 (wv0 (pkz (rFit x y) (rUp (x) (y)))), .int .u64 (wv3 (pkz (rFit x y) (rDn (x) (y)))), .int .u64 (wv2 (pkz (rFit x y) (rDn (x) (y)))), .int .u64 (wv1 (pkz (rFit x y) (rDn (x) (y)))), .int .u64 (wv0 (pkz (rFit x y) (rDn (x) (y))))]) (T rfl hA84) (T rfl hv87) sz27 rfl rfl rfl hB85 rfl ?_)
      intro w88 s89 H90
      exact ⟨s89, H90.trans (congrArg (fun v : Value => some (Obj.cells v.cells 27)) (show fr79 15 = _ from hv87).symm)⟩
  intro fr100 w99 e101 hF102 hP103 hM104 hN105
  have E106 := below_ext E10 E10.size e101
  obtain ⟨_, _, _, _, _, _, p107, _, _, _, p108, _⟩ := hP103
  have hv109 : fr100 15 = .agg #[.int .u64 (wv3 (pkz (rFit x y) (rUp (x) (y)))), .int .u64 (wv2 (pkz (rFit x y) (rUp (x) (y)))), .int .u64 (wv1 (pkz (rFit x y) (rUp (x) (y)))), .int .u64 (wv0 (pkz (rFit x y) (rUp (x) (y)))), .int .u64 (wv3 (pkz (rFit x y) (rDn (x) (y)))), .int .u64 (wv2 (pkz (rFit x y) (rDn (x) (y)))), .int .u64 (wv1 (pkz (rFit x y) (rDn (x) (y)))), .int .u64 (wv0 (pkz (rFit x y) (rDn (x) (y))))] := p107.resolve_left (nst (by kernel_rfl))
  have hv110 : fr100 6 = .bool (decide (rFit x y)) := p108.resolve_left (nst (by kernel_rfl))
  obtain ⟨⟨b111, hA112, hB113, hC114⟩, _⟩ := hM104
  have H115 : w99.heap[b111]? = some (.cells #[.int .u64 (wv3 (pkz (rFit x y) (rUp (x) (y)))), .int .u64 (wv2 (pkz (rFit x y) (rUp (x) (y)))), .int .u64 (wv1 (pkz (rFit x y) (rUp (x) (y)))), .int .u64 (wv0 (pkz (rFit x y) (rUp (x) (y)))), .int .u64 (wv3 (pkz (rFit x y) (rDn (x) (y)))), .int .u64 (wv2 (pkz (rFit x y) (rDn (x) (y)))), .int .u64 (wv1 (pkz (rFit x y) (rDn (x) (y)))), .int .u64 (wv0 (pkz (rFit x y) (rDn (x) (y))))] 27) := hC114.trans (congrArg (fun v : Value => some (Obj.cells v.cells 27)) hv109)
  have N116 : w.heap.size ≤ b111 := by omega
  refine rk_seq ?_
  have H117 := (e101.blk H11)
  have : b1 < w99.heap.size := lt_of_blk H117
  have H118 := (e101.blk n8.blk)
  have : b6 < w99.heap.size := lt_of_blk H118
  have : b111 < w99.heap.size := lt_of_blk H115
  have : w.heap.size ≤ w99.heap.size := E106.size
  refine rk_par2 [fun vq wq_ => vq = .agg #[.int .u64 (wv3 x), .int .u64 (wv2 x), .int .u64 (wv1 x), .int .u64 (wv0 x)], fun vq wq_ => vq = .agg #[.int .u64 (wv3 x), .int .u64 (wv2 x), .int .u64 (wv1 x), .int .u64 (wv0 x)], fun vq wq_ => vq = .agg #[.int .u64 (wv3 y), .int .u64 (wv2 y), .int .u64 (wv1 y), .int .u64 (wv0 y)], fun vq wq_ => vq = .agg #[.int .u64 (wv3 y), .int .u64 (wv2 y), .int .u64 (wv1 y), .int .u64 (wv0 y)], fun vq wq_ => vq = .tuple #[.agg #[.int .u64 (wv3 (pkz (rFit x y) (rUp (x) (y)))), .int .u64 (wv2 (pkz (rFit x y) (rUp (x) (y)))), .int .u64 (wv1 (pkz (rFit x y) (rUp (x) (y)))), .int .u64 (wv0 (pkz (rFit x y) (rUp (x) (y)))), .int .u64 (wv3 (pkz (rFit x y) (rDn (x) (y)))), .int .u64 (wv2 (pkz (rFit x y) (rDn (x) (y)))), .int .u64 (wv1 (pkz (rFit x y) (rDn (x) (y)))), .int .u64 (wv0 (pkz (rFit x y) (rDn (x) (y))))], .bool (decide (rFit x y))], fun vq wq_ => vq = .tuple #[.agg #[.int .u64 (wv3 (pkz (rFit x y) (rUp (x) (y)))), .int .u64 (wv2 (pkz (rFit x y) (rUp (x) (y)))), .int .u64 (wv1 (pkz (rFit x y) (rUp (x) (y)))), .int .u64 (wv0 (pkz (rFit x y) (rUp (x) (y)))), .int .u64 (wv3 (pkz (rFit x y) (rDn (x) (y)))), .int .u64 (wv2 (pkz (rFit x y) (rDn (x) (y)))), .int .u64 (wv1 (pkz (rFit x y) (rDn (x) (y)))), .int .u64 (wv0 (pkz (rFit x y) (rDn (x) (y))))], .bool (decide (rFit x y))], fun vq wq_ => vq = .agg #[.int .u64 (wv3 (pkz (rFit x y) (rUp (x) (y)))), .int .u64 (wv2 (pkz (rFit x y) (rUp (x) (y)))), .int .u64 (wv1 (pkz (rFit x y) (rUp (x) (y)))), .int .u64 (wv0 (pkz (rFit x y) (rUp (x) (y)))), .int .u64 (wv3 (pkz (rFit x y) (rDn (x) (y)))), .int .u64 (wv2 (pkz (rFit x y) (rDn (x) (y)))), .int .u64 (wv1 (pkz (rFit x y) (rDn (x) (y)))), .int .u64 (wv0 (pkz (rFit x y) (rDn (x) (y))))], fun vq wq_ => vq = .bool (decide (rFit x y)), fun _ _ => True, fun _ _ => True, fun vq wq_ => vq = .bool (decide (rFit x y))] [⟨8, 9, 6, 27, #[.int .u64 0, .int .u64 0, .int .u64 0, .int .u64 0, .int .u64 0, .int .u64 0, .int .u64 0, .int .u64 0]⟩] [27] mo (by kernel_rfl) (by kernel_rfl) ?_ ?_ ?_ ?_ ?_
  · intro e he e2 he2 h; simp only [List.mem_cons, List.not_mem_nil, or_false] at he he2; rcases he with rfl <;> rcases he2 with rfl <;> first | rfl | exact absurd h (by decide)
  · exact ⟨⟨fun v w w2 e h => h, fun v w w2 b cs T fz s hb hT h => h⟩, ⟨fun v w w2 e h => h, fun v w w2 b cs T fz s hb hT h => h⟩, ⟨fun v w w2 e h => h, fun v w w2 b cs T fz s hb hT h => h⟩, ⟨fun v w w2 e h => h, fun v w w2 b cs T fz s hb hT h => h⟩, ⟨fun v w w2 e h => h, fun v w w2 b cs T fz s hb hT h => h⟩, ⟨fun v w w2 e h => h, fun v w w2 b cs T fz s hb hT h => h⟩, ⟨fun v w w2 e h => h, fun v w w2 b cs T fz s hb hT h => h⟩, ⟨fun v w w2 e h => h, fun v w w2 b cs T fz s hb hT h => h⟩, ⟨fun v w w2 e h => h, fun v w w2 b cs T fz s hb hT h => h⟩, ⟨fun v w w2 e h => h, fun v w w2 b cs T fz s hb hT h => h⟩, ⟨fun v w w2 e h => h, fun v w w2 b cs T fz s hb hT h => h⟩, trivial⟩
  · refine ⟨?_, ?_, ?_, ?_, ?_, ?_, ?_, ?_, ?_, ?_, ?_, trivial⟩
    · refine .inr ⟨by kernel_rfl, ?_⟩
      intro fr120 w119 e121 hF122 hD123
      have E124 := below_ext E106 E106.size e121
      have H125 := (e121.blk H117)
      exact DV.oe (dv_loads (l := [.int .u64 (wv3 x), .int .u64 (wv2 x), .int .u64 (wv1 x), .int .u64 (wv0 x)]) agt24 sz24 (T rfl ((hF122 2 (by kernel_rfl)).trans (hF102 2 rfl))) H125 rfl) ⟨Below.refl _ _, rfl⟩
    · refine .inr ⟨by kernel_rfl, ?_⟩
      intro fr127 w126 e128 hF129 hD130
      have E131 := below_ext E106 E106.size e128
      have hv132 : fr127 18 = .agg #[.int .u64 (wv3 x), .int .u64 (wv2 x), .int .u64 (wv1 x), .int .u64 (wv0 x)] := hD130 0 _ (by kernel_rfl) rfl (by kernel_rfl)
      refine id (oe_callf (vs := [.agg #[.int .u64 (wv3 x), .int .u64 (wv2 x), .int .u64 (wv1 x), .int .u64 (wv0 x)]]) co16 (ar1 (T rfl hv132)) (toWide_ok (z := x)  ) ?_)
      rintro _ w133 ⟨rfl, e134⟩
      have E135 := below_ext E131 E131.size e134
      exact ⟨e134, rfl⟩
    · refine .inr ⟨by kernel_rfl, ?_⟩
      intro fr137 w136 e138 hF139 hD140
      have E141 := below_ext E106 E106.size e138
      have H142 := (e138.blk H118)
      exact DV.oe (dv_loads (l := [.int .u64 (wv3 y), .int .u64 (wv2 y), .int .u64 (wv1 y), .int .u64 (wv0 y)]) agt24 sz24 (T rfl ((hF139 3 (by kernel_rfl)).trans (hF102 3 rfl))) H142 rfl) ⟨Below.refl _ _, rfl⟩
    · refine .inr ⟨by kernel_rfl, ?_⟩
      intro fr144 w143 e145 hF146 hD147
      have E148 := below_ext E106 E106.size e145
      have hv149 : fr144 20 = .agg #[.int .u64 (wv3 y), .int .u64 (wv2 y), .int .u64 (wv1 y), .int .u64 (wv0 y)] := hD147 2 _ (by kernel_rfl) rfl (by kernel_rfl)
      refine id (oe_callf (vs := [.agg #[.int .u64 (wv3 y), .int .u64 (wv2 y), .int .u64 (wv1 y), .int .u64 (wv0 y)]]) co16 (ar1 (T rfl hv149)) (toWide_ok (z := y)  ) ?_)
      rintro _ w150 ⟨rfl, e151⟩
      have E152 := below_ext E148 E148.size e151
      exact ⟨e151, rfl⟩
    · refine .inr ⟨by kernel_rfl, ?_⟩
      intro fr154 w153 e155 hF156 hD157
      have E158 := below_ext E106 E106.size e155
      have hv159 : fr154 19 = .agg #[.int .u64 (wv3 x), .int .u64 (wv2 x), .int .u64 (wv1 x), .int .u64 (wv0 x)] := hD157 1 _ (by kernel_rfl) rfl (by kernel_rfl)
      have hv160 : fr154 21 = .agg #[.int .u64 (wv3 y), .int .u64 (wv2 y), .int .u64 (wv1 y), .int .u64 (wv0 y)] := hD157 3 _ (by kernel_rfl) rfl (by kernel_rfl)
      refine id (oe_callf (vs := [.agg #[.int .u64 (wv3 x), .int .u64 (wv2 x), .int .u64 (wv1 x), .int .u64 (wv0 x)], .agg #[.int .u64 (wv3 y), .int .u64 (wv2 y), .int .u64 (wv1 y), .int .u64 (wv0 y)]]) co17 (ar2 (T rfl hv159) (T rfl hv160)) (iRatioOf_ok (x := x) (y := y) fx_ fy_ ) ?_)
      rintro _ w161 ⟨rfl, e162⟩
      have E163 := below_ext E158 E158.size e162
      exact ⟨e162, rfl⟩
    · refine .inr ⟨by kernel_rfl, ?_⟩
      intro fr165 w164 e166 hF167 hD168
      have E169 := below_ext E106 E106.size e166
      have hv170 : fr165 22 = .tuple #[.agg #[.int .u64 (wv3 (pkz (rFit x y) (rUp (x) (y)))), .int .u64 (wv2 (pkz (rFit x y) (rUp (x) (y)))), .int .u64 (wv1 (pkz (rFit x y) (rUp (x) (y)))), .int .u64 (wv0 (pkz (rFit x y) (rUp (x) (y)))), .int .u64 (wv3 (pkz (rFit x y) (rDn (x) (y)))), .int .u64 (wv2 (pkz (rFit x y) (rDn (x) (y)))), .int .u64 (wv1 (pkz (rFit x y) (rDn (x) (y)))), .int .u64 (wv0 (pkz (rFit x y) (rDn (x) (y))))], .bool (decide (rFit x y))] := hD168 4 _ (by kernel_rfl) rfl (by kernel_rfl)
      exact DV.oe (dv_move (T rfl hv170)) ⟨Below.refl _ _, rfl⟩
    · refine .inr ⟨by kernel_rfl, ?_⟩
      intro fr172 w171 e173 hF174 hD175
      have E176 := below_ext E106 E106.size e173
      have hv177 : fr172 17 = .tuple #[.agg #[.int .u64 (wv3 (pkz (rFit x y) (rUp (x) (y)))), .int .u64 (wv2 (pkz (rFit x y) (rUp (x) (y)))), .int .u64 (wv1 (pkz (rFit x y) (rUp (x) (y)))), .int .u64 (wv0 (pkz (rFit x y) (rUp (x) (y)))), .int .u64 (wv3 (pkz (rFit x y) (rDn (x) (y)))), .int .u64 (wv2 (pkz (rFit x y) (rDn (x) (y)))), .int .u64 (wv1 (pkz (rFit x y) (rDn (x) (y)))), .int .u64 (wv0 (pkz (rFit x y) (rDn (x) (y))))], .bool (decide (rFit x y))] := hD175 5 _ (by kernel_rfl) rfl (by kernel_rfl)
      exact DV.oe (dv_extract (vs := #[.agg #[.int .u64 (wv3 (pkz (rFit x y) (rUp (x) (y)))), .int .u64 (wv2 (pkz (rFit x y) (rUp (x) (y)))), .int .u64 (wv1 (pkz (rFit x y) (rUp (x) (y)))), .int .u64 (wv0 (pkz (rFit x y) (rUp (x) (y)))), .int .u64 (wv3 (pkz (rFit x y) (rDn (x) (y)))), .int .u64 (wv2 (pkz (rFit x y) (rDn (x) (y)))), .int .u64 (wv1 (pkz (rFit x y) (rDn (x) (y)))), .int .u64 (wv0 (pkz (rFit x y) (rDn (x) (y))))], .bool (decide (rFit x y))]) (T rfl hv177) rfl) ⟨Below.refl _ _, rfl⟩
    · refine .inr ⟨by kernel_rfl, ?_⟩
      intro fr179 w178 e180 hF181 hD182
      have E183 := below_ext E106 E106.size e180
      have hv184 : fr179 17 = .tuple #[.agg #[.int .u64 (wv3 (pkz (rFit x y) (rUp (x) (y)))), .int .u64 (wv2 (pkz (rFit x y) (rUp (x) (y)))), .int .u64 (wv1 (pkz (rFit x y) (rUp (x) (y)))), .int .u64 (wv0 (pkz (rFit x y) (rUp (x) (y)))), .int .u64 (wv3 (pkz (rFit x y) (rDn (x) (y)))), .int .u64 (wv2 (pkz (rFit x y) (rDn (x) (y)))), .int .u64 (wv1 (pkz (rFit x y) (rDn (x) (y)))), .int .u64 (wv0 (pkz (rFit x y) (rDn (x) (y))))], .bool (decide (rFit x y))] := hD182 5 _ (by kernel_rfl) rfl (by kernel_rfl)
      exact DV.oe (dv_extract (vs := #[.agg #[.int .u64 (wv3 (pkz (rFit x y) (rUp (x) (y)))), .int .u64 (wv2 (pkz (rFit x y) (rUp (x) (y)))), .int .u64 (wv1 (pkz (rFit x y) (rUp (x) (y)))), .int .u64 (wv0 (pkz (rFit x y) (rUp (x) (y)))), .int .u64 (wv3 (pkz (rFit x y) (rDn (x) (y)))), .int .u64 (wv2 (pkz (rFit x y) (rDn (x) (y)))), .int .u64 (wv1 (pkz (rFit x y) (rDn (x) (y)))), .int .u64 (wv0 (pkz (rFit x y) (rDn (x) (y))))], .bool (decide (rFit x y))]) (T rfl hv184) rfl) ⟨Below.refl _ _, rfl⟩
    · exact .inl (.inr ⟨by kernel_rfl, fun _ _ => trivial⟩)
    · exact .inl (.inl (by kernel_rfl))
    · refine .inr ⟨by kernel_rfl, ?_⟩
      intro fr200 w199 e201 hF202 hD203
      have E204 := below_ext E106 E106.size e201
      have hv205 : fr200 24 = .bool (decide (rFit x y)) := hD203 7 _ (by kernel_rfl) rfl (by kernel_rfl)
      exact DV.oe (dv_assign (T rfl hv205)) ⟨Below.refl _ _, rfl⟩
  · refine ⟨⟨⟨_, rfl, fun _ _ => oe_alloc ze27 fun b w hn => ⟨b, rfl, hn⟩⟩, ⟨_, rfl, ?_⟩⟩, trivial⟩
    · intro fr186 w185 b190 e187 hF188 hD189 hA191 hB192
      have E193 := below_ext E106 E106.size e187
      have hv194 : fr186 23 = .agg #[.int .u64 (wv3 (pkz (rFit x y) (rUp (x) (y)))), .int .u64 (wv2 (pkz (rFit x y) (rUp (x) (y)))), .int .u64 (wv1 (pkz (rFit x y) (rUp (x) (y)))), .int .u64 (wv0 (pkz (rFit x y) (rUp (x) (y)))), .int .u64 (wv3 (pkz (rFit x y) (rDn (x) (y)))), .int .u64 (wv2 (pkz (rFit x y) (rDn (x) (y)))), .int .u64 (wv1 (pkz (rFit x y) (rDn (x) (y)))), .int .u64 (wv0 (pkz (rFit x y) (rDn (x) (y))))] := hD189 6 _ (by kernel_rfl) rfl (by kernel_rfl)
      refine id (oe_store (v := .agg #[.int .u64 (wv3 (pkz (rFit x y) (rUp (x) (y)))), .int .u64 (wv2 (pkz (rFit x y) (rUp (x) (y)))), .int .u64 (wv1 (pkz (rFit x y) (rUp (x) (y)))), .int .u64 (wv0 (pkz (rFit x y) (rUp (x) (y)))), .int .u64 (wv3 (pkz (rFit x y) (rDn (x) (y)))), .int .u64 (wv2 (pkz (rFit x y) (rDn (x) (y)))), .int .u64 (wv1 (pkz (rFit x y) (rDn (x) (y)))), .int .u64 (wv0 (pkz (rFit x y) (rDn (x) (y))))]) (vs := [.int .u64 (wv3 (pkz (rFit x y) (rUp (x) (y)))), .int .u64 (wv2 (pkz (rFit x y) (rUp (x) (y)))), .int .u64 (wv1 (pkz (rFit x y) (rUp (x) (y)))), .int .u64 (wv0 (pkz (rFit x y) (rUp (x) (y)))), .int .u64 (wv3 (pkz (rFit x y) (rDn (x) (y)))), .int .u64 (wv2 (pkz (rFit x y) (rDn (x) (y)))), .int .u64 (wv1 (pkz (rFit x y) (rDn (x) (y)))), .int .u64 (wv0 (pkz (rFit x y) (rDn (x) (y))))]) (l := [.int .u64 (wv3 (pkz (rFit x y) (rUp (x) (y)))), .int .u64 (wv2 (pkz (rFit x y) (rUp (x) (y)))), .int .u64 (wv1 (pkz (rFit x y) (rUp (x) (y)))), .int .u64 (wv0 (pkz (rFit x y) (rUp (x) (y)))), .int .u64 (wv3 (pkz (rFit x y) (rDn (x) (y)))), .int .u64 (wv2 (pkz (rFit x y) (rDn (x) (y)))), .int .u64 (wv1 (pkz (rFit x y) (rDn (x) (y)))), .int .u64 (wv0 (pkz (rFit x y) (rDn (x) (y))))]) (T rfl hA191) (T rfl hv194) sz27 rfl rfl rfl hB192 rfl ?_)
      intro w195 s196 H197
      exact ⟨s196, H197.trans (congrArg (fun v : Value => some (Obj.cells v.cells 27)) (show fr186 23 = _ from hv194).symm)⟩
  intro fr207 w206 e208 hF209 hP210 hM211 hN212
  have E213 := below_ext E106 E106.size e208
  obtain ⟨_, _, _, _, _, _, p214, _, _, _, p215, _⟩ := hP210
  have hv216 : fr207 23 = .agg #[.int .u64 (wv3 (pkz (rFit x y) (rUp (x) (y)))), .int .u64 (wv2 (pkz (rFit x y) (rUp (x) (y)))), .int .u64 (wv1 (pkz (rFit x y) (rUp (x) (y)))), .int .u64 (wv0 (pkz (rFit x y) (rUp (x) (y)))), .int .u64 (wv3 (pkz (rFit x y) (rDn (x) (y)))), .int .u64 (wv2 (pkz (rFit x y) (rDn (x) (y)))), .int .u64 (wv1 (pkz (rFit x y) (rDn (x) (y)))), .int .u64 (wv0 (pkz (rFit x y) (rDn (x) (y))))] := p214.resolve_left (nst (by kernel_rfl))
  have hv217 : fr207 8 = .bool (decide (rFit x y)) := p215.resolve_left (nst (by kernel_rfl))
  obtain ⟨⟨b218, hA219, hB220, hC221⟩, _⟩ := hM211
  have H222 : w206.heap[b218]? = some (.cells #[.int .u64 (wv3 (pkz (rFit x y) (rUp (x) (y)))), .int .u64 (wv2 (pkz (rFit x y) (rUp (x) (y)))), .int .u64 (wv1 (pkz (rFit x y) (rUp (x) (y)))), .int .u64 (wv0 (pkz (rFit x y) (rUp (x) (y)))), .int .u64 (wv3 (pkz (rFit x y) (rDn (x) (y)))), .int .u64 (wv2 (pkz (rFit x y) (rDn (x) (y)))), .int .u64 (wv1 (pkz (rFit x y) (rDn (x) (y)))), .int .u64 (wv0 (pkz (rFit x y) (rDn (x) (y))))] 27) := hC221.trans (congrArg (fun v : Value => some (Obj.cells v.cells 27)) hv216)
  have N223 : w.heap.size ≤ b218 := by omega
  refine rk_seq ?_
  refine rk_seq ?_
  refine rk_reg ?_
  refine lw_v (.agg #[.int .u64 (wv3 (pkz (rFit x y) (rUp (x) (y)))), .int .u64 (wv2 (pkz (rFit x y) (rUp (x) (y)))), .int .u64 (wv1 (pkz (rFit x y) (rUp (x) (y)))), .int .u64 (wv0 (pkz (rFit x y) (rUp (x) (y)))), .int .u64 (wv3 (pkz (rFit x y) (rDn (x) (y)))), .int .u64 (wv2 (pkz (rFit x y) (rDn (x) (y)))), .int .u64 (wv1 (pkz (rFit x y) (rDn (x) (y)))), .int .u64 (wv0 (pkz (rFit x y) (rDn (x) (y))))]) (dv_loads (l := [.int .u64 (wv3 (pkz (rFit x y) (rUp (x) (y)))), .int .u64 (wv2 (pkz (rFit x y) (rUp (x) (y)))), .int .u64 (wv1 (pkz (rFit x y) (rUp (x) (y)))), .int .u64 (wv0 (pkz (rFit x y) (rUp (x) (y)))), .int .u64 (wv3 (pkz (rFit x y) (rDn (x) (y)))), .int .u64 (wv2 (pkz (rFit x y) (rDn (x) (y)))), .int .u64 (wv1 (pkz (rFit x y) (rDn (x) (y)))), .int .u64 (wv0 (pkz (rFit x y) (rDn (x) (y))))]) agt27 sz27 (T rfl hA219) H222 rfl) ?_
  have H224 := (e208.blk H115)
  refine lw_v (.agg #[.int .u64 (wv3 (pkz (rFit x y) (rUp (x) (y)))), .int .u64 (wv2 (pkz (rFit x y) (rUp (x) (y)))), .int .u64 (wv1 (pkz (rFit x y) (rUp (x) (y)))), .int .u64 (wv0 (pkz (rFit x y) (rUp (x) (y)))), .int .u64 (wv3 (pkz (rFit x y) (rDn (x) (y)))), .int .u64 (wv2 (pkz (rFit x y) (rDn (x) (y)))), .int .u64 (wv1 (pkz (rFit x y) (rDn (x) (y)))), .int .u64 (wv0 (pkz (rFit x y) (rDn (x) (y))))]) (dv_loads (l := [.int .u64 (wv3 (pkz (rFit x y) (rUp (x) (y)))), .int .u64 (wv2 (pkz (rFit x y) (rUp (x) (y)))), .int .u64 (wv1 (pkz (rFit x y) (rUp (x) (y)))), .int .u64 (wv0 (pkz (rFit x y) (rUp (x) (y)))), .int .u64 (wv3 (pkz (rFit x y) (rDn (x) (y)))), .int .u64 (wv2 (pkz (rFit x y) (rDn (x) (y)))), .int .u64 (wv1 (pkz (rFit x y) (rDn (x) (y)))), .int .u64 (wv0 (pkz (rFit x y) (rDn (x) (y))))]) agt27 sz27 (T rfl ((hF209 5 rfl).trans hA112)) H224 rfl) ?_
  refine lw_e (oe_callf (vs := [.agg #[.int .u64 (wv3 (pkz (rFit x y) (rUp (x) (y)))), .int .u64 (wv2 (pkz (rFit x y) (rUp (x) (y)))), .int .u64 (wv1 (pkz (rFit x y) (rUp (x) (y)))), .int .u64 (wv0 (pkz (rFit x y) (rUp (x) (y)))), .int .u64 (wv3 (pkz (rFit x y) (rDn (x) (y)))), .int .u64 (wv2 (pkz (rFit x y) (rDn (x) (y)))), .int .u64 (wv1 (pkz (rFit x y) (rDn (x) (y)))), .int .u64 (wv0 (pkz (rFit x y) (rDn (x) (y))))], .agg #[.int .u64 (wv3 (pkz (rFit x y) (rUp (x) (y)))), .int .u64 (wv2 (pkz (rFit x y) (rUp (x) (y)))), .int .u64 (wv1 (pkz (rFit x y) (rUp (x) (y)))), .int .u64 (wv0 (pkz (rFit x y) (rUp (x) (y)))), .int .u64 (wv3 (pkz (rFit x y) (rDn (x) (y)))), .int .u64 (wv2 (pkz (rFit x y) (rDn (x) (y)))), .int .u64 (wv1 (pkz (rFit x y) (rDn (x) (y)))), .int .u64 (wv0 (pkz (rFit x y) (rDn (x) (y))))]]) co18 (ar2 (T rfl rfl) (T rfl rfl)) (eqRatio_ok (x := pkz (rFit x y) (rUp (x) (y))) (y := pkz (rFit x y) (rDn (x) (y))) (p := pkz (rFit x y) (rUp (x) (y))) (q := pkz (rFit x y) (rDn (x) (y))) (fits_pkz fun h => h.2.1) (fits_pkz fun h => h.2.2) (fits_pkz fun h => h.2.1) (fits_pkz fun h => h.2.2) ) ?_)
  rintro _ w225 ⟨rfl, e226⟩
  have E227 := below_ext E213 E213.size e226
  refine lw_v (.bool (decide (¬ ((pkz (rFit x y) (rUp (x) (y))) = (pkz (rFit x y) (rUp (x) (y))) ∧ (pkz (rFit x y) (rDn (x) (y))) = (pkz (rFit x y) (rDn (x) (y))))))) (dv_notd (p := (pkz (rFit x y) (rUp (x) (y))) = (pkz (rFit x y) (rUp (x) (y))) ∧ (pkz (rFit x y) (rDn (x) (y))) = (pkz (rFit x y) (rDn (x) (y)))) (T rfl rfl)) ?_
  refine lw_v (.bool (decide (¬ ((pkz (rFit x y) (rUp (x) (y))) = (pkz (rFit x y) (rUp (x) (y))) ∧ (pkz (rFit x y) (rDn (x) (y))) = (pkz (rFit x y) (rDn (x) (y))))))) (dv_move (T rfl rfl)) ?_
  by_cases hb228 : (pkz (rFit x y) (rUp (x) (y))) = (pkz (rFit x y) (rUp (x) (y))) ∧ (pkz (rFit x y) (rDn (x) (y))) = (pkz (rFit x y) (rDn (x) (y)))
  · -- T
    refine lw_vy (.bool (decide (rFit x y))) (d := 29) rfl rfl (congrArg Value.bool (decide_eq_false (not_not_intro hb228))) (dv_move (T rfl hv217)) ?_
    refine lw_vy (.bool (decide (rFit x y))) (d := 29) rfl rfl (congrArg Value.bool (decide_eq_false (not_not_intro hb228))) (dv_move (T rfl ((hF209 6 rfl).trans hv110))) ?_
    refine lw_vy (.bool ((decide (rFit x y)) != (decide (rFit x y)))) (d := 29) rfl rfl (congrArg Value.bool (decide_eq_false (not_not_intro hb228))) (dv_neqb (a := decide (rFit x y)) (b := decide (rFit x y)) ub4 (T rfl rfl) (T rfl rfl)) ?_
    refine lw_v (.bool ((decide (rFit x y)) != (decide (rFit x y)))) (dv_pick_f (T rfl (congrArg Value.bool (decide_eq_false (not_not_intro hb228)))) (T rfl rfl)) ?_
    refine lw_nil ?_
    rcases Bool.eq_false_or_eq_true ((decide (rFit x y)) != (decide (rFit x y))) with hb229 | hb229
    · -- TT
      refine rk_ct (T rfl (congrArg Value.bool hb229)) ?_
      refine rk_seq ?_
      refine rk_reg ?_
      refine lw_v (.bool false) (dv_assign C) ?_
      refine lw_nil ?_
      refine rk_ret Try.func3 (v := .bool false) (res1 Try.results3 (rv_tmp rfl rfl)) ⟨_, rfl, ?_⟩
      exact ⟨(by exfalso; grind), E227⟩
    · -- TF
      refine rk_cf (T rfl (congrArg Value.bool hb229)) ?_
      refine rk_skip ?_
      refine rk_seq ?_
      refine rk_reg ?_
      refine lw_v (.bool true) (dv_assign C) ?_
      refine lw_nil ?_
      refine rk_ret Try.func3 (v := .bool true) (res1 Try.results3 (rv_tmp rfl rfl)) ⟨_, rfl, ?_⟩
      exact ⟨rfl, E227⟩
  · -- F
    refine lw_no (d := 29) rfl rfl (congrArg Value.bool (decide_eq_true hb228)) ?_
    refine lw_no (d := 29) rfl rfl (congrArg Value.bool (decide_eq_true hb228)) ?_
    refine lw_no (d := 29) rfl rfl (congrArg Value.bool (decide_eq_true hb228)) ?_
    refine lw_v (.bool true) (dv_pick_t (T rfl (congrArg Value.bool (decide_eq_true hb228))) C) ?_
    refine lw_nil ?_
    refine rk_ct (T rfl rfl) ?_
    refine rk_seq ?_
    refine rk_reg ?_
    refine lw_v (.bool false) (dv_assign C) ?_
    refine lw_nil ?_
    refine rk_ret Try.func3 (v := .bool false) (res1 Try.results3 (rv_tmp rfl rfl)) ⟨_, rfl, ?_⟩
    exact ⟨(by exfalso; grind), E227⟩

theorem lawRatioOf_w {w : World} {x3 x2 x1 x0 y3 y2 y1 y0 : Int} (hx3 : 0 ≤ x3 ∧ x3 < 18446744073709551616) (hx2 : 0 ≤ x2 ∧ x2 < 18446744073709551616) (hx1 : 0 ≤ x1 ∧ x1 < 18446744073709551616) (hx0 : 0 ≤ x0 ∧ x0 < 18446744073709551616) (hy3 : 0 ≤ y3 ∧ y3 < 18446744073709551616) (hy2 : 0 ≤ y2 ∧ y2 < 18446744073709551616) (hy1 : 0 ≤ y1 ∧ y1 < 18446744073709551616) (hy0 : 0 ≤ y0 ∧ y0 < 18446744073709551616) : Ct Try.prog 3 [.agg #[.int .u64 x3, .int .u64 x2, .int .u64 x1, .int .u64 x0], .agg #[.int .u64 y3, .int .u64 y2, .int .u64 y1, .int .u64 y0]] w fun v w1 => v = .bool true ∧ Ext w w1 := by
  obtain ⟨x, fx, rfl, rfl, rfl, rfl⟩ := words_z hx3 hx2 hx1 hx0
  obtain ⟨y, fy, rfl, rfl, rfl, rfl⟩ := words_z hy3 hy2 hy1 hy0
  exact lawRatioOf_ok fx fy
end Go.Proofs.Ytpnjkjahfklfnaa.W
