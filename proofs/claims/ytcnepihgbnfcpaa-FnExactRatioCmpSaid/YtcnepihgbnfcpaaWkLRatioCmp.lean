/- WkLRatioCmp: walks, written by a program of this session. -/
import Derived.Test.YtcnepihgbnfcpaaWk20
set_option linter.unusedVariables false
set_option linter.unusedSimpArgs false
namespace Go.Proofs.Ytcnepihgbnfcpaa.W
open Go Go.RowKit Go.Proofs.Ytcnepihgbnfcpaa.Fw
attribute [local irreducible] RunK LW AW DV OE Ct
theorem agt48 : aggB Try.prog 48 = some true := by kernel_rfl
theorem co43 : callOk Try.prog 43 = true := by kernel_rfl
theorem co45 : callOk Try.prog 45 = true := by kernel_rfl
theorem co46 : callOk Try.prog 46 = true := by kernel_rfl
theorem sz48 : sizeB Try.prog 48 = some 8 := by kernel_rfl
set_option maxHeartbeats 1000000 in
theorem lawRatioCmp_ok {w : World} {x y p q : Int} (fx_ : fits x) (fy_ : fits y) (fp_ : fits p) (fq_ : fits q)  : Ct Try.prog 13 [.agg #[.int .u64 (wv3 x), .int .u64 (wv2 x), .int .u64 (wv1 x), .int .u64 (wv0 x), .int .u64 (wv3 y), .int .u64 (wv2 y), .int .u64 (wv1 y), .int .u64 (wv0 y)], .agg #[.int .u64 (wv3 p), .int .u64 (wv2 p), .int .u64 (wv1 p), .int .u64 (wv0 p), .int .u64 (wv3 q), .int .u64 (wv2 q), .int .u64 (wv1 q), .int .u64 (wv0 q)]] w fun v w1 => v = .bool true ∧ Ext w w1 := by
  refine ct_run (n := 33) Try.func13 rfl Try.ntmps13 rfl ?_
  have E0 : Below w.heap.size w w := Below.refl _ _
  refine rk_seq ?_
  refine rk_reg ?_
  refine lw_e (oe_box (v := .agg #[.int .u64 (wv3 x), .int .u64 (wv2 x), .int .u64 (wv1 x), .int .u64 (wv0 x), .int .u64 (wv3 y), .int .u64 (wv2 y), .int .u64 (wv1 y), .int .u64 (wv0 y)]) (cs := #[.int .u64 (wv3 x), .int .u64 (wv2 x), .int .u64 (wv1 x), .int .u64 (wv0 x), .int .u64 (wv3 y), .int .u64 (wv2 y), .int .u64 (wv1 y), .int .u64 (wv0 y)]) (T rfl rfl) rfl ?_)
  intro b1 w2 n3
  have N4 : w.heap.size ≤ b1 := n3.eq ▸ E0.size
  have E5 := below_ext E0 E0.size n3.ext
  refine lw_e (oe_box (v := .agg #[.int .u64 (wv3 p), .int .u64 (wv2 p), .int .u64 (wv1 p), .int .u64 (wv0 p), .int .u64 (wv3 q), .int .u64 (wv2 q), .int .u64 (wv1 q), .int .u64 (wv0 q)]) (cs := #[.int .u64 (wv3 p), .int .u64 (wv2 p), .int .u64 (wv1 p), .int .u64 (wv0 p), .int .u64 (wv3 q), .int .u64 (wv2 q), .int .u64 (wv1 q), .int .u64 (wv0 q)]) (T rfl rfl) rfl ?_)
  intro b6 w7 n8
  have N9 : w.heap.size ≤ b6 := n8.eq ▸ E5.size
  have : b1 < b6 := n8.eq ▸ lt_of_blk n3.blk
  have E10 := below_ext E5 E5.size n8.ext
  refine lw_v (.bool false) (dv_assign C) ?_
  refine lw_nil ?_
  refine rk_seq ?_
  refine rk_any (fun w => w.heap[b1]? = some (.cells #[.int .u64 (wv3 x), .int .u64 (wv2 x), .int .u64 (wv1 x), .int .u64 (wv0 x), .int .u64 (wv3 y), .int .u64 (wv2 y), .int .u64 (wv1 y), .int .u64 (wv0 y)] 48) ∧ w.heap[b6]? = some (.cells #[.int .u64 (wv3 p), .int .u64 (wv2 p), .int .u64 (wv1 p), .int .u64 (wv0 p), .int .u64 (wv3 q), .int .u64 (wv2 q), .int .u64 (wv1 q), .int .u64 (wv0 q)] 48)) [9] mo ?_
  intro w11 d12
  have E13 := below_ext E10 E10.size d12.ext
  have H14 := (d12.ext.blk (n8.ext.blk n3.blk))
  have H15 := (d12.ext.blk n8.blk)
  refine aw_load 0 (.agg #[.int .u64 (wv3 x), .int .u64 (wv2 x), .int .u64 (wv1 x), .int .u64 (wv0 x), .int .u64 (wv3 y), .int .u64 (wv2 y), .int .u64 (wv1 y), .int .u64 (wv0 y)]) rfl (by kernel_rfl) .none ⟨H14, H15⟩ (fun _ s => dv_loads (l := [.int .u64 (wv3 x), .int .u64 (wv2 x), .int .u64 (wv1 x), .int .u64 (wv0 x), .int .u64 (wv3 y), .int .u64 (wv2 y), .int .u64 (wv1 y), .int .u64 (wv0 y)]) agt48 sz48 (T rfl rfl) s.1 rfl) ?_
  refine aw_load 2 (.agg #[.int .u64 (wv3 p), .int .u64 (wv2 p), .int .u64 (wv1 p), .int .u64 (wv0 p), .int .u64 (wv3 q), .int .u64 (wv2 q), .int .u64 (wv1 q), .int .u64 (wv0 q)]) rfl (by kernel_rfl) .none ⟨H14, H15⟩ (fun _ s => dv_loads (l := [.int .u64 (wv3 p), .int .u64 (wv2 p), .int .u64 (wv1 p), .int .u64 (wv0 p), .int .u64 (wv3 q), .int .u64 (wv2 q), .int .u64 (wv1 q), .int .u64 (wv0 q)]) agt48 sz48 (T rfl rfl) s.2 rfl) ?_
  refine aw_one 1 rfl (by kernel_rfl) .none (oe_callf (vs := [.agg #[.int .u64 (wv3 x), .int .u64 (wv2 x), .int .u64 (wv1 x), .int .u64 (wv0 x), .int .u64 (wv3 y), .int .u64 (wv2 y), .int .u64 (wv1 y), .int .u64 (wv0 y)]]) co43 (ar1 (T rfl rfl)) (toRatio_ok (x := x) (y := y)  ) ?_)
  rintro _ w16 ⟨rfl, e17⟩
  have E18 := below_ext E13 E13.size e17
  have H19 := (e17.blk H14)
  have H20 := (e17.blk H15)
  refine ⟨.inr ⟨H19, H20⟩, ?_⟩
  refine aw_one 3 rfl (by kernel_rfl) .none (oe_callf (vs := [.agg #[.int .u64 (wv3 p), .int .u64 (wv2 p), .int .u64 (wv1 p), .int .u64 (wv0 p), .int .u64 (wv3 q), .int .u64 (wv2 q), .int .u64 (wv1 q), .int .u64 (wv0 q)]]) co43 (ar1 (T rfl rfl)) (toRatio_ok (x := p) (y := q)  ) ?_)
  rintro _ w21 ⟨rfl, e22⟩
  have E23 := below_ext E18 E18.size e22
  have H24 := (e22.blk H19)
  have H25 := (e22.blk H20)
  refine ⟨.inr ⟨H24, H25⟩, ?_⟩
  refine aw_one 4 rfl (by kernel_rfl) .none (oe_callf (vs := [.agg #[.int .u64 (wv3 x), .int .u64 (wv2 x), .int .u64 (wv1 x), .int .u64 (wv0 x), .int .u64 (wv3 y), .int .u64 (wv2 y), .int .u64 (wv1 y), .int .u64 (wv0 y)], .agg #[.int .u64 (wv3 p), .int .u64 (wv2 p), .int .u64 (wv1 p), .int .u64 (wv0 p), .int .u64 (wv3 q), .int .u64 (wv2 q), .int .u64 (wv1 q), .int .u64 (wv0 q)]]) co45 (ar2 (T rfl rfl) (T rfl rfl)) (sRatioCmp_ok (x := x) (y := y) (p := p) (q := q) fx_ fy_ fp_ fq_ ) ?_)
  rintro _ w26 ⟨rfl, e27⟩
  have E28 := below_ext E23 E23.size e27
  have H29 := (e27.blk H24)
  have H30 := (e27.blk H25)
  refine ⟨.inr ⟨H29, H30⟩, ?_⟩
  refine aw_pure 5 (.tuple #[.int .i64 (rCmp x y p q), .bool (decide (rOk x y ∧ rOk p q))]) rfl (by kernel_rfl) .none ⟨H29, H30⟩ (fun _ => dv_move (T rfl rfl)) ?_
  refine aw_pure 6 (.int .i64 (rCmp x y p q)) rfl (by kernel_rfl) .none ⟨H29, H30⟩ (fun _ => dv_extract (vs := #[.int .i64 (rCmp x y p q), .bool (decide (rOk x y ∧ rOk p q))]) (T rfl rfl) rfl) ?_
  refine aw_pure 7 (.bool (decide (rOk x y ∧ rOk p q))) rfl (by kernel_rfl) .none ⟨H29, H30⟩ (fun _ => dv_extract (vs := #[.int .i64 (rCmp x y p q), .bool (decide (rOk x y ∧ rOk p q))]) (T rfl rfl) rfl) ?_
  refine aw_pure 8 (.int .i64 (rCmp x y p q)) rfl (by kernel_rfl) .none ⟨H29, H30⟩ (fun _ => dv_assign (T rfl rfl)) ?_
  refine aw_last 9 (.bool (decide (rOk x y ∧ rOk p q))) rfl (by kernel_rfl) .none (fun _ => dv_assign (T rfl rfl)) ?_
  refine aw_done (by kernel_rfl) ?_
  refine rk_seq ?_
  refine rk_any (fun w => w.heap[b1]? = some (.cells #[.int .u64 (wv3 x), .int .u64 (wv2 x), .int .u64 (wv1 x), .int .u64 (wv0 x), .int .u64 (wv3 y), .int .u64 (wv2 y), .int .u64 (wv1 y), .int .u64 (wv0 y)] 48) ∧ w.heap[b6]? = some (.cells #[.int .u64 (wv3 p), .int .u64 (wv2 p), .int .u64 (wv1 p), .int .u64 (wv0 p), .int .u64 (wv3 q), .int .u64 (wv2 q), .int .u64 (wv1 q), .int .u64 (wv0 q)] 48)) [9] mo ?_
  intro w31 d32
  have E33 := below_ext E28 E28.size d32.ext
  have H34 := (d32.ext.blk H29)
  have H35 := (d32.ext.blk H30)
  refine aw_load 0 (.agg #[.int .u64 (wv3 x), .int .u64 (wv2 x), .int .u64 (wv1 x), .int .u64 (wv0 x), .int .u64 (wv3 y), .int .u64 (wv2 y), .int .u64 (wv1 y), .int .u64 (wv0 y)]) rfl (by kernel_rfl) .none ⟨H34, H35⟩ (fun _ s => dv_loads (l := [.int .u64 (wv3 x), .int .u64 (wv2 x), .int .u64 (wv1 x), .int .u64 (wv0 x), .int .u64 (wv3 y), .int .u64 (wv2 y), .int .u64 (wv1 y), .int .u64 (wv0 y)]) agt48 sz48 (T rfl rfl) s.1 rfl) ?_
  refine aw_load 2 (.agg #[.int .u64 (wv3 p), .int .u64 (wv2 p), .int .u64 (wv1 p), .int .u64 (wv0 p), .int .u64 (wv3 q), .int .u64 (wv2 q), .int .u64 (wv1 q), .int .u64 (wv0 q)]) rfl (by kernel_rfl) .none ⟨H34, H35⟩ (fun _ s => dv_loads (l := [.int .u64 (wv3 p), .int .u64 (wv2 p), .int .u64 (wv1 p), .int .u64 (wv0 p), .int .u64 (wv3 q), .int .u64 (wv2 q), .int .u64 (wv1 q), .int .u64 (wv0 q)]) agt48 sz48 (T rfl rfl) s.2 rfl) ?_
  refine aw_one 1 rfl (by kernel_rfl) .none (oe_callf (vs := [.agg #[.int .u64 (wv3 x), .int .u64 (wv2 x), .int .u64 (wv1 x), .int .u64 (wv0 x), .int .u64 (wv3 y), .int .u64 (wv2 y), .int .u64 (wv1 y), .int .u64 (wv0 y)]]) co43 (ar1 (T rfl rfl)) (toRatio_ok (x := x) (y := y)  ) ?_)
  rintro _ w36 ⟨rfl, e37⟩
  have E38 := below_ext E33 E33.size e37
  have H39 := (e37.blk H34)
  have H40 := (e37.blk H35)
  refine ⟨.inr ⟨H39, H40⟩, ?_⟩
  refine aw_one 3 rfl (by kernel_rfl) .none (oe_callf (vs := [.agg #[.int .u64 (wv3 p), .int .u64 (wv2 p), .int .u64 (wv1 p), .int .u64 (wv0 p), .int .u64 (wv3 q), .int .u64 (wv2 q), .int .u64 (wv1 q), .int .u64 (wv0 q)]]) co43 (ar1 (T rfl rfl)) (toRatio_ok (x := p) (y := q)  ) ?_)
  rintro _ w41 ⟨rfl, e42⟩
  have E43 := below_ext E38 E38.size e42
  have H44 := (e42.blk H39)
  have H45 := (e42.blk H40)
  refine ⟨.inr ⟨H44, H45⟩, ?_⟩
  refine aw_one 4 rfl (by kernel_rfl) .none (oe_callf (vs := [.agg #[.int .u64 (wv3 x), .int .u64 (wv2 x), .int .u64 (wv1 x), .int .u64 (wv0 x), .int .u64 (wv3 y), .int .u64 (wv2 y), .int .u64 (wv1 y), .int .u64 (wv0 y)], .agg #[.int .u64 (wv3 p), .int .u64 (wv2 p), .int .u64 (wv1 p), .int .u64 (wv0 p), .int .u64 (wv3 q), .int .u64 (wv2 q), .int .u64 (wv1 q), .int .u64 (wv0 q)]]) co46 (ar2 (T rfl rfl) (T rfl rfl)) (iRatioCmp_ok (x := x) (y := y) (p := p) (q := q) fx_ fy_ fp_ fq_ ) ?_)
  rintro _ w46 ⟨rfl, e47⟩
  have E48 := below_ext E43 E43.size e47
  have H49 := (e47.blk H44)
  have H50 := (e47.blk H45)
  refine ⟨.inr ⟨H49, H50⟩, ?_⟩
  refine aw_pure 5 (.tuple #[.int .i64 (rCmp x y p q), .bool (decide (rOk x y ∧ rOk p q))]) rfl (by kernel_rfl) .none ⟨H49, H50⟩ (fun _ => dv_move (T rfl rfl)) ?_
  refine aw_pure 6 (.int .i64 (rCmp x y p q)) rfl (by kernel_rfl) .none ⟨H49, H50⟩ (fun _ => dv_extract (vs := #[.int .i64 (rCmp x y p q), .bool (decide (rOk x y ∧ rOk p q))]) (T rfl rfl) rfl) ?_
  refine aw_pure 7 (.bool (decide (rOk x y ∧ rOk p q))) rfl (by kernel_rfl) .none ⟨H49, H50⟩ (fun _ => dv_extract (vs := #[.int .i64 (rCmp x y p q), .bool (decide (rOk x y ∧ rOk p q))]) (T rfl rfl) rfl) ?_
  refine aw_pure 8 (.int .i64 (rCmp x y p q)) rfl (by kernel_rfl) .none ⟨H49, H50⟩ (fun _ => dv_assign (T rfl rfl)) ?_
  refine aw_last 9 (.bool (decide (rOk x y ∧ rOk p q))) rfl (by kernel_rfl) .none (fun _ => dv_assign (T rfl rfl)) ?_
  refine aw_done (by kernel_rfl) ?_
  refine rk_seq ?_
  refine rk_seq ?_
  refine rk_reg ?_
  refine lw_v (.int .i64 (rCmp x y p q)) (dv_move (T rfl rfl)) ?_
  refine lw_v (.int .i64 (rCmp x y p q)) (dv_move (T rfl rfl)) ?_
  refine lw_v (.bool (decide ((rCmp x y p q) ≠ (rCmp x y p q)))) (dv_neq (a := rCmp x y p q) (b := rCmp x y p q) (T rfl rfl) (T rfl rfl)) ?_
  refine lw_v (.bool (decide ((rCmp x y p q) ≠ (rCmp x y p q)))) (dv_move (T rfl rfl)) ?_
  by_cases hb51 : (rCmp x y p q) ≠ (rCmp x y p q)
  · -- T
    refine lw_no (d := 28) rfl rfl (congrArg Value.bool (decide_eq_true hb51)) ?_
    refine lw_no (d := 28) rfl rfl (congrArg Value.bool (decide_eq_true hb51)) ?_
    refine lw_no (d := 28) rfl rfl (congrArg Value.bool (decide_eq_true hb51)) ?_
    refine lw_v (.bool true) (dv_pick_t (T rfl (congrArg Value.bool (decide_eq_true hb51))) C) ?_
    refine lw_nil ?_
    refine rk_ct (T rfl rfl) ?_
    refine rk_seq ?_
    refine rk_reg ?_
    refine lw_v (.bool false) (dv_assign C) ?_
    refine lw_nil ?_
    refine rk_ret Try.func13 (v := .bool false) (res1 Try.results13 (rv_tmp rfl rfl)) ⟨_, rfl, ?_⟩
    exact ⟨(by exfalso; grind), E48⟩
  · -- F
    refine lw_vy (.bool (decide (rOk x y ∧ rOk p q))) (d := 28) rfl rfl (congrArg Value.bool (decide_eq_false hb51)) (dv_move (T rfl rfl)) ?_
    refine lw_vy (.bool (decide (rOk x y ∧ rOk p q))) (d := 28) rfl rfl (congrArg Value.bool (decide_eq_false hb51)) (dv_move (T rfl rfl)) ?_
    refine lw_vy (.bool ((decide (rOk x y ∧ rOk p q)) != (decide (rOk x y ∧ rOk p q)))) (d := 28) rfl rfl (congrArg Value.bool (decide_eq_false hb51)) (dv_neqb (a := decide (rOk x y ∧ rOk p q)) (b := decide (rOk x y ∧ rOk p q)) ub4 (T rfl rfl) (T rfl rfl)) ?_
    refine lw_v (.bool ((decide (rOk x y ∧ rOk p q)) != (decide (rOk x y ∧ rOk p q)))) (dv_pick_f (T rfl (congrArg Value.bool (decide_eq_false hb51))) (T rfl rfl)) ?_
    refine lw_nil ?_
    rcases Bool.eq_false_or_eq_true ((decide (rOk x y ∧ rOk p q)) != (decide (rOk x y ∧ rOk p q))) with hb52 | hb52
    · -- FT
      refine rk_ct (T rfl (congrArg Value.bool hb52)) ?_
      refine rk_seq ?_
      refine rk_reg ?_
      refine lw_v (.bool false) (dv_assign C) ?_
      refine lw_nil ?_
      refine rk_ret Try.func13 (v := .bool false) (res1 Try.results13 (rv_tmp rfl rfl)) ⟨_, rfl, ?_⟩
      exact ⟨(by exfalso; grind), E48⟩
    · -- FF
      refine rk_cf (T rfl (congrArg Value.bool hb52)) ?_
      refine rk_skip ?_
      refine rk_seq ?_
      refine rk_reg ?_
      refine lw_v (.bool true) (dv_assign C) ?_
      refine lw_nil ?_
      refine rk_ret Try.func13 (v := .bool true) (res1 Try.results13 (rv_tmp rfl rfl)) ⟨_, rfl, ?_⟩
      exact ⟨rfl, E48⟩

theorem lawRatioCmp_w {w : World} {x3 x2 x1 x0 y3 y2 y1 y0 p3 p2 p1 p0 q3 q2 q1 q0 : Int} (hx3 : 0 ≤ x3 ∧ x3 < 18446744073709551616) (hx2 : 0 ≤ x2 ∧ x2 < 18446744073709551616) (hx1 : 0 ≤ x1 ∧ x1 < 18446744073709551616) (hx0 : 0 ≤ x0 ∧ x0 < 18446744073709551616) (hy3 : 0 ≤ y3 ∧ y3 < 18446744073709551616) (hy2 : 0 ≤ y2 ∧ y2 < 18446744073709551616) (hy1 : 0 ≤ y1 ∧ y1 < 18446744073709551616) (hy0 : 0 ≤ y0 ∧ y0 < 18446744073709551616) (hp3 : 0 ≤ p3 ∧ p3 < 18446744073709551616) (hp2 : 0 ≤ p2 ∧ p2 < 18446744073709551616) (hp1 : 0 ≤ p1 ∧ p1 < 18446744073709551616) (hp0 : 0 ≤ p0 ∧ p0 < 18446744073709551616) (hq3 : 0 ≤ q3 ∧ q3 < 18446744073709551616) (hq2 : 0 ≤ q2 ∧ q2 < 18446744073709551616) (hq1 : 0 ≤ q1 ∧ q1 < 18446744073709551616) (hq0 : 0 ≤ q0 ∧ q0 < 18446744073709551616) : Ct Try.prog 13 [.agg #[.int .u64 x3, .int .u64 x2, .int .u64 x1, .int .u64 x0, .int .u64 y3, .int .u64 y2, .int .u64 y1, .int .u64 y0], .agg #[.int .u64 p3, .int .u64 p2, .int .u64 p1, .int .u64 p0, .int .u64 q3, .int .u64 q2, .int .u64 q1, .int .u64 q0]] w fun v w1 => v = .bool true ∧ Ext w w1 := by
  obtain ⟨x, fx, rfl, rfl, rfl, rfl⟩ := words_z hx3 hx2 hx1 hx0
  obtain ⟨y, fy, rfl, rfl, rfl, rfl⟩ := words_z hy3 hy2 hy1 hy0
  obtain ⟨p, fp, rfl, rfl, rfl, rfl⟩ := words_z hp3 hp2 hp1 hp0
  obtain ⟨q, fq, rfl, rfl, rfl, rfl⟩ := words_z hq3 hq2 hq1 hq0
  exact lawRatioCmp_ok fx fy fp fq
end Go.Proofs.Ytcnepihgbnfcpaa.W
