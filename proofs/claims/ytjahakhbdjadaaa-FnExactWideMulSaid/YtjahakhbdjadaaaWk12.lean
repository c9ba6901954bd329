/- Wk12: walks, written by a program of this session. -/
import Derived.Test.YtjahakhbdjadaaaWk11
import Derived.Test.YtjahakhbdjadaaaWk9
set_option linter.unusedVariables false
set_option linter.unusedSimpArgs false
namespace Go.Proofs.Ytjahakhbdjadaaa.W
open Go Go.RowKit Go.Proofs.Ytjahakhbdjadaaa.Fw
attribute [local irreducible] RunK LW AW DV OE Ct
theorem co63 : callOk Try.prog 63 = true := by kernel_rfl
theorem co64 : callOk Try.prog 64 = true := by kernel_rfl
set_option maxHeartbeats 1000000 in
theorem sWideMul_ok {w : World} {a3 a2 a1 a0 y3 y2 y1 y0 : Int} (h3 : 0 ≤ a3 ∧ a3 < 18446744073709551616) (h2 : 0 ≤ a2 ∧ a2 < 18446744073709551616) (h1 : 0 ≤ a1 ∧ a1 < 18446744073709551616) (h0 : 0 ≤ a0 ∧ a0 < 18446744073709551616) (k3 : 0 ≤ y3 ∧ y3 < 18446744073709551616) (k2 : 0 ≤ y2 ∧ y2 < 18446744073709551616) (k1 : 0 ≤ y1 ∧ y1 < 18446744073709551616) (k0 : 0 ≤ y0 ∧ y0 < 18446744073709551616) : Ct Try.prog 35 [.agg #[.int .u64 a3, .int .u64 a2, .int .u64 a1, .int .u64 a0], .agg #[.int .u64 y3, .int .u64 y2, .int .u64 y1, .int .u64 y0]] w fun v w1 => v = .tuple #[.agg #[.int .u64 (wv3 ((wz a3 a2 a1 a0) * (wz y3 y2 y1 y0))), .int .u64 (wv2 ((wz a3 a2 a1 a0) * (wz y3 y2 y1 y0))), .int .u64 (wv1 ((wz a3 a2 a1 a0) * (wz y3 y2 y1 y0))), .int .u64 (wv0 ((wz a3 a2 a1 a0) * (wz y3 y2 y1 y0)))], .bool (decide (fits ((wz a3 a2 a1 a0) * (wz y3 y2 y1 y0))))] ∧ Ext w w1 := by
  refine ct_run (n := 14) Try.func35 rfl Try.ntmps35 rfl ?_
  have E0 : Below w.heap.size w w := Below.refl _ _
  refine rk_seq ?_
  refine rk_reg ?_
  refine lw_e (oe_box (v := .agg #[.int .u64 a3, .int .u64 a2, .int .u64 a1, .int .u64 a0]) (cs := #[.int .u64 a3, .int .u64 a2, .int .u64 a1, .int .u64 a0]) (T rfl rfl) rfl ?_)
  intro b1 w2 n3
  have N4 : w.heap.size ≤ b1 := n3.eq ▸ E0.size
  have E5 := below_ext E0 E0.size n3.ext
  refine lw_e (oe_box (v := .agg #[.int .u64 y3, .int .u64 y2, .int .u64 y1, .int .u64 y0]) (cs := #[.int .u64 y3, .int .u64 y2, .int .u64 y1, .int .u64 y0]) (T rfl rfl) rfl ?_)
  intro b6 w7 n8
  have N9 : w.heap.size ≤ b6 := n8.eq ▸ E5.size
  have : b1 < b6 := n8.eq ▸ lt_of_blk n3.blk
  have E10 := below_ext E5 E5.size n8.ext
  refine lw_e (oe_alloc ze26 ?_)
  intro b11 w12 n13
  have N14 : w.heap.size ≤ b11 := n13.eq ▸ E10.size
  have : b6 < b11 := n13.eq ▸ lt_of_blk n8.blk
  have E15 := below_ext E10 E10.size n13.ext
  refine lw_v (.bool false) (dv_assign C) ?_
  refine lw_nil ?_
  refine rk_seq ?_
  refine rk_any (fun w => w.heap[b1]? = some (.cells #[.int .u64 a3, .int .u64 a2, .int .u64 a1, .int .u64 a0] 26) ∧ w.heap[b6]? = some (.cells #[.int .u64 y3, .int .u64 y2, .int .u64 y1, .int .u64 y0] 26)) [9] mo ?_
  intro w16 d17
  have E18 := below_ext E15 E15.size d17.ext
  have H19 := (d17.ext.blk (n13.ext.blk (n8.ext.blk n3.blk)))
  have H20 := (d17.ext.blk (n13.ext.blk n8.blk))
  refine aw_load 0 (.agg #[.int .u64 a3, .int .u64 a2, .int .u64 a1, .int .u64 a0]) rfl (by kernel_rfl) .none ⟨H19, H20⟩ (fun _ s => dv_loads (l := [.int .u64 a3, .int .u64 a2, .int .u64 a1, .int .u64 a0]) agt26 sz26 (T rfl rfl) s.1 rfl) ?_
  refine aw_load 2 (.agg #[.int .u64 y3, .int .u64 y2, .int .u64 y1, .int .u64 y0]) rfl (by kernel_rfl) .none ⟨H19, H20⟩ (fun _ s => dv_loads (l := [.int .u64 y3, .int .u64 y2, .int .u64 y1, .int .u64 y0]) agt26 sz26 (T rfl rfl) s.2 rfl) ?_
  refine aw_one 1 rfl (by kernel_rfl) .none (oe_callf (vs := [.agg #[.int .u64 a3, .int .u64 a2, .int .u64 a1, .int .u64 a0]]) co44 (ar1 (T rfl rfl)) (l1From_ok (by omega) (by omega) (by omega) (by omega)) ?_)
  rintro _ w26 ⟨nr21, A22, n23, c24, rfl, e27, h25⟩
  have E28 := below_ext E18 E18.size e27
  have lh25 := Num.len (by decide) h25
  have H29 := (e27.blk H19)
  have H30 := (e27.blk H20)
  refine ⟨.inr ⟨H29, H30⟩, ?_⟩
  refine aw_one 3 rfl (by kernel_rfl) .none (oe_callf (vs := [.agg #[.int .u64 y3, .int .u64 y2, .int .u64 y1, .int .u64 y0]]) co44 (ar1 (T rfl rfl)) (l1From_ok (by omega) (by omega) (by omega) (by omega)) ?_)
  rintro _ w36 ⟨nr31, A32, n33, c34, rfl, e37, h35⟩
  have E38 := below_ext E28 E28.size e37
  have lh35 := Num.len (by decide) h35
  have H39 := (e37.blk H29)
  have H40 := (e37.blk H30)
  refine ⟨.inr ⟨H39, H40⟩, ?_⟩
  have h41 := (h25.ext e37)
  refine aw_one 4 rfl (by kernel_rfl) .none (oe_callf (vs := [.agg #[.bool nr21, .slice A22 n23 c24], .agg #[.bool nr31, .slice A32 n33 c34]]) co63 (ar2 (T rfl rfl) (T rfl rfl)) (l1Mul_ok h41 h35 (by first | decide | omega) (by first | decide | omega)) ?_)
  rintro _ w47 ⟨nr42, A43, n44, c45, rfl, e48, h46⟩
  have E49 := below_ext E38 E38.size e48
  have lh46 := Num.len (by decide) h46
  have H50 := (e48.blk H39)
  have H51 := (e48.blk H40)
  refine ⟨.inr ⟨H50, H51⟩, ?_⟩
  refine aw_one 5 rfl (by kernel_rfl) .none (oe_callf (vs := [.agg #[.bool nr42, .slice A43 n44 c45]]) co51 (ar1 (T rfl rfl)) (l1Wide_ok h46 (by first | decide | omega)) ?_)
  rintro _ w53 ⟨rfl, e54⟩
  have E55 := below_ext E49 E49.size e54
  have bw52 := w_rg ((wz a3 a2 a1 a0) * (wz y3 y2 y1 y0))
  have H56 := (e54.blk H50)
  have H57 := (e54.blk H51)
  refine ⟨.inr ⟨H56, H57⟩, ?_⟩
  refine aw_pure 6 (.agg #[.int .u64 (wv3 ((wz a3 a2 a1 a0) * (wz y3 y2 y1 y0))), .int .u64 (wv2 ((wz a3 a2 a1 a0) * (wz y3 y2 y1 y0))), .int .u64 (wv1 ((wz a3 a2 a1 a0) * (wz y3 y2 y1 y0))), .int .u64 (wv0 ((wz a3 a2 a1 a0) * (wz y3 y2 y1 y0)))]) rfl (by kernel_rfl) .none ⟨H56, H57⟩ (fun _ => dv_extract (vs := #[.agg #[.int .u64 (wv3 ((wz a3 a2 a1 a0) * (wz y3 y2 y1 y0))), .int .u64 (wv2 ((wz a3 a2 a1 a0) * (wz y3 y2 y1 y0))), .int .u64 (wv1 ((wz a3 a2 a1 a0) * (wz y3 y2 y1 y0))), .int .u64 (wv0 ((wz a3 a2 a1 a0) * (wz y3 y2 y1 y0)))], .bool (decide (fits ((wz a3 a2 a1 a0) * (wz y3 y2 y1 y0))))]) (T rfl rfl) rfl) ?_
  refine aw_pure 7 (.bool (decide (fits ((wz a3 a2 a1 a0) * (wz y3 y2 y1 y0))))) rfl (by kernel_rfl) .none ⟨H56, H57⟩ (fun _ => dv_extract (vs := #[.agg #[.int .u64 (wv3 ((wz a3 a2 a1 a0) * (wz y3 y2 y1 y0))), .int .u64 (wv2 ((wz a3 a2 a1 a0) * (wz y3 y2 y1 y0))), .int .u64 (wv1 ((wz a3 a2 a1 a0) * (wz y3 y2 y1 y0))), .int .u64 (wv0 ((wz a3 a2 a1 a0) * (wz y3 y2 y1 y0)))], .bool (decide (fits ((wz a3 a2 a1 a0) * (wz y3 y2 y1 y0))))]) (T rfl rfl) rfl) ?_
  have H58 := (e54.blk (e48.blk (e37.blk (e27.blk (d17.ext.blk n13.blk)))))
  refine aw_one 8 rfl (by kernel_rfl) .none (oe_store (v := .agg #[.int .u64 (wv3 ((wz a3 a2 a1 a0) * (wz y3 y2 y1 y0))), .int .u64 (wv2 ((wz a3 a2 a1 a0) * (wz y3 y2 y1 y0))), .int .u64 (wv1 ((wz a3 a2 a1 a0) * (wz y3 y2 y1 y0))), .int .u64 (wv0 ((wz a3 a2 a1 a0) * (wz y3 y2 y1 y0)))]) (vs := [.int .u64 (wv3 ((wz a3 a2 a1 a0) * (wz y3 y2 y1 y0))), .int .u64 (wv2 ((wz a3 a2 a1 a0) * (wz y3 y2 y1 y0))), .int .u64 (wv1 ((wz a3 a2 a1 a0) * (wz y3 y2 y1 y0))), .int .u64 (wv0 ((wz a3 a2 a1 a0) * (wz y3 y2 y1 y0)))]) (l := [.int .u64 (wv3 ((wz a3 a2 a1 a0) * (wz y3 y2 y1 y0))), .int .u64 (wv2 ((wz a3 a2 a1 a0) * (wz y3 y2 y1 y0))), .int .u64 (wv1 ((wz a3 a2 a1 a0) * (wz y3 y2 y1 y0))), .int .u64 (wv0 ((wz a3 a2 a1 a0) * (wz y3 y2 y1 y0)))]) (T rfl rfl) (T rfl rfl) sz26 rfl rfl rfl H58 rfl ?_)
  intro w59 s60 H61
  have E62 := below_st E55 N14 s60
  have H63 := (s60.blk H56 (by omega))
  have H64 := (s60.blk H57 (by omega))
  refine ⟨.inr ⟨H63, H64⟩, ?_⟩
  refine aw_last 9 (.bool (decide (fits ((wz a3 a2 a1 a0) * (wz y3 y2 y1 y0))))) rfl (by kernel_rfl) .none (fun _ => dv_assign (T rfl rfl)) ?_
  refine aw_done (by kernel_rfl) ?_
  refine rk_ret Try.func35 (v := .tuple #[.agg #[.int .u64 (wv3 ((wz a3 a2 a1 a0) * (wz y3 y2 y1 y0))), .int .u64 (wv2 ((wz a3 a2 a1 a0) * (wz y3 y2 y1 y0))), .int .u64 (wv1 ((wz a3 a2 a1 a0) * (wz y3 y2 y1 y0))), .int .u64 (wv0 ((wz a3 a2 a1 a0) * (wz y3 y2 y1 y0)))], .bool (decide (fits ((wz a3 a2 a1 a0) * (wz y3 y2 y1 y0))))]) (res2 Try.results35 (rv_cells (l := [.int .u64 (wv3 ((wz a3 a2 a1 a0) * (wz y3 y2 y1 y0))), .int .u64 (wv2 ((wz a3 a2 a1 a0) * (wz y3 y2 y1 y0))), .int .u64 (wv1 ((wz a3 a2 a1 a0) * (wz y3 y2 y1 y0))), .int .u64 (wv0 ((wz a3 a2 a1 a0) * (wz y3 y2 y1 y0)))]) agt26 sz26 rfl rfl H61 rfl) (rv_tmp rfl rfl)) ⟨_, rfl, ?_⟩
  exact ⟨rfl, E62⟩

set_option maxHeartbeats 1000000 in
theorem iWideMul_ok {w : World} {a3 a2 a1 a0 y3 y2 y1 y0 : Int} (h3 : 0 ≤ a3 ∧ a3 < 18446744073709551616) (h2 : 0 ≤ a2 ∧ a2 < 18446744073709551616) (h1 : 0 ≤ a1 ∧ a1 < 18446744073709551616) (h0 : 0 ≤ a0 ∧ a0 < 18446744073709551616) (k3 : 0 ≤ y3 ∧ y3 < 18446744073709551616) (k2 : 0 ≤ y2 ∧ y2 < 18446744073709551616) (k1 : 0 ≤ y1 ∧ y1 < 18446744073709551616) (k0 : 0 ≤ y0 ∧ y0 < 18446744073709551616) : Ct Try.prog 36 [.agg #[.int .u64 a3, .int .u64 a2, .int .u64 a1, .int .u64 a0], .agg #[.int .u64 y3, .int .u64 y2, .int .u64 y1, .int .u64 y0]] w fun v w1 => v = .tuple #[.agg #[.int .u64 (wv3 ((wz a3 a2 a1 a0) * (wz y3 y2 y1 y0))), .int .u64 (wv2 ((wz a3 a2 a1 a0) * (wz y3 y2 y1 y0))), .int .u64 (wv1 ((wz a3 a2 a1 a0) * (wz y3 y2 y1 y0))), .int .u64 (wv0 ((wz a3 a2 a1 a0) * (wz y3 y2 y1 y0)))], .bool (decide (fits ((wz a3 a2 a1 a0) * (wz y3 y2 y1 y0))))] ∧ Ext w w1 := by
  refine ct_run (n := 14) Try.func36 rfl Try.ntmps36 rfl ?_
  have E0 : Below w.heap.size w w := Below.refl _ _
  refine rk_seq ?_
  refine rk_reg ?_
  refine lw_e (oe_box (v := .agg #[.int .u64 a3, .int .u64 a2, .int .u64 a1, .int .u64 a0]) (cs := #[.int .u64 a3, .int .u64 a2, .int .u64 a1, .int .u64 a0]) (T rfl rfl) rfl ?_)
  intro b1 w2 n3
  have N4 : w.heap.size ≤ b1 := n3.eq ▸ E0.size
  have E5 := below_ext E0 E0.size n3.ext
  refine lw_e (oe_box (v := .agg #[.int .u64 y3, .int .u64 y2, .int .u64 y1, .int .u64 y0]) (cs := #[.int .u64 y3, .int .u64 y2, .int .u64 y1, .int .u64 y0]) (T rfl rfl) rfl ?_)
  intro b6 w7 n8
  have N9 : w.heap.size ≤ b6 := n8.eq ▸ E5.size
  have : b1 < b6 := n8.eq ▸ lt_of_blk n3.blk
  have E10 := below_ext E5 E5.size n8.ext
  refine lw_e (oe_alloc ze26 ?_)
  intro b11 w12 n13
  have N14 : w.heap.size ≤ b11 := n13.eq ▸ E10.size
  have : b6 < b11 := n13.eq ▸ lt_of_blk n8.blk
  have E15 := below_ext E10 E10.size n13.ext
  refine lw_v (.bool false) (dv_assign C) ?_
  refine lw_nil ?_
  refine rk_seq ?_
  refine rk_any (fun w => w.heap[b1]? = some (.cells #[.int .u64 a3, .int .u64 a2, .int .u64 a1, .int .u64 a0] 26) ∧ w.heap[b6]? = some (.cells #[.int .u64 y3, .int .u64 y2, .int .u64 y1, .int .u64 y0] 26)) [9] mo ?_
  intro w16 d17
  have E18 := below_ext E15 E15.size d17.ext
  have H19 := (d17.ext.blk (n13.ext.blk (n8.ext.blk n3.blk)))
  have H20 := (d17.ext.blk (n13.ext.blk n8.blk))
  refine aw_load 0 (.agg #[.int .u64 a3, .int .u64 a2, .int .u64 a1, .int .u64 a0]) rfl (by kernel_rfl) .none ⟨H19, H20⟩ (fun _ s => dv_loads (l := [.int .u64 a3, .int .u64 a2, .int .u64 a1, .int .u64 a0]) agt26 sz26 (T rfl rfl) s.1 rfl) ?_
  refine aw_load 2 (.agg #[.int .u64 y3, .int .u64 y2, .int .u64 y1, .int .u64 y0]) rfl (by kernel_rfl) .none ⟨H19, H20⟩ (fun _ s => dv_loads (l := [.int .u64 y3, .int .u64 y2, .int .u64 y1, .int .u64 y0]) agt26 sz26 (T rfl rfl) s.2 rfl) ?_
  refine aw_one 1 rfl (by kernel_rfl) .none (oe_callf (vs := [.agg #[.int .u64 a3, .int .u64 a2, .int .u64 a1, .int .u64 a0]]) co45 (ar1 (T rfl rfl)) (wnum_ok (by omega) (by omega) (by omega) (by omega)) ?_)
  rintro _ w26 ⟨nr21, A22, n23, c24, rfl, e27, h25⟩
  have E28 := below_ext E18 E18.size e27
  have lh25 := Num.len (by decide) h25
  have H29 := (e27.blk H19)
  have H30 := (e27.blk H20)
  refine ⟨.inr ⟨H29, H30⟩, ?_⟩
  refine aw_one 3 rfl (by kernel_rfl) .none (oe_callf (vs := [.agg #[.int .u64 y3, .int .u64 y2, .int .u64 y1, .int .u64 y0]]) co45 (ar1 (T rfl rfl)) (wnum_ok (by omega) (by omega) (by omega) (by omega)) ?_)
  rintro _ w36 ⟨nr31, A32, n33, c34, rfl, e37, h35⟩
  have E38 := below_ext E28 E28.size e37
  have lh35 := Num.len (by decide) h35
  have H39 := (e37.blk H29)
  have H40 := (e37.blk H30)
  refine ⟨.inr ⟨H39, H40⟩, ?_⟩
  have h41 := (h25.ext e37)
  refine aw_one 4 rfl (by kernel_rfl) .none (oe_callf (vs := [.agg #[.bool nr21, .slice A22 n23 c24], .agg #[.bool nr31, .slice A32 n33 c34]]) co64 (ar2 (T rfl rfl) (T rfl rfl)) (nby_ok h41 h35 (by first | decide | omega) (by first | decide | omega)) ?_)
  rintro _ w47 ⟨nr42, A43, n44, c45, rfl, e48, h46⟩
  have E49 := below_ext E38 E38.size e48
  have lh46 := Num.len (by decide) h46
  have H50 := (e48.blk H39)
  have H51 := (e48.blk H40)
  refine ⟨.inr ⟨H50, H51⟩, ?_⟩
  refine aw_one 5 rfl (by kernel_rfl) .none (oe_callf (vs := [.agg #[.bool nr42, .slice A43 n44 c45]]) co54 (ar1 (T rfl rfl)) (nwide_ok h46 (by first | decide | omega)) ?_)
  rintro _ w53 ⟨rfl, e54⟩
  have E55 := below_ext E49 E49.size e54
  have bw52 := w_rg ((wz a3 a2 a1 a0) * (wz y3 y2 y1 y0))
  have H56 := (e54.blk H50)
  have H57 := (e54.blk H51)
  refine ⟨.inr ⟨H56, H57⟩, ?_⟩
  refine aw_pure 6 (.agg #[.int .u64 (wv3 ((wz a3 a2 a1 a0) * (wz y3 y2 y1 y0))), .int .u64 (wv2 ((wz a3 a2 a1 a0) * (wz y3 y2 y1 y0))), .int .u64 (wv1 ((wz a3 a2 a1 a0) * (wz y3 y2 y1 y0))), .int .u64 (wv0 ((wz a3 a2 a1 a0) * (wz y3 y2 y1 y0)))]) rfl (by kernel_rfl) .none ⟨H56, H57⟩ (fun _ => dv_extract (vs := #[.agg #[.int .u64 (wv3 ((wz a3 a2 a1 a0) * (wz y3 y2 y1 y0))), .int .u64 (wv2 ((wz a3 a2 a1 a0) * (wz y3 y2 y1 y0))), .int .u64 (wv1 ((wz a3 a2 a1 a0) * (wz y3 y2 y1 y0))), .int .u64 (wv0 ((wz a3 a2 a1 a0) * (wz y3 y2 y1 y0)))], .bool (decide (fits ((wz a3 a2 a1 a0) * (wz y3 y2 y1 y0))))]) (T rfl rfl) rfl) ?_
  refine aw_pure 7 (.bool (decide (fits ((wz a3 a2 a1 a0) * (wz y3 y2 y1 y0))))) rfl (by kernel_rfl) .none ⟨H56, H57⟩ (fun _ => dv_extract (vs := #[.agg #[.int .u64 (wv3 ((wz a3 a2 a1 a0) * (wz y3 y2 y1 y0))), .int .u64 (wv2 ((wz a3 a2 a1 a0) * (wz y3 y2 y1 y0))), .int .u64 (wv1 ((wz a3 a2 a1 a0) * (wz y3 y2 y1 y0))), .int .u64 (wv0 ((wz a3 a2 a1 a0) * (wz y3 y2 y1 y0)))], .bool (decide (fits ((wz a3 a2 a1 a0) * (wz y3 y2 y1 y0))))]) (T rfl rfl) rfl) ?_
  have H58 := (e54.blk (e48.blk (e37.blk (e27.blk (d17.ext.blk n13.blk)))))
  refine aw_one 8 rfl (by kernel_rfl) .none (oe_store (v := .agg #[.int .u64 (wv3 ((wz a3 a2 a1 a0) * (wz y3 y2 y1 y0))), .int .u64 (wv2 ((wz a3 a2 a1 a0) * (wz y3 y2 y1 y0))), .int .u64 (wv1 ((wz a3 a2 a1 a0) * (wz y3 y2 y1 y0))), .int .u64 (wv0 ((wz a3 a2 a1 a0) * (wz y3 y2 y1 y0)))]) (vs := [.int .u64 (wv3 ((wz a3 a2 a1 a0) * (wz y3 y2 y1 y0))), .int .u64 (wv2 ((wz a3 a2 a1 a0) * (wz y3 y2 y1 y0))), .int .u64 (wv1 ((wz a3 a2 a1 a0) * (wz y3 y2 y1 y0))), .int .u64 (wv0 ((wz a3 a2 a1 a0) * (wz y3 y2 y1 y0)))]) (l := [.int .u64 (wv3 ((wz a3 a2 a1 a0) * (wz y3 y2 y1 y0))), .int .u64 (wv2 ((wz a3 a2 a1 a0) * (wz y3 y2 y1 y0))), .int .u64 (wv1 ((wz a3 a2 a1 a0) * (wz y3 y2 y1 y0))), .int .u64 (wv0 ((wz a3 a2 a1 a0) * (wz y3 y2 y1 y0)))]) (T rfl rfl) (T rfl rfl) sz26 rfl rfl rfl H58 rfl ?_)
  intro w59 s60 H61
  have E62 := below_st E55 N14 s60
  have H63 := (s60.blk H56 (by omega))
  have H64 := (s60.blk H57 (by omega))
  refine ⟨.inr ⟨H63, H64⟩, ?_⟩
  refine aw_last 9 (.bool (decide (fits ((wz a3 a2 a1 a0) * (wz y3 y2 y1 y0))))) rfl (by kernel_rfl) .none (fun _ => dv_assign (T rfl rfl)) ?_
  refine aw_done (by kernel_rfl) ?_
  refine rk_ret Try.func36 (v := .tuple #[.agg #[.int .u64 (wv3 ((wz a3 a2 a1 a0) * (wz y3 y2 y1 y0))), .int .u64 (wv2 ((wz a3 a2 a1 a0) * (wz y3 y2 y1 y0))), .int .u64 (wv1 ((wz a3 a2 a1 a0) * (wz y3 y2 y1 y0))), .int .u64 (wv0 ((wz a3 a2 a1 a0) * (wz y3 y2 y1 y0)))], .bool (decide (fits ((wz a3 a2 a1 a0) * (wz y3 y2 y1 y0))))]) (res2 Try.results36 (rv_cells (l := [.int .u64 (wv3 ((wz a3 a2 a1 a0) * (wz y3 y2 y1 y0))), .int .u64 (wv2 ((wz a3 a2 a1 a0) * (wz y3 y2 y1 y0))), .int .u64 (wv1 ((wz a3 a2 a1 a0) * (wz y3 y2 y1 y0))), .int .u64 (wv0 ((wz a3 a2 a1 a0) * (wz y3 y2 y1 y0)))]) agt26 sz26 rfl rfl H61 rfl) (rv_tmp rfl rfl)) ⟨_, rfl, ?_⟩
  exact ⟨rfl, E62⟩

end Go.Proofs.Ytjahakhbdjadaaa.W
