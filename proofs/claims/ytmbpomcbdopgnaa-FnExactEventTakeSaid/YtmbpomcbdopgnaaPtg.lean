/- Walks and plain mathematics, packed by a program of this session: declarations that the rows reach. -/
import Derived.Test.YtmbpomcbdopgnaaPtf
set_option linter.unusedVariables false
set_option linter.unusedSimpArgs false
namespace Go.Proofs.Ytmbpomcbdopgnaa.W
open Go Go.RowKit Go.Proofs.Ytmbpomcbdopgnaa.Fw
attribute [local irreducible] RunK LW AW DV OE Ct
theorem co20 : callOk Try.prog 20 = true := by kernel_rfl
theorem co21 : callOk Try.prog 21 = true := by kernel_rfl
theorem co23 : callOk Try.prog 23 = true := by kernel_rfl
theorem co24 : callOk Try.prog 24 = true := by kernel_rfl
theorem co25 : callOk Try.prog 25 = true := by kernel_rfl
theorem co26 : callOk Try.prog 26 = true := by kernel_rfl
set_option maxRecDepth 100000 in
set_option maxHeartbeats 8000000 in
theorem lawEventTake_ok {w : World} {A : Option Addr} {l c : Nat} {Q : Nat → Ev} {SL : SlF} (hx : NR w 0 w.heap.size A l (fun i_ => evW (Q i_)) (fun i_ => (Q i_).es) SL) (hlc : l ≤ c) (hcm : c ≤ 9223372036854775807) (hEm : ∀ i, i < l → (Q i).es.length ≤ 9223372036854775807) (hfq : ∀ i, i < l → fits (Q i).x ∧ fits (Q i).y ∧ fits (Q i).u) : Ct Try.prog 5 [.slice A l c] w fun v w1 => v = .bool true ∧ Ext w w1 := by
 refine ct_run (n := 133) Try.func5 rfl Try.ntmps5 rfl ?_
 have E0 : Below w.heap.size w w := Below.refl _ _
 refine rk_seq ?_
 refine rk_reg ?_
 refine lw_v (.bool false) (dv_assign C) ?_
 refine lw_nil ?_
 refine rk_seq ?_
 refine rk_reg ?_
 refine lw_v (.int .i64 1048576) (dv_assign C) ?_
 refine lw_nil ?_
 refine rk_seq ?_
 refine rk_reg ?_
 refine lw_v (.slice A l c) (dv_move (T rfl rfl)) ?_
 refine lw_v (.int .i64 1048576) (dv_move (T rfl rfl)) ?_
 refine lw_e (oe_callf (vs := [.slice A l c, .int .i64 1048576]) co15 (ar2 (T rfl rfl) (T rfl rfl)) (szEventS_ok (c := c) hx (by omega) hEm (by omega)) ?_)
 rintro _ w3 ⟨zs1, rfl, hzs2, e4⟩
 have := Below.fresh e4
 have E5 := below_ext E0 E0.size e4
 have hsz_ := hzs2
 refine lw_v (.int .i64 zs1) (dv_assign (T rfl rfl)) ?_
 refine lw_nil ?_
 refine rk_seq ?_
 refine rk_seq ?_
 refine rk_reg ?_
 refine lw_v (.int .i64 zs1) (dv_move (T rfl rfl)) ?_
 refine lw_v (.bool (decide (zs1 < 0))) (dv_lss (a := zs1) (b := 0) (T rfl rfl) C) ?_
 refine lw_nil ?_
 by_cases hb6 : zs1 < 0
 · refine rk_ct (T rfl (congrArg Value.bool (decide_eq_true hb6))) ?_
   refine rk_seq ?_
   refine rk_reg ?_
   refine lw_v (.bool true) (dv_assign C) ?_
   refine lw_nil ?_
   refine rk_ret Try.func5 (v := .bool true) (res1 Try.results5 (rv_tmp rfl rfl)) ⟨_, rfl, ?_⟩
   exact ⟨rfl, E5⟩
 · have hxb := (hsz_ (by omega)).1
   have hxf : evF l Q := fun i_ hi_ => ⟨hfq i_ hi_, (hsz_ (by omega)).2 i_ hi_⟩
   have hxf2 := evF_sh hxf
   have hft := evF_tak hxf
   have hftn := hft.2
   have htl := takN_le l Q
   refine rk_cf (T rfl (congrArg Value.bool (decide_eq_false hb6))) ?_
   refine rk_skip ?_
   refine rk_seq ?_
   refine rk_reg ?_
   refine lw_v (.slice A l c) (dv_move (T rfl rfl)) ?_
   have h7 := (hx.ext e4)
   refine lw_e (oe_callf (vs := [.slice A l c]) co17 (ar1 (T rfl rfl)) (toEventS_ok (c := c) h7 (by omega) hxf) ?_)
   rintro _ w11 ⟨At8, St9, rfl, e12, hNt10⟩
   have := Below.fresh e12
   have E13 := below_ext E5 E5.size e12
   have := hNt10.lh
   refine lw_e (oe_callf (vs := [.slice At8 l l]) co20 (ar1 (T rfl rfl)) (sEventTake_ok (c := l) hNt10.nr (by omega) hxf) ?_)
   rintro _ w24 ⟨A14, c15, A16, c17, S18, X19, rfl, e25, hO20, hX21, hXr22, hN23⟩
   have := Below.fresh e25
   have E26 := below_ext E13 E13.size e25
   have := hN23.lh; have := hXr22
   refine lw_v (.tuple #[.agg #[.int .u64 (wv3 ((takE l Q).x)), .int .u64 (wv2 ((takE l Q).x)), .int .u64 (wv1 ((takE l Q).x)), .int .u64 (wv0 ((takE l Q).x)), .int .u64 (wv3 ((takE l Q).y)), .int .u64 (wv2 ((takE l Q).y)), .int .u64 (wv1 ((takE l Q).y)), .int .u64 (wv0 ((takE l Q).y)), .int .u64 (wv3 ((takE l Q).u)), .int .u64 (wv2 ((takE l Q).u)), .int .u64 (wv1 ((takE l Q).u)), .int .u64 (wv0 ((takE l Q).u)), .slice A14 ((takE l Q).es.length) c15], .slice A16 (takN l Q) c17, .bool (decide (takS l Q))]) (dv_move (T rfl rfl)) ?_
   refine lw_v (.agg #[.int .u64 (wv3 ((takE l Q).x)), .int .u64 (wv2 ((takE l Q).x)), .int .u64 (wv1 ((takE l Q).x)), .int .u64 (wv0 ((takE l Q).x)), .int .u64 (wv3 ((takE l Q).y)), .int .u64 (wv2 ((takE l Q).y)), .int .u64 (wv1 ((takE l Q).y)), .int .u64 (wv0 ((takE l Q).y)), .int .u64 (wv3 ((takE l Q).u)), .int .u64 (wv2 ((takE l Q).u)), .int .u64 (wv1 ((takE l Q).u)), .int .u64 (wv0 ((takE l Q).u)), .slice A14 ((takE l Q).es.length) c15]) (dv_extract (vs := #[.agg #[.int .u64 (wv3 ((takE l Q).x)), .int .u64 (wv2 ((takE l Q).x)), .int .u64 (wv1 ((takE l Q).x)), .int .u64 (wv0 ((takE l Q).x)), .int .u64 (wv3 ((takE l Q).y)), .int .u64 (wv2 ((takE l Q).y)), .int .u64 (wv1 ((takE l Q).y)), .int .u64 (wv0 ((takE l Q).y)), .int .u64 (wv3 ((takE l Q).u)), .int .u64 (wv2 ((takE l Q).u)), .int .u64 (wv1 ((takE l Q).u)), .int .u64 (wv0 ((takE l Q).u)), .slice A14 ((takE l Q).es.length) c15], .slice A16 (takN l Q) c17, .bool (decide (takS l Q))]) (T rfl rfl) rfl) ?_
   refine lw_v (.slice A16 (takN l Q) c17) (dv_extract (vs := #[.agg #[.int .u64 (wv3 ((takE l Q).x)), .int .u64 (wv2 ((takE l Q).x)), .int .u64 (wv1 ((takE l Q).x)), .int .u64 (wv0 ((takE l Q).x)), .int .u64 (wv3 ((takE l Q).y)), .int .u64 (wv2 ((takE l Q).y)), .int .u64 (wv1 ((takE l Q).y)), .int .u64 (wv0 ((takE l Q).y)), .int .u64 (wv3 ((takE l Q).u)), .int .u64 (wv2 ((takE l Q).u)), .int .u64 (wv1 ((takE l Q).u)), .int .u64 (wv0 ((takE l Q).u)), .slice A14 ((takE l Q).es.length) c15], .slice A16 (takN l Q) c17, .bool (decide (takS l Q))]) (T rfl rfl) rfl) ?_
   refine lw_v (.bool (decide (takS l Q))) (dv_extract (vs := #[.agg #[.int .u64 (wv3 ((takE l Q).x)), .int .u64 (wv2 ((takE l Q).x)), .int .u64 (wv1 ((takE l Q).x)), .int .u64 (wv0 ((takE l Q).x)), .int .u64 (wv3 ((takE l Q).y)), .int .u64 (wv2 ((takE l Q).y)), .int .u64 (wv1 ((takE l Q).y)), .int .u64 (wv0 ((takE l Q).y)), .int .u64 (wv3 ((takE l Q).u)), .int .u64 (wv2 ((takE l Q).u)), .int .u64 (wv1 ((takE l Q).u)), .int .u64 (wv0 ((takE l Q).u)), .slice A14 ((takE l Q).es.length) c15], .slice A16 (takN l Q) c17, .bool (decide (takS l Q))]) (T rfl rfl) rfl) ?_
   refine lw_e (oe_alloc ze52 ?_)
   intro b27 w28 n29
   have N30 : w.heap.size ≤ b27 := n29.eq ▸ E26.size
   have := n29.eq; have := n29.size
   have := Below.fresh n29.ext
   have E31 := below_ext E26 E26.size n29.ext
   refine lw_e (oe_store (v := .agg #[.int .u64 (wv3 ((takE l Q).x)), .int .u64 (wv2 ((takE l Q).x)), .int .u64 (wv1 ((takE l Q).x)), .int .u64 (wv0 ((takE l Q).x)), .int .u64 (wv3 ((takE l Q).y)), .int .u64 (wv2 ((takE l Q).y)), .int .u64 (wv1 ((takE l Q).y)), .int .u64 (wv0 ((takE l Q).y)), .int .u64 (wv3 ((takE l Q).u)), .int .u64 (wv2 ((takE l Q).u)), .int .u64 (wv1 ((takE l Q).u)), .int .u64 (wv0 ((takE l Q).u)), .slice A14 ((takE l Q).es.length) c15]) (vs := [.int .u64 (wv3 ((takE l Q).x)), .int .u64 (wv2 ((takE l Q).x)), .int .u64 (wv1 ((takE l Q).x)), .int .u64 (wv0 ((takE l Q).x)), .int .u64 (wv3 ((takE l Q).y)), .int .u64 (wv2 ((takE l Q).y)), .int .u64 (wv1 ((takE l Q).y)), .int .u64 (wv0 ((takE l Q).y)), .int .u64 (wv3 ((takE l Q).u)), .int .u64 (wv2 ((takE l Q).u)), .int .u64 (wv1 ((takE l Q).u)), .int .u64 (wv0 ((takE l Q).u)), .slice A14 ((takE l Q).es.length) c15]) (l := [.int .u64 (wv3 ((takE l Q).x)), .int .u64 (wv2 ((takE l Q).x)), .int .u64 (wv1 ((takE l Q).x)), .int .u64 (wv0 ((takE l Q).x)), .int .u64 (wv3 ((takE l Q).y)), .int .u64 (wv2 ((takE l Q).y)), .int .u64 (wv1 ((takE l Q).y)), .int .u64 (wv0 ((takE l Q).y)), .int .u64 (wv3 ((takE l Q).u)), .int .u64 (wv2 ((takE l Q).u)), .int .u64 (wv1 ((takE l Q).u)), .int .u64 (wv0 ((takE l Q).u)), .slice A14 ((takE l Q).es.length) c15]) (T rfl rfl) (T rfl rfl) sz52 rfl rfl rfl n29.blk rfl ?_)
   intro w32 s33 H34
   have := s33.size
   have E35 := below_st E31 N30 s33
   refine lw_v (.slice A16 (takN l Q) c17) (dv_assign (T rfl rfl)) ?_
   refine lw_v (.bool (decide (takS l Q))) (dv_assign (T rfl rfl)) ?_
   refine lw_nil ?_
   refine rk_seq ?_
   refine rk_reg ?_
   refine lw_v (.slice A l c) (dv_move (T rfl rfl)) ?_
   have h36 := ((((h7.ext e12).ext e25).ext n29.ext).st s33 (by omega))
   refine lw_e (oe_callf (vs := [.slice A l c]) co17 (ar1 (T rfl rfl)) (toEventS_ok (c := c) h36 (by omega) hxf) ?_)
   rintro _ w40 ⟨At37, St38, rfl, e41, hNt39⟩
   have := Below.fresh e41
   have E42 := below_ext E35 E35.size e41
   have := hNt39.lh
   refine lw_v (.slice At37 l l) (dv_assign (T rfl rfl)) ?_
   refine lw_nil ?_
   refine rk_seq ?_
   refine rk_reg ?_
   refine lw_v (.slice At37 l l) (dv_move (T rfl rfl)) ?_
   refine lw_e (oe_callf (vs := [.slice At37 l l]) co21 (ar1 (T rfl rfl)) (iEventTake_ok (c := l) hNt39.nr (by omega) hxf) ?_)
   rintro _ w53 ⟨A43, c44, A45, c46, S47, X48, rfl, e54, hO49, hX50, hXr51, hN52⟩
   have := Below.fresh e54
   have E55 := below_ext E42 E42.size e54
   have := hN52.lh; have := hXr51
   refine lw_v (.tuple #[.agg #[.int .u64 (wv3 ((takE l Q).x)), .int .u64 (wv2 ((takE l Q).x)), .int .u64 (wv1 ((takE l Q).x)), .int .u64 (wv0 ((takE l Q).x)), .int .u64 (wv3 ((takE l Q).y)), .int .u64 (wv2 ((takE l Q).y)), .int .u64 (wv1 ((takE l Q).y)), .int .u64 (wv0 ((takE l Q).y)), .int .u64 (wv3 ((takE l Q).u)), .int .u64 (wv2 ((takE l Q).u)), .int .u64 (wv1 ((takE l Q).u)), .int .u64 (wv0 ((takE l Q).u)), .slice A43 ((takE l Q).es.length) c44], .slice A45 (takN l Q) c46, .bool (decide (takS l Q))]) (dv_move (T rfl rfl)) ?_
   refine lw_v (.agg #[.int .u64 (wv3 ((takE l Q).x)), .int .u64 (wv2 ((takE l Q).x)), .int .u64 (wv1 ((takE l Q).x)), .int .u64 (wv0 ((takE l Q).x)), .int .u64 (wv3 ((takE l Q).y)), .int .u64 (wv2 ((takE l Q).y)), .int .u64 (wv1 ((takE l Q).y)), .int .u64 (wv0 ((takE l Q).y)), .int .u64 (wv3 ((takE l Q).u)), .int .u64 (wv2 ((takE l Q).u)), .int .u64 (wv1 ((takE l Q).u)), .int .u64 (wv0 ((takE l Q).u)), .slice A43 ((takE l Q).es.length) c44]) (dv_extract (vs := #[.agg #[.int .u64 (wv3 ((takE l Q).x)), .int .u64 (wv2 ((takE l Q).x)), .int .u64 (wv1 ((takE l Q).x)), .int .u64 (wv0 ((takE l Q).x)), .int .u64 (wv3 ((takE l Q).y)), .int .u64 (wv2 ((takE l Q).y)), .int .u64 (wv1 ((takE l Q).y)), .int .u64 (wv0 ((takE l Q).y)), .int .u64 (wv3 ((takE l Q).u)), .int .u64 (wv2 ((takE l Q).u)), .int .u64 (wv1 ((takE l Q).u)), .int .u64 (wv0 ((takE l Q).u)), .slice A43 ((takE l Q).es.length) c44], .slice A45 (takN l Q) c46, .bool (decide (takS l Q))]) (T rfl rfl) rfl) ?_
   refine lw_v (.slice A45 (takN l Q) c46) (dv_extract (vs := #[.agg #[.int .u64 (wv3 ((takE l Q).x)), .int .u64 (wv2 ((takE l Q).x)), .int .u64 (wv1 ((takE l Q).x)), .int .u64 (wv0 ((takE l Q).x)), .int .u64 (wv3 ((takE l Q).y)), .int .u64 (wv2 ((takE l Q).y)), .int .u64 (wv1 ((takE l Q).y)), .int .u64 (wv0 ((takE l Q).y)), .int .u64 (wv3 ((takE l Q).u)), .int .u64 (wv2 ((takE l Q).u)), .int .u64 (wv1 ((takE l Q).u)), .int .u64 (wv0 ((takE l Q).u)), .slice A43 ((takE l Q).es.length) c44], .slice A45 (takN l Q) c46, .bool (decide (takS l Q))]) (T rfl rfl) rfl) ?_
   refine lw_v (.bool (decide (takS l Q))) (dv_extract (vs := #[.agg #[.int .u64 (wv3 ((takE l Q).x)), .int .u64 (wv2 ((takE l Q).x)), .int .u64 (wv1 ((takE l Q).x)), .int .u64 (wv0 ((takE l Q).x)), .int .u64 (wv3 ((takE l Q).y)), .int .u64 (wv2 ((takE l Q).y)), .int .u64 (wv1 ((takE l Q).y)), .int .u64 (wv0 ((takE l Q).y)), .int .u64 (wv3 ((takE l Q).u)), .int .u64 (wv2 ((takE l Q).u)), .int .u64 (wv1 ((takE l Q).u)), .int .u64 (wv0 ((takE l Q).u)), .slice A43 ((takE l Q).es.length) c44], .slice A45 (takN l Q) c46, .bool (decide (takS l Q))]) (T rfl rfl) rfl) ?_
   refine lw_e (oe_alloc ze52 ?_)
   intro b56 w57 n58
   have N59 : w.heap.size ≤ b56 := n58.eq ▸ E55.size
   have H60 := (e54.blk (e41.blk H34))
   have : b27 < b56 := n58.eq ▸ lt_of_blk H60
   have := n58.eq; have := n58.size
   have := Below.fresh n58.ext
   have E61 := below_ext E55 E55.size n58.ext
   refine lw_e (oe_store (v := .agg #[.int .u64 (wv3 ((takE l Q).x)), .int .u64 (wv2 ((takE l Q).x)), .int .u64 (wv1 ((takE l Q).x)), .int .u64 (wv0 ((takE l Q).x)), .int .u64 (wv3 ((takE l Q).y)), .int .u64 (wv2 ((takE l Q).y)), .int .u64 (wv1 ((takE l Q).y)), .int .u64 (wv0 ((takE l Q).y)), .int .u64 (wv3 ((takE l Q).u)), .int .u64 (wv2 ((takE l Q).u)), .int .u64 (wv1 ((takE l Q).u)), .int .u64 (wv0 ((takE l Q).u)), .slice A43 ((takE l Q).es.length) c44]) (vs := [.int .u64 (wv3 ((takE l Q).x)), .int .u64 (wv2 ((takE l Q).x)), .int .u64 (wv1 ((takE l Q).x)), .int .u64 (wv0 ((takE l Q).x)), .int .u64 (wv3 ((takE l Q).y)), .int .u64 (wv2 ((takE l Q).y)), .int .u64 (wv1 ((takE l Q).y)), .int .u64 (wv0 ((takE l Q).y)), .int .u64 (wv3 ((takE l Q).u)), .int .u64 (wv2 ((takE l Q).u)), .int .u64 (wv1 ((takE l Q).u)), .int .u64 (wv0 ((takE l Q).u)), .slice A43 ((takE l Q).es.length) c44]) (l := [.int .u64 (wv3 ((takE l Q).x)), .int .u64 (wv2 ((takE l Q).x)), .int .u64 (wv1 ((takE l Q).x)), .int .u64 (wv0 ((takE l Q).x)), .int .u64 (wv3 ((takE l Q).y)), .int .u64 (wv2 ((takE l Q).y)), .int .u64 (wv1 ((takE l Q).y)), .int .u64 (wv0 ((takE l Q).y)), .int .u64 (wv3 ((takE l Q).u)), .int .u64 (wv2 ((takE l Q).u)), .int .u64 (wv1 ((takE l Q).u)), .int .u64 (wv0 ((takE l Q).u)), .slice A43 ((takE l Q).es.length) c44]) (T rfl rfl) (T rfl rfl) sz52 rfl rfl rfl n58.blk rfl ?_)
   intro w62 s63 H64
   have := s63.size
   have E65 := below_st E61 N59 s63
   refine lw_v (.slice A45 (takN l Q) c46) (dv_assign (T rfl rfl)) ?_
   refine lw_v (.bool (decide (takS l Q))) (dv_assign (T rfl rfl)) ?_
   refine lw_nil ?_
   refine rk_seq ?_
   refine rk_seq ?_
   refine rk_reg ?_
   refine lw_v (.agg #[.int .u64 (wv3 ((takE l Q).x)), .int .u64 (wv2 ((takE l Q).x)), .int .u64 (wv1 ((takE l Q).x)), .int .u64 (wv0 ((takE l Q).x)), .int .u64 (wv3 ((takE l Q).y)), .int .u64 (wv2 ((takE l Q).y)), .int .u64 (wv1 ((takE l Q).y)), .int .u64 (wv0 ((takE l Q).y)), .int .u64 (wv3 ((takE l Q).u)), .int .u64 (wv2 ((takE l Q).u)), .int .u64 (wv1 ((takE l Q).u)), .int .u64 (wv0 ((takE l Q).u)), .slice A43 ((takE l Q).es.length) c44]) (dv_loads (l := [.int .u64 (wv3 ((takE l Q).x)), .int .u64 (wv2 ((takE l Q).x)), .int .u64 (wv1 ((takE l Q).x)), .int .u64 (wv0 ((takE l Q).x)), .int .u64 (wv3 ((takE l Q).y)), .int .u64 (wv2 ((takE l Q).y)), .int .u64 (wv1 ((takE l Q).y)), .int .u64 (wv0 ((takE l Q).y)), .int .u64 (wv3 ((takE l Q).u)), .int .u64 (wv2 ((takE l Q).u)), .int .u64 (wv1 ((takE l Q).u)), .int .u64 (wv0 ((takE l Q).u)), .slice A43 ((takE l Q).es.length) c44]) agt52 sz52 (T rfl rfl) H64 rfl) ?_
   have H66 := (s63.blk (n58.ext.blk H60) (by omega))
   refine lw_v (.agg #[.int .u64 (wv3 ((takE l Q).x)), .int .u64 (wv2 ((takE l Q).x)), .int .u64 (wv1 ((takE l Q).x)), .int .u64 (wv0 ((takE l Q).x)), .int .u64 (wv3 ((takE l Q).y)), .int .u64 (wv2 ((takE l Q).y)), .int .u64 (wv1 ((takE l Q).y)), .int .u64 (wv0 ((takE l Q).y)), .int .u64 (wv3 ((takE l Q).u)), .int .u64 (wv2 ((takE l Q).u)), .int .u64 (wv1 ((takE l Q).u)), .int .u64 (wv0 ((takE l Q).u)), .slice A14 ((takE l Q).es.length) c15]) (dv_loads (l := [.int .u64 (wv3 ((takE l Q).x)), .int .u64 (wv2 ((takE l Q).x)), .int .u64 (wv1 ((takE l Q).x)), .int .u64 (wv0 ((takE l Q).x)), .int .u64 (wv3 ((takE l Q).y)), .int .u64 (wv2 ((takE l Q).y)), .int .u64 (wv1 ((takE l Q).y)), .int .u64 (wv0 ((takE l Q).y)), .int .u64 (wv3 ((takE l Q).u)), .int .u64 (wv2 ((takE l Q).u)), .int .u64 (wv1 ((takE l Q).u)), .int .u64 (wv0 ((takE l Q).u)), .slice A14 ((takE l Q).es.length) c15]) agt52 sz52 (T rfl rfl) H66 rfl) ?_
   have h67 := ((hO49.ext n58.ext).stX s63 (fun b_ o_ h_ => by have := hX50 b_ o_ h_; omega))
   have h68 := ((((((hO20.ext n29.ext).stX s33 (fun b_ o_ h_ => by have := hX21 b_ o_ h_; omega)).ext e41).ext e54).ext n58.ext).stX s63 (fun b_ o_ h_ => by have := hX21 b_ o_ h_; omega))
   refine lw_e (oe_callf (vs := [.agg #[.int .u64 (wv3 ((takE l Q).x)), .int .u64 (wv2 ((takE l Q).x)), .int .u64 (wv1 ((takE l Q).x)), .int .u64 (wv0 ((takE l Q).x)), .int .u64 (wv3 ((takE l Q).y)), .int .u64 (wv2 ((takE l Q).y)), .int .u64 (wv1 ((takE l Q).y)), .int .u64 (wv0 ((takE l Q).y)), .int .u64 (wv3 ((takE l Q).u)), .int .u64 (wv2 ((takE l Q).u)), .int .u64 (wv1 ((takE l Q).u)), .int .u64 (wv0 ((takE l Q).u)), .slice A43 ((takE l Q).es.length) c44], .agg #[.int .u64 (wv3 ((takE l Q).x)), .int .u64 (wv2 ((takE l Q).x)), .int .u64 (wv1 ((takE l Q).x)), .int .u64 (wv0 ((takE l Q).x)), .int .u64 (wv3 ((takE l Q).y)), .int .u64 (wv2 ((takE l Q).y)), .int .u64 (wv1 ((takE l Q).y)), .int .u64 (wv0 ((takE l Q).y)), .int .u64 (wv3 ((takE l Q).u)), .int .u64 (wv2 ((takE l Q).u)), .int .u64 (wv1 ((takE l Q).u)), .int .u64 (wv0 ((takE l Q).u)), .slice A14 ((takE l Q).es.length) c15]]) co22 (ar2 (T rfl rfl) (T rfl rfl)) (eqEvent_ok (c := c44) (d := c15) hft.1.1 hft.1.2.1 hft.1.2.2 (Wd.rdI (Ow.wd h67)) (Wd.rdI (Ow.wd h68)) (by first | rfl | omega) (by first | omega | (simp; done) | (simp; omega))) ?_)
   rintro _ w69 ⟨rfl, e70⟩
   have := Below.fresh e70
   have E71 := below_ext E65 E65.size e70
   refine lw_v (.bool false) (dv_not (b := true) (T rfl rfl)) ?_
   refine lw_v (.bool false) (dv_move (T rfl rfl)) ?_
   refine lw_vy (.slice A45 (takN l Q) c46) (d := 41) rfl rfl (rfl) (dv_move (T rfl rfl)) ?_
   refine lw_vy (.slice A16 (takN l Q) c17) (d := 41) rfl rfl (rfl) (dv_move (T rfl rfl)) ?_
   have h72 := (((hN52.ext n58.ext).st s63 (by omega)).ext e70)
   have h73 := (((((((hN23.ext n29.ext).st s33 (by omega)).ext e41).ext e54).ext n58.ext).st s63 (by omega)).ext e70)
   refine lw_ey (d := 41) rfl rfl (rfl) (oe_callf (vs := [.slice A45 (takN l Q) c46, .slice A16 (takN l Q) c17]) co19 (ar2 (T rfl rfl) (T rfl rfl)) (eqEventS_ok (c := c46) (d := c17) h72.nr (by omega) hxf2 h73.nr) ?_)
   rintro _ w74 ⟨rfl, e75⟩
   have := Below.fresh e75
   have E76 := below_ext E71 E71.size e75
   refine lw_vy (.bool false) (d := 41) rfl rfl (rfl) (dv_not (b := true) (T rfl rfl)) ?_
   refine lw_v (.bool false) (dv_pick_f (T rfl rfl) (T rfl rfl)) ?_
   refine lw_v (.bool false) (dv_move (T rfl rfl)) ?_
   refine lw_vy (.bool (decide (takS l Q))) (d := 47) rfl rfl (rfl) (dv_move (T rfl rfl)) ?_
   refine lw_vy (.bool (decide (takS l Q))) (d := 47) rfl rfl (rfl) (dv_move (T rfl rfl)) ?_
   refine lw_vy (.bool ((decide (takS l Q)) != (decide (takS l Q)))) (d := 47) rfl rfl (rfl) (dv_neqb (a := decide (takS l Q)) (b := decide (takS l Q)) ub4 (T rfl rfl) (T rfl rfl)) ?_
   refine lw_v (.bool ((decide (takS l Q)) != (decide (takS l Q)))) (dv_pick_f (T rfl rfl) (T rfl rfl)) ?_
   refine lw_nil ?_
   rcases Bool.eq_false_or_eq_true ((decide (takS l Q)) != (decide (takS l Q))) with hb77 | hb77
   · refine rk_ct (T rfl (congrArg Value.bool hb77)) ?_
     refine rk_seq ?_
     refine rk_reg ?_
     refine lw_v (.bool false) (dv_assign C) ?_
     refine lw_nil ?_
     refine rk_ret Try.func5 (v := .bool false) (res1 Try.results5 (rv_tmp rfl rfl)) ⟨_, rfl, ?_⟩
     exact ⟨(by exfalso; first | contradiction | exact absurd rfl (by assumption) | omega | (simp at hb77; done)), E76⟩
   · refine rk_cf (T rfl (congrArg Value.bool hb77)) ?_
     refine rk_skip ?_
     refine rk_seq ?_
     refine rk_seq ?_
     refine rk_reg ?_
     refine lw_v (.slice At37 l l) (dv_move (T rfl rfl)) ?_
     refine lw_v (.slice A l c) (dv_move (T rfl rfl)) ?_
     have h78 := ((((((h36.ext e41).ext e54).ext n58.ext).st s63 (by omega)).ext e70).ext e75)
     refine lw_e (oe_callf (vs := [.slice A l c]) co17 (ar1 (T rfl rfl)) (toEventS_ok (c := c) h78 (by omega) hxf) ?_)
     rintro _ w82 ⟨At79, St80, rfl, e83, hNt81⟩
     have := Below.fresh e83
     have E84 := below_ext E76 E76.size e83
     have := hNt81.lh
     have h85 := ((((((hNt39.ext e54).ext n58.ext).st s63 (by omega)).ext e70).ext e75).ext e83)
     refine lw_e (oe_callf (vs := [.slice At37 l l, .slice At79 l l]) co19 (ar2 (T rfl rfl) (T rfl rfl)) (eqEventS_ok (c := l) (d := l) h85.nr (by omega) hxf hNt81.nr) ?_)
     rintro _ w86 ⟨rfl, e87⟩
     have := Below.fresh e87
     have E88 := below_ext E84 E84.size e87
     refine lw_v (.bool false) (dv_not (b := true) (T rfl rfl)) ?_
     refine lw_nil ?_
     refine rk_cf (T rfl rfl) ?_
     refine rk_skip ?_
     refine rk_seq ?_
     refine rk_reg ?_
     refine lw_v (.int .i64 1) (dv_assign C) ?_
     refine lw_nil ?_
     refine rk_seq ?_
     refine rk_reg ?_
     refine lw_v (.slice At37 l l) (dv_move (T rfl rfl)) ?_
     refine lw_v (.int .i64 1) (dv_move (T rfl rfl)) ?_
     have h89 := (h85.ext e87)
     have := kAt_ge 1 ((fun i_ => (Q i_).es)) l; have := kAt_le 1 (fun i_ h_ => evF.n hxf h_) l (Nat.le_refl _)
     refine lw_e (oe_callf (vs := [.slice At37 l l, .int .i64 1]) co23 (ar2 (T rfl rfl) (T rfl rfl)) (markEventS_ok h89 (fun i_ h_ => evF.n hxf h_) (by omega) (by omega)) ?_)
     rintro _ w95 ⟨Wm90, Em91, rfl, e96, hN92, hlm93, hmd94⟩
     have E97 := below_mid E88 (by omega) E88.size e96
     have := e96.size
     refine lw_v (.int .i64 (kAt 1 ((fun i_ => (Q i_).es)) l)) (dv_assign (T rfl rfl)) ?_
     refine lw_nil ?_
     refine rk_seq ?_
     refine rk_seq ?_
     refine rk_reg ?_
     refine lw_v (.int .i64 (kAt 1 ((fun i_ => (Q i_).es)) l)) (dv_move (T rfl rfl)) ?_
     refine lw_v (.bool (decide ((kAt 1 ((fun i_ => (Q i_).es)) l) < 0))) (dv_lss (a := kAt 1 ((fun i_ => (Q i_).es)) l) (b := 0) (T rfl rfl) C) ?_
     refine lw_v (.bool (decide ((kAt 1 ((fun i_ => (Q i_).es)) l) < 0))) (dv_move (T rfl rfl)) ?_
     by_cases hb98 : (kAt 1 ((fun i_ => (Q i_).es)) l) < 0
     · refine lw_no (d := 62) rfl rfl (congrArg Value.bool (decide_eq_true hb98)) ?_
       refine lw_no (d := 62) rfl rfl (congrArg Value.bool (decide_eq_true hb98)) ?_
       refine lw_no (d := 62) rfl rfl (congrArg Value.bool (decide_eq_true hb98)) ?_
       refine lw_no (d := 62) rfl rfl (congrArg Value.bool (decide_eq_true hb98)) ?_
       refine lw_v (.bool true) (dv_pick_t (T rfl (congrArg Value.bool (decide_eq_true hb98))) C) ?_
       refine lw_v (.bool true) (dv_move (T rfl rfl)) ?_
       refine lw_no (d := 68) rfl rfl (rfl) ?_
       refine lw_no (d := 68) rfl rfl (rfl) ?_
       refine lw_no (d := 68) rfl rfl (rfl) ?_
       refine lw_no (d := 68) rfl rfl (rfl) ?_
       refine lw_v (.bool true) (dv_pick_t (T rfl rfl) C) ?_
       refine lw_v (.bool true) (dv_move (T rfl rfl)) ?_
       refine lw_no (d := 74) rfl rfl (rfl) ?_
       refine lw_no (d := 74) rfl rfl (rfl) ?_
       refine lw_no (d := 74) rfl rfl (rfl) ?_
       refine lw_v (.bool true) (dv_pick_t (T rfl rfl) C) ?_
       refine lw_nil ?_
       refine rk_ct (T rfl rfl) ?_
       refine rk_seq ?_
       refine rk_reg ?_
       refine lw_v (.bool false) (dv_assign C) ?_
       refine lw_nil ?_
       refine rk_ret Try.func5 (v := .bool false) (res1 Try.results5 (rv_tmp rfl rfl)) ⟨_, rfl, ?_⟩
       exact ⟨(by exfalso; first | contradiction | exact absurd rfl (by assumption) | omega | (simp at hb77; done)), E97⟩
     · have H99 := ((e96.block _ (lt_of_blk (e87.blk (e83.blk (e75.blk (e70.blk H64))))) (by omega)).trans (e87.blk (e83.blk (e75.blk (e70.blk H64)))))
       refine lw_vy (.agg #[.int .u64 (wv3 ((takE l Q).x)), .int .u64 (wv2 ((takE l Q).x)), .int .u64 (wv1 ((takE l Q).x)), .int .u64 (wv0 ((takE l Q).x)), .int .u64 (wv3 ((takE l Q).y)), .int .u64 (wv2 ((takE l Q).y)), .int .u64 (wv1 ((takE l Q).y)), .int .u64 (wv0 ((takE l Q).y)), .int .u64 (wv3 ((takE l Q).u)), .int .u64 (wv2 ((takE l Q).u)), .int .u64 (wv1 ((takE l Q).u)), .int .u64 (wv0 ((takE l Q).u)), .slice A43 ((takE l Q).es.length) c44]) (d := 62) rfl rfl (congrArg Value.bool (decide_eq_false hb98)) (dv_loads (l := [.int .u64 (wv3 ((takE l Q).x)), .int .u64 (wv2 ((takE l Q).x)), .int .u64 (wv1 ((takE l Q).x)), .int .u64 (wv0 ((takE l Q).x)), .int .u64 (wv3 ((takE l Q).y)), .int .u64 (wv2 ((takE l Q).y)), .int .u64 (wv1 ((takE l Q).y)), .int .u64 (wv0 ((takE l Q).y)), .int .u64 (wv3 ((takE l Q).u)), .int .u64 (wv2 ((takE l Q).u)), .int .u64 (wv1 ((takE l Q).u)), .int .u64 (wv0 ((takE l Q).u)), .slice A43 ((takE l Q).es.length) c44]) agt52 sz52 (T rfl rfl) H99 rfl) ?_
       have H100 := ((e96.block _ (lt_of_blk (e87.blk (e83.blk (e75.blk (e70.blk H66))))) (by omega)).trans (e87.blk (e83.blk (e75.blk (e70.blk H66)))))
       refine lw_vy (.agg #[.int .u64 (wv3 ((takE l Q).x)), .int .u64 (wv2 ((takE l Q).x)), .int .u64 (wv1 ((takE l Q).x)), .int .u64 (wv0 ((takE l Q).x)), .int .u64 (wv3 ((takE l Q).y)), .int .u64 (wv2 ((takE l Q).y)), .int .u64 (wv1 ((takE l Q).y)), .int .u64 (wv0 ((takE l Q).y)), .int .u64 (wv3 ((takE l Q).u)), .int .u64 (wv2 ((takE l Q).u)), .int .u64 (wv1 ((takE l Q).u)), .int .u64 (wv0 ((takE l Q).u)), .slice A14 ((takE l Q).es.length) c15]) (d := 62) rfl rfl (congrArg Value.bool (decide_eq_false hb98)) (dv_loads (l := [.int .u64 (wv3 ((takE l Q).x)), .int .u64 (wv2 ((takE l Q).x)), .int .u64 (wv1 ((takE l Q).x)), .int .u64 (wv0 ((takE l Q).x)), .int .u64 (wv3 ((takE l Q).y)), .int .u64 (wv2 ((takE l Q).y)), .int .u64 (wv1 ((takE l Q).y)), .int .u64 (wv0 ((takE l Q).y)), .int .u64 (wv3 ((takE l Q).u)), .int .u64 (wv2 ((takE l Q).u)), .int .u64 (wv1 ((takE l Q).u)), .int .u64 (wv0 ((takE l Q).u)), .slice A14 ((takE l Q).es.length) c15]) agt52 sz52 (T rfl rfl) H100 rfl) ?_
       have h101 := (((((h67.ext e70).ext e75).ext e83).ext e87).midX e96 (fun b_ o_ h_ => by have := hX50 b_ o_ h_; omega))
       have h102 := (((((h68.ext e70).ext e75).ext e83).ext e87).midX e96 (fun b_ o_ h_ => by have := hX21 b_ o_ h_; omega))
       refine lw_ey (d := 62) rfl rfl (congrArg Value.bool (decide_eq_false hb98)) (oe_callf (vs := [.agg #[.int .u64 (wv3 ((takE l Q).x)), .int .u64 (wv2 ((takE l Q).x)), .int .u64 (wv1 ((takE l Q).x)), .int .u64 (wv0 ((takE l Q).x)), .int .u64 (wv3 ((takE l Q).y)), .int .u64 (wv2 ((takE l Q).y)), .int .u64 (wv1 ((takE l Q).y)), .int .u64 (wv0 ((takE l Q).y)), .int .u64 (wv3 ((takE l Q).u)), .int .u64 (wv2 ((takE l Q).u)), .int .u64 (wv1 ((takE l Q).u)), .int .u64 (wv0 ((takE l Q).u)), .slice A43 ((takE l Q).es.length) c44], .agg #[.int .u64 (wv3 ((takE l Q).x)), .int .u64 (wv2 ((takE l Q).x)), .int .u64 (wv1 ((takE l Q).x)), .int .u64 (wv0 ((takE l Q).x)), .int .u64 (wv3 ((takE l Q).y)), .int .u64 (wv2 ((takE l Q).y)), .int .u64 (wv1 ((takE l Q).y)), .int .u64 (wv0 ((takE l Q).y)), .int .u64 (wv3 ((takE l Q).u)), .int .u64 (wv2 ((takE l Q).u)), .int .u64 (wv1 ((takE l Q).u)), .int .u64 (wv0 ((takE l Q).u)), .slice A14 ((takE l Q).es.length) c15]]) co22 (ar2 (T rfl rfl) (T rfl rfl)) (eqEvent_ok (c := c44) (d := c15) hft.1.1 hft.1.2.1 hft.1.2.2 (Wd.rdI (Ow.wd h101)) (Wd.rdI (Ow.wd h102)) (by first | rfl | omega) (by first | omega | (simp; done) | (simp; omega))) ?_)
       rintro _ w103 ⟨rfl, e104⟩
       have := Below.fresh e104
       have E105 := below_ext E97 E97.size e104
       refine lw_vy (.bool false) (d := 62) rfl rfl (congrArg Value.bool (decide_eq_false hb98)) (dv_not (b := true) (T rfl rfl)) ?_
       refine lw_v (.bool false) (dv_pick_f (T rfl (congrArg Value.bool (decide_eq_false hb98))) (T rfl rfl)) ?_
       refine lw_v (.bool false) (dv_move (T rfl rfl)) ?_
       refine lw_vy (.slice A45 (takN l Q) c46) (d := 68) rfl rfl (rfl) (dv_move (T rfl rfl)) ?_
       refine lw_vy (.slice A16 (takN l Q) c17) (d := 68) rfl rfl (rfl) (dv_move (T rfl rfl)) ?_
       have h106 := (((((h72.ext e75).ext e83).ext e87).mid e96 (by omega)).ext e104)
       have h107 := (((((h73.ext e75).ext e83).ext e87).mid e96 (by omega)).ext e104)
       refine lw_ey (d := 68) rfl rfl (rfl) (oe_callf (vs := [.slice A45 (takN l Q) c46, .slice A16 (takN l Q) c17]) co19 (ar2 (T rfl rfl) (T rfl rfl)) (eqEventS_ok (c := c46) (d := c17) h106.nr (by omega) hxf2 h107.nr) ?_)
       rintro _ w108 ⟨rfl, e109⟩
       have := Below.fresh e109
       have E110 := below_ext E105 E105.size e109
       refine lw_vy (.bool false) (d := 68) rfl rfl (rfl) (dv_not (b := true) (T rfl rfl)) ?_
       refine lw_v (.bool false) (dv_pick_f (T rfl rfl) (T rfl rfl)) ?_
       refine lw_v (.bool false) (dv_move (T rfl rfl)) ?_
       refine lw_vy (.bool (decide (takS l Q))) (d := 74) rfl rfl (rfl) (dv_move (T rfl rfl)) ?_
       refine lw_vy (.bool (decide (takS l Q))) (d := 74) rfl rfl (rfl) (dv_move (T rfl rfl)) ?_
       refine lw_vy (.bool ((decide (takS l Q)) != (decide (takS l Q)))) (d := 74) rfl rfl (rfl) (dv_neqb (a := decide (takS l Q)) (b := decide (takS l Q)) ub4 (T rfl rfl) (T rfl rfl)) ?_
       refine lw_v (.bool ((decide (takS l Q)) != (decide (takS l Q)))) (dv_pick_f (T rfl rfl) (T rfl rfl)) ?_
       refine lw_nil ?_
       refine rk_cf (T rfl (congrArg Value.bool hb77)) ?_
       refine rk_skip ?_
       refine rk_seq ?_
       refine rk_reg ?_
       refine lw_v (.int .i64 1) (dv_assign C) ?_
       refine lw_nil ?_
       refine rk_seq ?_
       refine rk_reg ?_
       have H111 := (e109.blk (e104.blk H99))
       refine lw_v (.agg #[.int .u64 (wv3 ((takE l Q).x)), .int .u64 (wv2 ((takE l Q).x)), .int .u64 (wv1 ((takE l Q).x)), .int .u64 (wv0 ((takE l Q).x)), .int .u64 (wv3 ((takE l Q).y)), .int .u64 (wv2 ((takE l Q).y)), .int .u64 (wv1 ((takE l Q).y)), .int .u64 (wv0 ((takE l Q).y)), .int .u64 (wv3 ((takE l Q).u)), .int .u64 (wv2 ((takE l Q).u)), .int .u64 (wv1 ((takE l Q).u)), .int .u64 (wv0 ((takE l Q).u)), .slice A43 ((takE l Q).es.length) c44]) (dv_loads (l := [.int .u64 (wv3 ((takE l Q).x)), .int .u64 (wv2 ((takE l Q).x)), .int .u64 (wv1 ((takE l Q).x)), .int .u64 (wv0 ((takE l Q).x)), .int .u64 (wv3 ((takE l Q).y)), .int .u64 (wv2 ((takE l Q).y)), .int .u64 (wv1 ((takE l Q).y)), .int .u64 (wv0 ((takE l Q).y)), .int .u64 (wv3 ((takE l Q).u)), .int .u64 (wv2 ((takE l Q).u)), .int .u64 (wv1 ((takE l Q).u)), .int .u64 (wv0 ((takE l Q).u)), .slice A43 ((takE l Q).es.length) c44]) agt52 sz52 (T rfl rfl) H111 rfl) ?_
       refine lw_v (.int .i64 1) (dv_move (T rfl rfl)) ?_
       have h112 := ((h101.ext e104).ext e109)
       refine lw_e (oe_callf (vs := [.agg #[.int .u64 (wv3 ((takE l Q).x)), .int .u64 (wv2 ((takE l Q).x)), .int .u64 (wv1 ((takE l Q).x)), .int .u64 (wv0 ((takE l Q).x)), .int .u64 (wv3 ((takE l Q).y)), .int .u64 (wv2 ((takE l Q).y)), .int .u64 (wv1 ((takE l Q).y)), .int .u64 (wv0 ((takE l Q).y)), .int .u64 (wv3 ((takE l Q).u)), .int .u64 (wv2 ((takE l Q).u)), .int .u64 (wv1 ((takE l Q).u)), .int .u64 (wv0 ((takE l Q).u)), .slice A43 ((takE l Q).es.length) c44], .int .i64 1]) co24 (ar2 (T rfl rfl) (T rfl rfl)) (markEvent_ok h112 rfl hX50 (by omega) (by omega) (by omega)) ?_)
       rintro _ w114 ⟨rfl, e115, hO113⟩
       have E116 := below_mid E110 (by omega) E110.size e115
       have := e115.size
       refine lw_v (.int .i64 (1 + ((takE l Q).es.length : Int))) (dv_assign (T rfl rfl)) ?_
       refine lw_nil ?_
       refine rk_seq ?_
       refine rk_reg ?_
       refine lw_v (.slice A45 (takN l Q) c46) (dv_move (T rfl rfl)) ?_
       refine lw_v (.int .i64 (1 + ((takE l Q).es.length : Int))) (dv_move (T rfl rfl)) ?_
       have h117 := ((h106.ext e109).mid e115 (by omega))
       have := kAt_ge (1 + ((takE l Q).es.length : Int)) ((fun i_ => (shE Q i_).es)) (takN l Q); have := kAt_le (1 + ((takE l Q).es.length : Int)) (fun i_ h_ => evF.n hxf2 h_) (takN l Q) (Nat.le_refl _)
       refine lw_e (oe_callf (vs := [.slice A45 (takN l Q) c46, .int .i64 (1 + ((takE l Q).es.length : Int))]) co23 (ar2 (T rfl rfl) (T rfl rfl)) (markEventS_ok h117 (fun i_ h_ => evF.n hxf2 h_) (by omega) (by omega)) ?_)
       rintro _ w123 ⟨Wm118, Em119, rfl, e124, hN120, hlm121, hmd122⟩
       have E125 := below_mid E116 (by omega) E116.size e124
       have := e124.size
       refine lw_v (.int .i64 (kAt (1 + ((takE l Q).es.length : Int)) ((fun i_ => (shE Q i_).es)) (takN l Q))) (dv_assign (T rfl rfl)) ?_
       refine lw_nil ?_
       refine rk_seq ?_
       refine rk_reg ?_
       refine lw_v (.int .i64 1) (dv_assign C) ?_
       refine lw_nil ?_
       refine rk_seq ?_
       refine rk_reg ?_
       have H126 := ((e124.block _ (lt_of_blk ((e115.block _ (lt_of_blk H111) (by omega)).trans H111)) (by omega)).trans ((e115.block _ (lt_of_blk H111) (by omega)).trans H111))
       refine lw_v (.agg #[.int .u64 (wv3 ((takE l Q).x)), .int .u64 (wv2 ((takE l Q).x)), .int .u64 (wv1 ((takE l Q).x)), .int .u64 (wv0 ((takE l Q).x)), .int .u64 (wv3 ((takE l Q).y)), .int .u64 (wv2 ((takE l Q).y)), .int .u64 (wv1 ((takE l Q).y)), .int .u64 (wv0 ((takE l Q).y)), .int .u64 (wv3 ((takE l Q).u)), .int .u64 (wv2 ((takE l Q).u)), .int .u64 (wv1 ((takE l Q).u)), .int .u64 (wv0 ((takE l Q).u)), .slice A43 ((takE l Q).es.length) c44]) (dv_loads (l := [.int .u64 (wv3 ((takE l Q).x)), .int .u64 (wv2 ((takE l Q).x)), .int .u64 (wv1 ((takE l Q).x)), .int .u64 (wv0 ((takE l Q).x)), .int .u64 (wv3 ((takE l Q).y)), .int .u64 (wv2 ((takE l Q).y)), .int .u64 (wv1 ((takE l Q).y)), .int .u64 (wv0 ((takE l Q).y)), .int .u64 (wv3 ((takE l Q).u)), .int .u64 (wv2 ((takE l Q).u)), .int .u64 (wv1 ((takE l Q).u)), .int .u64 (wv0 ((takE l Q).u)), .slice A43 ((takE l Q).es.length) c44]) agt52 sz52 (T rfl rfl) H126 rfl) ?_
       refine lw_v (.int .i64 1) (dv_move (T rfl rfl)) ?_
       have h127 := (hO113.midX e124 (fun b_ o_ h_ => by have := hX50 b_ o_ h_; omega))
       refine lw_e (oe_callf (vs := [.agg #[.int .u64 (wv3 ((takE l Q).x)), .int .u64 (wv2 ((takE l Q).x)), .int .u64 (wv1 ((takE l Q).x)), .int .u64 (wv0 ((takE l Q).x)), .int .u64 (wv3 ((takE l Q).y)), .int .u64 (wv2 ((takE l Q).y)), .int .u64 (wv1 ((takE l Q).y)), .int .u64 (wv0 ((takE l Q).y)), .int .u64 (wv3 ((takE l Q).u)), .int .u64 (wv2 ((takE l Q).u)), .int .u64 (wv1 ((takE l Q).u)), .int .u64 (wv0 ((takE l Q).u)), .slice A43 ((takE l Q).es.length) c44], .int .i64 1]) co25 (ar2 (T rfl rfl) (T rfl rfl)) (heldEvent_ok (c := c44) (Wd.rdI (Ow.wd h127)) (by first | rfl | exact mkL_len _ _) rfl (by omega) (by omega)) ?_)
       rintro _ w128 ⟨rfl, e129⟩
       have := Below.fresh e129
       have E130 := below_ext E125 E125.size e129
       refine lw_v (.int .i64 (1 + ((takE l Q).es.length : Int))) (dv_assign (T rfl rfl)) ?_
       refine lw_nil ?_
       refine rk_seq ?_
       refine rk_seq ?_
       refine rk_reg ?_
       refine lw_v (.int .i64 (1 + ((takE l Q).es.length : Int))) (dv_move (T rfl rfl)) ?_
       refine lw_v (.bool (decide ((1 + ((takE l Q).es.length : Int)) < 0))) (dv_lss (a := 1 + ((takE l Q).es.length : Int)) (b := 0) (T rfl rfl) C) ?_
       refine lw_nil ?_
       by_cases hb131 : (1 + ((takE l Q).es.length : Int)) < 0
       · refine rk_ct (T rfl (congrArg Value.bool (decide_eq_true hb131))) ?_
         refine rk_seq ?_
         refine rk_reg ?_
         refine lw_v (.bool false) (dv_assign C) ?_
         refine lw_nil ?_
         refine rk_ret Try.func5 (v := .bool false) (res1 Try.results5 (rv_tmp rfl rfl)) ⟨_, rfl, ?_⟩
         exact ⟨(by exfalso; first | contradiction | exact absurd rfl (by assumption) | omega | (simp at hb77; done)), E130⟩
       · refine rk_cf (T rfl (congrArg Value.bool (decide_eq_false hb131))) ?_
         refine rk_skip ?_
         refine rk_seq ?_
         refine rk_reg ?_
         refine lw_v (.slice A45 (takN l Q) c46) (dv_move (T rfl rfl)) ?_
         refine lw_v (.int .i64 (1 + ((takE l Q).es.length : Int))) (dv_move (T rfl rfl)) ?_
         have h132 := (hN120.ext e129)
         refine lw_e (oe_callf (vs := [.slice A45 (takN l Q) c46, .int .i64 (1 + ((takE l Q).es.length : Int))]) co26 (ar2 (T rfl rfl) (T rfl rfl)) (heldEventS_ok (cc := c46) (E := (fun i_ => (shE Q i_).es)) h132.nr hlm121 hmd122 (fun i_ h_ => evF.n hxf2 h_) (by omega) (by omega)) ?_)
         rintro _ w133 ⟨rfl, e134⟩
         have := Below.fresh e134
         have E135 := below_ext E130 E130.size e134
         refine lw_v (.int .i64 (kAt (1 + ((takE l Q).es.length : Int)) ((fun i_ => (shE Q i_).es)) (takN l Q))) (dv_assign (T rfl rfl)) ?_
         refine lw_nil ?_
         refine rk_seq ?_
         refine rk_seq ?_
         refine rk_reg ?_
         refine lw_v (.int .i64 (kAt (1 + ((takE l Q).es.length : Int)) ((fun i_ => (shE Q i_).es)) (takN l Q))) (dv_move (T rfl rfl)) ?_
         refine lw_v (.bool (decide ((kAt (1 + ((takE l Q).es.length : Int)) ((fun i_ => (shE Q i_).es)) (takN l Q)) < 0))) (dv_lss (a := kAt (1 + ((takE l Q).es.length : Int)) ((fun i_ => (shE Q i_).es)) (takN l Q)) (b := 0) (T rfl rfl) C) ?_
         refine lw_nil ?_
         by_cases hb136 : (kAt (1 + ((takE l Q).es.length : Int)) ((fun i_ => (shE Q i_).es)) (takN l Q)) < 0
         · refine rk_ct (T rfl (congrArg Value.bool (decide_eq_true hb136))) ?_
           refine rk_seq ?_
           refine rk_reg ?_
           refine lw_v (.bool false) (dv_assign C) ?_
           refine lw_nil ?_
           refine rk_ret Try.func5 (v := .bool false) (res1 Try.results5 (rv_tmp rfl rfl)) ⟨_, rfl, ?_⟩
           exact ⟨(by exfalso; first | contradiction | exact absurd rfl (by assumption) | omega | (simp at hb77; done)), E135⟩
         · refine rk_cf (T rfl (congrArg Value.bool (decide_eq_false hb136))) ?_
           refine rk_skip ?_
           refine rk_seq ?_
           refine rk_seq ?_
           refine rk_reg ?_
           refine lw_v (.int .i64 (kAt (1 + ((takE l Q).es.length : Int)) ((fun i_ => (shE Q i_).es)) (takN l Q))) (dv_move (T rfl rfl)) ?_
           refine lw_v (.int .i64 (kAt (1 + ((takE l Q).es.length : Int)) ((fun i_ => (shE Q i_).es)) (takN l Q))) (dv_move (T rfl rfl)) ?_
           refine lw_v (.bool (decide ((kAt (1 + ((takE l Q).es.length : Int)) ((fun i_ => (shE Q i_).es)) (takN l Q)) ≠ (kAt (1 + ((takE l Q).es.length : Int)) ((fun i_ => (shE Q i_).es)) (takN l Q))))) (dv_neq (a := kAt (1 + ((takE l Q).es.length : Int)) ((fun i_ => (shE Q i_).es)) (takN l Q)) (b := kAt (1 + ((takE l Q).es.length : Int)) ((fun i_ => (shE Q i_).es)) (takN l Q)) (T rfl rfl) (T rfl rfl)) ?_
           refine lw_nil ?_
           by_cases hb137 : (kAt (1 + ((takE l Q).es.length : Int)) ((fun i_ => (shE Q i_).es)) (takN l Q)) ≠ (kAt (1 + ((takE l Q).es.length : Int)) ((fun i_ => (shE Q i_).es)) (takN l Q))
           · refine rk_ct (T rfl (congrArg Value.bool (decide_eq_true hb137))) ?_
             refine rk_seq ?_
             refine rk_reg ?_
             refine lw_v (.bool false) (dv_assign C) ?_
             refine lw_nil ?_
             refine rk_ret Try.func5 (v := .bool false) (res1 Try.results5 (rv_tmp rfl rfl)) ⟨_, rfl, ?_⟩
             exact ⟨(by exfalso; first | contradiction | exact absurd rfl (by assumption) | omega | (simp at hb77; done)), E135⟩
           · refine rk_cf (T rfl (congrArg Value.bool (decide_eq_false hb137))) ?_
             refine rk_skip ?_
             refine rk_seq ?_
             refine rk_reg ?_
             refine lw_v (.slice A l c) (dv_move (T rfl rfl)) ?_
             have h138 := (((((((((h78.ext e83).ext e87).mid e96 (by omega)).ext e104).ext e109).mid e115 (by omega)).mid e124 (by omega)).ext e129).ext e134)
             refine lw_e (oe_callf (vs := [.slice A l c]) co17 (ar1 (T rfl rfl)) (toEventS_ok (c := c) h138 (by omega) hxf) ?_)
             rintro _ w142 ⟨At139, St140, rfl, e143, hNt141⟩
             have := Below.fresh e143
             have E144 := below_ext E135 E135.size e143
             have := hNt141.lh
             refine lw_e (oe_callf (vs := [.slice At139 l l]) co21 (ar1 (T rfl rfl)) (iEventTake_ok (c := l) hNt141.nr (by omega) hxf) ?_)
             rintro _ w155 ⟨A145, c146, A147, c148, S149, X150, rfl, e156, hO151, hX152, hXr153, hN154⟩
             have := Below.fresh e156
             have E157 := below_ext E144 E144.size e156
             have := hN154.lh; have := hXr153
             refine lw_v (.tuple #[.agg #[.int .u64 (wv3 ((takE l Q).x)), .int .u64 (wv2 ((takE l Q).x)), .int .u64 (wv1 ((takE l Q).x)), .int .u64 (wv0 ((takE l Q).x)), .int .u64 (wv3 ((takE l Q).y)), .int .u64 (wv2 ((takE l Q).y)), .int .u64 (wv1 ((takE l Q).y)), .int .u64 (wv0 ((takE l Q).y)), .int .u64 (wv3 ((takE l Q).u)), .int .u64 (wv2 ((takE l Q).u)), .int .u64 (wv1 ((takE l Q).u)), .int .u64 (wv0 ((takE l Q).u)), .slice A145 ((takE l Q).es.length) c146], .slice A147 (takN l Q) c148, .bool (decide (takS l Q))]) (dv_move (T rfl rfl)) ?_
             refine lw_v (.agg #[.int .u64 (wv3 ((takE l Q).x)), .int .u64 (wv2 ((takE l Q).x)), .int .u64 (wv1 ((takE l Q).x)), .int .u64 (wv0 ((takE l Q).x)), .int .u64 (wv3 ((takE l Q).y)), .int .u64 (wv2 ((takE l Q).y)), .int .u64 (wv1 ((takE l Q).y)), .int .u64 (wv0 ((takE l Q).y)), .int .u64 (wv3 ((takE l Q).u)), .int .u64 (wv2 ((takE l Q).u)), .int .u64 (wv1 ((takE l Q).u)), .int .u64 (wv0 ((takE l Q).u)), .slice A145 ((takE l Q).es.length) c146]) (dv_extract (vs := #[.agg #[.int .u64 (wv3 ((takE l Q).x)), .int .u64 (wv2 ((takE l Q).x)), .int .u64 (wv1 ((takE l Q).x)), .int .u64 (wv0 ((takE l Q).x)), .int .u64 (wv3 ((takE l Q).y)), .int .u64 (wv2 ((takE l Q).y)), .int .u64 (wv1 ((takE l Q).y)), .int .u64 (wv0 ((takE l Q).y)), .int .u64 (wv3 ((takE l Q).u)), .int .u64 (wv2 ((takE l Q).u)), .int .u64 (wv1 ((takE l Q).u)), .int .u64 (wv0 ((takE l Q).u)), .slice A145 ((takE l Q).es.length) c146], .slice A147 (takN l Q) c148, .bool (decide (takS l Q))]) (T rfl rfl) rfl) ?_
             refine lw_v (.slice A147 (takN l Q) c148) (dv_extract (vs := #[.agg #[.int .u64 (wv3 ((takE l Q).x)), .int .u64 (wv2 ((takE l Q).x)), .int .u64 (wv1 ((takE l Q).x)), .int .u64 (wv0 ((takE l Q).x)), .int .u64 (wv3 ((takE l Q).y)), .int .u64 (wv2 ((takE l Q).y)), .int .u64 (wv1 ((takE l Q).y)), .int .u64 (wv0 ((takE l Q).y)), .int .u64 (wv3 ((takE l Q).u)), .int .u64 (wv2 ((takE l Q).u)), .int .u64 (wv1 ((takE l Q).u)), .int .u64 (wv0 ((takE l Q).u)), .slice A145 ((takE l Q).es.length) c146], .slice A147 (takN l Q) c148, .bool (decide (takS l Q))]) (T rfl rfl) rfl) ?_
             refine lw_v (.bool (decide (takS l Q))) (dv_extract (vs := #[.agg #[.int .u64 (wv3 ((takE l Q).x)), .int .u64 (wv2 ((takE l Q).x)), .int .u64 (wv1 ((takE l Q).x)), .int .u64 (wv0 ((takE l Q).x)), .int .u64 (wv3 ((takE l Q).y)), .int .u64 (wv2 ((takE l Q).y)), .int .u64 (wv1 ((takE l Q).y)), .int .u64 (wv0 ((takE l Q).y)), .int .u64 (wv3 ((takE l Q).u)), .int .u64 (wv2 ((takE l Q).u)), .int .u64 (wv1 ((takE l Q).u)), .int .u64 (wv0 ((takE l Q).u)), .slice A145 ((takE l Q).es.length) c146], .slice A147 (takN l Q) c148, .bool (decide (takS l Q))]) (T rfl rfl) rfl) ?_
             refine lw_e (oe_alloc ze52 ?_)
             intro b158 w159 n160
             have N161 : w.heap.size ≤ b158 := n160.eq ▸ E157.size
             have H162 := (e156.blk (e143.blk (e134.blk (e129.blk H126))))
             have : b56 < b158 := n160.eq ▸ lt_of_blk H162
             have := n160.eq; have := n160.size
             have := Below.fresh n160.ext
             have E163 := below_ext E157 E157.size n160.ext
             refine lw_e (oe_store (v := .agg #[.int .u64 (wv3 ((takE l Q).x)), .int .u64 (wv2 ((takE l Q).x)), .int .u64 (wv1 ((takE l Q).x)), .int .u64 (wv0 ((takE l Q).x)), .int .u64 (wv3 ((takE l Q).y)), .int .u64 (wv2 ((takE l Q).y)), .int .u64 (wv1 ((takE l Q).y)), .int .u64 (wv0 ((takE l Q).y)), .int .u64 (wv3 ((takE l Q).u)), .int .u64 (wv2 ((takE l Q).u)), .int .u64 (wv1 ((takE l Q).u)), .int .u64 (wv0 ((takE l Q).u)), .slice A145 ((takE l Q).es.length) c146]) (vs := [.int .u64 (wv3 ((takE l Q).x)), .int .u64 (wv2 ((takE l Q).x)), .int .u64 (wv1 ((takE l Q).x)), .int .u64 (wv0 ((takE l Q).x)), .int .u64 (wv3 ((takE l Q).y)), .int .u64 (wv2 ((takE l Q).y)), .int .u64 (wv1 ((takE l Q).y)), .int .u64 (wv0 ((takE l Q).y)), .int .u64 (wv3 ((takE l Q).u)), .int .u64 (wv2 ((takE l Q).u)), .int .u64 (wv1 ((takE l Q).u)), .int .u64 (wv0 ((takE l Q).u)), .slice A145 ((takE l Q).es.length) c146]) (l := [.int .u64 (wv3 ((takE l Q).x)), .int .u64 (wv2 ((takE l Q).x)), .int .u64 (wv1 ((takE l Q).x)), .int .u64 (wv0 ((takE l Q).x)), .int .u64 (wv3 ((takE l Q).y)), .int .u64 (wv2 ((takE l Q).y)), .int .u64 (wv1 ((takE l Q).y)), .int .u64 (wv0 ((takE l Q).y)), .int .u64 (wv3 ((takE l Q).u)), .int .u64 (wv2 ((takE l Q).u)), .int .u64 (wv1 ((takE l Q).u)), .int .u64 (wv0 ((takE l Q).u)), .slice A145 ((takE l Q).es.length) c146]) (T rfl rfl) (T rfl rfl) sz52 rfl rfl rfl n160.blk rfl ?_)
             intro w164 s165 H166
             have := s165.size
             have E167 := below_st E163 N161 s165
             refine lw_v (.slice A147 (takN l Q) c148) (dv_assign (T rfl rfl)) ?_
             refine lw_v (.bool (decide (takS l Q))) (dv_assign (T rfl rfl)) ?_
             refine lw_nil ?_
             refine rk_seq ?_
             refine rk_seq ?_
             refine rk_reg ?_
             refine lw_v (.agg #[.int .u64 (wv3 ((takE l Q).x)), .int .u64 (wv2 ((takE l Q).x)), .int .u64 (wv1 ((takE l Q).x)), .int .u64 (wv0 ((takE l Q).x)), .int .u64 (wv3 ((takE l Q).y)), .int .u64 (wv2 ((takE l Q).y)), .int .u64 (wv1 ((takE l Q).y)), .int .u64 (wv0 ((takE l Q).y)), .int .u64 (wv3 ((takE l Q).u)), .int .u64 (wv2 ((takE l Q).u)), .int .u64 (wv1 ((takE l Q).u)), .int .u64 (wv0 ((takE l Q).u)), .slice A145 ((takE l Q).es.length) c146]) (dv_loads (l := [.int .u64 (wv3 ((takE l Q).x)), .int .u64 (wv2 ((takE l Q).x)), .int .u64 (wv1 ((takE l Q).x)), .int .u64 (wv0 ((takE l Q).x)), .int .u64 (wv3 ((takE l Q).y)), .int .u64 (wv2 ((takE l Q).y)), .int .u64 (wv1 ((takE l Q).y)), .int .u64 (wv0 ((takE l Q).y)), .int .u64 (wv3 ((takE l Q).u)), .int .u64 (wv2 ((takE l Q).u)), .int .u64 (wv1 ((takE l Q).u)), .int .u64 (wv0 ((takE l Q).u)), .slice A145 ((takE l Q).es.length) c146]) agt52 sz52 (T rfl rfl) H166 rfl) ?_
             have H168 := (s165.blk (n160.ext.blk (e156.blk (e143.blk (e134.blk (e129.blk ((e124.block _ (lt_of_blk ((e115.block _ (lt_of_blk (e109.blk (e104.blk H100))) (by omega)).trans (e109.blk (e104.blk H100)))) (by omega)).trans ((e115.block _ (lt_of_blk (e109.blk (e104.blk H100))) (by omega)).trans (e109.blk (e104.blk H100))))))))) (by omega))
             refine lw_v (.agg #[.int .u64 (wv3 ((takE l Q).x)), .int .u64 (wv2 ((takE l Q).x)), .int .u64 (wv1 ((takE l Q).x)), .int .u64 (wv0 ((takE l Q).x)), .int .u64 (wv3 ((takE l Q).y)), .int .u64 (wv2 ((takE l Q).y)), .int .u64 (wv1 ((takE l Q).y)), .int .u64 (wv0 ((takE l Q).y)), .int .u64 (wv3 ((takE l Q).u)), .int .u64 (wv2 ((takE l Q).u)), .int .u64 (wv1 ((takE l Q).u)), .int .u64 (wv0 ((takE l Q).u)), .slice A14 ((takE l Q).es.length) c15]) (dv_loads (l := [.int .u64 (wv3 ((takE l Q).x)), .int .u64 (wv2 ((takE l Q).x)), .int .u64 (wv1 ((takE l Q).x)), .int .u64 (wv0 ((takE l Q).x)), .int .u64 (wv3 ((takE l Q).y)), .int .u64 (wv2 ((takE l Q).y)), .int .u64 (wv1 ((takE l Q).y)), .int .u64 (wv0 ((takE l Q).y)), .int .u64 (wv3 ((takE l Q).u)), .int .u64 (wv2 ((takE l Q).u)), .int .u64 (wv1 ((takE l Q).u)), .int .u64 (wv0 ((takE l Q).u)), .slice A14 ((takE l Q).es.length) c15]) agt52 sz52 (T rfl rfl) H168 rfl) ?_
             have h169 := ((hO151.ext n160.ext).stX s165 (fun b_ o_ h_ => by have := hX152 b_ o_ h_; omega))
             have h170 := ((((((((((h102.ext e104).ext e109).midX e115 (fun b_ o_ h_ => by have := hX21 b_ o_ h_; omega)).midX e124 (fun b_ o_ h_ => by have := hX21 b_ o_ h_; omega)).ext e129).ext e134).ext e143).ext e156).ext n160.ext).stX s165 (fun b_ o_ h_ => by have := hX21 b_ o_ h_; omega))
             refine lw_e (oe_callf (vs := [.agg #[.int .u64 (wv3 ((takE l Q).x)), .int .u64 (wv2 ((takE l Q).x)), .int .u64 (wv1 ((takE l Q).x)), .int .u64 (wv0 ((takE l Q).x)), .int .u64 (wv3 ((takE l Q).y)), .int .u64 (wv2 ((takE l Q).y)), .int .u64 (wv1 ((takE l Q).y)), .int .u64 (wv0 ((takE l Q).y)), .int .u64 (wv3 ((takE l Q).u)), .int .u64 (wv2 ((takE l Q).u)), .int .u64 (wv1 ((takE l Q).u)), .int .u64 (wv0 ((takE l Q).u)), .slice A145 ((takE l Q).es.length) c146], .agg #[.int .u64 (wv3 ((takE l Q).x)), .int .u64 (wv2 ((takE l Q).x)), .int .u64 (wv1 ((takE l Q).x)), .int .u64 (wv0 ((takE l Q).x)), .int .u64 (wv3 ((takE l Q).y)), .int .u64 (wv2 ((takE l Q).y)), .int .u64 (wv1 ((takE l Q).y)), .int .u64 (wv0 ((takE l Q).y)), .int .u64 (wv3 ((takE l Q).u)), .int .u64 (wv2 ((takE l Q).u)), .int .u64 (wv1 ((takE l Q).u)), .int .u64 (wv0 ((takE l Q).u)), .slice A14 ((takE l Q).es.length) c15]]) co22 (ar2 (T rfl rfl) (T rfl rfl)) (eqEvent_ok (c := c146) (d := c15) hft.1.1 hft.1.2.1 hft.1.2.2 (Wd.rdI (Ow.wd h169)) (Wd.rdI (Ow.wd h170)) (by first | rfl | omega) (by first | omega | (simp; done) | (simp; omega))) ?_)
             rintro _ w171 ⟨rfl, e172⟩
             have := Below.fresh e172
             have E173 := below_ext E167 E167.size e172
             refine lw_v (.bool false) (dv_not (b := true) (T rfl rfl)) ?_
             refine lw_v (.bool false) (dv_move (T rfl rfl)) ?_
             refine lw_vy (.slice A147 (takN l Q) c148) (d := 109) rfl rfl (rfl) (dv_move (T rfl rfl)) ?_
             refine lw_vy (.slice A16 (takN l Q) c17) (d := 109) rfl rfl (rfl) (dv_move (T rfl rfl)) ?_
             have h174 := (((hN154.ext n160.ext).st s165 (by omega)).ext e172)
             have h175 := ((((((((((h107.ext e109).mid e115 (by omega)).mid e124 (by omega)).ext e129).ext e134).ext e143).ext e156).ext n160.ext).st s165 (by omega)).ext e172)
             refine lw_ey (d := 109) rfl rfl (rfl) (oe_callf (vs := [.slice A147 (takN l Q) c148, .slice A16 (takN l Q) c17]) co19 (ar2 (T rfl rfl) (T rfl rfl)) (eqEventS_ok (c := c148) (d := c17) h174.nr (by omega) hxf2 h175.nr) ?_)
             rintro _ w176 ⟨rfl, e177⟩
             have := Below.fresh e177
             have E178 := below_ext E173 E173.size e177
             refine lw_vy (.bool false) (d := 109) rfl rfl (rfl) (dv_not (b := true) (T rfl rfl)) ?_
             refine lw_v (.bool false) (dv_pick_f (T rfl rfl) (T rfl rfl)) ?_
             refine lw_v (.bool false) (dv_move (T rfl rfl)) ?_
             refine lw_vy (.bool (decide (takS l Q))) (d := 115) rfl rfl (rfl) (dv_move (T rfl rfl)) ?_
             refine lw_vy (.bool (decide (takS l Q))) (d := 115) rfl rfl (rfl) (dv_move (T rfl rfl)) ?_
             refine lw_vy (.bool ((decide (takS l Q)) != (decide (takS l Q)))) (d := 115) rfl rfl (rfl) (dv_neqb (a := decide (takS l Q)) (b := decide (takS l Q)) ub4 (T rfl rfl) (T rfl rfl)) ?_
             refine lw_v (.bool ((decide (takS l Q)) != (decide (takS l Q)))) (dv_pick_f (T rfl rfl) (T rfl rfl)) ?_
             refine lw_nil ?_
             refine rk_cf (T rfl (congrArg Value.bool hb77)) ?_
             refine rk_skip ?_
             refine rk_seq ?_
             refine rk_reg ?_
             refine lw_v (.int .i64 1) (dv_assign C) ?_
             refine lw_nil ?_
             refine rk_seq ?_
             refine rk_reg ?_
             have H179 := (e177.blk (e172.blk (s165.blk (n160.ext.blk H162) (by omega))))
             refine lw_v (.agg #[.int .u64 (wv3 ((takE l Q).x)), .int .u64 (wv2 ((takE l Q).x)), .int .u64 (wv1 ((takE l Q).x)), .int .u64 (wv0 ((takE l Q).x)), .int .u64 (wv3 ((takE l Q).y)), .int .u64 (wv2 ((takE l Q).y)), .int .u64 (wv1 ((takE l Q).y)), .int .u64 (wv0 ((takE l Q).y)), .int .u64 (wv3 ((takE l Q).u)), .int .u64 (wv2 ((takE l Q).u)), .int .u64 (wv1 ((takE l Q).u)), .int .u64 (wv0 ((takE l Q).u)), .slice A43 ((takE l Q).es.length) c44]) (dv_loads (l := [.int .u64 (wv3 ((takE l Q).x)), .int .u64 (wv2 ((takE l Q).x)), .int .u64 (wv1 ((takE l Q).x)), .int .u64 (wv0 ((takE l Q).x)), .int .u64 (wv3 ((takE l Q).y)), .int .u64 (wv2 ((takE l Q).y)), .int .u64 (wv1 ((takE l Q).y)), .int .u64 (wv0 ((takE l Q).y)), .int .u64 (wv3 ((takE l Q).u)), .int .u64 (wv2 ((takE l Q).u)), .int .u64 (wv1 ((takE l Q).u)), .int .u64 (wv0 ((takE l Q).u)), .slice A43 ((takE l Q).es.length) c44]) agt52 sz52 (T rfl rfl) H179 rfl) ?_
             refine lw_v (.int .i64 1) (dv_move (T rfl rfl)) ?_
             have h180 := ((((((((h127.ext e129).ext e134).ext e143).ext e156).ext n160.ext).stX s165 (fun b_ o_ h_ => by have := hX50 b_ o_ h_; omega)).ext e172).ext e177)
             refine lw_e (oe_callf (vs := [.agg #[.int .u64 (wv3 ((takE l Q).x)), .int .u64 (wv2 ((takE l Q).x)), .int .u64 (wv1 ((takE l Q).x)), .int .u64 (wv0 ((takE l Q).x)), .int .u64 (wv3 ((takE l Q).y)), .int .u64 (wv2 ((takE l Q).y)), .int .u64 (wv1 ((takE l Q).y)), .int .u64 (wv0 ((takE l Q).y)), .int .u64 (wv3 ((takE l Q).u)), .int .u64 (wv2 ((takE l Q).u)), .int .u64 (wv1 ((takE l Q).u)), .int .u64 (wv0 ((takE l Q).u)), .slice A43 ((takE l Q).es.length) c44], .int .i64 1]) co25 (ar2 (T rfl rfl) (T rfl rfl)) (heldEvent_ok (c := c44) (Wd.rdI (Ow.wd h180)) (by first | rfl | exact mkL_len _ _) rfl (by omega) (by omega)) ?_)
             rintro _ w181 ⟨rfl, e182⟩
             have := Below.fresh e182
             have E183 := below_ext E178 E178.size e182
             refine lw_v (.int .i64 (1 + ((takE l Q).es.length : Int))) (dv_assign (T rfl rfl)) ?_
             refine lw_nil ?_
             refine rk_seq ?_
             refine rk_seq ?_
             refine rk_reg ?_
             refine lw_v (.int .i64 (1 + ((takE l Q).es.length : Int))) (dv_move (T rfl rfl)) ?_
             refine lw_v (.bool (decide ((1 + ((takE l Q).es.length : Int)) < 0))) (dv_lss (a := 1 + ((takE l Q).es.length : Int)) (b := 0) (T rfl rfl) C) ?_
             refine lw_nil ?_
             refine rk_cf (T rfl (congrArg Value.bool (decide_eq_false hb131))) ?_
             refine rk_skip ?_
             refine rk_seq ?_
             refine rk_reg ?_
             refine lw_v (.slice A45 (takN l Q) c46) (dv_move (T rfl rfl)) ?_
             refine lw_v (.int .i64 (1 + ((takE l Q).es.length : Int))) (dv_move (T rfl rfl)) ?_
             have h184 := ((((((((h132.ext e134).ext e143).ext e156).ext n160.ext).st s165 (by omega)).ext e172).ext e177).ext e182)
             refine lw_e (oe_callf (vs := [.slice A45 (takN l Q) c46, .int .i64 (1 + ((takE l Q).es.length : Int))]) co26 (ar2 (T rfl rfl) (T rfl rfl)) (heldEventS_ok (cc := c46) (E := (fun i_ => (shE Q i_).es)) h184.nr hlm121 hmd122 (fun i_ h_ => evF.n hxf2 h_) (by omega) (by omega)) ?_)
             rintro _ w185 ⟨rfl, e186⟩
             have := Below.fresh e186
             have E187 := below_ext E183 E183.size e186
             refine lw_v (.int .i64 (kAt (1 + ((takE l Q).es.length : Int)) ((fun i_ => (shE Q i_).es)) (takN l Q))) (dv_assign (T rfl rfl)) ?_
             refine lw_nil ?_
             refine rk_seq ?_
             refine rk_seq ?_
             refine rk_reg ?_
             refine lw_v (.int .i64 (kAt (1 + ((takE l Q).es.length : Int)) ((fun i_ => (shE Q i_).es)) (takN l Q))) (dv_move (T rfl rfl)) ?_
             refine lw_v (.bool (decide ((kAt (1 + ((takE l Q).es.length : Int)) ((fun i_ => (shE Q i_).es)) (takN l Q)) < 0))) (dv_lss (a := kAt (1 + ((takE l Q).es.length : Int)) ((fun i_ => (shE Q i_).es)) (takN l Q)) (b := 0) (T rfl rfl) C) ?_
             refine lw_nil ?_
             refine rk_cf (T rfl (congrArg Value.bool (decide_eq_false hb136))) ?_
             refine rk_skip ?_
             refine rk_seq ?_
             refine rk_seq ?_
             refine rk_reg ?_
             refine lw_v (.int .i64 (kAt (1 + ((takE l Q).es.length : Int)) ((fun i_ => (shE Q i_).es)) (takN l Q))) (dv_move (T rfl rfl)) ?_
             refine lw_v (.int .i64 (kAt (1 + ((takE l Q).es.length : Int)) ((fun i_ => (shE Q i_).es)) (takN l Q))) (dv_move (T rfl rfl)) ?_
             refine lw_v (.bool (decide ((kAt (1 + ((takE l Q).es.length : Int)) ((fun i_ => (shE Q i_).es)) (takN l Q)) ≠ (kAt (1 + ((takE l Q).es.length : Int)) ((fun i_ => (shE Q i_).es)) (takN l Q))))) (dv_neq (a := kAt (1 + ((takE l Q).es.length : Int)) ((fun i_ => (shE Q i_).es)) (takN l Q)) (b := kAt (1 + ((takE l Q).es.length : Int)) ((fun i_ => (shE Q i_).es)) (takN l Q)) (T rfl rfl) (T rfl rfl)) ?_
             refine lw_nil ?_
             refine rk_cf (T rfl (congrArg Value.bool (decide_eq_false hb137))) ?_
             refine rk_skip ?_
             refine rk_seq ?_
             refine rk_reg ?_
             refine lw_v (.bool true) (dv_assign C) ?_
             refine lw_nil ?_
             refine rk_ret Try.func5 (v := .bool true) (res1 Try.results5 (rv_tmp rfl rfl)) ⟨_, rfl, ?_⟩
             exact ⟨rfl, E187⟩
theorem lawEventTake_w {w : World} {A : Option Addr} {l c : Nat} {W : Nat → Nat → Int} {E : Nat → List Int} {SL : SlF} (hx : NR w 0 w.heap.size A l W E SL) (hlc : l ≤ c) (hcm : c ≤ 9223372036854775807) (hSm : ∀ i, i < l → (SL i).2 ≤ 9223372036854775807) (hW : ∀ i, i < l → ∀ j, j < 12 → 0 ≤ W i j ∧ W i j < 18446744073709551616) : Ct Try.prog 5 [.slice A l c] w fun v w1 => v = .bool true ∧ Ext w w1 := by
 obtain ⟨Q, hQ, hE, hf⟩ := evs_of E hW
 have hx2 : NR w 0 w.heap.size A l (fun i_ => evW (Q i_)) (fun i_ => (Q i_).es) SL := hx.congr hQ (fun i _ => hE i)
 exact lawEventTake_ok hx2 hlc hcm (fun i hi => Nat.le_trans (hx2.cap hi) (hSm i hi)) hf
end Go.Proofs.Ytmbpomcbdopgnaa.W
