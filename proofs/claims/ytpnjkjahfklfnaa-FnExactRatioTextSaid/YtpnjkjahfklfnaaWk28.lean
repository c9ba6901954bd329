/- Wk28: walks, written by a program of this session. -/
import Derived.Test.YtpnjkjahfklfnaaWk27
import Derived.Test.YtpnjkjahfklfnaaMa19
set_option linter.unusedVariables false
set_option linter.unusedSimpArgs false
namespace Go.Proofs.Ytpnjkjahfklfnaa.W
open Go Go.RowKit Go.Proofs.Ytpnjkjahfklfnaa.Fw
attribute [local irreducible] RunK LW AW DV OE Ct
theorem co102 : callOk Try.prog 102 = true := by kernel_rfl
theorem co50 : callOk Try.prog 50 = true := by kernel_rfl
theorem co53 : callOk Try.prog 53 = true := by kernel_rfl
theorem co61 : callOk Try.prog 61 = true := by kernel_rfl
theorem co62 : callOk Try.prog 62 = true := by kernel_rfl
theorem co63 : callOk Try.prog 63 = true := by kernel_rfl
theorem co86 : callOk Try.prog 86 = true := by kernel_rfl
theorem co96 : callOk Try.prog 96 = true := by kernel_rfl
theorem eg25 : Try.prog.eqGuardType Try.prog.depth 25 = false := by kernel_rfl
theorem fl25 : flatB Try.prog 25 .u64 4 = true := by kernel_rfl
set_option maxHeartbeats 1000000 in
theorem iWideText_ok {w : World} {x : Int} (fx_ : fits x)  : Ct Try.prog 63 [.agg #[.int .u64 (wv3 x), .int .u64 (wv2 x), .int .u64 (wv1 x), .int .u64 (wv0 x)]] w fun v w1 => v = .string (bOf (txtL x)) ∧ Ext w w1 := by
  refine ct_run (n := 6) Try.func63 rfl Try.ntmps63 rfl ?_
  have E0 : Below w.heap.size w w := Below.refl _ _
  refine rk_seq ?_
  refine rk_reg ?_
  refine lw_e (oe_box (v := .agg #[.int .u64 (wv3 x), .int .u64 (wv2 x), .int .u64 (wv1 x), .int .u64 (wv0 x)]) (cs := #[.int .u64 (wv3 x), .int .u64 (wv2 x), .int .u64 (wv1 x), .int .u64 (wv0 x)]) (T rfl rfl) rfl ?_)
  intro b1 w2 n3
  have N4 : w.heap.size ≤ b1 := n3.eq ▸ E0.size
  have E5 := below_ext E0 E0.size n3.ext
  refine lw_v (.string (bOf [])) (dv_assign C) ?_
  refine lw_nil ?_
  refine rk_seq ?_
  refine rk_reg ?_
  refine lw_v (.agg #[.int .u64 (wv3 x), .int .u64 (wv2 x), .int .u64 (wv1 x), .int .u64 (wv0 x)]) (dv_loads (l := [.int .u64 (wv3 x), .int .u64 (wv2 x), .int .u64 (wv1 x), .int .u64 (wv0 x)]) agt25 sz25 (T rfl rfl) n3.blk rfl) ?_
  refine lw_e (oe_callf (vs := [.agg #[.int .u64 (wv3 x), .int .u64 (wv2 x), .int .u64 (wv1 x), .int .u64 (wv0 x)]]) co47 (ar1 (T rfl rfl)) (wnumz_ok (z := x) fx_) ?_)
  rintro _ w11 ⟨nr6, A7, n8, c9, rfl, e12, h10⟩
  have E13 := below_ext E5 E5.size e12
  have lh10 := Num.len (by decide) h10
  refine lw_e (oe_callf (vs := [.agg #[.bool nr6, .slice A7 n8 c9]]) co102 (ar1 (T rfl rfl)) (ntext_ok h10 (by first | decide | omega)) ?_)
  rintro _ w15 ⟨rfl, e16⟩
  have E17 := below_ext E13 E13.size e16
  have ht14 := txt_len (h10).lt
  refine lw_v (.string (bOf (txtL x))) (dv_assign (T rfl rfl)) ?_
  refine lw_nil ?_
  refine rk_ret Try.func63 (v := .string (bOf (txtL x))) (res1 Try.results63 (rv_tmp rfl rfl)) ⟨_, rfl, ?_⟩
  exact ⟨rfl, E17⟩

set_option maxHeartbeats 1000000 in
theorem iWideOf_ok {w : World} {x : Int}  (hx : -9223372036854775808 ≤ x ∧ x < 9223372036854775808) : Ct Try.prog 62 [.int .i64 x] w fun v w1 => v = .agg #[.int .u64 (wv3 x), .int .u64 (wv2 x), .int .u64 (wv1 x), .int .u64 (wv0 x)] ∧ Ext w w1 := by
  refine ct_run (n := 12) Try.func62 rfl Try.ntmps62 rfl ?_
  have E0 : Below w.heap.size w w := Below.refl _ _
  refine rk_seq ?_
  refine rk_reg ?_
  refine lw_e (oe_alloc ze25 ?_)
  intro b1 w2 n3
  have N4 : w.heap.size ≤ b1 := n3.eq ▸ E0.size
  have E5 := below_ext E0 E0.size n3.ext
  refine lw_nil ?_
  refine rk_seq ?_
  refine rk_reg ?_
  refine lw_v (.int .i64 x) (dv_move (T rfl rfl)) ?_
  refine lw_e (oe_callf (vs := [.int .i64 x]) co77 (ar1 (T rfl rfl)) (whole_ok  (by omega)) ?_)
  rintro _ w11 ⟨nr6, A7, n8, c9, rfl, e12, h10⟩
  have E13 := below_ext E5 E5.size e12
  have lh10 := Num.len (by decide) h10
  refine lw_e (oe_callf (vs := [.agg #[.bool nr6, .slice A7 n8 c9]]) co96 (ar1 (T rfl rfl)) (nwide_ok h10 (by first | decide | omega)) ?_)
  rintro _ w15 ⟨rfl, e16⟩
  have E17 := below_ext E13 E13.size e16
  have bw14 := w_rg (x)
  refine lw_v (.tuple #[.agg #[.int .u64 (wv3 x), .int .u64 (wv2 x), .int .u64 (wv1 x), .int .u64 (wv0 x)], .bool (decide (fits x))]) (dv_move (T rfl rfl)) ?_
  refine lw_v (.agg #[.int .u64 (wv3 x), .int .u64 (wv2 x), .int .u64 (wv1 x), .int .u64 (wv0 x)]) (dv_extract (vs := #[.agg #[.int .u64 (wv3 x), .int .u64 (wv2 x), .int .u64 (wv1 x), .int .u64 (wv0 x)], .bool (decide (fits x))]) (T rfl rfl) rfl) ?_
  refine lw_v (.bool (decide (fits x))) (dv_extract (vs := #[.agg #[.int .u64 (wv3 x), .int .u64 (wv2 x), .int .u64 (wv1 x), .int .u64 (wv0 x)], .bool (decide (fits x))]) (T rfl rfl) rfl) ?_
  refine lw_e (oe_alloc ze25 ?_)
  intro b18 w19 n20
  have N21 : w.heap.size ≤ b18 := n20.eq ▸ E17.size
  have H22 := (e16.blk (e12.blk n3.blk))
  have : b1 < b18 := n20.eq ▸ lt_of_blk H22
  have E23 := below_ext E17 E17.size n20.ext
  refine lw_e (oe_store (v := .agg #[.int .u64 (wv3 x), .int .u64 (wv2 x), .int .u64 (wv1 x), .int .u64 (wv0 x)]) (vs := [.int .u64 (wv3 x), .int .u64 (wv2 x), .int .u64 (wv1 x), .int .u64 (wv0 x)]) (l := [.int .u64 (wv3 x), .int .u64 (wv2 x), .int .u64 (wv1 x), .int .u64 (wv0 x)]) (T rfl rfl) (T rfl rfl) sz25 rfl rfl rfl n20.blk rfl ?_)
  intro w24 s25 H26
  have E27 := below_st E23 N21 s25
  refine lw_v (.bool (decide (fits x))) (dv_assign (T rfl rfl)) ?_
  refine lw_nil ?_
  refine rk_seq ?_
  refine rk_reg ?_
  refine lw_v (.agg #[.int .u64 (wv3 x), .int .u64 (wv2 x), .int .u64 (wv1 x), .int .u64 (wv0 x)]) (dv_loads (l := [.int .u64 (wv3 x), .int .u64 (wv2 x), .int .u64 (wv1 x), .int .u64 (wv0 x)]) agt25 sz25 (T rfl rfl) H26 rfl) ?_
  have H28 := (s25.blk (n20.ext.blk H22) (by omega))
  refine lw_e (oe_store (v := .agg #[.int .u64 (wv3 x), .int .u64 (wv2 x), .int .u64 (wv1 x), .int .u64 (wv0 x)]) (vs := [.int .u64 (wv3 x), .int .u64 (wv2 x), .int .u64 (wv1 x), .int .u64 (wv0 x)]) (l := [.int .u64 (wv3 x), .int .u64 (wv2 x), .int .u64 (wv1 x), .int .u64 (wv0 x)]) (T rfl rfl) (T rfl rfl) sz25 rfl rfl rfl H28 rfl ?_)
  intro w29 s30 H31
  have E32 := below_st E27 N4 s30
  refine lw_nil ?_
  refine rk_ret Try.func62 (v := .agg #[.int .u64 (wv3 x), .int .u64 (wv2 x), .int .u64 (wv1 x), .int .u64 (wv0 x)]) (res1 Try.results62 (rv_cells (l := [.int .u64 (wv3 x), .int .u64 (wv2 x), .int .u64 (wv1 x), .int .u64 (wv0 x)]) agt25 sz25 rfl rfl H31 rfl)) ⟨_, rfl, ?_⟩
  exact ⟨rfl, E32⟩

set_option maxHeartbeats 1000000 in
theorem sWideOf_ok {w : World} {x : Int}  (hx : -9223372036854775808 ≤ x ∧ x < 9223372036854775808) : Ct Try.prog 65 [.int .i64 x] w fun v w1 => v = .agg #[.int .u64 (wv3 x), .int .u64 (wv2 x), .int .u64 (wv1 x), .int .u64 (wv0 x)] ∧ Ext w w1 := by
  refine ct_run (n := 12) Try.func65 rfl Try.ntmps65 rfl ?_
  have E0 : Below w.heap.size w w := Below.refl _ _
  refine rk_seq ?_
  refine rk_reg ?_
  refine lw_e (oe_alloc ze25 ?_)
  intro b1 w2 n3
  have N4 : w.heap.size ≤ b1 := n3.eq ▸ E0.size
  have E5 := below_ext E0 E0.size n3.ext
  refine lw_nil ?_
  refine rk_seq ?_
  refine rk_reg ?_
  refine lw_v (.int .i64 x) (dv_move (T rfl rfl)) ?_
  refine lw_e (oe_callf (vs := [.int .i64 x]) co60 (ar1 (T rfl rfl)) (l1Int_ok  (by omega)) ?_)
  rintro _ w11 ⟨nr6, A7, n8, c9, rfl, e12, h10⟩
  have E13 := below_ext E5 E5.size e12
  have lh10 := Num.len (by decide) h10
  refine lw_e (oe_callf (vs := [.agg #[.bool nr6, .slice A7 n8 c9]]) co86 (ar1 (T rfl rfl)) (l1Wide_ok h10 (by first | decide | omega)) ?_)
  rintro _ w15 ⟨rfl, e16⟩
  have E17 := below_ext E13 E13.size e16
  have bw14 := w_rg (x)
  refine lw_v (.tuple #[.agg #[.int .u64 (wv3 x), .int .u64 (wv2 x), .int .u64 (wv1 x), .int .u64 (wv0 x)], .bool (decide (fits x))]) (dv_move (T rfl rfl)) ?_
  refine lw_v (.agg #[.int .u64 (wv3 x), .int .u64 (wv2 x), .int .u64 (wv1 x), .int .u64 (wv0 x)]) (dv_extract (vs := #[.agg #[.int .u64 (wv3 x), .int .u64 (wv2 x), .int .u64 (wv1 x), .int .u64 (wv0 x)], .bool (decide (fits x))]) (T rfl rfl) rfl) ?_
  refine lw_v (.bool (decide (fits x))) (dv_extract (vs := #[.agg #[.int .u64 (wv3 x), .int .u64 (wv2 x), .int .u64 (wv1 x), .int .u64 (wv0 x)], .bool (decide (fits x))]) (T rfl rfl) rfl) ?_
  refine lw_e (oe_alloc ze25 ?_)
  intro b18 w19 n20
  have N21 : w.heap.size ≤ b18 := n20.eq ▸ E17.size
  have H22 := (e16.blk (e12.blk n3.blk))
  have : b1 < b18 := n20.eq ▸ lt_of_blk H22
  have E23 := below_ext E17 E17.size n20.ext
  refine lw_e (oe_store (v := .agg #[.int .u64 (wv3 x), .int .u64 (wv2 x), .int .u64 (wv1 x), .int .u64 (wv0 x)]) (vs := [.int .u64 (wv3 x), .int .u64 (wv2 x), .int .u64 (wv1 x), .int .u64 (wv0 x)]) (l := [.int .u64 (wv3 x), .int .u64 (wv2 x), .int .u64 (wv1 x), .int .u64 (wv0 x)]) (T rfl rfl) (T rfl rfl) sz25 rfl rfl rfl n20.blk rfl ?_)
  intro w24 s25 H26
  have E27 := below_st E23 N21 s25
  refine lw_v (.bool (decide (fits x))) (dv_assign (T rfl rfl)) ?_
  refine lw_nil ?_
  refine rk_seq ?_
  refine rk_reg ?_
  refine lw_v (.agg #[.int .u64 (wv3 x), .int .u64 (wv2 x), .int .u64 (wv1 x), .int .u64 (wv0 x)]) (dv_loads (l := [.int .u64 (wv3 x), .int .u64 (wv2 x), .int .u64 (wv1 x), .int .u64 (wv0 x)]) agt25 sz25 (T rfl rfl) H26 rfl) ?_
  have H28 := (s25.blk (n20.ext.blk H22) (by omega))
  refine lw_e (oe_store (v := .agg #[.int .u64 (wv3 x), .int .u64 (wv2 x), .int .u64 (wv1 x), .int .u64 (wv0 x)]) (vs := [.int .u64 (wv3 x), .int .u64 (wv2 x), .int .u64 (wv1 x), .int .u64 (wv0 x)]) (l := [.int .u64 (wv3 x), .int .u64 (wv2 x), .int .u64 (wv1 x), .int .u64 (wv0 x)]) (T rfl rfl) (T rfl rfl) sz25 rfl rfl rfl H28 rfl ?_)
  intro w29 s30 H31
  have E32 := below_st E27 N4 s30
  refine lw_nil ?_
  refine rk_ret Try.func65 (v := .agg #[.int .u64 (wv3 x), .int .u64 (wv2 x), .int .u64 (wv1 x), .int .u64 (wv0 x)]) (res1 Try.results65 (rv_cells (l := [.int .u64 (wv3 x), .int .u64 (wv2 x), .int .u64 (wv1 x), .int .u64 (wv0 x)]) agt25 sz25 rfl rfl H31 rfl)) ⟨_, rfl, ?_⟩
  exact ⟨rfl, E32⟩

set_option maxHeartbeats 1000000 in
theorem iRatioText_ok {w : World} {x y : Int} (fx_ : fits x) (fy_ : fits y)  : Ct Try.prog 27 [.agg #[.int .u64 (wv3 x), .int .u64 (wv2 x), .int .u64 (wv1 x), .int .u64 (wv0 x), .int .u64 (wv3 y), .int .u64 (wv2 y), .int .u64 (wv1 y), .int .u64 (wv0 y)]] w fun v w1 => v = .string (bOf (rTxt x y)) ∧ Ext w w1 := by
  refine ct_run (n := 23) Try.func27 rfl Try.ntmps27 rfl ?_
  have E0 : Below w.heap.size w w := Below.refl _ _
  have htx := txt_len (fits_natAbs fx_)
  have hty := txt_len (fits_natAbs fy_)
  refine rk_seq ?_
  refine rk_reg ?_
  refine lw_e (oe_box (v := .agg #[.int .u64 (wv3 x), .int .u64 (wv2 x), .int .u64 (wv1 x), .int .u64 (wv0 x), .int .u64 (wv3 y), .int .u64 (wv2 y), .int .u64 (wv1 y), .int .u64 (wv0 y)]) (cs := #[.int .u64 (wv3 x), .int .u64 (wv2 x), .int .u64 (wv1 x), .int .u64 (wv0 x), .int .u64 (wv3 y), .int .u64 (wv2 y), .int .u64 (wv1 y), .int .u64 (wv0 y)]) (T rfl rfl) rfl ?_)
  intro b1 w2 n3
  have N4 : w.heap.size ≤ b1 := n3.eq ▸ E0.size
  have E5 := below_ext E0 E0.size n3.ext
  refine lw_v (.string (bOf [])) (dv_assign C) ?_
  refine lw_nil ?_
  refine rk_seq ?_
  refine rk_block ?_
  refine rk_seq ?_
  refine rk_reg ?_
  refine lw_v (.agg #[.int .u64 (wv3 x), .int .u64 (wv2 x), .int .u64 (wv1 x), .int .u64 (wv0 x), .int .u64 (wv3 y), .int .u64 (wv2 y), .int .u64 (wv1 y), .int .u64 (wv0 y)]) (dv_loads (l := [.int .u64 (wv3 x), .int .u64 (wv2 x), .int .u64 (wv1 x), .int .u64 (wv0 x), .int .u64 (wv3 y), .int .u64 (wv2 y), .int .u64 (wv1 y), .int .u64 (wv0 y)]) agt27 sz27 (T rfl rfl) n3.blk rfl) ?_
  refine lw_e (oe_callf (vs := [.agg #[.int .u64 (wv3 x), .int .u64 (wv2 x), .int .u64 (wv1 x), .int .u64 (wv0 x), .int .u64 (wv3 y), .int .u64 (wv2 y), .int .u64 (wv1 y), .int .u64 (wv0 y)]]) co53 (ar1 (T rfl rfl)) (iRatioOk_ok (x := x) (y := y) fx_ fy_ ) ?_)
  rintro _ w6 ⟨rfl, e7⟩
  have E8 := below_ext E5 E5.size e7
  refine lw_v (.bool (decide (¬ (rOk x y)))) (dv_notd (p := rOk x y) (T rfl rfl)) ?_
  refine lw_v (.bool (decide (¬ (rOk x y)))) (dv_assign (T rfl rfl)) ?_
  refine lw_nil ?_
  by_cases hb9 : rOk x y
  · -- T
    refine rk_cf (T rfl (congrArg Value.bool (decide_eq_false (not_not_intro hb9)))) ?_
    refine rk_seq ?_
    refine rk_any (fun w => w.heap[b1]? = some (.cells #[.int .u64 (wv3 x), .int .u64 (wv2 x), .int .u64 (wv1 x), .int .u64 (wv0 x), .int .u64 (wv3 y), .int .u64 (wv2 y), .int .u64 (wv1 y), .int .u64 (wv0 y)] 27)) [] mo ?_
    intro w10 d11
    have E12 := below_ext E8 E8.size d11.ext
    have H13 := (d11.ext.blk (e7.blk n3.blk))
    refine aw_pure 0 (.pointer (some ⟨b1, 4, none⟩)) rfl (by kernel_rfl) .none H13 (fun _ => dv_fieldAddr (a := ⟨b1, 0, none⟩) (a' := ⟨b1, 4, none⟩) fo27_1 (T rfl rfl) rfl) ?_
    refine aw_load 1 (.agg #[.int .u64 (wv3 y), .int .u64 (wv2 y), .int .u64 (wv1 y), .int .u64 (wv0 y)]) rfl (by kernel_rfl) .none H13 (fun _ s => dv_loads (l := [.int .u64 (wv3 y), .int .u64 (wv2 y), .int .u64 (wv1 y), .int .u64 (wv0 y)]) agt25 sz25 (T rfl rfl) s rfl) ?_
    refine aw_one 2 rfl (by kernel_rfl) .none (oe_callf (vs := [.int .i64 1]) co62 (ar1 C) (iWideOf_ok (x := 1)  (by omega)) ?_)
    rintro _ w14 ⟨rfl, e15⟩
    have E16 := below_ext E12 E12.size e15
    have H17 := (e15.blk H13)
    refine ⟨.inr H17, ?_⟩
    refine aw_pure 3 (.bool (decide (([wv3 y, wv2 y, wv1 y, wv0 y] : List Int) = [wv3 (1 : Int), wv2 (1 : Int), wv1 (1 : Int), wv0 (1 : Int)]))) rfl (by kernel_rfl) .none H17 (fun _ => dv_eqls (k := .u64) (la := [wv3 y, wv2 y, wv1 y, wv0 y]) (lb := [wv3 (1 : Int), wv2 (1 : Int), wv1 (1 : Int), wv0 (1 : Int)]) fl25 eg25 (T rfl rfl) (T rfl rfl) rfl rfl) ?_
    refine aw_pure 4 (.bool (decide (([wv3 y, wv2 y, wv1 y, wv0 y] : List Int) = [wv3 (1 : Int), wv2 (1 : Int), wv1 (1 : Int), wv0 (1 : Int)]))) rfl (by kernel_rfl) .none H17 (fun _ => dv_assign (T rfl rfl)) ?_
    refine aw_done (by kernel_rfl) ?_
    by_cases hb18 : ([wv3 y, wv2 y, wv1 y, wv0 y] : List Int) = [wv3 (1 : Int), wv2 (1 : Int), wv1 (1 : Int), wv0 (1 : Int)]
    · -- TT
      have hz19 := (wl_eq fy_ (⟨by decide, by decide⟩ : fits (1 : Int))).1 hb18
      refine rk_ct (T rfl (congrArg Value.bool (decide_eq_true hb18))) ?_
      refine rk_seq ?_
      refine rk_reg ?_
      refine lw_v (.pointer (some ⟨b1, 0, none⟩)) (dv_fieldAddr (a := ⟨b1, 0, none⟩) (a' := ⟨b1, 0, none⟩) fo27_0 (T rfl rfl) rfl) ?_
      refine lw_v (.agg #[.int .u64 (wv3 x), .int .u64 (wv2 x), .int .u64 (wv1 x), .int .u64 (wv0 x)]) (dv_loads (l := [.int .u64 (wv3 x), .int .u64 (wv2 x), .int .u64 (wv1 x), .int .u64 (wv0 x)]) agt25 sz25 (T rfl rfl) H17 rfl) ?_
      refine lw_e (oe_callf (vs := [.agg #[.int .u64 (wv3 x), .int .u64 (wv2 x), .int .u64 (wv1 x), .int .u64 (wv0 x)]]) co63 (ar1 (T rfl rfl)) (iWideText_ok (x := x) fx_ ) ?_)
      rintro _ w20 ⟨rfl, e21⟩
      have E22 := below_ext E16 E16.size e21
      refine lw_v (.string (bOf (txtL x))) (dv_assign (T rfl rfl)) ?_
      refine lw_nil ?_
      refine rk_ret Try.func27 (v := .string (bOf (txtL x))) (res1 Try.results27 (rv_tmp rfl rfl)) ⟨_, rfl, ?_⟩
      exact ⟨(congrArg (fun l => Value.string (bOf l)) (by unfold rTxt; rw [if_pos (by first | assumption | simpa using ‹_›), if_pos (by first | assumption | (have := @sgnI_zero (y - 1); omega))])), E22⟩
    · -- TF
      have hz23 := mt (wl_eq fy_ (⟨by decide, by decide⟩ : fits (1 : Int))).2 hb18
      refine rk_cf (T rfl (congrArg Value.bool (decide_eq_false hb18))) ?_
      refine rk_skip ?_
      refine rk_inBlock ?_
      refine rk_seq ?_
      refine rk_any (fun w => w.heap[b1]? = some (.cells #[.int .u64 (wv3 x), .int .u64 (wv2 x), .int .u64 (wv1 x), .int .u64 (wv0 x), .int .u64 (wv3 y), .int .u64 (wv2 y), .int .u64 (wv1 y), .int .u64 (wv0 y)] 27)) [8] mo ?_
      intro w24 d25
      have E26 := below_ext E16 E16.size d25.ext
      have H27 := (d25.ext.blk H17)
      refine aw_pure 0 (.pointer (some ⟨b1, 0, none⟩)) rfl (by kernel_rfl) .none H27 (fun _ => dv_fieldAddr (a := ⟨b1, 0, none⟩) (a' := ⟨b1, 0, none⟩) fo27_0 (T rfl rfl) rfl) ?_
      refine aw_load 1 (.agg #[.int .u64 (wv3 x), .int .u64 (wv2 x), .int .u64 (wv1 x), .int .u64 (wv0 x)]) rfl (by kernel_rfl) .none H27 (fun _ s => dv_loads (l := [.int .u64 (wv3 x), .int .u64 (wv2 x), .int .u64 (wv1 x), .int .u64 (wv0 x)]) agt25 sz25 (T rfl rfl) s rfl) ?_
      refine aw_pure 4 (.pointer (some ⟨b1, 4, none⟩)) rfl (by kernel_rfl) .none H27 (fun _ => dv_fieldAddr (a := ⟨b1, 0, none⟩) (a' := ⟨b1, 4, none⟩) fo27_1 (T rfl rfl) rfl) ?_
      refine aw_load 5 (.agg #[.int .u64 (wv3 y), .int .u64 (wv2 y), .int .u64 (wv1 y), .int .u64 (wv0 y)]) rfl (by kernel_rfl) .none H27 (fun _ s => dv_loads (l := [.int .u64 (wv3 y), .int .u64 (wv2 y), .int .u64 (wv1 y), .int .u64 (wv0 y)]) agt25 sz25 (T rfl rfl) s rfl) ?_
      refine aw_one 2 rfl (by kernel_rfl) .none (oe_callf (vs := [.agg #[.int .u64 (wv3 x), .int .u64 (wv2 x), .int .u64 (wv1 x), .int .u64 (wv0 x)]]) co63 (ar1 (T rfl rfl)) (iWideText_ok (x := x) fx_ ) ?_)
      rintro _ w28 ⟨rfl, e29⟩
      have E30 := below_ext E26 E26.size e29
      have H31 := (e29.blk H27)
      refine ⟨.inr H31, ?_⟩
      refine aw_pure 3 (.string (bOf ((txtL x) ++ [47]))) rfl (by kernel_rfl) .none H31 (fun _ => dv_addS (L := (txtL x)) (M := [47]) (T rfl rfl) C (by simp; omega)) ?_
      refine aw_one 6 rfl (by kernel_rfl) .none (oe_callf (vs := [.agg #[.int .u64 (wv3 y), .int .u64 (wv2 y), .int .u64 (wv1 y), .int .u64 (wv0 y)]]) co63 (ar1 (T rfl rfl)) (iWideText_ok (x := y) fy_ ) ?_)
      rintro _ w32 ⟨rfl, e33⟩
      have E34 := below_ext E30 E30.size e33
      have H35 := (e33.blk H31)
      refine ⟨.inr H35, ?_⟩
      refine aw_pure 7 (.string (bOf (((txtL x) ++ [47]) ++ (txtL y)))) rfl (by kernel_rfl) .none H35 (fun _ => dv_addS (L := ((txtL x) ++ [47])) (M := (txtL y)) (T rfl rfl) (T rfl rfl) (by simp; omega)) ?_
      refine aw_last 8 (.string (bOf (((txtL x) ++ [47]) ++ (txtL y)))) rfl (by kernel_rfl) .none (fun _ => dv_assign (T rfl rfl)) ?_
      refine aw_done (by kernel_rfl) ?_
      refine rk_ret Try.func27 (v := .string (bOf (((txtL x) ++ [47]) ++ (txtL y)))) (res1 Try.results27 (rv_tmp rfl rfl)) ⟨_, rfl, ?_⟩
      exact ⟨(congrArg (fun l => Value.string (bOf l)) (by unfold rTxt; rw [if_pos (by first | assumption | simpa using ‹_›), if_neg (by first | assumption | (have := @sgnI_zero (y - 1); omega))])), E34⟩
  · -- F
    refine rk_ct (T rfl (congrArg Value.bool (decide_eq_true hb9))) ?_
    refine rk_seq ?_
    refine rk_reg ?_
    refine lw_v (.string (bOf [])) (dv_assign C) ?_
    refine lw_nil ?_
    refine rk_ret Try.func27 (v := .string (bOf [])) (res1 Try.results27 (rv_tmp rfl rfl)) ⟨_, rfl, ?_⟩
    exact ⟨(congrArg (fun l => Value.string (bOf l)) (by unfold rTxt; rw [if_neg (by first | assumption | simpa using ‹_›)])), E8⟩

set_option maxHeartbeats 1000000 in
theorem sRatioText_ok {w : World} {x y : Int} (fx_ : fits x) (fy_ : fits y)  : Ct Try.prog 26 [.agg #[.int .u64 (wv3 x), .int .u64 (wv2 x), .int .u64 (wv1 x), .int .u64 (wv0 x), .int .u64 (wv3 y), .int .u64 (wv2 y), .int .u64 (wv1 y), .int .u64 (wv0 y)]] w fun v w1 => v = .string (bOf (rTxt x y)) ∧ Ext w w1 := by
  refine ct_run (n := 25) Try.func26 rfl Try.ntmps26 rfl ?_
  have E0 : Below w.heap.size w w := Below.refl _ _
  have htx := txt_len (fits_natAbs fx_)
  have hty := txt_len (fits_natAbs fy_)
  refine rk_seq ?_
  refine rk_reg ?_
  refine lw_e (oe_box (v := .agg #[.int .u64 (wv3 x), .int .u64 (wv2 x), .int .u64 (wv1 x), .int .u64 (wv0 x), .int .u64 (wv3 y), .int .u64 (wv2 y), .int .u64 (wv1 y), .int .u64 (wv0 y)]) (cs := #[.int .u64 (wv3 x), .int .u64 (wv2 x), .int .u64 (wv1 x), .int .u64 (wv0 x), .int .u64 (wv3 y), .int .u64 (wv2 y), .int .u64 (wv1 y), .int .u64 (wv0 y)]) (T rfl rfl) rfl ?_)
  intro b1 w2 n3
  have N4 : w.heap.size ≤ b1 := n3.eq ▸ E0.size
  have E5 := below_ext E0 E0.size n3.ext
  refine lw_v (.string (bOf [])) (dv_assign C) ?_
  refine lw_nil ?_
  refine rk_seq ?_
  refine rk_seq ?_
  refine rk_reg ?_
  refine lw_v (.agg #[.int .u64 (wv3 x), .int .u64 (wv2 x), .int .u64 (wv1 x), .int .u64 (wv0 x), .int .u64 (wv3 y), .int .u64 (wv2 y), .int .u64 (wv1 y), .int .u64 (wv0 y)]) (dv_loads (l := [.int .u64 (wv3 x), .int .u64 (wv2 x), .int .u64 (wv1 x), .int .u64 (wv0 x), .int .u64 (wv3 y), .int .u64 (wv2 y), .int .u64 (wv1 y), .int .u64 (wv0 y)]) agt27 sz27 (T rfl rfl) n3.blk rfl) ?_
  refine lw_e (oe_callf (vs := [.agg #[.int .u64 (wv3 x), .int .u64 (wv2 x), .int .u64 (wv1 x), .int .u64 (wv0 x), .int .u64 (wv3 y), .int .u64 (wv2 y), .int .u64 (wv1 y), .int .u64 (wv0 y)]]) co50 (ar1 (T rfl rfl)) (sRatioOk_ok (x := x) (y := y) fx_ fy_ ) ?_)
  rintro _ w6 ⟨rfl, e7⟩
  have E8 := below_ext E5 E5.size e7
  refine lw_v (.bool (decide (¬ (rOk x y)))) (dv_notd (p := rOk x y) (T rfl rfl)) ?_
  refine lw_nil ?_
  by_cases hb9 : rOk x y
  · -- T
    refine rk_cf (T rfl (congrArg Value.bool (decide_eq_false (not_not_intro hb9)))) ?_
    refine rk_skip ?_
    refine rk_seq ?_
    refine rk_reg ?_
    have H10 := (e7.blk n3.blk)
    refine lw_v (.agg #[.int .u64 (wv3 x), .int .u64 (wv2 x), .int .u64 (wv1 x), .int .u64 (wv0 x), .int .u64 (wv3 y), .int .u64 (wv2 y), .int .u64 (wv1 y), .int .u64 (wv0 y)]) (dv_loads (l := [.int .u64 (wv3 x), .int .u64 (wv2 x), .int .u64 (wv1 x), .int .u64 (wv0 x), .int .u64 (wv3 y), .int .u64 (wv2 y), .int .u64 (wv1 y), .int .u64 (wv0 y)]) agt27 sz27 (T rfl rfl) H10 rfl) ?_
    refine lw_e (oe_callf (vs := [.agg #[.int .u64 (wv3 x), .int .u64 (wv2 x), .int .u64 (wv1 x), .int .u64 (wv0 x), .int .u64 (wv3 y), .int .u64 (wv2 y), .int .u64 (wv1 y), .int .u64 (wv0 y)]]) co52 (ar1 (T rfl rfl)) (sratio_ok fx_ fy_  ) ?_)
    rintro _ w21 ⟨nr11, A12, n13, c14, nr15, A16, n17, c18, rfl, e22, h19, h20⟩
    have E23 := below_ext E8 E8.size e22
    have lh19 := Num.len (by decide) h19
    have lh20 := Num.len (by decide) h20
    refine lw_e (oe_alloc ze64 ?_)
    intro b24 w25 n26
    have N27 : w.heap.size ≤ b24 := n26.eq ▸ E23.size
    have H28 := (e22.blk H10)
    have : b1 < b24 := n26.eq ▸ lt_of_blk H28
    have E29 := below_ext E23 E23.size n26.ext
    refine lw_e (oe_store (v := .agg #[.bool nr11, .slice A12 n13 c14, .bool nr15, .slice A16 n17 c18]) (vs := [.bool nr11, .slice A12 n13 c14, .bool nr15, .slice A16 n17 c18]) (l := [.bool nr11, .slice A12 n13 c14, .bool nr15, .slice A16 n17 c18]) (T rfl rfl) (T rfl rfl) sz64 rfl rfl rfl n26.blk rfl ?_)
    intro w30 s31 H32
    have E33 := below_st E29 N27 s31
    refine lw_nil ?_
    refine rk_seq ?_
    refine rk_seq ?_
    refine rk_any (fun w => w.heap[b24]? = some (.cells #[.bool nr11, .slice A12 n13 c14, .bool nr15, .slice A16 n17 c18] 64)) [] mo ?_
    intro w34 d35
    have E36 := below_ext E33 E33.size d35.ext
    have H37 := (d35.ext.blk H32)
    refine aw_pure 0 (.pointer (some ⟨b24, 2, none⟩)) rfl (by kernel_rfl) .none H37 (fun _ => dv_fieldAddr (a := ⟨b24, 0, none⟩) (a' := ⟨b24, 2, none⟩) fo64_1 (T rfl rfl) rfl) ?_
    refine aw_load 1 (.agg #[.bool nr15, .slice A16 n17 c18]) rfl (by kernel_rfl) .none H37 (fun _ s => dv_loads (l := [.bool nr15, .slice A16 n17 c18]) agt62 sz62 (T rfl rfl) s rfl) ?_
    refine aw_one 2 rfl (by kernel_rfl) .none (oe_callf (vs := [.int .i64 1]) co60 (ar1 C) (l1Int_ok  (by omega)) ?_)
    rintro _ w43 ⟨nr38, A39, n40, c41, rfl, e44, h42⟩
    have E45 := below_ext E36 E36.size e44
    have lh42 := Num.len (by decide) h42
    have H46 := (e44.blk H37)
    refine ⟨.inr H46, ?_⟩
    have h47 := ((((h20.ext n26.ext).st s31 n26.blk (by decide)).ext d35.ext).ext e44)
    refine aw_one 3 rfl (by kernel_rfl) .none (oe_callf (vs := [.agg #[.bool nr15, .slice A16 n17 c18], .agg #[.bool nr38, .slice A39 n40 c41]]) co59 (ar2 (T rfl rfl) (T rfl rfl)) (l1Cmp_ok h47 h42 (by first | decide | omega) (by first | decide | omega)) ?_)
    rintro _ w48 ⟨rfl, e49⟩
    have E50 := below_ext E45 E45.size e49
    have H51 := (e49.blk H46)
    refine ⟨.inr H51, ?_⟩
    refine aw_pure 4 (.bool (decide ((sgnI (y - 1)) = 0))) rfl (by kernel_rfl) .none H51 (fun _ => dv_eql (a := sgnI (y - 1)) (b := 0) (T rfl rfl) C) ?_
    refine aw_done (by kernel_rfl) ?_
    by_cases hb52 : (sgnI (y - 1)) = 0
    · -- TT
      refine rk_ct (T rfl (congrArg Value.bool (decide_eq_true hb52))) ?_
      refine rk_seq ?_
      refine rk_reg ?_
      refine lw_v (.pointer (some ⟨b24, 0, none⟩)) (dv_fieldAddr (a := ⟨b24, 0, none⟩) (a' := ⟨b24, 0, none⟩) fo64_0 (T rfl rfl) rfl) ?_
      refine lw_v (.agg #[.bool nr11, .slice A12 n13 c14]) (dv_loads (l := [.bool nr11, .slice A12 n13 c14]) agt62 sz62 (T rfl rfl) H51 rfl) ?_
      have h53 := (((((h19.ext n26.ext).st s31 n26.blk (by decide)).ext d35.ext).ext e44).ext e49)
      refine lw_e (oe_callf (vs := [.agg #[.bool nr11, .slice A12 n13 c14]]) co61 (ar1 (T rfl rfl)) (l1Text_ok h53 (by first | decide | omega)) ?_)
      rintro _ w55 ⟨rfl, e56⟩
      have E57 := below_ext E50 E50.size e56
      have ht54 := txt_len (h53).lt
      refine lw_v (.string (bOf (txtL x))) (dv_assign (T rfl rfl)) ?_
      refine lw_nil ?_
      refine rk_ret Try.func26 (v := .string (bOf (txtL x))) (res1 Try.results26 (rv_tmp rfl rfl)) ⟨_, rfl, ?_⟩
      exact ⟨(congrArg (fun l => Value.string (bOf l)) (by unfold rTxt; rw [if_pos (by first | assumption | simpa using ‹_›), if_pos (by first | assumption | (have := @sgnI_zero (y - 1); omega))])), E57⟩
    · -- TF
      refine rk_cf (T rfl (congrArg Value.bool (decide_eq_false hb52))) ?_
      refine rk_skip ?_
      refine rk_seq ?_
      refine rk_any (fun w => w.heap[b24]? = some (.cells #[.bool nr11, .slice A12 n13 c14, .bool nr15, .slice A16 n17 c18] 64)) [8] mo ?_
      intro w58 d59
      have E60 := below_ext E50 E50.size d59.ext
      have H61 := (d59.ext.blk H51)
      refine aw_pure 0 (.pointer (some ⟨b24, 0, none⟩)) rfl (by kernel_rfl) .none H61 (fun _ => dv_fieldAddr (a := ⟨b24, 0, none⟩) (a' := ⟨b24, 0, none⟩) fo64_0 (T rfl rfl) rfl) ?_
      refine aw_load 1 (.agg #[.bool nr11, .slice A12 n13 c14]) rfl (by kernel_rfl) .none H61 (fun _ s => dv_loads (l := [.bool nr11, .slice A12 n13 c14]) agt62 sz62 (T rfl rfl) s rfl) ?_
      refine aw_pure 4 (.pointer (some ⟨b24, 2, none⟩)) rfl (by kernel_rfl) .none H61 (fun _ => dv_fieldAddr (a := ⟨b24, 0, none⟩) (a' := ⟨b24, 2, none⟩) fo64_1 (T rfl rfl) rfl) ?_
      refine aw_load 5 (.agg #[.bool nr15, .slice A16 n17 c18]) rfl (by kernel_rfl) .none H61 (fun _ s => dv_loads (l := [.bool nr15, .slice A16 n17 c18]) agt62 sz62 (T rfl rfl) s rfl) ?_
      have h62 := ((((((h19.ext n26.ext).st s31 n26.blk (by decide)).ext d35.ext).ext e44).ext e49).ext d59.ext)
      refine aw_one 2 rfl (by kernel_rfl) .none (oe_callf (vs := [.agg #[.bool nr11, .slice A12 n13 c14]]) co61 (ar1 (T rfl rfl)) (l1Text_ok h62 (by first | decide | omega)) ?_)
      rintro _ w64 ⟨rfl, e65⟩
      have E66 := below_ext E60 E60.size e65
      have ht63 := txt_len (h62).lt
      have H67 := (e65.blk H61)
      refine ⟨.inr H67, ?_⟩
      refine aw_pure 3 (.string (bOf ((txtL x) ++ [47]))) rfl (by kernel_rfl) .none H67 (fun _ => dv_addS (L := (txtL x)) (M := [47]) (T rfl rfl) C (by simp; omega)) ?_
      have h68 := (((h47.ext e49).ext d59.ext).ext e65)
      refine aw_one 6 rfl (by kernel_rfl) .none (oe_callf (vs := [.agg #[.bool nr15, .slice A16 n17 c18]]) co61 (ar1 (T rfl rfl)) (l1Text_ok h68 (by first | decide | omega)) ?_)
      rintro _ w70 ⟨rfl, e71⟩
      have E72 := below_ext E66 E66.size e71
      have ht69 := txt_len (h68).lt
      have H73 := (e71.blk H67)
      refine ⟨.inr H73, ?_⟩
      refine aw_pure 7 (.string (bOf (((txtL x) ++ [47]) ++ (txtL y)))) rfl (by kernel_rfl) .none H73 (fun _ => dv_addS (L := ((txtL x) ++ [47])) (M := (txtL y)) (T rfl rfl) (T rfl rfl) (by simp; omega)) ?_
      refine aw_last 8 (.string (bOf (((txtL x) ++ [47]) ++ (txtL y)))) rfl (by kernel_rfl) .none (fun _ => dv_assign (T rfl rfl)) ?_
      refine aw_done (by kernel_rfl) ?_
      refine rk_ret Try.func26 (v := .string (bOf (((txtL x) ++ [47]) ++ (txtL y)))) (res1 Try.results26 (rv_tmp rfl rfl)) ⟨_, rfl, ?_⟩
      exact ⟨(congrArg (fun l => Value.string (bOf l)) (by unfold rTxt; rw [if_pos (by first | assumption | simpa using ‹_›), if_neg (by first | assumption | (have := @sgnI_zero (y - 1); omega))])), E72⟩
  · -- F
    refine rk_ct (T rfl (congrArg Value.bool (decide_eq_true hb9))) ?_
    refine rk_seq ?_
    refine rk_reg ?_
    refine lw_v (.string (bOf [])) (dv_assign C) ?_
    refine lw_nil ?_
    refine rk_ret Try.func26 (v := .string (bOf [])) (res1 Try.results26 (rv_tmp rfl rfl)) ⟨_, rfl, ?_⟩
    exact ⟨(congrArg (fun l => Value.string (bOf l)) (by unfold rTxt; rw [if_neg (by first | assumption | simpa using ‹_›)])), E8⟩

end Go.Proofs.Ytpnjkjahfklfnaa.W
