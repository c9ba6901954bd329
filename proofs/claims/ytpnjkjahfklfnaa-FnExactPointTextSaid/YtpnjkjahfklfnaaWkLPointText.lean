/- WkLPointText: walks, written by a program of this session. -/
import Derived.Test.YtpnjkjahfklfnaaWk36
import Derived.Test.YtpnjkjahfklfnaaMa20
set_option linter.unusedVariables false
set_option linter.unusedSimpArgs false
namespace Go.Proofs.Ytpnjkjahfklfnaa.W
open Go Go.RowKit Go.Proofs.Ytpnjkjahfklfnaa.Fw
attribute [local irreducible] RunK LW AW DV OE Ct
theorem agt43 : aggB Try.prog 43 = some true := by kernel_rfl
theorem co102 : callOk Try.prog 102 = true := by kernel_rfl
theorem co30 : callOk Try.prog 30 = true := by kernel_rfl
theorem co31 : callOk Try.prog 31 = true := by kernel_rfl
theorem co32 : callOk Try.prog 32 = true := by kernel_rfl
theorem co40 : callOk Try.prog 40 = true := by kernel_rfl
theorem co41 : callOk Try.prog 41 = true := by kernel_rfl
theorem co61 : callOk Try.prog 61 = true := by kernel_rfl
theorem co62 : callOk Try.prog 62 = true := by kernel_rfl
theorem co63 : callOk Try.prog 63 = true := by kernel_rfl
theorem co86 : callOk Try.prog 86 = true := by kernel_rfl
theorem co96 : callOk Try.prog 96 = true := by kernel_rfl
theorem eg25 : Try.prog.eqGuardType Try.prog.depth 25 = false := by kernel_rfl
theorem fl25 : flatB Try.prog 25 .u64 4 = true := by kernel_rfl
theorem sz43 : sizeB Try.prog 43 = some 12 := by kernel_rfl
set_option maxHeartbeats 1000000 in
theorem iWideText_ok {w : World} {x : Int} (fx_ : fits x)  : Ct Try.prog 63 [.agg #[.int .u64 (wv3 x), .int .u64 (wv2 x), .int .u64 (wv1 x), .int .u64 (wv0 x)]] w fun v w1 => v = .string (bOf (txtL x)) ∧ Ext w w1 := by
  refine ct_run (n := 6) Try.func63 rfl Try.ntmps63 rfl ?_
  have E0 : Below w.heap.size w w := Below.refl _ _
  refine rk_seq ?_
  refine rk_reg ?_
  refine lw_e (oe_box (v := .agg #[.int .u64 (wv3 x), .int .u64 (wv2 x), .int .u64 (wv1 x), .int .u64 (wv0 x)]) (cs := #[.int .u64 (wv3 x), .int .u64 (wv2 x), .int .u64 (wv1 x), .int .u64 (wv0 x)]) (T rfl rfl) rfl ?_)
  intro b1 w2 n3
  have N4 : w.heap.size ≤ b1 := n3.eq ▸ E0.size
  have E5 := below_ext E0 E0.size n3.ext
  refine lw_v (.string (bOf [])) (dv_assign C) ?_
  refine lw_nil ?_
  refine rk_seq ?_
  refine rk_reg ?_
  refine lw_v (.agg #[.int .u64 (wv3 x), .int .u64 (wv2 x), .int .u64 (wv1 x), .int .u64 (wv0 x)]) (dv_loads (l := [.int .u64 (wv3 x), .int .u64 (wv2 x), .int .u64 (wv1 x), .int .u64 (wv0 x)]) agt25 sz25 (T rfl rfl) n3.blk rfl) ?_
  refine lw_e (oe_callf (vs := [.agg #[.int .u64 (wv3 x), .int .u64 (wv2 x), .int .u64 (wv1 x), .int .u64 (wv0 x)]]) co47 (ar1 (T rfl rfl)) (wnumz_ok (z := x) fx_) ?_)
  rintro _ w11 ⟨nr6, A7, n8, c9, rfl, e12, h10⟩
  have E13 := below_ext E5 E5.size e12
  have lh10 := Num.len (by decide) h10
  refine lw_e (oe_callf (vs := [.agg #[.bool nr6, .slice A7 n8 c9]]) co102 (ar1 (T rfl rfl)) (ntext_ok h10 (by first | decide | omega)) ?_)
  rintro _ w15 ⟨rfl, e16⟩
  have E17 := below_ext E13 E13.size e16
  have ht14 := txt_len (h10).lt
  refine lw_v (.string (bOf (txtL x))) (dv_assign (T rfl rfl)) ?_
  refine lw_nil ?_
  refine rk_ret Try.func63 (v := .string (bOf (txtL x))) (res1 Try.results63 (rv_tmp rfl rfl)) ⟨_, rfl, ?_⟩
  exact ⟨rfl, E17⟩

set_option maxHeartbeats 1000000 in
theorem iWideOf_ok {w : World} {x : Int}  (hx : -9223372036854775808 ≤ x ∧ x < 9223372036854775808) : Ct Try.prog 62 [.int .i64 x] w fun v w1 => v = .agg #[.int .u64 (wv3 x), .int .u64 (wv2 x), .int .u64 (wv1 x), .int .u64 (wv0 x)] ∧ Ext w w1 := by
  refine ct_run (n := 12) Try.func62 rfl Try.ntmps62 rfl ?_
  have E0 : Below w.heap.size w w := Below.refl _ _
  refine rk_seq ?_
  refine rk_reg ?_
  refine lw_e (oe_alloc ze25 ?_)
  intro b1 w2 n3
  have N4 : w.heap.size ≤ b1 := n3.eq ▸ E0.size
  have E5 := below_ext E0 E0.size n3.ext
  refine lw_nil ?_
  refine rk_seq ?_
  refine rk_reg ?_
  refine lw_v (.int .i64 x) (dv_move (T rfl rfl)) ?_
  refine lw_e (oe_callf (vs := [.int .i64 x]) co77 (ar1 (T rfl rfl)) (whole_ok  (by omega)) ?_)
  rintro _ w11 ⟨nr6, A7, n8, c9, rfl, e12, h10⟩
  have E13 := below_ext E5 E5.size e12
  have lh10 := Num.len (by decide) h10
  refine lw_e (oe_callf (vs := [.agg #[.bool nr6, .slice A7 n8 c9]]) co96 (ar1 (T rfl rfl)) (nwide_ok h10 (by first | decide | omega)) ?_)
  rintro _ w15 ⟨rfl, e16⟩
  have E17 := below_ext E13 E13.size e16
  have bw14 := w_rg (x)
  refine lw_v (.tuple #[.agg #[.int .u64 (wv3 x), .int .u64 (wv2 x), .int .u64 (wv1 x), .int .u64 (wv0 x)], .bool (decide (fits x))]) (dv_move (T rfl rfl)) ?_
  refine lw_v (.agg #[.int .u64 (wv3 x), .int .u64 (wv2 x), .int .u64 (wv1 x), .int .u64 (wv0 x)]) (dv_extract (vs := #[.agg #[.int .u64 (wv3 x), .int .u64 (wv2 x), .int .u64 (wv1 x), .int .u64 (wv0 x)], .bool (decide (fits x))]) (T rfl rfl) rfl) ?_
  refine lw_v (.bool (decide (fits x))) (dv_extract (vs := #[.agg #[.int .u64 (wv3 x), .int .u64 (wv2 x), .int .u64 (wv1 x), .int .u64 (wv0 x)], .bool (decide (fits x))]) (T rfl rfl) rfl) ?_
  refine lw_e (oe_alloc ze25 ?_)
  intro b18 w19 n20
  have N21 : w.heap.size ≤ b18 := n20.eq ▸ E17.size
  have H22 := (e16.blk (e12.blk n3.blk))
  have : b1 < b18 := n20.eq ▸ lt_of_blk H22
  have E23 := below_ext E17 E17.size n20.ext
  refine lw_e (oe_store (v := .agg #[.int .u64 (wv3 x), .int .u64 (wv2 x), .int .u64 (wv1 x), .int .u64 (wv0 x)]) (vs := [.int .u64 (wv3 x), .int .u64 (wv2 x), .int .u64 (wv1 x), .int .u64 (wv0 x)]) (l := [.int .u64 (wv3 x), .int .u64 (wv2 x), .int .u64 (wv1 x), .int .u64 (wv0 x)]) (T rfl rfl) (T rfl rfl) sz25 rfl rfl rfl n20.blk rfl ?_)
  intro w24 s25 H26
  have E27 := below_st E23 N21 s25
  refine lw_v (.bool (decide (fits x))) (dv_assign (T rfl rfl)) ?_
  refine lw_nil ?_
  refine rk_seq ?_
  refine rk_reg ?_
  refine lw_v (.agg #[.int .u64 (wv3 x), .int .u64 (wv2 x), .int .u64 (wv1 x), .int .u64 (wv0 x)]) (dv_loads (l := [.int .u64 (wv3 x), .int .u64 (wv2 x), .int .u64 (wv1 x), .int .u64 (wv0 x)]) agt25 sz25 (T rfl rfl) H26 rfl) ?_
  have H28 := (s25.blk (n20.ext.blk H22) (by omega))
  refine lw_e (oe_store (v := .agg #[.int .u64 (wv3 x), .int .u64 (wv2 x), .int .u64 (wv1 x), .int .u64 (wv0 x)]) (vs := [.int .u64 (wv3 x), .int .u64 (wv2 x), .int .u64 (wv1 x), .int .u64 (wv0 x)]) (l := [.int .u64 (wv3 x), .int .u64 (wv2 x), .int .u64 (wv1 x), .int .u64 (wv0 x)]) (T rfl rfl) (T rfl rfl) sz25 rfl rfl rfl H28 rfl ?_)
  intro w29 s30 H31
  have E32 := below_st E27 N4 s30
  refine lw_nil ?_
  refine rk_ret Try.func62 (v := .agg #[.int .u64 (wv3 x), .int .u64 (wv2 x), .int .u64 (wv1 x), .int .u64 (wv0 x)]) (res1 Try.results62 (rv_cells (l := [.int .u64 (wv3 x), .int .u64 (wv2 x), .int .u64 (wv1 x), .int .u64 (wv0 x)]) agt25 sz25 rfl rfl H31 rfl)) ⟨_, rfl, ?_⟩
  exact ⟨rfl, E32⟩

set_option maxHeartbeats 1000000 in
theorem sWideOf_ok {w : World} {x : Int}  (hx : -9223372036854775808 ≤ x ∧ x < 9223372036854775808) : Ct Try.prog 65 [.int .i64 x] w fun v w1 => v = .agg #[.int .u64 (wv3 x), .int .u64 (wv2 x), .int .u64 (wv1 x), .int .u64 (wv0 x)] ∧ Ext w w1 := by
  refine ct_run (n := 12) Try.func65 rfl Try.ntmps65 rfl ?_
  have E0 : Below w.heap.size w w := Below.refl _ _
  refine rk_seq ?_
  refine rk_reg ?_
  refine lw_e (oe_alloc ze25 ?_)
  intro b1 w2 n3
  have N4 : w.heap.size ≤ b1 := n3.eq ▸ E0.size
  have E5 := below_ext E0 E0.size n3.ext
  refine lw_nil ?_
  refine rk_seq ?_
  refine rk_reg ?_
  refine lw_v (.int .i64 x) (dv_move (T rfl rfl)) ?_
  refine lw_e (oe_callf (vs := [.int .i64 x]) co60 (ar1 (T rfl rfl)) (l1Int_ok  (by omega)) ?_)
  rintro _ w11 ⟨nr6, A7, n8, c9, rfl, e12, h10⟩
  have E13 := below_ext E5 E5.size e12
  have lh10 := Num.len (by decide) h10
  refine lw_e (oe_callf (vs := [.agg #[.bool nr6, .slice A7 n8 c9]]) co86 (ar1 (T rfl rfl)) (l1Wide_ok h10 (by first | decide | omega)) ?_)
  rintro _ w15 ⟨rfl, e16⟩
  have E17 := below_ext E13 E13.size e16
  have bw14 := w_rg (x)
  refine lw_v (.tuple #[.agg #[.int .u64 (wv3 x), .int .u64 (wv2 x), .int .u64 (wv1 x), .int .u64 (wv0 x)], .bool (decide (fits x))]) (dv_move (T rfl rfl)) ?_
  refine lw_v (.agg #[.int .u64 (wv3 x), .int .u64 (wv2 x), .int .u64 (wv1 x), .int .u64 (wv0 x)]) (dv_extract (vs := #[.agg #[.int .u64 (wv3 x), .int .u64 (wv2 x), .int .u64 (wv1 x), .int .u64 (wv0 x)], .bool (decide (fits x))]) (T rfl rfl) rfl) ?_
  refine lw_v (.bool (decide (fits x))) (dv_extract (vs := #[.agg #[.int .u64 (wv3 x), .int .u64 (wv2 x), .int .u64 (wv1 x), .int .u64 (wv0 x)], .bool (decide (fits x))]) (T rfl rfl) rfl) ?_
  refine lw_e (oe_alloc ze25 ?_)
  intro b18 w19 n20
  have N21 : w.heap.size ≤ b18 := n20.eq ▸ E17.size
  have H22 := (e16.blk (e12.blk n3.blk))
  have : b1 < b18 := n20.eq ▸ lt_of_blk H22
  have E23 := below_ext E17 E17.size n20.ext
  refine lw_e (oe_store (v := .agg #[.int .u64 (wv3 x), .int .u64 (wv2 x), .int .u64 (wv1 x), .int .u64 (wv0 x)]) (vs := [.int .u64 (wv3 x), .int .u64 (wv2 x), .int .u64 (wv1 x), .int .u64 (wv0 x)]) (l := [.int .u64 (wv3 x), .int .u64 (wv2 x), .int .u64 (wv1 x), .int .u64 (wv0 x)]) (T rfl rfl) (T rfl rfl) sz25 rfl rfl rfl n20.blk rfl ?_)
  intro w24 s25 H26
  have E27 := below_st E23 N21 s25
  refine lw_v (.bool (decide (fits x))) (dv_assign (T rfl rfl)) ?_
  refine lw_nil ?_
  refine rk_seq ?_
  refine rk_reg ?_
  refine lw_v (.agg #[.int .u64 (wv3 x), .int .u64 (wv2 x), .int .u64 (wv1 x), .int .u64 (wv0 x)]) (dv_loads (l := [.int .u64 (wv3 x), .int .u64 (wv2 x), .int .u64 (wv1 x), .int .u64 (wv0 x)]) agt25 sz25 (T rfl rfl) H26 rfl) ?_
  have H28 := (s25.blk (n20.ext.blk H22) (by omega))
  refine lw_e (oe_store (v := .agg #[.int .u64 (wv3 x), .int .u64 (wv2 x), .int .u64 (wv1 x), .int .u64 (wv0 x)]) (vs := [.int .u64 (wv3 x), .int .u64 (wv2 x), .int .u64 (wv1 x), .int .u64 (wv0 x)]) (l := [.int .u64 (wv3 x), .int .u64 (wv2 x), .int .u64 (wv1 x), .int .u64 (wv0 x)]) (T rfl rfl) (T rfl rfl) sz25 rfl rfl rfl H28 rfl ?_)
  intro w29 s30 H31
  have E32 := below_st E27 N4 s30
  refine lw_nil ?_
  refine rk_ret Try.func65 (v := .agg #[.int .u64 (wv3 x), .int .u64 (wv2 x), .int .u64 (wv1 x), .int .u64 (wv0 x)]) (res1 Try.results65 (rv_cells (l := [.int .u64 (wv3 x), .int .u64 (wv2 x), .int .u64 (wv1 x), .int .u64 (wv0 x)]) agt25 sz25 rfl rfl H31 rfl)) ⟨_, rfl, ?_⟩
  exact ⟨rfl, E32⟩

set_option maxHeartbeats 1000000 in
theorem iPointText_ok {w : World} {x y u : Int} (fx_ : fits x) (fy_ : fits y) (fu_ : fits u)  : Ct Try.prog 41 [.agg #[.int .u64 (wv3 x), .int .u64 (wv2 x), .int .u64 (wv1 x), .int .u64 (wv0 x), .int .u64 (wv3 y), .int .u64 (wv2 y), .int .u64 (wv1 y), .int .u64 (wv0 y), .int .u64 (wv3 u), .int .u64 (wv2 u), .int .u64 (wv1 u), .int .u64 (wv0 u)]] w fun v w1 => v = .string (bOf (pTxt x y u)) ∧ Ext w w1 := by
  refine ct_run (n := 26) Try.func41 rfl Try.ntmps41 rfl ?_
  have E0 : Below w.heap.size w w := Below.refl _ _
  have htx := txt_len (fits_natAbs fx_)
  have hty := txt_len (fits_natAbs fy_)
  have htu := txt_len (fits_natAbs fu_)
  refine rk_seq ?_
  refine rk_reg ?_
  refine lw_e (oe_box (v := .agg #[.int .u64 (wv3 x), .int .u64 (wv2 x), .int .u64 (wv1 x), .int .u64 (wv0 x), .int .u64 (wv3 y), .int .u64 (wv2 y), .int .u64 (wv1 y), .int .u64 (wv0 y), .int .u64 (wv3 u), .int .u64 (wv2 u), .int .u64 (wv1 u), .int .u64 (wv0 u)]) (cs := #[.int .u64 (wv3 x), .int .u64 (wv2 x), .int .u64 (wv1 x), .int .u64 (wv0 x), .int .u64 (wv3 y), .int .u64 (wv2 y), .int .u64 (wv1 y), .int .u64 (wv0 y), .int .u64 (wv3 u), .int .u64 (wv2 u), .int .u64 (wv1 u), .int .u64 (wv0 u)]) (T rfl rfl) rfl ?_)
  intro b1 w2 n3
  have N4 : w.heap.size ≤ b1 := n3.eq ▸ E0.size
  have E5 := below_ext E0 E0.size n3.ext
  refine lw_v (.string (bOf [])) (dv_assign C) ?_
  refine lw_nil ?_
  refine rk_seq ?_
  refine rk_seq ?_
  refine rk_reg ?_
  refine lw_v (.agg #[.int .u64 (wv3 x), .int .u64 (wv2 x), .int .u64 (wv1 x), .int .u64 (wv0 x), .int .u64 (wv3 y), .int .u64 (wv2 y), .int .u64 (wv1 y), .int .u64 (wv0 y), .int .u64 (wv3 u), .int .u64 (wv2 u), .int .u64 (wv1 u), .int .u64 (wv0 u)]) (dv_loads (l := [.int .u64 (wv3 x), .int .u64 (wv2 x), .int .u64 (wv1 x), .int .u64 (wv0 x), .int .u64 (wv3 y), .int .u64 (wv2 y), .int .u64 (wv1 y), .int .u64 (wv0 y), .int .u64 (wv3 u), .int .u64 (wv2 u), .int .u64 (wv1 u), .int .u64 (wv0 u)]) agt46 sz46 (T rfl rfl) n3.blk rfl) ?_
  refine lw_e (oe_callf (vs := [.agg #[.int .u64 (wv3 x), .int .u64 (wv2 x), .int .u64 (wv1 x), .int .u64 (wv0 x), .int .u64 (wv3 y), .int .u64 (wv2 y), .int .u64 (wv1 y), .int .u64 (wv0 y), .int .u64 (wv3 u), .int .u64 (wv2 u), .int .u64 (wv1 u), .int .u64 (wv0 u)]]) co32 (ar1 (T rfl rfl)) (iPointOk_ok (x := x) (y := y) (u := u) fx_ fy_ fu_ ) ?_)
  rintro _ w6 ⟨rfl, e7⟩
  have E8 := below_ext E5 E5.size e7
  refine lw_v (.bool (decide (¬ (pOk x y u)))) (dv_notd (p := pOk x y u) (T rfl rfl)) ?_
  refine lw_nil ?_
  by_cases hb9 : pOk x y u
  · -- T
    refine rk_cf (T rfl (congrArg Value.bool (decide_eq_false (not_not_intro hb9)))) ?_
    refine rk_skip ?_
    refine rk_seq ?_
    refine rk_any (fun w => w.heap[b1]? = some (.cells #[.int .u64 (wv3 x), .int .u64 (wv2 x), .int .u64 (wv1 x), .int .u64 (wv0 x), .int .u64 (wv3 y), .int .u64 (wv2 y), .int .u64 (wv1 y), .int .u64 (wv0 y), .int .u64 (wv3 u), .int .u64 (wv2 u), .int .u64 (wv1 u), .int .u64 (wv0 u)] 46)) [8] mo ?_
    intro w10 d11
    have E12 := below_ext E8 E8.size d11.ext
    have H13 := (d11.ext.blk (e7.blk n3.blk))
    refine aw_pure 0 (.pointer (some ⟨b1, 0, none⟩)) rfl (by kernel_rfl) .none H13 (fun _ => dv_fieldAddr (a := ⟨b1, 0, none⟩) (a' := ⟨b1, 0, none⟩) fo46_0 (T rfl rfl) rfl) ?_
    refine aw_load 1 (.agg #[.int .u64 (wv3 x), .int .u64 (wv2 x), .int .u64 (wv1 x), .int .u64 (wv0 x)]) rfl (by kernel_rfl) .none H13 (fun _ s => dv_loads (l := [.int .u64 (wv3 x), .int .u64 (wv2 x), .int .u64 (wv1 x), .int .u64 (wv0 x)]) agt25 sz25 (T rfl rfl) s rfl) ?_
    refine aw_pure 4 (.pointer (some ⟨b1, 4, none⟩)) rfl (by kernel_rfl) .none H13 (fun _ => dv_fieldAddr (a := ⟨b1, 0, none⟩) (a' := ⟨b1, 4, none⟩) fo46_1 (T rfl rfl) rfl) ?_
    refine aw_load 5 (.agg #[.int .u64 (wv3 y), .int .u64 (wv2 y), .int .u64 (wv1 y), .int .u64 (wv0 y)]) rfl (by kernel_rfl) .none H13 (fun _ s => dv_loads (l := [.int .u64 (wv3 y), .int .u64 (wv2 y), .int .u64 (wv1 y), .int .u64 (wv0 y)]) agt25 sz25 (T rfl rfl) s rfl) ?_
    refine aw_one 2 rfl (by kernel_rfl) .none (oe_callf (vs := [.agg #[.int .u64 (wv3 x), .int .u64 (wv2 x), .int .u64 (wv1 x), .int .u64 (wv0 x)]]) co63 (ar1 (T rfl rfl)) (iWideText_ok (x := x) fx_ ) ?_)
    rintro _ w14 ⟨rfl, e15⟩
    have E16 := below_ext E12 E12.size e15
    have H17 := (e15.blk H13)
    refine ⟨.inr H17, ?_⟩
    refine aw_pure 3 (.string (bOf ((txtL x) ++ [44]))) rfl (by kernel_rfl) .none H17 (fun _ => dv_addS (L := (txtL x)) (M := [44]) (T rfl rfl) C (by simp; omega)) ?_
    refine aw_one 6 rfl (by kernel_rfl) .none (oe_callf (vs := [.agg #[.int .u64 (wv3 y), .int .u64 (wv2 y), .int .u64 (wv1 y), .int .u64 (wv0 y)]]) co63 (ar1 (T rfl rfl)) (iWideText_ok (x := y) fy_ ) ?_)
    rintro _ w18 ⟨rfl, e19⟩
    have E20 := below_ext E16 E16.size e19
    have H21 := (e19.blk H17)
    refine ⟨.inr H21, ?_⟩
    refine aw_pure 7 (.string (bOf (((txtL x) ++ [44]) ++ (txtL y)))) rfl (by kernel_rfl) .none H21 (fun _ => dv_addS (L := ((txtL x) ++ [44])) (M := (txtL y)) (T rfl rfl) (T rfl rfl) (by simp; omega)) ?_
    refine aw_last 8 (.string (bOf (((txtL x) ++ [44]) ++ (txtL y)))) rfl (by kernel_rfl) .none (fun _ => dv_assign (T rfl rfl)) ?_
    refine aw_done (by kernel_rfl) ?_
    refine rk_seq ?_
    refine rk_seq ?_
    refine rk_any (fun w => w.heap[b1]? = some (.cells #[.int .u64 (wv3 x), .int .u64 (wv2 x), .int .u64 (wv1 x), .int .u64 (wv0 x), .int .u64 (wv3 y), .int .u64 (wv2 y), .int .u64 (wv1 y), .int .u64 (wv0 y), .int .u64 (wv3 u), .int .u64 (wv2 u), .int .u64 (wv1 u), .int .u64 (wv0 u)] 46)) [] mo ?_
    intro w22 d23
    have E24 := below_ext E20 E20.size d23.ext
    have H25 := (d23.ext.blk H21)
    refine aw_pure 0 (.pointer (some ⟨b1, 8, none⟩)) rfl (by kernel_rfl) .none H25 (fun _ => dv_fieldAddr (a := ⟨b1, 0, none⟩) (a' := ⟨b1, 8, none⟩) fo46_2 (T rfl rfl) rfl) ?_
    refine aw_load 1 (.agg #[.int .u64 (wv3 u), .int .u64 (wv2 u), .int .u64 (wv1 u), .int .u64 (wv0 u)]) rfl (by kernel_rfl) .none H25 (fun _ s => dv_loads (l := [.int .u64 (wv3 u), .int .u64 (wv2 u), .int .u64 (wv1 u), .int .u64 (wv0 u)]) agt25 sz25 (T rfl rfl) s rfl) ?_
    refine aw_one 2 rfl (by kernel_rfl) .none (oe_callf (vs := [.int .i64 1]) co62 (ar1 C) (iWideOf_ok (x := 1)  (by omega)) ?_)
    rintro _ w26 ⟨rfl, e27⟩
    have E28 := below_ext E24 E24.size e27
    have H29 := (e27.blk H25)
    refine ⟨.inr H29, ?_⟩
    refine aw_pure 3 (.bool (decide (([wv3 u, wv2 u, wv1 u, wv0 u] : List Int) ≠ [wv3 (1 : Int), wv2 (1 : Int), wv1 (1 : Int), wv0 (1 : Int)]))) rfl (by kernel_rfl) .none H29 (fun _ => dv_neqs (k := .u64) (la := [wv3 u, wv2 u, wv1 u, wv0 u]) (lb := [wv3 (1 : Int), wv2 (1 : Int), wv1 (1 : Int), wv0 (1 : Int)]) fl25 eg25 (T rfl rfl) (T rfl rfl) rfl rfl) ?_
    refine aw_done (by kernel_rfl) ?_
    by_cases hb30 : ([wv3 u, wv2 u, wv1 u, wv0 u] : List Int) ≠ [wv3 (1 : Int), wv2 (1 : Int), wv1 (1 : Int), wv0 (1 : Int)]
    · -- TT
      have hz31 := fun hh => hb30 ((wl_eq fu_ (⟨by decide, by decide⟩ : fits (1 : Int))).2 hh)
      refine rk_ct (T rfl (congrArg Value.bool (decide_eq_true hb30))) ?_
      refine rk_reg ?_
      refine lw_v (.string (bOf (((txtL x) ++ [44]) ++ (txtL y)))) (dv_move (T rfl rfl)) ?_
      refine lw_v (.pointer (some ⟨b1, 8, none⟩)) (dv_fieldAddr (a := ⟨b1, 0, none⟩) (a' := ⟨b1, 8, none⟩) fo46_2 (T rfl rfl) rfl) ?_
      refine lw_v (.agg #[.int .u64 (wv3 u), .int .u64 (wv2 u), .int .u64 (wv1 u), .int .u64 (wv0 u)]) (dv_loads (l := [.int .u64 (wv3 u), .int .u64 (wv2 u), .int .u64 (wv1 u), .int .u64 (wv0 u)]) agt25 sz25 (T rfl rfl) H29 rfl) ?_
      refine lw_e (oe_callf (vs := [.agg #[.int .u64 (wv3 u), .int .u64 (wv2 u), .int .u64 (wv1 u), .int .u64 (wv0 u)]]) co63 (ar1 (T rfl rfl)) (iWideText_ok (x := u) fu_ ) ?_)
      rintro _ w32 ⟨rfl, e33⟩
      have E34 := below_ext E28 E28.size e33
      refine lw_v (.string (bOf ([47] ++ (txtL u)))) (dv_addS (L := [47]) (M := (txtL u)) C (T rfl rfl) (by simp; omega)) ?_
      refine lw_v (.string (bOf ((((txtL x) ++ [44]) ++ (txtL y)) ++ ([47] ++ (txtL u))))) (dv_addS (L := (((txtL x) ++ [44]) ++ (txtL y))) (M := ([47] ++ (txtL u))) (T rfl rfl) (T rfl rfl) (by simp; omega)) ?_
      refine lw_v (.string (bOf ((((txtL x) ++ [44]) ++ (txtL y)) ++ ([47] ++ (txtL u))))) (dv_assign (T rfl rfl)) ?_
      refine lw_nil ?_
      refine rk_seq ?_
      refine rk_reg ?_
      refine lw_v (.string (bOf ((((txtL x) ++ [44]) ++ (txtL y)) ++ ([47] ++ (txtL u))))) (dv_move (T rfl rfl)) ?_
      refine lw_v (.string (bOf ((((txtL x) ++ [44]) ++ (txtL y)) ++ ([47] ++ (txtL u))))) (dv_assign (T rfl rfl)) ?_
      refine lw_nil ?_
      refine rk_ret Try.func41 (v := .string (bOf ((((txtL x) ++ [44]) ++ (txtL y)) ++ ([47] ++ (txtL u))))) (res1 Try.results41 (rv_tmp rfl rfl)) ⟨_, rfl, ?_⟩
      exact ⟨(congrArg (fun l => Value.string (bOf l)) (by unfold pTxt; rw [if_pos (by first | assumption | simpa using ‹_›), if_neg (by first | assumption | (have := @sgnI_zero (u - 1); omega))]; try simp only [List.append_assoc])), E34⟩
    · -- TF
      have hz35 := (wl_eq fu_ (⟨by decide, by decide⟩ : fits (1 : Int))).1 (Decidable.not_not.1 hb30)
      refine rk_cf (T rfl (congrArg Value.bool (decide_eq_false hb30))) ?_
      refine rk_skip ?_
      refine rk_seq ?_
      refine rk_reg ?_
      refine lw_v (.string (bOf (((txtL x) ++ [44]) ++ (txtL y)))) (dv_move (T rfl rfl)) ?_
      refine lw_v (.string (bOf (((txtL x) ++ [44]) ++ (txtL y)))) (dv_assign (T rfl rfl)) ?_
      refine lw_nil ?_
      refine rk_ret Try.func41 (v := .string (bOf (((txtL x) ++ [44]) ++ (txtL y)))) (res1 Try.results41 (rv_tmp rfl rfl)) ⟨_, rfl, ?_⟩
      exact ⟨(congrArg (fun l => Value.string (bOf l)) (by unfold pTxt; rw [if_pos (by first | assumption | simpa using ‹_›), if_pos (by first | assumption | (have := @sgnI_zero (u - 1); omega))]; try simp only [List.append_assoc])), E28⟩
  · -- F
    refine rk_ct (T rfl (congrArg Value.bool (decide_eq_true hb9))) ?_
    refine rk_seq ?_
    refine rk_reg ?_
    refine lw_v (.string (bOf [])) (dv_assign C) ?_
    refine lw_nil ?_
    refine rk_ret Try.func41 (v := .string (bOf [])) (res1 Try.results41 (rv_tmp rfl rfl)) ⟨_, rfl, ?_⟩
    exact ⟨(congrArg (fun l => Value.string (bOf l)) (by unfold pTxt; rw [if_neg (by first | assumption | simpa using ‹_›)])), E8⟩

set_option maxHeartbeats 1000000 in
theorem sPointText_ok {w : World} {x y u : Int} (fx_ : fits x) (fy_ : fits y) (fu_ : fits u)  : Ct Try.prog 40 [.agg #[.int .u64 (wv3 x), .int .u64 (wv2 x), .int .u64 (wv1 x), .int .u64 (wv0 x), .int .u64 (wv3 y), .int .u64 (wv2 y), .int .u64 (wv1 y), .int .u64 (wv0 y), .int .u64 (wv3 u), .int .u64 (wv2 u), .int .u64 (wv1 u), .int .u64 (wv0 u)]] w fun v w1 => v = .string (bOf (pTxt x y u)) ∧ Ext w w1 := by
  refine ct_run (n := 30) Try.func40 rfl Try.ntmps40 rfl ?_
  have E0 : Below w.heap.size w w := Below.refl _ _
  have htx := txt_len (fits_natAbs fx_)
  have hty := txt_len (fits_natAbs fy_)
  have htu := txt_len (fits_natAbs fu_)
  refine rk_seq ?_
  refine rk_reg ?_
  refine lw_e (oe_box (v := .agg #[.int .u64 (wv3 x), .int .u64 (wv2 x), .int .u64 (wv1 x), .int .u64 (wv0 x), .int .u64 (wv3 y), .int .u64 (wv2 y), .int .u64 (wv1 y), .int .u64 (wv0 y), .int .u64 (wv3 u), .int .u64 (wv2 u), .int .u64 (wv1 u), .int .u64 (wv0 u)]) (cs := #[.int .u64 (wv3 x), .int .u64 (wv2 x), .int .u64 (wv1 x), .int .u64 (wv0 x), .int .u64 (wv3 y), .int .u64 (wv2 y), .int .u64 (wv1 y), .int .u64 (wv0 y), .int .u64 (wv3 u), .int .u64 (wv2 u), .int .u64 (wv1 u), .int .u64 (wv0 u)]) (T rfl rfl) rfl ?_)
  intro b1 w2 n3
  have N4 : w.heap.size ≤ b1 := n3.eq ▸ E0.size
  have E5 := below_ext E0 E0.size n3.ext
  refine lw_v (.string (bOf [])) (dv_assign C) ?_
  refine lw_nil ?_
  refine rk_seq ?_
  refine rk_seq ?_
  refine rk_reg ?_
  refine lw_v (.agg #[.int .u64 (wv3 x), .int .u64 (wv2 x), .int .u64 (wv1 x), .int .u64 (wv0 x), .int .u64 (wv3 y), .int .u64 (wv2 y), .int .u64 (wv1 y), .int .u64 (wv0 y), .int .u64 (wv3 u), .int .u64 (wv2 u), .int .u64 (wv1 u), .int .u64 (wv0 u)]) (dv_loads (l := [.int .u64 (wv3 x), .int .u64 (wv2 x), .int .u64 (wv1 x), .int .u64 (wv0 x), .int .u64 (wv3 y), .int .u64 (wv2 y), .int .u64 (wv1 y), .int .u64 (wv0 y), .int .u64 (wv3 u), .int .u64 (wv2 u), .int .u64 (wv1 u), .int .u64 (wv0 u)]) agt46 sz46 (T rfl rfl) n3.blk rfl) ?_
  refine lw_e (oe_callf (vs := [.agg #[.int .u64 (wv3 x), .int .u64 (wv2 x), .int .u64 (wv1 x), .int .u64 (wv0 x), .int .u64 (wv3 y), .int .u64 (wv2 y), .int .u64 (wv1 y), .int .u64 (wv0 y), .int .u64 (wv3 u), .int .u64 (wv2 u), .int .u64 (wv1 u), .int .u64 (wv0 u)]]) co30 (ar1 (T rfl rfl)) (sPointOk_ok (x := x) (y := y) (u := u) fx_ fy_ fu_ ) ?_)
  rintro _ w6 ⟨rfl, e7⟩
  have E8 := below_ext E5 E5.size e7
  refine lw_v (.bool (decide (¬ (pOk x y u)))) (dv_notd (p := pOk x y u) (T rfl rfl)) ?_
  refine lw_nil ?_
  by_cases hb9 : pOk x y u
  · -- T
    refine rk_cf (T rfl (congrArg Value.bool (decide_eq_false (not_not_intro hb9)))) ?_
    refine rk_skip ?_
    refine rk_seq ?_
    refine rk_reg ?_
    have H10 := (e7.blk n3.blk)
    refine lw_v (.agg #[.int .u64 (wv3 x), .int .u64 (wv2 x), .int .u64 (wv1 x), .int .u64 (wv0 x), .int .u64 (wv3 y), .int .u64 (wv2 y), .int .u64 (wv1 y), .int .u64 (wv0 y), .int .u64 (wv3 u), .int .u64 (wv2 u), .int .u64 (wv1 u), .int .u64 (wv0 u)]) (dv_loads (l := [.int .u64 (wv3 x), .int .u64 (wv2 x), .int .u64 (wv1 x), .int .u64 (wv0 x), .int .u64 (wv3 y), .int .u64 (wv2 y), .int .u64 (wv1 y), .int .u64 (wv0 y), .int .u64 (wv3 u), .int .u64 (wv2 u), .int .u64 (wv1 u), .int .u64 (wv0 u)]) agt46 sz46 (T rfl rfl) H10 rfl) ?_
    refine lw_e (oe_callf (vs := [.agg #[.int .u64 (wv3 x), .int .u64 (wv2 x), .int .u64 (wv1 x), .int .u64 (wv0 x), .int .u64 (wv3 y), .int .u64 (wv2 y), .int .u64 (wv1 y), .int .u64 (wv0 y), .int .u64 (wv3 u), .int .u64 (wv2 u), .int .u64 (wv1 u), .int .u64 (wv0 u)]]) co68 (ar1 (T rfl rfl)) (l3Of_ok fx_ fy_ fu_  ) ?_)
    rintro _ w26 ⟨nr11, A12, n13, c14, nr15, A16, n17, c18, nr19, A20, n21, c22, rfl, e27, h23, h24, h25⟩
    have E28 := below_ext E8 E8.size e27
    have lh23 := Num.len (by decide) h23
    have lh24 := Num.len (by decide) h24
    have lh25 := Num.len (by decide) h25
    refine lw_e (oe_alloc ze92 ?_)
    intro b29 w30 n31
    have N32 : w.heap.size ≤ b29 := n31.eq ▸ E28.size
    have H33 := (e27.blk H10)
    have : b1 < b29 := n31.eq ▸ lt_of_blk H33
    have E34 := below_ext E28 E28.size n31.ext
    refine lw_e (oe_store (v := .agg #[.bool nr11, .slice A12 n13 c14, .bool nr15, .slice A16 n17 c18, .bool nr19, .slice A20 n21 c22]) (vs := [.bool nr11, .slice A12 n13 c14, .bool nr15, .slice A16 n17 c18, .bool nr19, .slice A20 n21 c22]) (l := [.bool nr11, .slice A12 n13 c14, .bool nr15, .slice A16 n17 c18, .bool nr19, .slice A20 n21 c22]) (T rfl rfl) (T rfl rfl) sz92 rfl rfl rfl n31.blk rfl ?_)
    intro w35 s36 H37
    have E38 := below_st E34 N32 s36
    refine lw_nil ?_
    refine rk_seq ?_
    refine rk_any (fun w => w.heap[b29]? = some (.cells #[.bool nr11, .slice A12 n13 c14, .bool nr15, .slice A16 n17 c18, .bool nr19, .slice A20 n21 c22] 92)) [8] mo ?_
    intro w39 d40
    have E41 := below_ext E38 E38.size d40.ext
    have H42 := (d40.ext.blk H37)
    refine aw_pure 0 (.pointer (some ⟨b29, 0, none⟩)) rfl (by kernel_rfl) .none H42 (fun _ => dv_fieldAddr (a := ⟨b29, 0, none⟩) (a' := ⟨b29, 0, none⟩) fo92_0 (T rfl rfl) rfl) ?_
    refine aw_load 1 (.agg #[.bool nr11, .slice A12 n13 c14]) rfl (by kernel_rfl) .none H42 (fun _ s => dv_loads (l := [.bool nr11, .slice A12 n13 c14]) agt62 sz62 (T rfl rfl) s rfl) ?_
    refine aw_pure 4 (.pointer (some ⟨b29, 2, none⟩)) rfl (by kernel_rfl) .none H42 (fun _ => dv_fieldAddr (a := ⟨b29, 0, none⟩) (a' := ⟨b29, 2, none⟩) fo92_1 (T rfl rfl) rfl) ?_
    refine aw_load 5 (.agg #[.bool nr15, .slice A16 n17 c18]) rfl (by kernel_rfl) .none H42 (fun _ s => dv_loads (l := [.bool nr15, .slice A16 n17 c18]) agt62 sz62 (T rfl rfl) s rfl) ?_
    have h43 := (((h23.ext n31.ext).st s36 n31.blk (by decide)).ext d40.ext)
    refine aw_one 2 rfl (by kernel_rfl) .none (oe_callf (vs := [.agg #[.bool nr11, .slice A12 n13 c14]]) co61 (ar1 (T rfl rfl)) (l1Text_ok h43 (by first | decide | omega)) ?_)
    rintro _ w45 ⟨rfl, e46⟩
    have E47 := below_ext E41 E41.size e46
    have ht44 := txt_len (h43).lt
    have H48 := (e46.blk H42)
    refine ⟨.inr H48, ?_⟩
    refine aw_pure 3 (.string (bOf ((txtL x) ++ [44]))) rfl (by kernel_rfl) .none H48 (fun _ => dv_addS (L := (txtL x)) (M := [44]) (T rfl rfl) C (by simp; omega)) ?_
    have h49 := ((((h24.ext n31.ext).st s36 n31.blk (by decide)).ext d40.ext).ext e46)
    refine aw_one 6 rfl (by kernel_rfl) .none (oe_callf (vs := [.agg #[.bool nr15, .slice A16 n17 c18]]) co61 (ar1 (T rfl rfl)) (l1Text_ok h49 (by first | decide | omega)) ?_)
    rintro _ w51 ⟨rfl, e52⟩
    have E53 := below_ext E47 E47.size e52
    have ht50 := txt_len (h49).lt
    have H54 := (e52.blk H48)
    refine ⟨.inr H54, ?_⟩
    refine aw_pure 7 (.string (bOf (((txtL x) ++ [44]) ++ (txtL y)))) rfl (by kernel_rfl) .none H54 (fun _ => dv_addS (L := ((txtL x) ++ [44])) (M := (txtL y)) (T rfl rfl) (T rfl rfl) (by simp; omega)) ?_
    refine aw_last 8 (.string (bOf (((txtL x) ++ [44]) ++ (txtL y)))) rfl (by kernel_rfl) .none (fun _ => dv_assign (T rfl rfl)) ?_
    refine aw_done (by kernel_rfl) ?_
    refine rk_seq ?_
    refine rk_seq ?_
    refine rk_any (fun w => w.heap[b29]? = some (.cells #[.bool nr11, .slice A12 n13 c14, .bool nr15, .slice A16 n17 c18, .bool nr19, .slice A20 n21 c22] 92)) [] mo ?_
    intro w55 d56
    have E57 := below_ext E53 E53.size d56.ext
    have H58 := (d56.ext.blk H54)
    refine aw_pure 0 (.pointer (some ⟨b29, 4, none⟩)) rfl (by kernel_rfl) .none H58 (fun _ => dv_fieldAddr (a := ⟨b29, 0, none⟩) (a' := ⟨b29, 4, none⟩) fo92_2 (T rfl rfl) rfl) ?_
    refine aw_load 1 (.agg #[.bool nr19, .slice A20 n21 c22]) rfl (by kernel_rfl) .none H58 (fun _ s => dv_loads (l := [.bool nr19, .slice A20 n21 c22]) agt62 sz62 (T rfl rfl) s rfl) ?_
    refine aw_one 2 rfl (by kernel_rfl) .none (oe_callf (vs := [.int .i64 1]) co60 (ar1 C) (l1Int_ok  (by omega)) ?_)
    rintro _ w64 ⟨nr59, A60, n61, c62, rfl, e65, h63⟩
    have E66 := below_ext E57 E57.size e65
    have lh63 := Num.len (by decide) h63
    have H67 := (e65.blk H58)
    refine ⟨.inr H67, ?_⟩
    have h68 := (((((((h25.ext n31.ext).st s36 n31.blk (by decide)).ext d40.ext).ext e46).ext e52).ext d56.ext).ext e65)
    refine aw_one 3 rfl (by kernel_rfl) .none (oe_callf (vs := [.agg #[.bool nr19, .slice A20 n21 c22], .agg #[.bool nr59, .slice A60 n61 c62]]) co59 (ar2 (T rfl rfl) (T rfl rfl)) (l1Cmp_ok h68 h63 (by first | decide | omega) (by first | decide | omega)) ?_)
    rintro _ w69 ⟨rfl, e70⟩
    have E71 := below_ext E66 E66.size e70
    have H72 := (e70.blk H67)
    refine ⟨.inr H72, ?_⟩
    refine aw_pure 4 (.bool (decide ((sgnI (u - 1)) = 0))) rfl (by kernel_rfl) .none H72 (fun _ => dv_eql (a := sgnI (u - 1)) (b := 0) (T rfl rfl) C) ?_
    refine aw_done (by kernel_rfl) ?_
    by_cases hb73 : (sgnI (u - 1)) = 0
    · -- TT
      refine rk_ct (T rfl (congrArg Value.bool (decide_eq_true hb73))) ?_
      refine rk_seq ?_
      refine rk_reg ?_
      refine lw_v (.string (bOf (((txtL x) ++ [44]) ++ (txtL y)))) (dv_move (T rfl rfl)) ?_
      refine lw_v (.string (bOf (((txtL x) ++ [44]) ++ (txtL y)))) (dv_assign (T rfl rfl)) ?_
      refine lw_nil ?_
      refine rk_ret Try.func40 (v := .string (bOf (((txtL x) ++ [44]) ++ (txtL y)))) (res1 Try.results40 (rv_tmp rfl rfl)) ⟨_, rfl, ?_⟩
      exact ⟨(congrArg (fun l => Value.string (bOf l)) (by unfold pTxt; rw [if_pos (by first | assumption | simpa using ‹_›), if_pos (by first | assumption | (have := @sgnI_zero (u - 1); omega))]; try simp only [List.append_assoc])), E71⟩
    · -- TF
      refine rk_cf (T rfl (congrArg Value.bool (decide_eq_false hb73))) ?_
      refine rk_skip ?_
      refine rk_seq ?_
      refine rk_reg ?_
      refine lw_v (.string (bOf (((txtL x) ++ [44]) ++ (txtL y)))) (dv_move (T rfl rfl)) ?_
      refine lw_v (.string (bOf ((((txtL x) ++ [44]) ++ (txtL y)) ++ [47]))) (dv_addS (L := (((txtL x) ++ [44]) ++ (txtL y))) (M := [47]) (T rfl rfl) C (by simp; omega)) ?_
      refine lw_v (.pointer (some ⟨b29, 4, none⟩)) (dv_fieldAddr (a := ⟨b29, 0, none⟩) (a' := ⟨b29, 4, none⟩) fo92_2 (T rfl rfl) rfl) ?_
      refine lw_v (.agg #[.bool nr19, .slice A20 n21 c22]) (dv_loads (l := [.bool nr19, .slice A20 n21 c22]) agt62 sz62 (T rfl rfl) H72 rfl) ?_
      have h74 := (h68.ext e70)
      refine lw_e (oe_callf (vs := [.agg #[.bool nr19, .slice A20 n21 c22]]) co61 (ar1 (T rfl rfl)) (l1Text_ok h74 (by first | decide | omega)) ?_)
      rintro _ w76 ⟨rfl, e77⟩
      have E78 := below_ext E71 E71.size e77
      have ht75 := txt_len (h74).lt
      refine lw_v (.string (bOf (((((txtL x) ++ [44]) ++ (txtL y)) ++ [47]) ++ (txtL u)))) (dv_addS (L := ((((txtL x) ++ [44]) ++ (txtL y)) ++ [47])) (M := (txtL u)) (T rfl rfl) (T rfl rfl) (by simp; omega)) ?_
      refine lw_v (.string (bOf (((((txtL x) ++ [44]) ++ (txtL y)) ++ [47]) ++ (txtL u)))) (dv_assign (T rfl rfl)) ?_
      refine lw_nil ?_
      refine rk_ret Try.func40 (v := .string (bOf (((((txtL x) ++ [44]) ++ (txtL y)) ++ [47]) ++ (txtL u)))) (res1 Try.results40 (rv_tmp rfl rfl)) ⟨_, rfl, ?_⟩
      exact ⟨(congrArg (fun l => Value.string (bOf l)) (by unfold pTxt; rw [if_pos (by first | assumption | simpa using ‹_›), if_neg (by first | assumption | (have := @sgnI_zero (u - 1); omega))]; try simp only [List.append_assoc])), E78⟩
  · -- F
    refine rk_ct (T rfl (congrArg Value.bool (decide_eq_true hb9))) ?_
    refine rk_seq ?_
    refine rk_reg ?_
    refine lw_v (.string (bOf [])) (dv_assign C) ?_
    refine lw_nil ?_
    refine rk_ret Try.func40 (v := .string (bOf [])) (res1 Try.results40 (rv_tmp rfl rfl)) ⟨_, rfl, ?_⟩
    exact ⟨(congrArg (fun l => Value.string (bOf l)) (by unfold pTxt; rw [if_neg (by first | assumption | simpa using ‹_›)])), E8⟩

set_option maxHeartbeats 1000000 in
theorem lawPointText_ok {w : World} {x y u : Int} (fx_ : fits x) (fy_ : fits y) (fu_ : fits u)  : Ct Try.prog 13 [.agg #[.int .u64 (wv3 x), .int .u64 (wv2 x), .int .u64 (wv1 x), .int .u64 (wv0 x), .int .u64 (wv3 y), .int .u64 (wv2 y), .int .u64 (wv1 y), .int .u64 (wv0 y), .int .u64 (wv3 u), .int .u64 (wv2 u), .int .u64 (wv1 u), .int .u64 (wv0 u)]] w fun v w1 => v = .bool true ∧ Ext w w1 := by
  refine ct_run (n := 14) Try.func13 rfl Try.ntmps13 rfl ?_
  have E0 : Below w.heap.size w w := Below.refl _ _
  refine rk_seq ?_
  refine rk_reg ?_
  refine lw_e (oe_box (v := .agg #[.int .u64 (wv3 x), .int .u64 (wv2 x), .int .u64 (wv1 x), .int .u64 (wv0 x), .int .u64 (wv3 y), .int .u64 (wv2 y), .int .u64 (wv1 y), .int .u64 (wv0 y), .int .u64 (wv3 u), .int .u64 (wv2 u), .int .u64 (wv1 u), .int .u64 (wv0 u)]) (cs := #[.int .u64 (wv3 x), .int .u64 (wv2 x), .int .u64 (wv1 x), .int .u64 (wv0 x), .int .u64 (wv3 y), .int .u64 (wv2 y), .int .u64 (wv1 y), .int .u64 (wv0 y), .int .u64 (wv3 u), .int .u64 (wv2 u), .int .u64 (wv1 u), .int .u64 (wv0 u)]) (T rfl rfl) rfl ?_)
  intro b1 w2 n3
  have N4 : w.heap.size ≤ b1 := n3.eq ▸ E0.size
  have E5 := below_ext E0 E0.size n3.ext
  refine lw_v (.bool false) (dv_assign C) ?_
  refine lw_nil ?_
  refine rk_seq ?_
  refine rk_reg ?_
  refine lw_v (.agg #[.int .u64 (wv3 x), .int .u64 (wv2 x), .int .u64 (wv1 x), .int .u64 (wv0 x), .int .u64 (wv3 y), .int .u64 (wv2 y), .int .u64 (wv1 y), .int .u64 (wv0 y), .int .u64 (wv3 u), .int .u64 (wv2 u), .int .u64 (wv1 u), .int .u64 (wv0 u)]) (dv_loads (l := [.int .u64 (wv3 x), .int .u64 (wv2 x), .int .u64 (wv1 x), .int .u64 (wv0 x), .int .u64 (wv3 y), .int .u64 (wv2 y), .int .u64 (wv1 y), .int .u64 (wv0 y), .int .u64 (wv3 u), .int .u64 (wv2 u), .int .u64 (wv1 u), .int .u64 (wv0 u)]) agt43 sz43 (T rfl rfl) n3.blk rfl) ?_
  refine lw_e (oe_callf (vs := [.agg #[.int .u64 (wv3 x), .int .u64 (wv2 x), .int .u64 (wv1 x), .int .u64 (wv0 x), .int .u64 (wv3 y), .int .u64 (wv2 y), .int .u64 (wv1 y), .int .u64 (wv0 y), .int .u64 (wv3 u), .int .u64 (wv2 u), .int .u64 (wv1 u), .int .u64 (wv0 u)]]) co31 (ar1 (T rfl rfl)) (toPoint_ok (x := x) (y := y) (u := u)  ) ?_)
  rintro _ w6 ⟨rfl, e7⟩
  have E8 := below_ext E5 E5.size e7
  refine lw_e (oe_callf (vs := [.agg #[.int .u64 (wv3 x), .int .u64 (wv2 x), .int .u64 (wv1 x), .int .u64 (wv0 x), .int .u64 (wv3 y), .int .u64 (wv2 y), .int .u64 (wv1 y), .int .u64 (wv0 y), .int .u64 (wv3 u), .int .u64 (wv2 u), .int .u64 (wv1 u), .int .u64 (wv0 u)]]) co40 (ar1 (T rfl rfl)) (sPointText_ok (x := x) (y := y) (u := u) fx_ fy_ fu_ ) ?_)
  rintro _ w9 ⟨rfl, e10⟩
  have E11 := below_ext E8 E8.size e10
  refine lw_v (.string (bOf (pTxt x y u))) (dv_assign (T rfl rfl)) ?_
  refine lw_nil ?_
  refine rk_seq ?_
  refine rk_reg ?_
  have H12 := (e10.blk (e7.blk n3.blk))
  refine lw_v (.agg #[.int .u64 (wv3 x), .int .u64 (wv2 x), .int .u64 (wv1 x), .int .u64 (wv0 x), .int .u64 (wv3 y), .int .u64 (wv2 y), .int .u64 (wv1 y), .int .u64 (wv0 y), .int .u64 (wv3 u), .int .u64 (wv2 u), .int .u64 (wv1 u), .int .u64 (wv0 u)]) (dv_loads (l := [.int .u64 (wv3 x), .int .u64 (wv2 x), .int .u64 (wv1 x), .int .u64 (wv0 x), .int .u64 (wv3 y), .int .u64 (wv2 y), .int .u64 (wv1 y), .int .u64 (wv0 y), .int .u64 (wv3 u), .int .u64 (wv2 u), .int .u64 (wv1 u), .int .u64 (wv0 u)]) agt43 sz43 (T rfl rfl) H12 rfl) ?_
  refine lw_e (oe_callf (vs := [.agg #[.int .u64 (wv3 x), .int .u64 (wv2 x), .int .u64 (wv1 x), .int .u64 (wv0 x), .int .u64 (wv3 y), .int .u64 (wv2 y), .int .u64 (wv1 y), .int .u64 (wv0 y), .int .u64 (wv3 u), .int .u64 (wv2 u), .int .u64 (wv1 u), .int .u64 (wv0 u)]]) co31 (ar1 (T rfl rfl)) (toPoint_ok (x := x) (y := y) (u := u)  ) ?_)
  rintro _ w13 ⟨rfl, e14⟩
  have E15 := below_ext E11 E11.size e14
  refine lw_e (oe_callf (vs := [.agg #[.int .u64 (wv3 x), .int .u64 (wv2 x), .int .u64 (wv1 x), .int .u64 (wv0 x), .int .u64 (wv3 y), .int .u64 (wv2 y), .int .u64 (wv1 y), .int .u64 (wv0 y), .int .u64 (wv3 u), .int .u64 (wv2 u), .int .u64 (wv1 u), .int .u64 (wv0 u)]]) co41 (ar1 (T rfl rfl)) (iPointText_ok (x := x) (y := y) (u := u) fx_ fy_ fu_ ) ?_)
  rintro _ w16 ⟨rfl, e17⟩
  have E18 := below_ext E15 E15.size e17
  refine lw_v (.string (bOf (pTxt x y u))) (dv_assign (T rfl rfl)) ?_
  refine lw_nil ?_
  refine rk_seq ?_
  refine rk_seq ?_
  refine rk_reg ?_
  refine lw_v (.string (bOf (pTxt x y u))) (dv_move (T rfl rfl)) ?_
  refine lw_v (.string (bOf (pTxt x y u))) (dv_move (T rfl rfl)) ?_
  refine lw_v (.bool (decide ((((pTxt x y u)) : List Int) ≠ ((pTxt x y u))))) (dv_neS (L := (pTxt x y u)) (M := (pTxt x y u)) (T rfl rfl) (T rfl rfl) (okC_pTxt _ _ _) (okC_pTxt _ _ _)) ?_
  refine lw_nil ?_
  by_cases hb19 : (((pTxt x y u)) : List Int) ≠ ((pTxt x y u))
  · -- T
    refine rk_ct (T rfl (congrArg Value.bool (decide_eq_true hb19))) ?_
    refine rk_seq ?_
    refine rk_reg ?_
    refine lw_v (.bool false) (dv_assign C) ?_
    refine lw_nil ?_
    refine rk_ret Try.func13 (v := .bool false) (res1 Try.results13 (rv_tmp rfl rfl)) ⟨_, rfl, ?_⟩
    exact ⟨(by exfalso; grind), E18⟩
  · -- F
    refine rk_cf (T rfl (congrArg Value.bool (decide_eq_false hb19))) ?_
    refine rk_skip ?_
    refine rk_seq ?_
    refine rk_reg ?_
    refine lw_v (.bool true) (dv_assign C) ?_
    refine lw_nil ?_
    refine rk_ret Try.func13 (v := .bool true) (res1 Try.results13 (rv_tmp rfl rfl)) ⟨_, rfl, ?_⟩
    exact ⟨rfl, E18⟩

theorem lawPointText_w {w : World} {x3 x2 x1 x0 y3 y2 y1 y0 u3 u2 u1 u0 : Int} (hx3 : 0 ≤ x3 ∧ x3 < 18446744073709551616) (hx2 : 0 ≤ x2 ∧ x2 < 18446744073709551616) (hx1 : 0 ≤ x1 ∧ x1 < 18446744073709551616) (hx0 : 0 ≤ x0 ∧ x0 < 18446744073709551616) (hy3 : 0 ≤ y3 ∧ y3 < 18446744073709551616) (hy2 : 0 ≤ y2 ∧ y2 < 18446744073709551616) (hy1 : 0 ≤ y1 ∧ y1 < 18446744073709551616) (hy0 : 0 ≤ y0 ∧ y0 < 18446744073709551616) (hu3 : 0 ≤ u3 ∧ u3 < 18446744073709551616) (hu2 : 0 ≤ u2 ∧ u2 < 18446744073709551616) (hu1 : 0 ≤ u1 ∧ u1 < 18446744073709551616) (hu0 : 0 ≤ u0 ∧ u0 < 18446744073709551616) : Ct Try.prog 13 [.agg #[.int .u64 x3, .int .u64 x2, .int .u64 x1, .int .u64 x0, .int .u64 y3, .int .u64 y2, .int .u64 y1, .int .u64 y0, .int .u64 u3, .int .u64 u2, .int .u64 u1, .int .u64 u0]] w fun v w1 => v = .bool true ∧ Ext w w1 := by
  obtain ⟨x, fx, rfl, rfl, rfl, rfl⟩ := words_z hx3 hx2 hx1 hx0
  obtain ⟨y, fy, rfl, rfl, rfl, rfl⟩ := words_z hy3 hy2 hy1 hy0
  obtain ⟨u, fu, rfl, rfl, rfl, rfl⟩ := words_z hu3 hu2 hu1 hu0
  exact lawPointText_ok fx fy fu
end Go.Proofs.Ytpnjkjahfklfnaa.W
