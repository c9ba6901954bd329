/- Walks of one law, packed by a program of this session. -/
import Derived.Test.YtdanhdbanfpghaaPaf
set_option linter.unusedVariables false
set_option linter.unusedSimpArgs false
namespace Go.Proofs.Ytdanhdbanfpghaa.W
open Go Go.RowKit Go.Proofs.Ytdanhdbanfpghaa.Fw
attribute [local irreducible] RunK LW AW DV OE Ct
theorem agt43 : aggB Try.prog 43 = some true := by kernel_rfl
theorem co23 : callOk Try.prog 23 = true := by kernel_rfl
theorem co24 : callOk Try.prog 24 = true := by kernel_rfl
theorem co25 : callOk Try.prog 25 = true := by kernel_rfl
theorem co34 : callOk Try.prog 34 = true := by kernel_rfl
theorem co35 : callOk Try.prog 35 = true := by kernel_rfl
theorem sz43 : sizeB Try.prog 43 = some 4 := by kernel_rfl
set_option maxHeartbeats 1000000 in
theorem iOverAt_ok {w : World} {ax ay bx b_y x y u : Int} (fx_ : fits x) (fy_ : fits y) (fu_ : fits u)  : Ct Try.prog 35 [.agg #[.int .i64 ax, .int .i64 ay, .int .i64 bx, .int .i64 b_y], .agg #[.int .u64 (wv3 x), .int .u64 (wv2 x), .int .u64 (wv1 x), .int .u64 (wv0 x), .int .u64 (wv3 y), .int .u64 (wv2 y), .int .u64 (wv1 y), .int .u64 (wv0 y), .int .u64 (wv3 u), .int .u64 (wv2 u), .int .u64 (wv1 u), .int .u64 (wv0 u)]] w fun v w1 => v = .int .i64 (ovV ax ay bx b_y x y u) ∧ Ext w w1 := by
 refine ct_run (n := 81) Try.func35 rfl Try.ntmps35 rfl ?_
 have E0 : Below w.heap.size w w := Below.refl _ _
 refine rk_seq ?_
 refine rk_reg ?_
 refine lw_e (oe_box (v := .agg #[.int .i64 ax, .int .i64 ay, .int .i64 bx, .int .i64 b_y]) (cs := #[.int .i64 ax, .int .i64 ay, .int .i64 bx, .int .i64 b_y]) (T rfl rfl) rfl ?_)
 intro b1 w2 n3
 have N4 : w.heap.size ≤ b1 := n3.eq ▸ E0.size
 have E5 := below_ext E0 E0.size n3.ext
 refine lw_e (oe_box (v := .agg #[.int .u64 (wv3 x), .int .u64 (wv2 x), .int .u64 (wv1 x), .int .u64 (wv0 x), .int .u64 (wv3 y), .int .u64 (wv2 y), .int .u64 (wv1 y), .int .u64 (wv0 y), .int .u64 (wv3 u), .int .u64 (wv2 u), .int .u64 (wv1 u), .int .u64 (wv0 u)]) (cs := #[.int .u64 (wv3 x), .int .u64 (wv2 x), .int .u64 (wv1 x), .int .u64 (wv0 x), .int .u64 (wv3 y), .int .u64 (wv2 y), .int .u64 (wv1 y), .int .u64 (wv0 y), .int .u64 (wv3 u), .int .u64 (wv2 u), .int .u64 (wv1 u), .int .u64 (wv0 u)]) (T rfl rfl) rfl ?_)
 intro b6 w7 n8
 have N9 : w.heap.size ≤ b6 := n8.eq ▸ E5.size
 have : b1 < b6 := n8.eq ▸ lt_of_blk n3.blk
 have E10 := below_ext E5 E5.size n8.ext
 refine lw_v (.int .i64 0) (dv_assign C) ?_
 refine lw_nil ?_
 refine rk_seq ?_
 refine rk_seq ?_
 refine rk_reg ?_
 have H11 := (n8.ext.blk n3.blk)
 refine lw_v (.agg #[.int .i64 ax, .int .i64 ay, .int .i64 bx, .int .i64 b_y]) (dv_loads (l := [.int .i64 ax, .int .i64 ay, .int .i64 bx, .int .i64 b_y]) agt47 sz47 (T rfl rfl) H11 rfl) ?_
 refine lw_e (oe_callf (vs := [.agg #[.int .i64 ax, .int .i64 ay, .int .i64 bx, .int .i64 b_y]]) co30 (ar1 (T rfl rfl)) (iSegOk_ok (ax := ax) (ay := ay) (bx := bx) (b_y := b_y)  ) ?_)
 rintro _ w12 ⟨rfl, e13⟩
 have E14 := below_ext E10 E10.size e13
 refine lw_v (.bool (decide (¬ (segOk ax ay bx b_y)))) (dv_notd (p := segOk ax ay bx b_y) (T rfl rfl)) ?_
 refine lw_v (.bool (decide (¬ (segOk ax ay bx b_y)))) (dv_move (T rfl rfl)) ?_
 by_cases hb15 : segOk ax ay bx b_y
 · have := segOk_rg hb15
   have := hb15.2.2
   have H16 := (e13.blk n8.blk)
   refine lw_vy (.agg #[.int .u64 (wv3 x), .int .u64 (wv2 x), .int .u64 (wv1 x), .int .u64 (wv0 x), .int .u64 (wv3 y), .int .u64 (wv2 y), .int .u64 (wv1 y), .int .u64 (wv0 y), .int .u64 (wv3 u), .int .u64 (wv2 u), .int .u64 (wv1 u), .int .u64 (wv0 u)]) (d := 11) rfl rfl (congrArg Value.bool (decide_eq_false (not_not_intro hb15))) (dv_loads (l := [.int .u64 (wv3 x), .int .u64 (wv2 x), .int .u64 (wv1 x), .int .u64 (wv0 x), .int .u64 (wv3 y), .int .u64 (wv2 y), .int .u64 (wv1 y), .int .u64 (wv0 y), .int .u64 (wv3 u), .int .u64 (wv2 u), .int .u64 (wv1 u), .int .u64 (wv0 u)]) agt37 sz37 (T rfl rfl) H16 rfl) ?_
   refine lw_ey (d := 11) rfl rfl (congrArg Value.bool (decide_eq_false (not_not_intro hb15))) (oe_callf (vs := [.agg #[.int .u64 (wv3 x), .int .u64 (wv2 x), .int .u64 (wv1 x), .int .u64 (wv0 x), .int .u64 (wv3 y), .int .u64 (wv2 y), .int .u64 (wv1 y), .int .u64 (wv0 y), .int .u64 (wv3 u), .int .u64 (wv2 u), .int .u64 (wv1 u), .int .u64 (wv0 u)]]) co75 (ar1 (T rfl rfl)) (iPointOk_ok (x := x) (y := y) (u := u) fx_ fy_ fu_ ) ?_)
   rintro _ w17 ⟨rfl, e18⟩
   have E19 := below_ext E14 E14.size e18
   refine lw_vy (.bool (decide (¬ (pOk x y u)))) (d := 11) rfl rfl (congrArg Value.bool (decide_eq_false (not_not_intro hb15))) (dv_notd (p := pOk x y u) (T rfl rfl)) ?_
   refine lw_v (.bool (decide (¬ (pOk x y u)))) (dv_pick_f (T rfl (congrArg Value.bool (decide_eq_false (not_not_intro hb15)))) (T rfl rfl)) ?_
   refine lw_nil ?_
   by_cases hb20 : pOk x y u
   · refine rk_cf (T rfl (congrArg Value.bool (decide_eq_false (not_not_intro hb20)))) ?_
     refine rk_skip ?_
     refine rk_seq ?_
     refine rk_reg ?_
     have H21 := (e18.blk H16)
     refine lw_v (.agg #[.int .u64 (wv3 x), .int .u64 (wv2 x), .int .u64 (wv1 x), .int .u64 (wv0 x), .int .u64 (wv3 y), .int .u64 (wv2 y), .int .u64 (wv1 y), .int .u64 (wv0 y), .int .u64 (wv3 u), .int .u64 (wv2 u), .int .u64 (wv1 u), .int .u64 (wv0 u)]) (dv_loads (l := [.int .u64 (wv3 x), .int .u64 (wv2 x), .int .u64 (wv1 x), .int .u64 (wv0 x), .int .u64 (wv3 y), .int .u64 (wv2 y), .int .u64 (wv1 y), .int .u64 (wv0 y), .int .u64 (wv3 u), .int .u64 (wv2 u), .int .u64 (wv1 u), .int .u64 (wv0 u)]) agt37 sz37 (T rfl rfl) H21 rfl) ?_
     refine lw_e (oe_callf (vs := [.agg #[.int .u64 (wv3 x), .int .u64 (wv2 x), .int .u64 (wv1 x), .int .u64 (wv0 x), .int .u64 (wv3 y), .int .u64 (wv2 y), .int .u64 (wv1 y), .int .u64 (wv0 y), .int .u64 (wv3 u), .int .u64 (wv2 u), .int .u64 (wv1 u), .int .u64 (wv0 u)]]) co90 (ar1 (T rfl rfl)) (spot_ok fx_ fy_ fu_  ) ?_)
     rintro _ w37 ⟨nr22, A23, n24, c25, nr26, A27, n28, c29, nr30, A31, n32, c33, rfl, e38, h34, h35, h36⟩
     have E39 := below_ext E19 E19.size e38
     have lh34 := Num.len (by decide) h34
     have lh35 := Num.len (by decide) h35
     have lh36 := Num.len (by decide) h36
     refine lw_e (oe_alloc ze122 ?_)
     intro b40 w41 n42
     have N43 : w.heap.size ≤ b40 := n42.eq ▸ E39.size
     have H44 := (e38.blk H21)
     have : b6 < b40 := n42.eq ▸ lt_of_blk H44
     have E45 := below_ext E39 E39.size n42.ext
     refine lw_e (oe_store (v := .agg #[.bool nr22, .slice A23 n24 c25, .bool nr26, .slice A27 n28 c29, .bool nr30, .slice A31 n32 c33]) (vs := [.bool nr22, .slice A23 n24 c25, .bool nr26, .slice A27 n28 c29, .bool nr30, .slice A31 n32 c33]) (l := [.bool nr22, .slice A23 n24 c25, .bool nr26, .slice A27 n28 c29, .bool nr30, .slice A31 n32 c33]) (T rfl rfl) (T rfl rfl) sz122 rfl rfl rfl n42.blk rfl ?_)
     intro w46 s47 H48
     have E49 := below_st E45 N43 s47
     refine lw_nil ?_
     refine rk_seq ?_
     refine rk_any (fun w => w.heap[b40]? = some (.cells #[.bool nr22, .slice A23 n24 c25, .bool nr26, .slice A27 n28 c29, .bool nr30, .slice A31 n32 c33] 122) ∧ w.heap[b1]? = some (.cells #[.int .i64 ax, .int .i64 ay, .int .i64 bx, .int .i64 b_y] 47)) [21] mo ?_
     intro w50 d51
     have E52 := below_ext E49 E49.size d51.ext
     have H53 := (d51.ext.blk H48)
     have H54 := (d51.ext.blk (s47.blk (n42.ext.blk (e38.blk (e18.blk (e13.blk H11)))) (by omega)))
     refine aw_pure 0 (.pointer (some ⟨b40, 0, none⟩)) rfl (by kernel_rfl) .none ⟨H53, H54⟩ (fun _ => dv_fieldAddr (a := ⟨b40, 0, none⟩) (a' := ⟨b40, 0, none⟩) fo122_0 (T rfl rfl) rfl) ?_
     refine aw_load 1 (.agg #[.bool nr22, .slice A23 n24 c25]) rfl (by kernel_rfl) .none ⟨H53, H54⟩ (fun _ s => dv_loads (l := [.bool nr22, .slice A23 n24 c25]) agt120 sz120 (T rfl rfl) s.1 rfl) ?_
     refine aw_pure 2 (.pointer (some ⟨b1, 0, none⟩)) rfl (by kernel_rfl) .none ⟨H53, H54⟩ (fun _ => dv_fieldAddr (a := ⟨b1, 0, none⟩) (a' := ⟨b1, 0, none⟩) fo47_0 (T rfl rfl) rfl) ?_
     refine aw_pure 3 (.pointer (some ⟨b1, 0, none⟩)) rfl (by kernel_rfl) .none ⟨H53, H54⟩ (fun _ => dv_fieldAddr (a := ⟨b1, 0, none⟩) (a' := ⟨b1, 0, none⟩) fo45_0 (T rfl rfl) rfl) ?_
     refine aw_load 4 (.int .i64 ax) rfl (by kernel_rfl) .none ⟨H53, H54⟩ (fun _ s => dv_load1 (b := b1) (o := 0) agt2 (T rfl rfl) s.2 rfl) ?_
     refine aw_pure 6 (.pointer (some ⟨b40, 4, none⟩)) rfl (by kernel_rfl) .none ⟨H53, H54⟩ (fun _ => dv_fieldAddr (a := ⟨b40, 0, none⟩) (a' := ⟨b40, 4, none⟩) fo122_2 (T rfl rfl) rfl) ?_
     refine aw_load 7 (.agg #[.bool nr30, .slice A31 n32 c33]) rfl (by kernel_rfl) .none ⟨H53, H54⟩ (fun _ s => dv_loads (l := [.bool nr30, .slice A31 n32 c33]) agt120 sz120 (T rfl rfl) s.1 rfl) ?_
     refine aw_pure 10 (.pointer (some ⟨b40, 0, none⟩)) rfl (by kernel_rfl) .none ⟨H53, H54⟩ (fun _ => dv_fieldAddr (a := ⟨b40, 0, none⟩) (a' := ⟨b40, 0, none⟩) fo122_0 (T rfl rfl) rfl) ?_
     refine aw_load 11 (.agg #[.bool nr22, .slice A23 n24 c25]) rfl (by kernel_rfl) .none ⟨H53, H54⟩ (fun _ s => dv_loads (l := [.bool nr22, .slice A23 n24 c25]) agt120 sz120 (T rfl rfl) s.1 rfl) ?_
     refine aw_pure 12 (.pointer (some ⟨b1, 2, none⟩)) rfl (by kernel_rfl) .none ⟨H53, H54⟩ (fun _ => dv_fieldAddr (a := ⟨b1, 0, none⟩) (a' := ⟨b1, 2, none⟩) fo47_1 (T rfl rfl) rfl) ?_
     refine aw_pure 13 (.pointer (some ⟨b1, 2, none⟩)) rfl (by kernel_rfl) .none ⟨H53, H54⟩ (fun _ => dv_fieldAddr (a := ⟨b1, 2, none⟩) (a' := ⟨b1, 2, none⟩) fo45_0 (T rfl rfl) rfl) ?_
     refine aw_load 14 (.int .i64 bx) rfl (by kernel_rfl) .none ⟨H53, H54⟩ (fun _ s => dv_load1 (b := b1) (o := 2) agt2 (T rfl rfl) s.2 rfl) ?_
     refine aw_pure 16 (.pointer (some ⟨b40, 4, none⟩)) rfl (by kernel_rfl) .none ⟨H53, H54⟩ (fun _ => dv_fieldAddr (a := ⟨b40, 0, none⟩) (a' := ⟨b40, 4, none⟩) fo122_2 (T rfl rfl) rfl) ?_
     refine aw_load 17 (.agg #[.bool nr30, .slice A31 n32 c33]) rfl (by kernel_rfl) .none ⟨H53, H54⟩ (fun _ s => dv_loads (l := [.bool nr30, .slice A31 n32 c33]) agt120 sz120 (T rfl rfl) s.1 rfl) ?_
     refine aw_one 5 rfl (by kernel_rfl) .none (oe_callf (vs := [.int .i64 ax]) co92 (ar1 (T rfl rfl)) (whole_ok  (by omega)) ?_)
     rintro _ w60 ⟨nr55, A56, n57, c58, rfl, e61, h59⟩
     have E62 := below_ext E52 E52.size e61
     have lh59 := Num.len (by decide) h59
     have H63 := (e61.blk H53)
     have H64 := (e61.blk H54)
     refine ⟨.inr ⟨H63, H64⟩, ?_⟩
     have h65 := ((((h36.ext n42.ext).st s47 n42.blk (by decide)).ext d51.ext).ext e61)
     refine aw_one 8 rfl (by kernel_rfl) .none (oe_callf (vs := [.agg #[.bool nr55, .slice A56 n57 c58], .agg #[.bool nr30, .slice A31 n32 c33]]) co93 (ar2 (T rfl rfl) (T rfl rfl)) (nby_ok h59 h65 (by first | decide | omega) (by first | decide | omega)) ?_)
     rintro _ w71 ⟨nr66, A67, n68, c69, rfl, e72, h70⟩
     have E73 := below_ext E62 E62.size e72
     have lh70 := Num.len (by decide) h70
     have H74 := (e72.blk H63)
     have H75 := (e72.blk H64)
     refine ⟨.inr ⟨H74, H75⟩, ?_⟩
     have h76 := (((((h34.ext n42.ext).st s47 n42.blk (by decide)).ext d51.ext).ext e61).ext e72)
     refine aw_one 9 rfl (by kernel_rfl) .none (oe_callf (vs := [.agg #[.bool nr22, .slice A23 n24 c25], .agg #[.bool nr66, .slice A67 n68 c69]]) co91 (ar2 (T rfl rfl) (T rfl rfl)) (ncmp_ok h76 h70 (by first | decide | omega) (by first | decide | omega)) ?_)
     rintro _ w77 ⟨rfl, e78⟩
     have E79 := below_ext E73 E73.size e78
     have H80 := (e78.blk H74)
     have H81 := (e78.blk H75)
     refine ⟨.inr ⟨H80, H81⟩, ?_⟩
     refine aw_one 15 rfl (by kernel_rfl) .none (oe_callf (vs := [.int .i64 bx]) co92 (ar1 (T rfl rfl)) (whole_ok  (by omega)) ?_)
     rintro _ w87 ⟨nr82, A83, n84, c85, rfl, e88, h86⟩
     have E89 := below_ext E79 E79.size e88
     have lh86 := Num.len (by decide) h86
     have H90 := (e88.blk H80)
     have H91 := (e88.blk H81)
     refine ⟨.inr ⟨H90, H91⟩, ?_⟩
     have h92 := (((h65.ext e72).ext e78).ext e88)
     refine aw_one 18 rfl (by kernel_rfl) .none (oe_callf (vs := [.agg #[.bool nr82, .slice A83 n84 c85], .agg #[.bool nr30, .slice A31 n32 c33]]) co93 (ar2 (T rfl rfl) (T rfl rfl)) (nby_ok h86 h92 (by first | decide | omega) (by first | decide | omega)) ?_)
     rintro _ w98 ⟨nr93, A94, n95, c96, rfl, e99, h97⟩
     have E100 := below_ext E89 E89.size e99
     have lh97 := Num.len (by decide) h97
     have H101 := (e99.blk H90)
     have H102 := (e99.blk H91)
     refine ⟨.inr ⟨H101, H102⟩, ?_⟩
     have h103 := (((h76.ext e78).ext e88).ext e99)
     refine aw_one 19 rfl (by kernel_rfl) .none (oe_callf (vs := [.agg #[.bool nr22, .slice A23 n24 c25], .agg #[.bool nr93, .slice A94 n95 c96]]) co91 (ar2 (T rfl rfl) (T rfl rfl)) (ncmp_ok h103 h97 (by first | decide | omega) (by first | decide | omega)) ?_)
     rintro _ w104 ⟨rfl, e105⟩
     have E106 := below_ext E100 E100.size e105
     have H107 := (e105.blk H101)
     have H108 := (e105.blk H102)
     refine ⟨.inr ⟨H107, H108⟩, ?_⟩
     refine aw_pure 20 (.int .i64 (sgnI (x - (ax * u)))) rfl (by kernel_rfl) .none ⟨H107, H108⟩ (fun _ => dv_assign (T rfl rfl)) ?_
     refine aw_last 21 (.int .i64 (sgnI (x - (bx * u)))) rfl (by kernel_rfl) .none (fun _ => dv_assign (T rfl rfl)) ?_
     refine aw_done (by kernel_rfl) ?_
     refine rk_seq ?_
     refine rk_block ?_
     refine rk_seq ?_
     refine rk_reg ?_
     refine lw_v (.int .i64 (sgnI (x - (ax * u)))) (dv_move (T rfl rfl)) ?_
     refine lw_v (.bool (decide ((sgnI (x - (ax * u))) < 0))) (dv_lss (a := sgnI (x - (ax * u))) (b := 0) (T rfl rfl) C) ?_
     refine lw_v (.bool (decide ((sgnI (x - (ax * u))) < 0))) (dv_move (T rfl rfl)) ?_
     by_cases hb109 : (sgnI (x - (ax * u))) < 0
     · refine lw_no (d := 41) rfl rfl (congrArg Value.bool (decide_eq_true hb109)) ?_
       refine lw_no (d := 41) rfl rfl (congrArg Value.bool (decide_eq_true hb109)) ?_
       refine lw_v (.bool true) (dv_pick_t (T rfl (congrArg Value.bool (decide_eq_true hb109))) C) ?_
       refine lw_v (.bool true) (dv_assign (T rfl rfl)) ?_
       refine lw_nil ?_
       refine rk_ct (T rfl rfl) ?_
       refine rk_seq ?_
       refine rk_reg ?_
       refine lw_v (.int .i64 2) (dv_assign C) ?_
       refine lw_nil ?_
       refine rk_ret Try.func35 (v := .int .i64 2) (res1 Try.results35 (rv_tmp rfl rfl)) ⟨_, rfl, ?_⟩
       exact ⟨(vi (by unfold ovV; repeat (first | rw [if_pos (by assumption)] | rw [if_neg (by assumption)]))), E106⟩
     · refine lw_vy (.int .i64 (sgnI (x - (bx * u)))) (d := 41) rfl rfl (congrArg Value.bool (decide_eq_false hb109)) (dv_move (T rfl rfl)) ?_
       refine lw_vy (.bool (decide (0 < (sgnI (x - (bx * u)))))) (d := 41) rfl rfl (congrArg Value.bool (decide_eq_false hb109)) (dv_gtr (a := sgnI (x - (bx * u))) (b := 0) (T rfl rfl) C) ?_
       refine lw_v (.bool (decide (0 < (sgnI (x - (bx * u)))))) (dv_pick_f (T rfl (congrArg Value.bool (decide_eq_false hb109))) (T rfl rfl)) ?_
       refine lw_v (.bool (decide (0 < (sgnI (x - (bx * u)))))) (dv_assign (T rfl rfl)) ?_
       refine lw_nil ?_
       by_cases hb110 : 0 < (sgnI (x - (bx * u)))
       · refine rk_ct (T rfl (congrArg Value.bool (decide_eq_true hb110))) ?_
         refine rk_seq ?_
         refine rk_reg ?_
         refine lw_v (.int .i64 2) (dv_assign C) ?_
         refine lw_nil ?_
         refine rk_ret Try.func35 (v := .int .i64 2) (res1 Try.results35 (rv_tmp rfl rfl)) ⟨_, rfl, ?_⟩
         exact ⟨(vi (by unfold ovV; repeat (first | rw [if_pos (by assumption)] | rw [if_neg (by assumption)]))), E106⟩
       · refine rk_cf (T rfl (congrArg Value.bool (decide_eq_false hb110))) ?_
         refine rk_seq ?_
         refine rk_reg ?_
         refine lw_v (.pointer (some ⟨b1, 0, none⟩)) (dv_fieldAddr (a := ⟨b1, 0, none⟩) (a' := ⟨b1, 0, none⟩) fo47_0 (T rfl rfl) rfl) ?_
         refine lw_v (.pointer (some ⟨b1, 0, none⟩)) (dv_fieldAddr (a := ⟨b1, 0, none⟩) (a' := ⟨b1, 0, none⟩) fo45_0 (T rfl rfl) rfl) ?_
         refine lw_v (.int .i64 ax) (dv_load1 (b := b1) (o := 0) agt2 (T rfl rfl) H108 rfl) ?_
         refine lw_v (.pointer (some ⟨b1, 2, none⟩)) (dv_fieldAddr (a := ⟨b1, 0, none⟩) (a' := ⟨b1, 2, none⟩) fo47_1 (T rfl rfl) rfl) ?_
         refine lw_v (.pointer (some ⟨b1, 2, none⟩)) (dv_fieldAddr (a := ⟨b1, 2, none⟩) (a' := ⟨b1, 2, none⟩) fo45_0 (T rfl rfl) rfl) ?_
         refine lw_v (.int .i64 bx) (dv_load1 (b := b1) (o := 2) agt2 (T rfl rfl) H108 rfl) ?_
         refine lw_v (.bool (decide (ax < bx))) (dv_lss (a := ax) (b := bx) (T rfl rfl) (T rfl rfl)) ?_
         refine lw_v (.bool (decide (ax < bx))) (dv_assign (T rfl rfl)) ?_
         refine lw_nil ?_
         by_cases hb111 : ax < bx
         · refine rk_ct (T rfl (congrArg Value.bool (decide_eq_true hb111))) ?_
           refine rk_seq ?_
           refine rk_reg ?_
           refine lw_v (.agg #[.int .i64 ax, .int .i64 ay, .int .i64 bx, .int .i64 b_y]) (dv_loads (l := [.int .i64 ax, .int .i64 ay, .int .i64 bx, .int .i64 b_y]) agt47 sz47 (T rfl rfl) H108 rfl) ?_
           have H112 := (e105.blk (e99.blk (e88.blk (e78.blk (e72.blk (e61.blk (d51.ext.blk (s47.blk (n42.ext.blk H44) (by omega)))))))))
           refine lw_v (.agg #[.int .u64 (wv3 x), .int .u64 (wv2 x), .int .u64 (wv1 x), .int .u64 (wv0 x), .int .u64 (wv3 y), .int .u64 (wv2 y), .int .u64 (wv1 y), .int .u64 (wv0 y), .int .u64 (wv3 u), .int .u64 (wv2 u), .int .u64 (wv1 u), .int .u64 (wv0 u)]) (dv_loads (l := [.int .u64 (wv3 x), .int .u64 (wv2 x), .int .u64 (wv1 x), .int .u64 (wv0 x), .int .u64 (wv3 y), .int .u64 (wv2 y), .int .u64 (wv1 y), .int .u64 (wv0 y), .int .u64 (wv3 u), .int .u64 (wv2 u), .int .u64 (wv1 u), .int .u64 (wv0 u)]) agt37 sz37 (T rfl rfl) H112 rfl) ?_
           refine lw_e (oe_callf (vs := [.agg #[.int .i64 ax, .int .i64 ay, .int .i64 bx, .int .i64 b_y], .agg #[.int .u64 (wv3 x), .int .u64 (wv2 x), .int .u64 (wv1 x), .int .u64 (wv0 x), .int .u64 (wv3 y), .int .u64 (wv2 y), .int .u64 (wv1 y), .int .u64 (wv0 y), .int .u64 (wv3 u), .int .u64 (wv2 u), .int .u64 (wv1 u), .int .u64 (wv0 u)]]) co76 (ar2 (T rfl rfl) (T rfl rfl)) (sideOf_ok (ax := ax) (ay := ay) (bx := bx) (b_y := b_y) (x := x) (y := y) (u := u) fx_ fy_ fu_ (by omega)) ?_)
           rintro _ w113 ⟨rfl, e114⟩
           have E115 := below_ext E106 E106.size e114
           have := sideV_rg ax ay bx b_y x y u
           refine lw_v (.int .i64 (-(sideV ax ay bx b_y x y u))) (dv_neg (a := sideV ax ay bx b_y x y u) (z := -(sideV ax ay bx b_y x y u)) (T rfl rfl) (by rw [Int.zero_sub]; exact wr_i64 (by omega) (by omega))) ?_
           refine lw_v (.int .i64 (-(sideV ax ay bx b_y x y u))) (dv_assign (T rfl rfl)) ?_
           refine lw_nil ?_
           refine rk_ret Try.func35 (v := .int .i64 (-(sideV ax ay bx b_y x y u))) (res1 Try.results35 (rv_tmp rfl rfl)) ⟨_, rfl, ?_⟩
           exact ⟨(vi (by unfold ovV; repeat (first | rw [if_pos (by assumption)] | rw [if_neg (by assumption)]))), E115⟩
         · refine rk_cf (T rfl (congrArg Value.bool (decide_eq_false hb111))) ?_
           refine rk_seq ?_
           refine rk_any (fun w => w.heap[b40]? = some (.cells #[.bool nr22, .slice A23 n24 c25, .bool nr26, .slice A27 n28 c29, .bool nr30, .slice A31 n32 c33] 122) ∧ w.heap[b1]? = some (.cells #[.int .i64 ax, .int .i64 ay, .int .i64 bx, .int .i64 b_y] 47)) [] mo ?_
           intro w116 d117
           have E118 := below_ext E106 E106.size d117.ext
           have H119 := (d117.ext.blk H107)
           have H120 := (d117.ext.blk H108)
           refine aw_pure 0 (.pointer (some ⟨b40, 2, none⟩)) rfl (by kernel_rfl) .none ⟨H119, H120⟩ (fun _ => dv_fieldAddr (a := ⟨b40, 0, none⟩) (a' := ⟨b40, 2, none⟩) fo122_1 (T rfl rfl) rfl) ?_
           refine aw_load 1 (.agg #[.bool nr26, .slice A27 n28 c29]) rfl (by kernel_rfl) .none ⟨H119, H120⟩ (fun _ s => dv_loads (l := [.bool nr26, .slice A27 n28 c29]) agt120 sz120 (T rfl rfl) s.1 rfl) ?_
           refine aw_pure 2 (.pointer (some ⟨b1, 0, none⟩)) rfl (by kernel_rfl) .none ⟨H119, H120⟩ (fun _ => dv_fieldAddr (a := ⟨b1, 0, none⟩) (a' := ⟨b1, 0, none⟩) fo47_0 (T rfl rfl) rfl) ?_
           refine aw_pure 3 (.pointer (some ⟨b1, 1, none⟩)) rfl (by kernel_rfl) .none ⟨H119, H120⟩ (fun _ => dv_fieldAddr (a := ⟨b1, 0, none⟩) (a' := ⟨b1, 1, none⟩) fo45_1 (T rfl rfl) rfl) ?_
           refine aw_load 4 (.int .i64 ay) rfl (by kernel_rfl) .none ⟨H119, H120⟩ (fun _ s => dv_load1 (b := b1) (o := 1) agt2 (T rfl rfl) s.2 rfl) ?_
           refine aw_pure 6 (.pointer (some ⟨b40, 4, none⟩)) rfl (by kernel_rfl) .none ⟨H119, H120⟩ (fun _ => dv_fieldAddr (a := ⟨b40, 0, none⟩) (a' := ⟨b40, 4, none⟩) fo122_2 (T rfl rfl) rfl) ?_
           refine aw_load 7 (.agg #[.bool nr30, .slice A31 n32 c33]) rfl (by kernel_rfl) .none ⟨H119, H120⟩ (fun _ s => dv_loads (l := [.bool nr30, .slice A31 n32 c33]) agt120 sz120 (T rfl rfl) s.1 rfl) ?_
           refine aw_one 5 rfl (by kernel_rfl) .none (oe_callf (vs := [.int .i64 ay]) co92 (ar1 (T rfl rfl)) (whole_ok  (by omega)) ?_)
           rintro _ w126 ⟨nr121, A122, n123, c124, rfl, e127, h125⟩
           have E128 := below_ext E118 E118.size e127
           have lh125 := Num.len (by decide) h125
           have H129 := (e127.blk H119)
           have H130 := (e127.blk H120)
           refine ⟨.inr ⟨H129, H130⟩, ?_⟩
           have h131 := ((((h92.ext e99).ext e105).ext d117.ext).ext e127)
           refine aw_one 8 rfl (by kernel_rfl) .none (oe_callf (vs := [.agg #[.bool nr121, .slice A122 n123 c124], .agg #[.bool nr30, .slice A31 n32 c33]]) co93 (ar2 (T rfl rfl) (T rfl rfl)) (nby_ok h125 h131 (by first | decide | omega) (by first | decide | omega)) ?_)
           rintro _ w137 ⟨nr132, A133, n134, c135, rfl, e138, h136⟩
           have E139 := below_ext E128 E128.size e138
           have lh136 := Num.len (by decide) h136
           have H140 := (e138.blk H129)
           have H141 := (e138.blk H130)
           refine ⟨.inr ⟨H140, H141⟩, ?_⟩
           have h142 := ((((((((((((h35.ext n42.ext).st s47 n42.blk (by decide)).ext d51.ext).ext e61).ext e72).ext e78).ext e88).ext e99).ext e105).ext d117.ext).ext e127).ext e138)
           refine aw_one 9 rfl (by kernel_rfl) .none (oe_callf (vs := [.agg #[.bool nr26, .slice A27 n28 c29], .agg #[.bool nr132, .slice A133 n134 c135]]) co91 (ar2 (T rfl rfl) (T rfl rfl)) (ncmp_ok h142 h136 (by first | decide | omega) (by first | decide | omega)) ?_)
           rintro _ w143 ⟨rfl, e144⟩
           have E145 := below_ext E139 E139.size e144
           have H146 := (e144.blk H140)
           have H147 := (e144.blk H141)
           refine ⟨.inr ⟨H146, H147⟩, ?_⟩
           refine aw_pure 10 (.bool (decide ((sgnI (y - (ay * u))) < 0))) rfl (by kernel_rfl) .none ⟨H146, H147⟩ (fun _ => dv_lss (a := sgnI (y - (ay * u))) (b := 0) (T rfl rfl) C) ?_
           refine aw_pure 11 (.bool (decide ((sgnI (y - (ay * u))) < 0))) rfl (by kernel_rfl) .none ⟨H146, H147⟩ (fun _ => dv_assign (T rfl rfl)) ?_
           refine aw_done (by kernel_rfl) ?_
           by_cases hb148 : (sgnI (y - (ay * u))) < 0
           · refine rk_ct (T rfl (congrArg Value.bool (decide_eq_true hb148))) ?_
             refine rk_seq ?_
             refine rk_reg ?_
             refine lw_v (.int .i64 1) (dv_assign C) ?_
             refine lw_nil ?_
             refine rk_ret Try.func35 (v := .int .i64 1) (res1 Try.results35 (rv_tmp rfl rfl)) ⟨_, rfl, ?_⟩
             exact ⟨(vi (by unfold ovV; repeat (first | rw [if_pos (by assumption)] | rw [if_neg (by assumption)]))), E145⟩
           · refine rk_cf (T rfl (congrArg Value.bool (decide_eq_false hb148))) ?_
             refine rk_seq ?_
             refine rk_any (fun w => w.heap[b40]? = some (.cells #[.bool nr22, .slice A23 n24 c25, .bool nr26, .slice A27 n28 c29, .bool nr30, .slice A31 n32 c33] 122) ∧ w.heap[b1]? = some (.cells #[.int .i64 ax, .int .i64 ay, .int .i64 bx, .int .i64 b_y] 47)) [] mo ?_
             intro w149 d150
             have E151 := below_ext E145 E145.size d150.ext
             have H152 := (d150.ext.blk H146)
             have H153 := (d150.ext.blk H147)
             refine aw_pure 0 (.pointer (some ⟨b40, 2, none⟩)) rfl (by kernel_rfl) .none ⟨H152, H153⟩ (fun _ => dv_fieldAddr (a := ⟨b40, 0, none⟩) (a' := ⟨b40, 2, none⟩) fo122_1 (T rfl rfl) rfl) ?_
             refine aw_load 1 (.agg #[.bool nr26, .slice A27 n28 c29]) rfl (by kernel_rfl) .none ⟨H152, H153⟩ (fun _ s => dv_loads (l := [.bool nr26, .slice A27 n28 c29]) agt120 sz120 (T rfl rfl) s.1 rfl) ?_
             refine aw_pure 2 (.pointer (some ⟨b1, 2, none⟩)) rfl (by kernel_rfl) .none ⟨H152, H153⟩ (fun _ => dv_fieldAddr (a := ⟨b1, 0, none⟩) (a' := ⟨b1, 2, none⟩) fo47_1 (T rfl rfl) rfl) ?_
             refine aw_pure 3 (.pointer (some ⟨b1, 3, none⟩)) rfl (by kernel_rfl) .none ⟨H152, H153⟩ (fun _ => dv_fieldAddr (a := ⟨b1, 2, none⟩) (a' := ⟨b1, 3, none⟩) fo45_1 (T rfl rfl) rfl) ?_
             refine aw_load 4 (.int .i64 b_y) rfl (by kernel_rfl) .none ⟨H152, H153⟩ (fun _ s => dv_load1 (b := b1) (o := 3) agt2 (T rfl rfl) s.2 rfl) ?_
             refine aw_pure 6 (.pointer (some ⟨b40, 4, none⟩)) rfl (by kernel_rfl) .none ⟨H152, H153⟩ (fun _ => dv_fieldAddr (a := ⟨b40, 0, none⟩) (a' := ⟨b40, 4, none⟩) fo122_2 (T rfl rfl) rfl) ?_
             refine aw_load 7 (.agg #[.bool nr30, .slice A31 n32 c33]) rfl (by kernel_rfl) .none ⟨H152, H153⟩ (fun _ s => dv_loads (l := [.bool nr30, .slice A31 n32 c33]) agt120 sz120 (T rfl rfl) s.1 rfl) ?_
             refine aw_one 5 rfl (by kernel_rfl) .none (oe_callf (vs := [.int .i64 b_y]) co92 (ar1 (T rfl rfl)) (whole_ok  (by omega)) ?_)
             rintro _ w159 ⟨nr154, A155, n156, c157, rfl, e160, h158⟩
             have E161 := below_ext E151 E151.size e160
             have lh158 := Num.len (by decide) h158
             have H162 := (e160.blk H152)
             have H163 := (e160.blk H153)
             refine ⟨.inr ⟨H162, H163⟩, ?_⟩
             have h164 := ((((h131.ext e138).ext e144).ext d150.ext).ext e160)
             refine aw_one 8 rfl (by kernel_rfl) .none (oe_callf (vs := [.agg #[.bool nr154, .slice A155 n156 c157], .agg #[.bool nr30, .slice A31 n32 c33]]) co93 (ar2 (T rfl rfl) (T rfl rfl)) (nby_ok h158 h164 (by first | decide | omega) (by first | decide | omega)) ?_)
             rintro _ w170 ⟨nr165, A166, n167, c168, rfl, e171, h169⟩
             have E172 := below_ext E161 E161.size e171
             have lh169 := Num.len (by decide) h169
             have H173 := (e171.blk H162)
             have H174 := (e171.blk H163)
             refine ⟨.inr ⟨H173, H174⟩, ?_⟩
             have h175 := ((((h142.ext e144).ext d150.ext).ext e160).ext e171)
             refine aw_one 9 rfl (by kernel_rfl) .none (oe_callf (vs := [.agg #[.bool nr26, .slice A27 n28 c29], .agg #[.bool nr165, .slice A166 n167 c168]]) co91 (ar2 (T rfl rfl) (T rfl rfl)) (ncmp_ok h175 h169 (by first | decide | omega) (by first | decide | omega)) ?_)
             rintro _ w176 ⟨rfl, e177⟩
             have E178 := below_ext E172 E172.size e177
             have H179 := (e177.blk H173)
             have H180 := (e177.blk H174)
             refine ⟨.inr ⟨H179, H180⟩, ?_⟩
             refine aw_pure 10 (.bool (decide (0 < (sgnI (y - (b_y * u)))))) rfl (by kernel_rfl) .none ⟨H179, H180⟩ (fun _ => dv_gtr (a := sgnI (y - (b_y * u))) (b := 0) (T rfl rfl) C) ?_
             refine aw_pure 11 (.bool (decide (0 < (sgnI (y - (b_y * u)))))) rfl (by kernel_rfl) .none ⟨H179, H180⟩ (fun _ => dv_assign (T rfl rfl)) ?_
             refine aw_done (by kernel_rfl) ?_
             by_cases hb181 : 0 < (sgnI (y - (b_y * u)))
             · refine rk_ct (T rfl (congrArg Value.bool (decide_eq_true hb181))) ?_
               refine rk_seq ?_
               refine rk_reg ?_
               refine lw_v (.int .i64 (-1)) (dv_assign C) ?_
               refine lw_nil ?_
               refine rk_ret Try.func35 (v := .int .i64 (-1)) (res1 Try.results35 (rv_tmp rfl rfl)) ⟨_, rfl, ?_⟩
               exact ⟨(vi (by unfold ovV; repeat (first | rw [if_pos (by assumption)] | rw [if_neg (by assumption)]))), E178⟩
             · refine rk_cf (T rfl (congrArg Value.bool (decide_eq_false hb181))) ?_
               refine rk_skip ?_
               refine rk_inBlock ?_
               refine rk_seq ?_
               refine rk_reg ?_
               refine lw_v (.int .i64 0) (dv_assign C) ?_
               refine lw_nil ?_
               refine rk_ret Try.func35 (v := .int .i64 0) (res1 Try.results35 (rv_tmp rfl rfl)) ⟨_, rfl, ?_⟩
               exact ⟨(vi (by unfold ovV; repeat (first | rw [if_pos (by assumption)] | rw [if_neg (by assumption)]))), E178⟩
   · refine rk_ct (T rfl (congrArg Value.bool (decide_eq_true hb20))) ?_
     refine rk_seq ?_
     refine rk_reg ?_
     refine lw_v (.int .i64 2) (dv_assign C) ?_
     refine lw_nil ?_
     refine rk_ret Try.func35 (v := .int .i64 2) (res1 Try.results35 (rv_tmp rfl rfl)) ⟨_, rfl, ?_⟩
     exact ⟨(vi (by unfold ovV; repeat (first | rw [if_pos (by assumption)] | rw [if_neg (by assumption)]))), E19⟩
 · refine lw_no (d := 11) rfl rfl (congrArg Value.bool (decide_eq_true hb15)) ?_
   refine lw_no (d := 11) rfl rfl (congrArg Value.bool (decide_eq_true hb15)) ?_
   refine lw_no (d := 11) rfl rfl (congrArg Value.bool (decide_eq_true hb15)) ?_
   refine lw_v (.bool true) (dv_pick_t (T rfl (congrArg Value.bool (decide_eq_true hb15))) C) ?_
   refine lw_nil ?_
   refine rk_ct (T rfl rfl) ?_
   refine rk_seq ?_
   refine rk_reg ?_
   refine lw_v (.int .i64 2) (dv_assign C) ?_
   refine lw_nil ?_
   refine rk_ret Try.func35 (v := .int .i64 2) (res1 Try.results35 (rv_tmp rfl rfl)) ⟨_, rfl, ?_⟩
   exact ⟨(vi (by unfold ovV; repeat (first | rw [if_pos (by assumption)] | rw [if_neg (by assumption)]))), E14⟩
set_option maxHeartbeats 1000000 in
theorem sOverAt_ok {w : World} {ax ay bx b_y x y u : Int} (fx_ : fits x) (fy_ : fits y) (fu_ : fits u)  : Ct Try.prog 34 [.agg #[.int .i64 ax, .int .i64 ay, .int .i64 bx, .int .i64 b_y], .agg #[.int .u64 (wv3 x), .int .u64 (wv2 x), .int .u64 (wv1 x), .int .u64 (wv0 x), .int .u64 (wv3 y), .int .u64 (wv2 y), .int .u64 (wv1 y), .int .u64 (wv0 y), .int .u64 (wv3 u), .int .u64 (wv2 u), .int .u64 (wv1 u), .int .u64 (wv0 u)]] w fun v w1 => v = .int .i64 (ovV ax ay bx b_y x y u) ∧ Ext w w1 := by
 refine ct_run (n := 54) Try.func34 rfl Try.ntmps34 rfl ?_
 have E0 : Below w.heap.size w w := Below.refl _ _
 refine rk_seq ?_
 refine rk_reg ?_
 refine lw_e (oe_box (v := .agg #[.int .i64 ax, .int .i64 ay, .int .i64 bx, .int .i64 b_y]) (cs := #[.int .i64 ax, .int .i64 ay, .int .i64 bx, .int .i64 b_y]) (T rfl rfl) rfl ?_)
 intro b1 w2 n3
 have N4 : w.heap.size ≤ b1 := n3.eq ▸ E0.size
 have E5 := below_ext E0 E0.size n3.ext
 refine lw_e (oe_box (v := .agg #[.int .u64 (wv3 x), .int .u64 (wv2 x), .int .u64 (wv1 x), .int .u64 (wv0 x), .int .u64 (wv3 y), .int .u64 (wv2 y), .int .u64 (wv1 y), .int .u64 (wv0 y), .int .u64 (wv3 u), .int .u64 (wv2 u), .int .u64 (wv1 u), .int .u64 (wv0 u)]) (cs := #[.int .u64 (wv3 x), .int .u64 (wv2 x), .int .u64 (wv1 x), .int .u64 (wv0 x), .int .u64 (wv3 y), .int .u64 (wv2 y), .int .u64 (wv1 y), .int .u64 (wv0 y), .int .u64 (wv3 u), .int .u64 (wv2 u), .int .u64 (wv1 u), .int .u64 (wv0 u)]) (T rfl rfl) rfl ?_)
 intro b6 w7 n8
 have N9 : w.heap.size ≤ b6 := n8.eq ▸ E5.size
 have : b1 < b6 := n8.eq ▸ lt_of_blk n3.blk
 have E10 := below_ext E5 E5.size n8.ext
 refine lw_v (.int .i64 0) (dv_assign C) ?_
 refine lw_nil ?_
 refine rk_seq ?_
 refine rk_seq ?_
 refine rk_reg ?_
 have H11 := (n8.ext.blk n3.blk)
 refine lw_v (.agg #[.int .i64 ax, .int .i64 ay, .int .i64 bx, .int .i64 b_y]) (dv_loads (l := [.int .i64 ax, .int .i64 ay, .int .i64 bx, .int .i64 b_y]) agt47 sz47 (T rfl rfl) H11 rfl) ?_
 refine lw_e (oe_callf (vs := [.agg #[.int .i64 ax, .int .i64 ay, .int .i64 bx, .int .i64 b_y]]) co65 (ar1 (T rfl rfl)) (sSegOk_ok (ax := ax) (ay := ay) (bx := bx) (b_y := b_y)  ) ?_)
 rintro _ w12 ⟨rfl, e13⟩
 have E14 := below_ext E10 E10.size e13
 refine lw_v (.bool (decide (¬ (segOk ax ay bx b_y)))) (dv_notd (p := segOk ax ay bx b_y) (T rfl rfl)) ?_
 refine lw_v (.bool (decide (¬ (segOk ax ay bx b_y)))) (dv_move (T rfl rfl)) ?_
 by_cases hb15 : segOk ax ay bx b_y
 · have := segOk_rg hb15
   have := hb15.2.2
   have H16 := (e13.blk n8.blk)
   refine lw_vy (.agg #[.int .u64 (wv3 x), .int .u64 (wv2 x), .int .u64 (wv1 x), .int .u64 (wv0 x), .int .u64 (wv3 y), .int .u64 (wv2 y), .int .u64 (wv1 y), .int .u64 (wv0 y), .int .u64 (wv3 u), .int .u64 (wv2 u), .int .u64 (wv1 u), .int .u64 (wv0 u)]) (d := 11) rfl rfl (congrArg Value.bool (decide_eq_false (not_not_intro hb15))) (dv_loads (l := [.int .u64 (wv3 x), .int .u64 (wv2 x), .int .u64 (wv1 x), .int .u64 (wv0 x), .int .u64 (wv3 y), .int .u64 (wv2 y), .int .u64 (wv1 y), .int .u64 (wv0 y), .int .u64 (wv3 u), .int .u64 (wv2 u), .int .u64 (wv1 u), .int .u64 (wv0 u)]) agt37 sz37 (T rfl rfl) H16 rfl) ?_
   refine lw_ey (d := 11) rfl rfl (congrArg Value.bool (decide_eq_false (not_not_intro hb15))) (oe_callf (vs := [.agg #[.int .u64 (wv3 x), .int .u64 (wv2 x), .int .u64 (wv1 x), .int .u64 (wv0 x), .int .u64 (wv3 y), .int .u64 (wv2 y), .int .u64 (wv1 y), .int .u64 (wv0 y), .int .u64 (wv3 u), .int .u64 (wv2 u), .int .u64 (wv1 u), .int .u64 (wv0 u)]]) co67 (ar1 (T rfl rfl)) (sPointOk_ok (x := x) (y := y) (u := u) fx_ fy_ fu_ ) ?_)
   rintro _ w17 ⟨rfl, e18⟩
   have E19 := below_ext E14 E14.size e18
   refine lw_vy (.bool (decide (¬ (pOk x y u)))) (d := 11) rfl rfl (congrArg Value.bool (decide_eq_false (not_not_intro hb15))) (dv_notd (p := pOk x y u) (T rfl rfl)) ?_
   refine lw_v (.bool (decide (¬ (pOk x y u)))) (dv_pick_f (T rfl (congrArg Value.bool (decide_eq_false (not_not_intro hb15)))) (T rfl rfl)) ?_
   refine lw_nil ?_
   by_cases hb20 : pOk x y u
   · refine rk_cf (T rfl (congrArg Value.bool (decide_eq_false (not_not_intro hb20)))) ?_
     refine rk_skip ?_
     refine rk_seq ?_
     refine rk_reg ?_
     refine lw_v (.pointer (some ⟨b1, 0, none⟩)) (dv_fieldAddr (a := ⟨b1, 0, none⟩) (a' := ⟨b1, 0, none⟩) fo47_0 (T rfl rfl) rfl) ?_
     have H21 := (e18.blk (e13.blk H11))
     refine lw_v (.agg #[.int .i64 ax, .int .i64 ay]) (dv_loads (l := [.int .i64 ax, .int .i64 ay]) agt45 sz45 (T rfl rfl) H21 rfl) ?_
     refine lw_e (oe_callf (vs := [.agg #[.int .i64 ax, .int .i64 ay]]) co74 (ar1 (T rfl rfl)) (l3Spot_ok   (by omega) (by omega)) ?_)
     rintro _ w37 ⟨nr22, A23, n24, c25, nr26, A27, n28, c29, nr30, A31, n32, c33, rfl, e38, h34, h35, h36⟩
     have E39 := below_ext E19 E19.size e38
     have lh34 := Num.len (by decide) h34
     have lh35 := Num.len (by decide) h35
     have lh36 := Num.len (by decide) h36
     refine lw_e (oe_alloc ze102 ?_)
     intro b40 w41 n42
     have N43 : w.heap.size ≤ b40 := n42.eq ▸ E39.size
     have H44 := (e38.blk (e18.blk H16))
     have : b6 < b40 := n42.eq ▸ lt_of_blk H44
     have E45 := below_ext E39 E39.size n42.ext
     refine lw_e (oe_store (v := .agg #[.bool nr22, .slice A23 n24 c25, .bool nr26, .slice A27 n28 c29, .bool nr30, .slice A31 n32 c33]) (vs := [.bool nr22, .slice A23 n24 c25, .bool nr26, .slice A27 n28 c29, .bool nr30, .slice A31 n32 c33]) (l := [.bool nr22, .slice A23 n24 c25, .bool nr26, .slice A27 n28 c29, .bool nr30, .slice A31 n32 c33]) (T rfl rfl) (T rfl rfl) sz102 rfl rfl rfl n42.blk rfl ?_)
     intro w46 s47 H48
     have E49 := below_st E45 N43 s47
     refine lw_nil ?_
     refine rk_seq ?_
     refine rk_reg ?_
     refine lw_v (.pointer (some ⟨b1, 2, none⟩)) (dv_fieldAddr (a := ⟨b1, 0, none⟩) (a' := ⟨b1, 2, none⟩) fo47_1 (T rfl rfl) rfl) ?_
     have H50 := (s47.blk (n42.ext.blk (e38.blk H21)) (by omega))
     refine lw_v (.agg #[.int .i64 bx, .int .i64 b_y]) (dv_loads (l := [.int .i64 bx, .int .i64 b_y]) agt45 sz45 (T rfl rfl) H50 rfl) ?_
     refine lw_e (oe_callf (vs := [.agg #[.int .i64 bx, .int .i64 b_y]]) co74 (ar1 (T rfl rfl)) (l3Spot_ok   (by omega) (by omega)) ?_)
     rintro _ w66 ⟨nr51, A52, n53, c54, nr55, A56, n57, c58, nr59, A60, n61, c62, rfl, e67, h63, h64, h65⟩
     have E68 := below_ext E49 E49.size e67
     have lh63 := Num.len (by decide) h63
     have lh64 := Num.len (by decide) h64
     have lh65 := Num.len (by decide) h65
     refine lw_e (oe_alloc ze102 ?_)
     intro b69 w70 n71
     have N72 : w.heap.size ≤ b69 := n71.eq ▸ E68.size
     have H73 := (e67.blk H48)
     have : b40 < b69 := n71.eq ▸ lt_of_blk H73
     have E74 := below_ext E68 E68.size n71.ext
     refine lw_e (oe_store (v := .agg #[.bool nr51, .slice A52 n53 c54, .bool nr55, .slice A56 n57 c58, .bool nr59, .slice A60 n61 c62]) (vs := [.bool nr51, .slice A52 n53 c54, .bool nr55, .slice A56 n57 c58, .bool nr59, .slice A60 n61 c62]) (l := [.bool nr51, .slice A52 n53 c54, .bool nr55, .slice A56 n57 c58, .bool nr59, .slice A60 n61 c62]) (T rfl rfl) (T rfl rfl) sz102 rfl rfl rfl n71.blk rfl ?_)
     intro w75 s76 H77
     have E78 := below_st E74 N72 s76
     refine lw_nil ?_
     refine rk_seq ?_
     refine rk_reg ?_
     have H79 := (s76.blk (n71.ext.blk (e67.blk (s47.blk (n42.ext.blk H44) (by omega)))) (by omega))
     refine lw_v (.agg #[.int .u64 (wv3 x), .int .u64 (wv2 x), .int .u64 (wv1 x), .int .u64 (wv0 x), .int .u64 (wv3 y), .int .u64 (wv2 y), .int .u64 (wv1 y), .int .u64 (wv0 y), .int .u64 (wv3 u), .int .u64 (wv2 u), .int .u64 (wv1 u), .int .u64 (wv0 u)]) (dv_loads (l := [.int .u64 (wv3 x), .int .u64 (wv2 x), .int .u64 (wv1 x), .int .u64 (wv0 x), .int .u64 (wv3 y), .int .u64 (wv2 y), .int .u64 (wv1 y), .int .u64 (wv0 y), .int .u64 (wv3 u), .int .u64 (wv2 u), .int .u64 (wv1 u), .int .u64 (wv0 u)]) agt37 sz37 (T rfl rfl) H79 rfl) ?_
     refine lw_e (oe_callf (vs := [.agg #[.int .u64 (wv3 x), .int .u64 (wv2 x), .int .u64 (wv1 x), .int .u64 (wv0 x), .int .u64 (wv3 y), .int .u64 (wv2 y), .int .u64 (wv1 y), .int .u64 (wv0 y), .int .u64 (wv3 u), .int .u64 (wv2 u), .int .u64 (wv1 u), .int .u64 (wv0 u)]]) co69 (ar1 (T rfl rfl)) (l3Of_ok fx_ fy_ fu_  ) ?_)
     rintro _ w95 ⟨nr80, A81, n82, c83, nr84, A85, n86, c87, nr88, A89, n90, c91, rfl, e96, h92, h93, h94⟩
     have E97 := below_ext E78 E78.size e96
     have lh92 := Num.len (by decide) h92
     have lh93 := Num.len (by decide) h93
     have lh94 := Num.len (by decide) h94
     refine lw_e (oe_alloc ze102 ?_)
     intro b98 w99 n100
     have N101 : w.heap.size ≤ b98 := n100.eq ▸ E97.size
     have H102 := (e96.blk H77)
     have : b69 < b98 := n100.eq ▸ lt_of_blk H102
     have E103 := below_ext E97 E97.size n100.ext
     refine lw_e (oe_store (v := .agg #[.bool nr80, .slice A81 n82 c83, .bool nr84, .slice A85 n86 c87, .bool nr88, .slice A89 n90 c91]) (vs := [.bool nr80, .slice A81 n82 c83, .bool nr84, .slice A85 n86 c87, .bool nr88, .slice A89 n90 c91]) (l := [.bool nr80, .slice A81 n82 c83, .bool nr84, .slice A85 n86 c87, .bool nr88, .slice A89 n90 c91]) (T rfl rfl) (T rfl rfl) sz102 rfl rfl rfl n100.blk rfl ?_)
     intro w104 s105 H106
     have E107 := below_st E103 N101 s105
     refine lw_nil ?_
     refine rk_seq ?_
     refine rk_seq ?_
     refine rk_reg ?_
     refine lw_v (.agg #[.bool nr80, .slice A81 n82 c83, .bool nr84, .slice A85 n86 c87, .bool nr88, .slice A89 n90 c91]) (dv_loads (l := [.bool nr80, .slice A81 n82 c83, .bool nr84, .slice A85 n86 c87, .bool nr88, .slice A89 n90 c91]) agt102 sz102 (T rfl rfl) H106 rfl) ?_
     have H108 := (s105.blk (n100.ext.blk (e96.blk (s76.blk (n71.ext.blk H73) (by omega)))) (by omega))
     refine lw_v (.agg #[.bool nr22, .slice A23 n24 c25, .bool nr26, .slice A27 n28 c29, .bool nr30, .slice A31 n32 c33]) (dv_loads (l := [.bool nr22, .slice A23 n24 c25, .bool nr26, .slice A27 n28 c29, .bool nr30, .slice A31 n32 c33]) agt102 sz102 (T rfl rfl) H108 rfl) ?_
     have h109 := ((h92.ext n100.ext).st s105 n100.blk (by decide))
     have h110 := ((h93.ext n100.ext).st s105 n100.blk (by decide))
     have h111 := ((h94.ext n100.ext).st s105 n100.blk (by decide))
     have h112 := ((((((((h34.ext n42.ext).st s47 n42.blk (by decide)).ext e67).ext n71.ext).st s76 n71.blk (by decide)).ext e96).ext n100.ext).st s105 n100.blk (by decide))
     have h113 := ((((((((h35.ext n42.ext).st s47 n42.blk (by decide)).ext e67).ext n71.ext).st s76 n71.blk (by decide)).ext e96).ext n100.ext).st s105 n100.blk (by decide))
     have h114 := ((((((((h36.ext n42.ext).st s47 n42.blk (by decide)).ext e67).ext n71.ext).st s76 n71.blk (by decide)).ext e96).ext n100.ext).st s105 n100.blk (by decide))
     refine lw_e (oe_callf (vs := [.agg #[.bool nr80, .slice A81 n82 c83, .bool nr84, .slice A85 n86 c87, .bool nr88, .slice A89 n90 c91], .agg #[.bool nr22, .slice A23 n24 c25, .bool nr26, .slice A27 n28 c29, .bool nr30, .slice A31 n32 c33]]) co88 (ar2 (T rfl rfl) (T rfl rfl)) (l3CmpX_ok h109 h110 h111 h112 h113 h114 (by first | decide | omega) (by first | decide | omega) (by first | decide | omega) (by first | decide | omega) (by first | decide | omega) (by first | decide | omega) ) ?_)
     rintro _ w115 ⟨rfl, e116⟩
     have E117 := below_ext E107 E107.size e116
     refine lw_v (.bool (decide ((sgnI (x * 1 - ax * u)) < 0))) (dv_lss (a := sgnI (x * 1 - ax * u)) (b := 0) (T rfl rfl) C) ?_
     refine lw_v (.bool (decide ((sgnI (x * 1 - ax * u)) < 0))) (dv_move (T rfl rfl)) ?_
     by_cases hb118 : (sgnI (x * 1 - ax * u)) < 0
     · refine lw_no (d := 28) rfl rfl (congrArg Value.bool (decide_eq_true hb118)) ?_
       refine lw_no (d := 28) rfl rfl (congrArg Value.bool (decide_eq_true hb118)) ?_
       refine lw_no (d := 28) rfl rfl (congrArg Value.bool (decide_eq_true hb118)) ?_
       refine lw_no (d := 28) rfl rfl (congrArg Value.bool (decide_eq_true hb118)) ?_
       refine lw_v (.bool true) (dv_pick_t (T rfl (congrArg Value.bool (decide_eq_true hb118))) C) ?_
       refine lw_nil ?_
       refine rk_ct (T rfl rfl) ?_
       refine rk_seq ?_
       refine rk_reg ?_
       refine lw_v (.int .i64 2) (dv_assign C) ?_
       refine lw_nil ?_
       refine rk_ret Try.func34 (v := .int .i64 2) (res1 Try.results34 (rv_tmp rfl rfl)) ⟨_, rfl, ?_⟩
       exact ⟨(vi (by rw [← ovS_eq]; unfold ovS; repeat (first | rw [if_pos (by assumption)] | rw [if_neg (by assumption)]))), E117⟩
     · have H119 := (e116.blk H106)
       refine lw_vy (.agg #[.bool nr80, .slice A81 n82 c83, .bool nr84, .slice A85 n86 c87, .bool nr88, .slice A89 n90 c91]) (d := 28) rfl rfl (congrArg Value.bool (decide_eq_false hb118)) (dv_loads (l := [.bool nr80, .slice A81 n82 c83, .bool nr84, .slice A85 n86 c87, .bool nr88, .slice A89 n90 c91]) agt102 sz102 (T rfl rfl) H119 rfl) ?_
       have H120 := (e116.blk (s105.blk (n100.ext.blk H102) (by omega)))
       refine lw_vy (.agg #[.bool nr51, .slice A52 n53 c54, .bool nr55, .slice A56 n57 c58, .bool nr59, .slice A60 n61 c62]) (d := 28) rfl rfl (congrArg Value.bool (decide_eq_false hb118)) (dv_loads (l := [.bool nr51, .slice A52 n53 c54, .bool nr55, .slice A56 n57 c58, .bool nr59, .slice A60 n61 c62]) agt102 sz102 (T rfl rfl) H120 rfl) ?_
       have h121 := (h109.ext e116)
       have h122 := (h110.ext e116)
       have h123 := (h111.ext e116)
       have h124 := ((((((h63.ext n71.ext).st s76 n71.blk (by decide)).ext e96).ext n100.ext).st s105 n100.blk (by decide)).ext e116)
       have h125 := ((((((h64.ext n71.ext).st s76 n71.blk (by decide)).ext e96).ext n100.ext).st s105 n100.blk (by decide)).ext e116)
       have h126 := ((((((h65.ext n71.ext).st s76 n71.blk (by decide)).ext e96).ext n100.ext).st s105 n100.blk (by decide)).ext e116)
       refine lw_ey (d := 28) rfl rfl (congrArg Value.bool (decide_eq_false hb118)) (oe_callf (vs := [.agg #[.bool nr80, .slice A81 n82 c83, .bool nr84, .slice A85 n86 c87, .bool nr88, .slice A89 n90 c91], .agg #[.bool nr51, .slice A52 n53 c54, .bool nr55, .slice A56 n57 c58, .bool nr59, .slice A60 n61 c62]]) co88 (ar2 (T rfl rfl) (T rfl rfl)) (l3CmpX_ok h121 h122 h123 h124 h125 h126 (by first | decide | omega) (by first | decide | omega) (by first | decide | omega) (by first | decide | omega) (by first | decide | omega) (by first | decide | omega) ) ?_)
       rintro _ w127 ⟨rfl, e128⟩
       have E129 := below_ext E117 E117.size e128
       refine lw_vy (.bool (decide (0 < (sgnI (x * 1 - bx * u))))) (d := 28) rfl rfl (congrArg Value.bool (decide_eq_false hb118)) (dv_gtr (a := sgnI (x * 1 - bx * u)) (b := 0) (T rfl rfl) C) ?_
       refine lw_v (.bool (decide (0 < (sgnI (x * 1 - bx * u))))) (dv_pick_f (T rfl (congrArg Value.bool (decide_eq_false hb118))) (T rfl rfl)) ?_
       refine lw_nil ?_
       by_cases hb130 : 0 < (sgnI (x * 1 - bx * u))
       · refine rk_ct (T rfl (congrArg Value.bool (decide_eq_true hb130))) ?_
         refine rk_seq ?_
         refine rk_reg ?_
         refine lw_v (.int .i64 2) (dv_assign C) ?_
         refine lw_nil ?_
         refine rk_ret Try.func34 (v := .int .i64 2) (res1 Try.results34 (rv_tmp rfl rfl)) ⟨_, rfl, ?_⟩
         exact ⟨(vi (by rw [← ovS_eq]; unfold ovS; repeat (first | rw [if_pos (by assumption)] | rw [if_neg (by assumption)]))), E129⟩
       · refine rk_cf (T rfl (congrArg Value.bool (decide_eq_false hb130))) ?_
         refine rk_skip ?_
         refine rk_seq ?_
         refine rk_seq ?_
         refine rk_reg ?_
         refine lw_v (.pointer (some ⟨b1, 0, none⟩)) (dv_fieldAddr (a := ⟨b1, 0, none⟩) (a' := ⟨b1, 0, none⟩) fo47_0 (T rfl rfl) rfl) ?_
         refine lw_v (.pointer (some ⟨b1, 0, none⟩)) (dv_fieldAddr (a := ⟨b1, 0, none⟩) (a' := ⟨b1, 0, none⟩) fo45_0 (T rfl rfl) rfl) ?_
         have H131 := (e128.blk (e116.blk (s105.blk (n100.ext.blk (e96.blk (s76.blk (n71.ext.blk (e67.blk H50)) (by omega)))) (by omega))))
         refine lw_v (.int .i64 ax) (dv_load1 (b := b1) (o := 0) agt2 (T rfl rfl) H131 rfl) ?_
         refine lw_v (.pointer (some ⟨b1, 2, none⟩)) (dv_fieldAddr (a := ⟨b1, 0, none⟩) (a' := ⟨b1, 2, none⟩) fo47_1 (T rfl rfl) rfl) ?_
         refine lw_v (.pointer (some ⟨b1, 2, none⟩)) (dv_fieldAddr (a := ⟨b1, 2, none⟩) (a' := ⟨b1, 2, none⟩) fo45_0 (T rfl rfl) rfl) ?_
         refine lw_v (.int .i64 bx) (dv_load1 (b := b1) (o := 2) agt2 (T rfl rfl) H131 rfl) ?_
         refine lw_v (.bool (decide (ax = bx))) (dv_eql (a := ax) (b := bx) (T rfl rfl) (T rfl rfl)) ?_
         refine lw_nil ?_
         by_cases hb132 : ax = bx
         · refine rk_ct (T rfl (congrArg Value.bool (decide_eq_true hb132))) ?_
           refine rk_seq ?_
           refine rk_seq ?_
           refine rk_reg ?_
           have H133 := (e128.blk H119)
           refine lw_v (.agg #[.bool nr80, .slice A81 n82 c83, .bool nr84, .slice A85 n86 c87, .bool nr88, .slice A89 n90 c91]) (dv_loads (l := [.bool nr80, .slice A81 n82 c83, .bool nr84, .slice A85 n86 c87, .bool nr88, .slice A89 n90 c91]) agt102 sz102 (T rfl rfl) H133 rfl) ?_
           have H134 := (e128.blk (e116.blk H108))
           refine lw_v (.agg #[.bool nr22, .slice A23 n24 c25, .bool nr26, .slice A27 n28 c29, .bool nr30, .slice A31 n32 c33]) (dv_loads (l := [.bool nr22, .slice A23 n24 c25, .bool nr26, .slice A27 n28 c29, .bool nr30, .slice A31 n32 c33]) agt102 sz102 (T rfl rfl) H134 rfl) ?_
           have h135 := (h121.ext e128)
           have h136 := (h122.ext e128)
           have h137 := (h123.ext e128)
           have h138 := ((h112.ext e116).ext e128)
           have h139 := ((h113.ext e116).ext e128)
           have h140 := ((h114.ext e116).ext e128)
           refine lw_e (oe_callf (vs := [.agg #[.bool nr80, .slice A81 n82 c83, .bool nr84, .slice A85 n86 c87, .bool nr88, .slice A89 n90 c91], .agg #[.bool nr22, .slice A23 n24 c25, .bool nr26, .slice A27 n28 c29, .bool nr30, .slice A31 n32 c33]]) co89 (ar2 (T rfl rfl) (T rfl rfl)) (l3CmpY_ok h135 h136 h137 h138 h139 h140 (by first | decide | omega) (by first | decide | omega) (by first | decide | omega) (by first | decide | omega) (by first | decide | omega) (by first | decide | omega) ) ?_)
           rintro _ w141 ⟨rfl, e142⟩
           have E143 := below_ext E129 E129.size e142
           refine lw_v (.bool (decide ((sgnI (y * 1 - ay * u)) < 0))) (dv_lss (a := sgnI (y * 1 - ay * u)) (b := 0) (T rfl rfl) C) ?_
           refine lw_nil ?_
           by_cases hb144 : (sgnI (y * 1 - ay * u)) < 0
           · refine rk_ct (T rfl (congrArg Value.bool (decide_eq_true hb144))) ?_
             refine rk_seq ?_
             refine rk_reg ?_
             refine lw_v (.int .i64 1) (dv_assign C) ?_
             refine lw_nil ?_
             refine rk_ret Try.func34 (v := .int .i64 1) (res1 Try.results34 (rv_tmp rfl rfl)) ⟨_, rfl, ?_⟩
             exact ⟨(vi (by rw [← ovS_eq]; unfold ovS; repeat (first | rw [if_pos (by assumption)] | rw [if_neg (by assumption)]))), E143⟩
           · refine rk_cf (T rfl (congrArg Value.bool (decide_eq_false hb144))) ?_
             refine rk_skip ?_
             refine rk_seq ?_
             refine rk_seq ?_
             refine rk_reg ?_
             have H145 := (e142.blk H133)
             refine lw_v (.agg #[.bool nr80, .slice A81 n82 c83, .bool nr84, .slice A85 n86 c87, .bool nr88, .slice A89 n90 c91]) (dv_loads (l := [.bool nr80, .slice A81 n82 c83, .bool nr84, .slice A85 n86 c87, .bool nr88, .slice A89 n90 c91]) agt102 sz102 (T rfl rfl) H145 rfl) ?_
             have H146 := (e142.blk (e128.blk H120))
             refine lw_v (.agg #[.bool nr51, .slice A52 n53 c54, .bool nr55, .slice A56 n57 c58, .bool nr59, .slice A60 n61 c62]) (dv_loads (l := [.bool nr51, .slice A52 n53 c54, .bool nr55, .slice A56 n57 c58, .bool nr59, .slice A60 n61 c62]) agt102 sz102 (T rfl rfl) H146 rfl) ?_
             have h147 := (h135.ext e142)
             have h148 := (h136.ext e142)
             have h149 := (h137.ext e142)
             have h150 := ((h124.ext e128).ext e142)
             have h151 := ((h125.ext e128).ext e142)
             have h152 := ((h126.ext e128).ext e142)
             refine lw_e (oe_callf (vs := [.agg #[.bool nr80, .slice A81 n82 c83, .bool nr84, .slice A85 n86 c87, .bool nr88, .slice A89 n90 c91], .agg #[.bool nr51, .slice A52 n53 c54, .bool nr55, .slice A56 n57 c58, .bool nr59, .slice A60 n61 c62]]) co89 (ar2 (T rfl rfl) (T rfl rfl)) (l3CmpY_ok h147 h148 h149 h150 h151 h152 (by first | decide | omega) (by first | decide | omega) (by first | decide | omega) (by first | decide | omega) (by first | decide | omega) (by first | decide | omega) ) ?_)
             rintro _ w153 ⟨rfl, e154⟩
             have E155 := below_ext E143 E143.size e154
             refine lw_v (.bool (decide (0 < (sgnI (y * 1 - b_y * u))))) (dv_gtr (a := sgnI (y * 1 - b_y * u)) (b := 0) (T rfl rfl) C) ?_
             refine lw_nil ?_
             by_cases hb156 : 0 < (sgnI (y * 1 - b_y * u))
             · refine rk_ct (T rfl (congrArg Value.bool (decide_eq_true hb156))) ?_
               refine rk_seq ?_
               refine rk_reg ?_
               refine lw_v (.int .i64 (-1)) (dv_assign C) ?_
               refine lw_nil ?_
               refine rk_ret Try.func34 (v := .int .i64 (-1)) (res1 Try.results34 (rv_tmp rfl rfl)) ⟨_, rfl, ?_⟩
               exact ⟨(vi (by rw [← ovS_eq]; unfold ovS; repeat (first | rw [if_pos (by assumption)] | rw [if_neg (by assumption)]))), E155⟩
             · refine rk_cf (T rfl (congrArg Value.bool (decide_eq_false hb156))) ?_
               refine rk_skip ?_
               refine rk_seq ?_
               refine rk_reg ?_
               refine lw_v (.int .i64 0) (dv_assign C) ?_
               refine lw_nil ?_
               refine rk_ret Try.func34 (v := .int .i64 0) (res1 Try.results34 (rv_tmp rfl rfl)) ⟨_, rfl, ?_⟩
               exact ⟨(vi (by rw [← ovS_eq]; unfold ovS; repeat (first | rw [if_pos (by assumption)] | rw [if_neg (by assumption)]))), E155⟩
         · refine rk_cf (T rfl (congrArg Value.bool (decide_eq_false hb132))) ?_
           refine rk_skip ?_
           refine rk_seq ?_
           refine rk_reg ?_
           have H157 := (e128.blk (e116.blk H108))
           refine lw_v (.agg #[.bool nr22, .slice A23 n24 c25, .bool nr26, .slice A27 n28 c29, .bool nr30, .slice A31 n32 c33]) (dv_loads (l := [.bool nr22, .slice A23 n24 c25, .bool nr26, .slice A27 n28 c29, .bool nr30, .slice A31 n32 c33]) agt102 sz102 (T rfl rfl) H157 rfl) ?_
           have H158 := (e128.blk H120)
           refine lw_v (.agg #[.bool nr51, .slice A52 n53 c54, .bool nr55, .slice A56 n57 c58, .bool nr59, .slice A60 n61 c62]) (dv_loads (l := [.bool nr51, .slice A52 n53 c54, .bool nr55, .slice A56 n57 c58, .bool nr59, .slice A60 n61 c62]) agt102 sz102 (T rfl rfl) H158 rfl) ?_
           have H159 := (e128.blk H119)
           refine lw_v (.agg #[.bool nr80, .slice A81 n82 c83, .bool nr84, .slice A85 n86 c87, .bool nr88, .slice A89 n90 c91]) (dv_loads (l := [.bool nr80, .slice A81 n82 c83, .bool nr84, .slice A85 n86 c87, .bool nr88, .slice A89 n90 c91]) agt102 sz102 (T rfl rfl) H159 rfl) ?_
           have h160 := ((h112.ext e116).ext e128)
           have h161 := ((h113.ext e116).ext e128)
           have h162 := ((h114.ext e116).ext e128)
           have h163 := (h124.ext e128)
           have h164 := (h125.ext e128)
           have h165 := (h126.ext e128)
           have h166 := (h121.ext e128)
           have h167 := (h122.ext e128)
           have h168 := (h123.ext e128)
           refine lw_e (oe_callf (vs := [.agg #[.bool nr22, .slice A23 n24 c25, .bool nr26, .slice A27 n28 c29, .bool nr30, .slice A31 n32 c33], .agg #[.bool nr51, .slice A52 n53 c54, .bool nr55, .slice A56 n57 c58, .bool nr59, .slice A60 n61 c62], .agg #[.bool nr80, .slice A81 n82 c83, .bool nr84, .slice A85 n86 c87, .bool nr88, .slice A89 n90 c91]]) co73 (ar3 (T rfl rfl) (T rfl rfl) (T rfl rfl)) (l3Orient_ok h160 h161 h162 h163 h164 h165 h166 h167 h168 (by first | decide | omega) (by first | decide | omega) (by first | decide | omega) (by first | decide | omega) (by first | decide | omega) (by first | decide | omega) (by first | decide | omega) (by first | decide | omega) (by first | decide | omega) ) ?_)
           rintro _ w169 ⟨rfl, e170⟩
           have E171 := below_ext E129 E129.size e170
           have := ori_rg ax ay 1 bx b_y 1 x y u
           refine lw_v (.int .i64 (-(ori ax ay 1 bx b_y 1 x y u))) (dv_neg (a := ori ax ay 1 bx b_y 1 x y u) (z := -(ori ax ay 1 bx b_y 1 x y u)) (T rfl rfl) (by rw [Int.zero_sub]; exact wr_i64 (by omega) (by omega))) ?_
           refine lw_v (.int .i64 (-(ori ax ay 1 bx b_y 1 x y u))) (dv_assign (T rfl rfl)) ?_
           refine lw_nil ?_
           refine rk_ret Try.func34 (v := .int .i64 (-(ori ax ay 1 bx b_y 1 x y u))) (res1 Try.results34 (rv_tmp rfl rfl)) ⟨_, rfl, ?_⟩
           exact ⟨(vi (by rw [← ovS_eq]; unfold ovS; repeat (first | rw [if_pos (by assumption)] | rw [if_neg (by assumption)]))), E171⟩
   · refine rk_ct (T rfl (congrArg Value.bool (decide_eq_true hb20))) ?_
     refine rk_seq ?_
     refine rk_reg ?_
     refine lw_v (.int .i64 2) (dv_assign C) ?_
     refine lw_nil ?_
     refine rk_ret Try.func34 (v := .int .i64 2) (res1 Try.results34 (rv_tmp rfl rfl)) ⟨_, rfl, ?_⟩
     exact ⟨(vi (by rw [← ovS_eq]; unfold ovS; repeat (first | rw [if_pos (by assumption)] | rw [if_neg (by assumption)]))), E19⟩
 · refine lw_no (d := 11) rfl rfl (congrArg Value.bool (decide_eq_true hb15)) ?_
   refine lw_no (d := 11) rfl rfl (congrArg Value.bool (decide_eq_true hb15)) ?_
   refine lw_no (d := 11) rfl rfl (congrArg Value.bool (decide_eq_true hb15)) ?_
   refine lw_v (.bool true) (dv_pick_t (T rfl (congrArg Value.bool (decide_eq_true hb15))) C) ?_
   refine lw_nil ?_
   refine rk_ct (T rfl rfl) ?_
   refine rk_seq ?_
   refine rk_reg ?_
   refine lw_v (.int .i64 2) (dv_assign C) ?_
   refine lw_nil ?_
   refine rk_ret Try.func34 (v := .int .i64 2) (res1 Try.results34 (rv_tmp rfl rfl)) ⟨_, rfl, ?_⟩
   exact ⟨(vi (by rw [← ovS_eq]; unfold ovS; repeat (first | rw [if_pos (by assumption)] | rw [if_neg (by assumption)]))), E14⟩
set_option maxHeartbeats 1000000 in
theorem lawOverAt_ok {w : World} {ax ay bx b_y x y u : Int} (fx_ : fits x) (fy_ : fits y) (fu_ : fits u) (iax_ : -9223372036854775808 ≤ ax ∧ ax ≤ 9223372036854775807) (iay_ : -9223372036854775808 ≤ ay ∧ ay ≤ 9223372036854775807) (ibx_ : -9223372036854775808 ≤ bx ∧ bx ≤ 9223372036854775807) (ib_y_ : -9223372036854775808 ≤ b_y ∧ b_y ≤ 9223372036854775807) : Ct Try.prog 7 [.agg #[.int .i64 ax, .int .i64 ay, .int .i64 bx, .int .i64 b_y], .agg #[.int .u64 (wv3 x), .int .u64 (wv2 x), .int .u64 (wv1 x), .int .u64 (wv0 x), .int .u64 (wv3 y), .int .u64 (wv2 y), .int .u64 (wv1 y), .int .u64 (wv0 y), .int .u64 (wv3 u), .int .u64 (wv2 u), .int .u64 (wv1 u), .int .u64 (wv0 u)]] w fun v w1 => v = .bool true ∧ Ext w w1 := by
 refine ct_run (n := 20) Try.func7 rfl Try.ntmps7 rfl ?_
 have E0 : Below w.heap.size w w := Below.refl _ _
 refine rk_seq ?_
 refine rk_reg ?_
 refine lw_e (oe_box (v := .agg #[.int .i64 ax, .int .i64 ay, .int .i64 bx, .int .i64 b_y]) (cs := #[.int .i64 ax, .int .i64 ay, .int .i64 bx, .int .i64 b_y]) (T rfl rfl) rfl ?_)
 intro b1 w2 n3
 have N4 : w.heap.size ≤ b1 := n3.eq ▸ E0.size
 have E5 := below_ext E0 E0.size n3.ext
 refine lw_e (oe_box (v := .agg #[.int .u64 (wv3 x), .int .u64 (wv2 x), .int .u64 (wv1 x), .int .u64 (wv0 x), .int .u64 (wv3 y), .int .u64 (wv2 y), .int .u64 (wv1 y), .int .u64 (wv0 y), .int .u64 (wv3 u), .int .u64 (wv2 u), .int .u64 (wv1 u), .int .u64 (wv0 u)]) (cs := #[.int .u64 (wv3 x), .int .u64 (wv2 x), .int .u64 (wv1 x), .int .u64 (wv0 x), .int .u64 (wv3 y), .int .u64 (wv2 y), .int .u64 (wv1 y), .int .u64 (wv0 y), .int .u64 (wv3 u), .int .u64 (wv2 u), .int .u64 (wv1 u), .int .u64 (wv0 u)]) (T rfl rfl) rfl ?_)
 intro b6 w7 n8
 have N9 : w.heap.size ≤ b6 := n8.eq ▸ E5.size
 have : b1 < b6 := n8.eq ▸ lt_of_blk n3.blk
 have E10 := below_ext E5 E5.size n8.ext
 refine lw_v (.bool false) (dv_assign C) ?_
 refine lw_nil ?_
 refine rk_seq ?_
 refine rk_any (fun w => w.heap[b1]? = some (.cells #[.int .i64 ax, .int .i64 ay, .int .i64 bx, .int .i64 b_y] 43) ∧ w.heap[b6]? = some (.cells #[.int .u64 (wv3 x), .int .u64 (wv2 x), .int .u64 (wv1 x), .int .u64 (wv0 x), .int .u64 (wv3 y), .int .u64 (wv2 y), .int .u64 (wv1 y), .int .u64 (wv0 y), .int .u64 (wv3 u), .int .u64 (wv2 u), .int .u64 (wv1 u), .int .u64 (wv0 u)] 33)) [5] mo ?_
 intro w11 d12
 have E13 := below_ext E10 E10.size d12.ext
 have H14 := (d12.ext.blk (n8.ext.blk n3.blk))
 have H15 := (d12.ext.blk n8.blk)
 refine aw_load 0 (.agg #[.int .i64 ax, .int .i64 ay, .int .i64 bx, .int .i64 b_y]) rfl (by kernel_rfl) .none ⟨H14, H15⟩ (fun _ s => dv_loads (l := [.int .i64 ax, .int .i64 ay, .int .i64 bx, .int .i64 b_y]) agt43 sz43 (T rfl rfl) s.1 rfl) ?_
 refine aw_load 2 (.agg #[.int .u64 (wv3 x), .int .u64 (wv2 x), .int .u64 (wv1 x), .int .u64 (wv0 x), .int .u64 (wv3 y), .int .u64 (wv2 y), .int .u64 (wv1 y), .int .u64 (wv0 y), .int .u64 (wv3 u), .int .u64 (wv2 u), .int .u64 (wv1 u), .int .u64 (wv0 u)]) rfl (by kernel_rfl) .none ⟨H14, H15⟩ (fun _ s => dv_loads (l := [.int .u64 (wv3 x), .int .u64 (wv2 x), .int .u64 (wv1 x), .int .u64 (wv0 x), .int .u64 (wv3 y), .int .u64 (wv2 y), .int .u64 (wv1 y), .int .u64 (wv0 y), .int .u64 (wv3 u), .int .u64 (wv2 u), .int .u64 (wv1 u), .int .u64 (wv0 u)]) agt33 sz33 (T rfl rfl) s.2 rfl) ?_
 refine aw_one 1 rfl (by kernel_rfl) .none (oe_callf (vs := [.agg #[.int .i64 ax, .int .i64 ay, .int .i64 bx, .int .i64 b_y]]) co24 (ar1 (T rfl rfl)) (toSeg_ok (ax := ax) (ay := ay) (bx := bx) (b_y := b_y)  ) ?_)
 rintro _ w16 ⟨rfl, e17⟩
 have E18 := below_ext E13 E13.size e17
 have H19 := (e17.blk H14)
 have H20 := (e17.blk H15)
 refine ⟨.inr ⟨H19, H20⟩, ?_⟩
 refine aw_one 3 rfl (by kernel_rfl) .none (oe_callf (vs := [.agg #[.int .u64 (wv3 x), .int .u64 (wv2 x), .int .u64 (wv1 x), .int .u64 (wv0 x), .int .u64 (wv3 y), .int .u64 (wv2 y), .int .u64 (wv1 y), .int .u64 (wv0 y), .int .u64 (wv3 u), .int .u64 (wv2 u), .int .u64 (wv1 u), .int .u64 (wv0 u)]]) co21 (ar1 (T rfl rfl)) (toPoint_ok (x := x) (y := y) (u := u)  ) ?_)
 rintro _ w21 ⟨rfl, e22⟩
 have E23 := below_ext E18 E18.size e22
 have H24 := (e22.blk H19)
 have H25 := (e22.blk H20)
 refine ⟨.inr ⟨H24, H25⟩, ?_⟩
 refine aw_one 4 rfl (by kernel_rfl) .none (oe_callf (vs := [.agg #[.int .i64 ax, .int .i64 ay, .int .i64 bx, .int .i64 b_y], .agg #[.int .u64 (wv3 x), .int .u64 (wv2 x), .int .u64 (wv1 x), .int .u64 (wv0 x), .int .u64 (wv3 y), .int .u64 (wv2 y), .int .u64 (wv1 y), .int .u64 (wv0 y), .int .u64 (wv3 u), .int .u64 (wv2 u), .int .u64 (wv1 u), .int .u64 (wv0 u)]]) co34 (ar2 (T rfl rfl) (T rfl rfl)) (sOverAt_ok (ax := ax) (ay := ay) (bx := bx) (b_y := b_y) (x := x) (y := y) (u := u) fx_ fy_ fu_ ) ?_)
 rintro _ w26 ⟨rfl, e27⟩
 have E28 := below_ext E23 E23.size e27
 have H29 := (e27.blk H24)
 have H30 := (e27.blk H25)
 refine ⟨.inr ⟨H29, H30⟩, ?_⟩
 refine aw_last 5 (.int .i64 (ovV ax ay bx b_y x y u)) rfl (by kernel_rfl) .none (fun _ => dv_assign (T rfl rfl)) ?_
 refine aw_done (by kernel_rfl) ?_
 refine rk_seq ?_
 refine rk_any (fun w => w.heap[b1]? = some (.cells #[.int .i64 ax, .int .i64 ay, .int .i64 bx, .int .i64 b_y] 43) ∧ w.heap[b6]? = some (.cells #[.int .u64 (wv3 x), .int .u64 (wv2 x), .int .u64 (wv1 x), .int .u64 (wv0 x), .int .u64 (wv3 y), .int .u64 (wv2 y), .int .u64 (wv1 y), .int .u64 (wv0 y), .int .u64 (wv3 u), .int .u64 (wv2 u), .int .u64 (wv1 u), .int .u64 (wv0 u)] 33)) [5] mo ?_
 intro w31 d32
 have E33 := below_ext E28 E28.size d32.ext
 have H34 := (d32.ext.blk H29)
 have H35 := (d32.ext.blk H30)
 refine aw_load 0 (.agg #[.int .i64 ax, .int .i64 ay, .int .i64 bx, .int .i64 b_y]) rfl (by kernel_rfl) .none ⟨H34, H35⟩ (fun _ s => dv_loads (l := [.int .i64 ax, .int .i64 ay, .int .i64 bx, .int .i64 b_y]) agt43 sz43 (T rfl rfl) s.1 rfl) ?_
 refine aw_load 2 (.agg #[.int .u64 (wv3 x), .int .u64 (wv2 x), .int .u64 (wv1 x), .int .u64 (wv0 x), .int .u64 (wv3 y), .int .u64 (wv2 y), .int .u64 (wv1 y), .int .u64 (wv0 y), .int .u64 (wv3 u), .int .u64 (wv2 u), .int .u64 (wv1 u), .int .u64 (wv0 u)]) rfl (by kernel_rfl) .none ⟨H34, H35⟩ (fun _ s => dv_loads (l := [.int .u64 (wv3 x), .int .u64 (wv2 x), .int .u64 (wv1 x), .int .u64 (wv0 x), .int .u64 (wv3 y), .int .u64 (wv2 y), .int .u64 (wv1 y), .int .u64 (wv0 y), .int .u64 (wv3 u), .int .u64 (wv2 u), .int .u64 (wv1 u), .int .u64 (wv0 u)]) agt33 sz33 (T rfl rfl) s.2 rfl) ?_
 refine aw_one 1 rfl (by kernel_rfl) .none (oe_callf (vs := [.agg #[.int .i64 ax, .int .i64 ay, .int .i64 bx, .int .i64 b_y]]) co24 (ar1 (T rfl rfl)) (toSeg_ok (ax := ax) (ay := ay) (bx := bx) (b_y := b_y)  ) ?_)
 rintro _ w36 ⟨rfl, e37⟩
 have E38 := below_ext E33 E33.size e37
 have H39 := (e37.blk H34)
 have H40 := (e37.blk H35)
 refine ⟨.inr ⟨H39, H40⟩, ?_⟩
 refine aw_one 3 rfl (by kernel_rfl) .none (oe_callf (vs := [.agg #[.int .u64 (wv3 x), .int .u64 (wv2 x), .int .u64 (wv1 x), .int .u64 (wv0 x), .int .u64 (wv3 y), .int .u64 (wv2 y), .int .u64 (wv1 y), .int .u64 (wv0 y), .int .u64 (wv3 u), .int .u64 (wv2 u), .int .u64 (wv1 u), .int .u64 (wv0 u)]]) co21 (ar1 (T rfl rfl)) (toPoint_ok (x := x) (y := y) (u := u)  ) ?_)
 rintro _ w41 ⟨rfl, e42⟩
 have E43 := below_ext E38 E38.size e42
 have H44 := (e42.blk H39)
 have H45 := (e42.blk H40)
 refine ⟨.inr ⟨H44, H45⟩, ?_⟩
 refine aw_one 4 rfl (by kernel_rfl) .none (oe_callf (vs := [.agg #[.int .i64 ax, .int .i64 ay, .int .i64 bx, .int .i64 b_y], .agg #[.int .u64 (wv3 x), .int .u64 (wv2 x), .int .u64 (wv1 x), .int .u64 (wv0 x), .int .u64 (wv3 y), .int .u64 (wv2 y), .int .u64 (wv1 y), .int .u64 (wv0 y), .int .u64 (wv3 u), .int .u64 (wv2 u), .int .u64 (wv1 u), .int .u64 (wv0 u)]]) co35 (ar2 (T rfl rfl) (T rfl rfl)) (iOverAt_ok (ax := ax) (ay := ay) (bx := bx) (b_y := b_y) (x := x) (y := y) (u := u) fx_ fy_ fu_ ) ?_)
 rintro _ w46 ⟨rfl, e47⟩
 have E48 := below_ext E43 E43.size e47
 have H49 := (e47.blk H44)
 have H50 := (e47.blk H45)
 refine ⟨.inr ⟨H49, H50⟩, ?_⟩
 refine aw_last 5 (.int .i64 (ovV ax ay bx b_y x y u)) rfl (by kernel_rfl) .none (fun _ => dv_assign (T rfl rfl)) ?_
 refine aw_done (by kernel_rfl) ?_
 refine rk_seq ?_
 refine rk_seq ?_
 refine rk_reg ?_
 refine lw_v (.int .i64 (ovV ax ay bx b_y x y u)) (dv_move (T rfl rfl)) ?_
 refine lw_v (.int .i64 (ovV ax ay bx b_y x y u)) (dv_move (T rfl rfl)) ?_
 refine lw_v (.bool (decide ((ovV ax ay bx b_y x y u) ≠ (ovV ax ay bx b_y x y u)))) (dv_neq (a := ovV ax ay bx b_y x y u) (b := ovV ax ay bx b_y x y u) (T rfl rfl) (T rfl rfl)) ?_
 refine lw_nil ?_
 by_cases hb51 : (ovV ax ay bx b_y x y u) ≠ (ovV ax ay bx b_y x y u)
 · refine rk_ct (T rfl (congrArg Value.bool (decide_eq_true hb51))) ?_
   refine rk_seq ?_
   refine rk_reg ?_
   refine lw_v (.bool false) (dv_assign C) ?_
   refine lw_nil ?_
   refine rk_ret Try.func7 (v := .bool false) (res1 Try.results7 (rv_tmp rfl rfl)) ⟨_, rfl, ?_⟩
   exact ⟨(by exfalso; grind), E48⟩
 · refine rk_cf (T rfl (congrArg Value.bool (decide_eq_false hb51))) ?_
   refine rk_skip ?_
   refine rk_seq ?_
   refine rk_reg ?_
   refine lw_v (.bool true) (dv_assign C) ?_
   refine lw_nil ?_
   refine rk_ret Try.func7 (v := .bool true) (res1 Try.results7 (rv_tmp rfl rfl)) ⟨_, rfl, ?_⟩
   exact ⟨rfl, E48⟩
theorem lawOverAt_w {w : World} {ax ay bx b_y x3 x2 x1 x0 y3 y2 y1 y0 u3 u2 u1 u0 : Int} (iax_ : -9223372036854775808 ≤ ax ∧ ax ≤ 9223372036854775807) (iay_ : -9223372036854775808 ≤ ay ∧ ay ≤ 9223372036854775807) (ibx_ : -9223372036854775808 ≤ bx ∧ bx ≤ 9223372036854775807) (ib_y_ : -9223372036854775808 ≤ b_y ∧ b_y ≤ 9223372036854775807) (hx3 : 0 ≤ x3 ∧ x3 < 18446744073709551616) (hx2 : 0 ≤ x2 ∧ x2 < 18446744073709551616) (hx1 : 0 ≤ x1 ∧ x1 < 18446744073709551616) (hx0 : 0 ≤ x0 ∧ x0 < 18446744073709551616) (hy3 : 0 ≤ y3 ∧ y3 < 18446744073709551616) (hy2 : 0 ≤ y2 ∧ y2 < 18446744073709551616) (hy1 : 0 ≤ y1 ∧ y1 < 18446744073709551616) (hy0 : 0 ≤ y0 ∧ y0 < 18446744073709551616) (hu3 : 0 ≤ u3 ∧ u3 < 18446744073709551616) (hu2 : 0 ≤ u2 ∧ u2 < 18446744073709551616) (hu1 : 0 ≤ u1 ∧ u1 < 18446744073709551616) (hu0 : 0 ≤ u0 ∧ u0 < 18446744073709551616) : Ct Try.prog 7 [.agg #[.int .i64 ax, .int .i64 ay, .int .i64 bx, .int .i64 b_y], .agg #[.int .u64 x3, .int .u64 x2, .int .u64 x1, .int .u64 x0, .int .u64 y3, .int .u64 y2, .int .u64 y1, .int .u64 y0, .int .u64 u3, .int .u64 u2, .int .u64 u1, .int .u64 u0]] w fun v w1 => v = .bool true ∧ Ext w w1 := by
 obtain ⟨x, fx, rfl, rfl, rfl, rfl⟩ := words_z hx3 hx2 hx1 hx0
 obtain ⟨y, fy, rfl, rfl, rfl, rfl⟩ := words_z hy3 hy2 hy1 hy0
 obtain ⟨u, fu, rfl, rfl, rfl, rfl⟩ := words_z hu3 hu2 hu1 hu0
 exact lawOverAt_ok fx fy fu iax_ iay_ ibx_ ib_y_
end Go.Proofs.Ytdanhdbanfpghaa.W
