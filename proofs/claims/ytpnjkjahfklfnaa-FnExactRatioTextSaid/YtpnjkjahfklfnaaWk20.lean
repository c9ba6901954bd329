/- Wk20: walks, written by a program of this session. -/
import Derived.Test.YtpnjkjahfklfnaaWk19
import Derived.Test.YtpnjkjahfklfnaaMa15
set_option linter.unusedVariables false
set_option linter.unusedSimpArgs false
namespace Go.Proofs.Ytpnjkjahfklfnaa.W
open Go Go.RowKit Go.Proofs.Ytpnjkjahfklfnaa.Fw
attribute [local irreducible] RunK LW AW DV OE Ct
theorem agt24 : aggB Try.prog 24 = some true := by kernel_rfl
theorem agt27 : aggB Try.prog 27 = some true := by kernel_rfl
theorem agt64 : aggB Try.prog 64 = some true := by kernel_rfl
theorem agt72 : aggB Try.prog 72 = some true := by kernel_rfl
theorem co16 : callOk Try.prog 16 = true := by kernel_rfl
theorem co46 : callOk Try.prog 46 = true := by kernel_rfl
theorem co47 : callOk Try.prog 47 = true := by kernel_rfl
theorem co52 : callOk Try.prog 52 = true := by kernel_rfl
theorem co54 : callOk Try.prog 54 = true := by kernel_rfl
theorem co59 : callOk Try.prog 59 = true := by kernel_rfl
theorem co71 : callOk Try.prog 71 = true := by kernel_rfl
theorem co75 : callOk Try.prog 75 = true := by kernel_rfl
theorem co76 : callOk Try.prog 76 = true := by kernel_rfl
theorem fo27_0 : fieldOffB Try.prog 27 0 = some 0 := by kernel_rfl
theorem fo27_1 : fieldOffB Try.prog 27 1 = some 4 := by kernel_rfl
theorem fo34_0 : fieldOffB Try.prog 34 0 = some 0 := by kernel_rfl
theorem fo34_1 : fieldOffB Try.prog 34 1 = some 4 := by kernel_rfl
theorem fo64_0 : fieldOffB Try.prog 64 0 = some 0 := by kernel_rfl
theorem fo64_1 : fieldOffB Try.prog 64 1 = some 2 := by kernel_rfl
theorem fo72_0 : fieldOffB Try.prog 72 0 = some 0 := by kernel_rfl
theorem fo72_1 : fieldOffB Try.prog 72 1 = some 2 := by kernel_rfl
theorem pl64 : placesB Try.prog 64 = some [(0, 2), (2, 2)] := by kernel_rfl
theorem pl72 : placesB Try.prog 72 = some [(0, 2), (2, 2)] := by kernel_rfl
theorem sz24 : sizeB Try.prog 24 = some 4 := by kernel_rfl
theorem sz27 : sizeB Try.prog 27 = some 8 := by kernel_rfl
theorem sz64 : sizeB Try.prog 64 = some 4 := by kernel_rfl
theorem sz72 : sizeB Try.prog 72 = some 4 := by kernel_rfl
theorem zc64 : zcB Try.prog 64 = some [.bool false, .slice none 0 0, .bool false, .slice none 0 0] := by kernel_rfl
theorem zc72 : zcB Try.prog 72 = some [.bool false, .slice none 0 0, .bool false, .slice none 0 0] := by kernel_rfl
theorem ze27 : zeroB Try.prog 27 = some #[.int .u64 0, .int .u64 0, .int .u64 0, .int .u64 0, .int .u64 0, .int .u64 0, .int .u64 0, .int .u64 0] := by kernel_rfl
theorem ze64 : zeroB Try.prog 64 = some #[.bool false, .slice none 0 0, .bool false, .slice none 0 0] := by kernel_rfl
theorem ze72 : zeroB Try.prog 72 = some #[.bool false, .slice none 0 0, .bool false, .slice none 0 0] := by kernel_rfl
set_option maxHeartbeats 1000000 in
theorem toRatio_ok {w : World} {x y : Int}   : Ct Try.prog 20 [.agg #[.int .u64 (wv3 x), .int .u64 (wv2 x), .int .u64 (wv1 x), .int .u64 (wv0 x), .int .u64 (wv3 y), .int .u64 (wv2 y), .int .u64 (wv1 y), .int .u64 (wv0 y)]] w fun v w1 => v = .agg #[.int .u64 (wv3 x), .int .u64 (wv2 x), .int .u64 (wv1 x), .int .u64 (wv0 x), .int .u64 (wv3 y), .int .u64 (wv2 y), .int .u64 (wv1 y), .int .u64 (wv0 y)] ∧ Ext w w1 := by
  refine ct_run (n := 13) Try.func20 rfl Try.ntmps20 rfl ?_
  have E0 : Below w.heap.size w w := Below.refl _ _
  refine rk_seq ?_
  refine rk_reg ?_
  refine lw_e (oe_box (v := .agg #[.int .u64 (wv3 x), .int .u64 (wv2 x), .int .u64 (wv1 x), .int .u64 (wv0 x), .int .u64 (wv3 y), .int .u64 (wv2 y), .int .u64 (wv1 y), .int .u64 (wv0 y)]) (cs := #[.int .u64 (wv3 x), .int .u64 (wv2 x), .int .u64 (wv1 x), .int .u64 (wv0 x), .int .u64 (wv3 y), .int .u64 (wv2 y), .int .u64 (wv1 y), .int .u64 (wv0 y)]) (T rfl rfl) rfl ?_)
  intro b1 w2 n3
  have N4 : w.heap.size ≤ b1 := n3.eq ▸ E0.size
  have E5 := below_ext E0 E0.size n3.ext
  refine lw_e (oe_alloc ze27 ?_)
  intro b6 w7 n8
  have N9 : w.heap.size ≤ b6 := n8.eq ▸ E5.size
  have : b1 < b6 := n8.eq ▸ lt_of_blk n3.blk
  have E10 := below_ext E5 E5.size n8.ext
  refine lw_nil ?_
  refine rk_seq ?_
  refine rk_reg ?_
  refine lw_e (oe_alloc ze27 ?_)
  intro b11 w12 n13
  have N14 : w.heap.size ≤ b11 := n13.eq ▸ E10.size
  have : b6 < b11 := n13.eq ▸ lt_of_blk n8.blk
  have E15 := below_ext E10 E10.size n13.ext
  refine lw_nil ?_
  refine rk_seq ?_
  refine rk_reg ?_
  refine lw_v (.pointer (some ⟨b1, 0, none⟩)) (dv_fieldAddr (a := ⟨b1, 0, none⟩) (a' := ⟨b1, 0, none⟩) fo34_0 (T rfl rfl) rfl) ?_
  have H16 := (n13.ext.blk (n8.ext.blk n3.blk))
  refine lw_v (.agg #[.int .u64 (wv3 x), .int .u64 (wv2 x), .int .u64 (wv1 x), .int .u64 (wv0 x)]) (dv_loads (l := [.int .u64 (wv3 x), .int .u64 (wv2 x), .int .u64 (wv1 x), .int .u64 (wv0 x)]) agt24 sz24 (T rfl rfl) H16 rfl) ?_
  refine lw_e (oe_callf (vs := [.agg #[.int .u64 (wv3 x), .int .u64 (wv2 x), .int .u64 (wv1 x), .int .u64 (wv0 x)]]) co16 (ar1 (T rfl rfl)) (toWide_ok (z := x)  ) ?_)
  rintro _ w17 ⟨rfl, e18⟩
  have E19 := below_ext E15 E15.size e18
  refine lw_v (.pointer (some ⟨b11, 0, none⟩)) (dv_fieldAddr (a := ⟨b11, 0, none⟩) (a' := ⟨b11, 0, none⟩) fo27_0 (T rfl rfl) rfl) ?_
  have H20 := (e18.blk n13.blk)
  refine lw_e (oe_store (v := .agg #[.int .u64 (wv3 x), .int .u64 (wv2 x), .int .u64 (wv1 x), .int .u64 (wv0 x)]) (vs := [.int .u64 (wv3 x), .int .u64 (wv2 x), .int .u64 (wv1 x), .int .u64 (wv0 x)]) (l := [.int .u64 (wv3 x), .int .u64 (wv2 x), .int .u64 (wv1 x), .int .u64 (wv0 x), .int .u64 0, .int .u64 0, .int .u64 0, .int .u64 0]) (T rfl rfl) (T rfl rfl) sz25 rfl rfl rfl H20 rfl ?_)
  intro w21 s22 H23
  have E24 := below_st E19 N14 s22
  refine lw_nil ?_
  refine rk_seq ?_
  refine rk_reg ?_
  refine lw_v (.pointer (some ⟨b1, 4, none⟩)) (dv_fieldAddr (a := ⟨b1, 0, none⟩) (a' := ⟨b1, 4, none⟩) fo34_1 (T rfl rfl) rfl) ?_
  have H25 := (s22.blk (e18.blk H16) (by omega))
  refine lw_v (.agg #[.int .u64 (wv3 y), .int .u64 (wv2 y), .int .u64 (wv1 y), .int .u64 (wv0 y)]) (dv_loads (l := [.int .u64 (wv3 y), .int .u64 (wv2 y), .int .u64 (wv1 y), .int .u64 (wv0 y)]) agt24 sz24 (T rfl rfl) H25 rfl) ?_
  refine lw_e (oe_callf (vs := [.agg #[.int .u64 (wv3 y), .int .u64 (wv2 y), .int .u64 (wv1 y), .int .u64 (wv0 y)]]) co16 (ar1 (T rfl rfl)) (toWide_ok (z := y)  ) ?_)
  rintro _ w26 ⟨rfl, e27⟩
  have E28 := below_ext E24 E24.size e27
  refine lw_v (.pointer (some ⟨b11, 4, none⟩)) (dv_fieldAddr (a := ⟨b11, 0, none⟩) (a' := ⟨b11, 4, none⟩) fo27_1 (T rfl rfl) rfl) ?_
  have H29 := (e27.blk H23)
  refine lw_e (oe_store (v := .agg #[.int .u64 (wv3 y), .int .u64 (wv2 y), .int .u64 (wv1 y), .int .u64 (wv0 y)]) (vs := [.int .u64 (wv3 y), .int .u64 (wv2 y), .int .u64 (wv1 y), .int .u64 (wv0 y)]) (l := [.int .u64 (wv3 x), .int .u64 (wv2 x), .int .u64 (wv1 x), .int .u64 (wv0 x), .int .u64 (wv3 y), .int .u64 (wv2 y), .int .u64 (wv1 y), .int .u64 (wv0 y)]) (T rfl rfl) (T rfl rfl) sz25 rfl rfl rfl H29 rfl ?_)
  intro w30 s31 H32
  have E33 := below_st E28 N14 s31
  refine lw_nil ?_
  refine rk_seq ?_
  refine rk_reg ?_
  refine lw_v (.agg #[.int .u64 (wv3 x), .int .u64 (wv2 x), .int .u64 (wv1 x), .int .u64 (wv0 x), .int .u64 (wv3 y), .int .u64 (wv2 y), .int .u64 (wv1 y), .int .u64 (wv0 y)]) (dv_loads (l := [.int .u64 (wv3 x), .int .u64 (wv2 x), .int .u64 (wv1 x), .int .u64 (wv0 x), .int .u64 (wv3 y), .int .u64 (wv2 y), .int .u64 (wv1 y), .int .u64 (wv0 y)]) agt27 sz27 (T rfl rfl) H32 rfl) ?_
  have H34 := (s31.blk (e27.blk (s22.blk (e18.blk (n13.ext.blk n8.blk)) (by omega))) (by omega))
  refine lw_e (oe_store (v := .agg #[.int .u64 (wv3 x), .int .u64 (wv2 x), .int .u64 (wv1 x), .int .u64 (wv0 x), .int .u64 (wv3 y), .int .u64 (wv2 y), .int .u64 (wv1 y), .int .u64 (wv0 y)]) (vs := [.int .u64 (wv3 x), .int .u64 (wv2 x), .int .u64 (wv1 x), .int .u64 (wv0 x), .int .u64 (wv3 y), .int .u64 (wv2 y), .int .u64 (wv1 y), .int .u64 (wv0 y)]) (l := [.int .u64 (wv3 x), .int .u64 (wv2 x), .int .u64 (wv1 x), .int .u64 (wv0 x), .int .u64 (wv3 y), .int .u64 (wv2 y), .int .u64 (wv1 y), .int .u64 (wv0 y)]) (T rfl rfl) (T rfl rfl) sz27 rfl rfl rfl H34 rfl ?_)
  intro w35 s36 H37
  have E38 := below_st E33 N9 s36
  refine lw_nil ?_
  refine rk_ret Try.func20 (v := .agg #[.int .u64 (wv3 x), .int .u64 (wv2 x), .int .u64 (wv1 x), .int .u64 (wv0 x), .int .u64 (wv3 y), .int .u64 (wv2 y), .int .u64 (wv1 y), .int .u64 (wv0 y)]) (res1 Try.results20 (rv_cells (l := [.int .u64 (wv3 x), .int .u64 (wv2 x), .int .u64 (wv1 x), .int .u64 (wv0 x), .int .u64 (wv3 y), .int .u64 (wv2 y), .int .u64 (wv1 y), .int .u64 (wv0 y)]) agt27 sz27 rfl rfl H37 rfl)) ⟨_, rfl, ?_⟩
  exact ⟨rfl, E38⟩

set_option maxHeartbeats 1000000 in
theorem iratio_ok {w : World}  {x y : Int} (fx_ : fits x) (fy_ : fits y)   : Ct Try.prog 54 [.agg #[.int .u64 (wv3 x), .int .u64 (wv2 x), .int .u64 (wv1 x), .int .u64 (wv0 x), .int .u64 (wv3 y), .int .u64 (wv2 y), .int .u64 (wv1 y), .int .u64 (wv0 y)]] w fun v w1 => ∃ nr0_ A0_ l0_ c0_ nr1_ A1_ l1_ c1_, v = .agg #[.bool nr0_, .slice A0_ l0_ c0_, .bool nr1_, .slice A1_ l1_ c1_] ∧ Ext w w1 ∧ Num 64 22 .u64 w1 nr0_ A0_ l0_ c0_ (x) (256) ∧ Num 64 22 .u64 w1 nr1_ A1_ l1_ c1_ (y) (256) := by
  refine ct_run (n := 10) Try.func54 rfl Try.ntmps54 rfl ?_
  have E0 : Below w.heap.size w w := Below.refl _ _
  refine rk_seq ?_
  refine rk_reg ?_
  refine lw_e (oe_box (v := .agg #[.int .u64 (wv3 x), .int .u64 (wv2 x), .int .u64 (wv1 x), .int .u64 (wv0 x), .int .u64 (wv3 y), .int .u64 (wv2 y), .int .u64 (wv1 y), .int .u64 (wv0 y)]) (cs := #[.int .u64 (wv3 x), .int .u64 (wv2 x), .int .u64 (wv1 x), .int .u64 (wv0 x), .int .u64 (wv3 y), .int .u64 (wv2 y), .int .u64 (wv1 y), .int .u64 (wv0 y)]) (T rfl rfl) rfl ?_)
  intro b1 w2 n3
  have N4 : w.heap.size ≤ b1 := n3.eq ▸ E0.size
  have E5 := below_ext E0 E0.size n3.ext
  refine lw_e (oe_alloc ze72 ?_)
  intro b6 w7 n8
  have N9 : w.heap.size ≤ b6 := n8.eq ▸ E5.size
  have : b1 < b6 := n8.eq ▸ lt_of_blk n3.blk
  have E10 := below_ext E5 E5.size n8.ext
  refine lw_nil ?_
  refine rk_seq ?_
  refine rk_any (fun w => w.heap[b1]? = some (.cells #[.int .u64 (wv3 x), .int .u64 (wv2 x), .int .u64 (wv1 x), .int .u64 (wv0 x), .int .u64 (wv3 y), .int .u64 (wv2 y), .int .u64 (wv1 y), .int .u64 (wv0 y)] 27)) [7] mo ?_
  intro w11 d12
  have E13 := below_ext E10 E10.size d12.ext
  have H14 := (d12.ext.blk (n8.ext.blk n3.blk))
  refine aw_pure 0 (.pointer (some ⟨b1, 0, none⟩)) rfl (by kernel_rfl) .none H14 (fun _ => dv_fieldAddr (a := ⟨b1, 0, none⟩) (a' := ⟨b1, 0, none⟩) fo27_0 (T rfl rfl) rfl) ?_
  refine aw_load 1 (.agg #[.int .u64 (wv3 x), .int .u64 (wv2 x), .int .u64 (wv1 x), .int .u64 (wv0 x)]) rfl (by kernel_rfl) .none H14 (fun _ s => dv_loads (l := [.int .u64 (wv3 x), .int .u64 (wv2 x), .int .u64 (wv1 x), .int .u64 (wv0 x)]) agt25 sz25 (T rfl rfl) s rfl) ?_
  refine aw_pure 3 (.pointer (some ⟨b1, 4, none⟩)) rfl (by kernel_rfl) .none H14 (fun _ => dv_fieldAddr (a := ⟨b1, 0, none⟩) (a' := ⟨b1, 4, none⟩) fo27_1 (T rfl rfl) rfl) ?_
  refine aw_load 4 (.agg #[.int .u64 (wv3 y), .int .u64 (wv2 y), .int .u64 (wv1 y), .int .u64 (wv0 y)]) rfl (by kernel_rfl) .none H14 (fun _ s => dv_loads (l := [.int .u64 (wv3 y), .int .u64 (wv2 y), .int .u64 (wv1 y), .int .u64 (wv0 y)]) agt25 sz25 (T rfl rfl) s rfl) ?_
  refine aw_one 2 rfl (by kernel_rfl) .none (oe_callf (vs := [.agg #[.int .u64 (wv3 x), .int .u64 (wv2 x), .int .u64 (wv1 x), .int .u64 (wv0 x)]]) co47 (ar1 (T rfl rfl)) (wnumz_ok (z := x) fx_) ?_)
  rintro _ w20 ⟨nr15, A16, n17, c18, rfl, e21, h19⟩
  have E22 := below_ext E13 E13.size e21
  have lh19 := Num.len (by decide) h19
  have H23 := (e21.blk H14)
  refine ⟨.inr H23, ?_⟩
  refine aw_one 5 rfl (by kernel_rfl) .none (oe_callf (vs := [.agg #[.int .u64 (wv3 y), .int .u64 (wv2 y), .int .u64 (wv1 y), .int .u64 (wv0 y)]]) co47 (ar1 (T rfl rfl)) (wnumz_ok (z := y) fy_) ?_)
  rintro _ w29 ⟨nr24, A25, n26, c27, rfl, e30, h28⟩
  have E31 := below_ext E22 E22.size e30
  have lh28 := Num.len (by decide) h28
  have H32 := (e30.blk H23)
  refine ⟨.inr H32, ?_⟩
  refine aw_pure 6 (.agg #[.bool nr15, .slice A16 n17 c18, .bool nr24, .slice A25 n26 c27]) rfl (by kernel_rfl) .none H32 (fun _ => dv_build (pv := [(0, .agg #[.bool nr15, .slice A16 n17 c18]), (1, .agg #[.bool nr24, .slice A25 n26 c27])]) (l := [.bool nr15, .slice A16 n17 c18, .bool nr24, .slice A25 n26 c27]) zc72 pl72 ⟨rfl, (T rfl rfl), ⟨rfl, (T rfl rfl), trivial⟩⟩ rfl) ?_
  have H33 := (e30.blk (e21.blk (d12.ext.blk n8.blk)))
  refine aw_one 7 rfl (by kernel_rfl) .none (oe_store (v := .agg #[.bool nr15, .slice A16 n17 c18, .bool nr24, .slice A25 n26 c27]) (vs := [.bool nr15, .slice A16 n17 c18, .bool nr24, .slice A25 n26 c27]) (l := [.bool nr15, .slice A16 n17 c18, .bool nr24, .slice A25 n26 c27]) (T rfl rfl) (T rfl rfl) sz72 rfl rfl rfl H33 rfl ?_)
  intro w34 s35 H36
  have E37 := below_st E31 N9 s35
  refine ⟨.inl rfl, ?_⟩
  refine aw_done (by kernel_rfl) ?_
  refine rk_ret Try.func54 (v := .agg #[.bool nr15, .slice A16 n17 c18, .bool nr24, .slice A25 n26 c27]) (res1 Try.results54 (rv_cells (l := [.bool nr15, .slice A16 n17 c18, .bool nr24, .slice A25 n26 c27]) agt72 sz72 rfl rfl H36 rfl)) ⟨_, rfl, ?_⟩
  have h38 := ((h19.ext e30).st s35 H33 (by decide))
  have h39 := (h28.st s35 H33 (by decide))
  exact ⟨_, _, _, _, _, _, _, _, rfl, E37, h38.to rfl (Nat.le_refl _), h39.to rfl (Nat.le_refl _)⟩

set_option maxHeartbeats 1000000 in
theorem iRatioOk_ok {w : World} {x y : Int} (fx_ : fits x) (fy_ : fits y)  : Ct Try.prog 53 [.agg #[.int .u64 (wv3 x), .int .u64 (wv2 x), .int .u64 (wv1 x), .int .u64 (wv0 x), .int .u64 (wv3 y), .int .u64 (wv2 y), .int .u64 (wv1 y), .int .u64 (wv0 y)]] w fun v w1 => v = .bool (decide (rOk x y)) ∧ Ext w w1 := by
  refine ct_run (n := 21) Try.func53 rfl Try.ntmps53 rfl ?_
  have E0 : Below w.heap.size w w := Below.refl _ _
  refine rk_seq ?_
  refine rk_reg ?_
  refine lw_e (oe_box (v := .agg #[.int .u64 (wv3 x), .int .u64 (wv2 x), .int .u64 (wv1 x), .int .u64 (wv0 x), .int .u64 (wv3 y), .int .u64 (wv2 y), .int .u64 (wv1 y), .int .u64 (wv0 y)]) (cs := #[.int .u64 (wv3 x), .int .u64 (wv2 x), .int .u64 (wv1 x), .int .u64 (wv0 x), .int .u64 (wv3 y), .int .u64 (wv2 y), .int .u64 (wv1 y), .int .u64 (wv0 y)]) (T rfl rfl) rfl ?_)
  intro b1 w2 n3
  have N4 : w.heap.size ≤ b1 := n3.eq ▸ E0.size
  have E5 := below_ext E0 E0.size n3.ext
  refine lw_v (.bool false) (dv_assign C) ?_
  refine lw_nil ?_
  refine rk_seq ?_
  refine rk_reg ?_
  refine lw_v (.agg #[.int .u64 (wv3 x), .int .u64 (wv2 x), .int .u64 (wv1 x), .int .u64 (wv0 x), .int .u64 (wv3 y), .int .u64 (wv2 y), .int .u64 (wv1 y), .int .u64 (wv0 y)]) (dv_loads (l := [.int .u64 (wv3 x), .int .u64 (wv2 x), .int .u64 (wv1 x), .int .u64 (wv0 x), .int .u64 (wv3 y), .int .u64 (wv2 y), .int .u64 (wv1 y), .int .u64 (wv0 y)]) agt27 sz27 (T rfl rfl) n3.blk rfl) ?_
  refine lw_e (oe_callf (vs := [.agg #[.int .u64 (wv3 x), .int .u64 (wv2 x), .int .u64 (wv1 x), .int .u64 (wv0 x), .int .u64 (wv3 y), .int .u64 (wv2 y), .int .u64 (wv1 y), .int .u64 (wv0 y)]]) co54 (ar1 (T rfl rfl)) (iratio_ok fx_ fy_  ) ?_)
  rintro _ w16 ⟨nr6, A7, n8, c9, nr10, A11, n12, c13, rfl, e17, h14, h15⟩
  have E18 := below_ext E5 E5.size e17
  have lh14 := Num.len (by decide) h14
  have lh15 := Num.len (by decide) h15
  refine lw_e (oe_alloc ze72 ?_)
  intro b19 w20 n21
  have N22 : w.heap.size ≤ b19 := n21.eq ▸ E18.size
  have H23 := (e17.blk n3.blk)
  have : b1 < b19 := n21.eq ▸ lt_of_blk H23
  have E24 := below_ext E18 E18.size n21.ext
  refine lw_e (oe_store (v := .agg #[.bool nr6, .slice A7 n8 c9, .bool nr10, .slice A11 n12 c13]) (vs := [.bool nr6, .slice A7 n8 c9, .bool nr10, .slice A11 n12 c13]) (l := [.bool nr6, .slice A7 n8 c9, .bool nr10, .slice A11 n12 c13]) (T rfl rfl) (T rfl rfl) sz72 rfl rfl rfl n21.blk rfl ?_)
  intro w25 s26 H27
  have E28 := below_st E24 N22 s26
  refine lw_nil ?_
  refine rk_seq ?_
  refine rk_reg ?_
  refine lw_v (.pointer (some ⟨b19, 2, none⟩)) (dv_fieldAddr (a := ⟨b19, 0, none⟩) (a' := ⟨b19, 2, none⟩) fo72_1 (T rfl rfl) rfl) ?_
  refine lw_v (.agg #[.bool nr10, .slice A11 n12 c13]) (dv_loads (l := [.bool nr10, .slice A11 n12 c13]) agt69 sz69 (T rfl rfl) H27 rfl) ?_
  have h29 := ((h15.ext n21.ext).st s26 n21.blk (by decide))
  refine lw_e (oe_callf (vs := [.agg #[.bool nr10, .slice A11 n12 c13]]) co73 (ar1 (T rfl rfl)) (nsign_ok h29 ) ?_)
  rintro _ w30 ⟨rfl, e31⟩
  have E32 := below_ext E28 E28.size e31
  refine lw_v (.bool (decide (0 < (sgnI y)))) (dv_gtr (a := sgnI y) (b := 0) (T rfl rfl) C) ?_
  refine lw_v (.bool (decide (0 < (sgnI y)))) (dv_move (T rfl rfl)) ?_
  by_cases hb33 : 0 < (sgnI y)
  · -- T
    refine lw_vy (.pointer (some ⟨b19, 0, none⟩)) (d := 10) rfl rfl (congrArg Value.bool (decide_eq_true hb33)) (dv_fieldAddr (a := ⟨b19, 0, none⟩) (a' := ⟨b19, 0, none⟩) fo72_0 (T rfl rfl) rfl) ?_
    have H34 := (e31.blk H27)
    refine lw_vy (.agg #[.bool nr6, .slice A7 n8 c9]) (d := 10) rfl rfl (congrArg Value.bool (decide_eq_true hb33)) (dv_loads (l := [.bool nr6, .slice A7 n8 c9]) agt69 sz69 (T rfl rfl) H34 rfl) ?_
    refine lw_vy (.pointer (some ⟨b19, 2, none⟩)) (d := 10) rfl rfl (congrArg Value.bool (decide_eq_true hb33)) (dv_fieldAddr (a := ⟨b19, 0, none⟩) (a' := ⟨b19, 2, none⟩) fo72_1 (T rfl rfl) rfl) ?_
    refine lw_vy (.agg #[.bool nr10, .slice A11 n12 c13]) (d := 10) rfl rfl (congrArg Value.bool (decide_eq_true hb33)) (dv_loads (l := [.bool nr10, .slice A11 n12 c13]) agt69 sz69 (T rfl rfl) H34 rfl) ?_
    refine lw_ey (d := 10) rfl rfl (congrArg Value.bool (decide_eq_true hb33)) (oe_buildSlice (pv := [(0, .agg #[.bool nr6, .slice A7 n8 c9]), (1, .agg #[.bool nr10, .slice A11 n12 c13])]) (init := [.bool false, .slice none 0 0, .bool false, .slice none 0 0]) (l := [.bool nr6, .slice A7 n8 c9, .bool nr10, .slice A11 n12 c13]) us136 sz69 rfl rfl zc69 (by kernel_rfl) ⟨rfl, (T rfl rfl), ⟨rfl, (T rfl rfl), trivial⟩⟩ rfl ?_)
    intro b35 w36 n37
    have N38 : w.heap.size ≤ b35 := n37.eq ▸ E32.size
    have : b19 < b35 := n37.eq ▸ lt_of_blk H34
    have E39 := below_ext E32 E32.size n37.ext
    have h40 := ((((h14.ext n21.ext).st s26 n21.blk (by decide)).ext e31).ext n37.ext)
    have h41 := ((h29.ext e31).ext n37.ext)
    refine lw_ey (d := 10) rfl rfl (congrArg Value.bool (decide_eq_true hb33)) (oe_callf (vs := [.slice (some ⟨b35, 0, none⟩) 2 2]) co75 (ar1 (T rfl rfl)) (gcd2_ok h40 h41 (by first | decide | omega) (by first | decide | omega) n37.blk) ?_)
    rintro _ w47 ⟨nr42, A43, n44, c45, rfl, e48, h46⟩
    have E49 := below_ext E39 E39.size e48
    have lh46 := Num.len (by decide) h46
    refine lw_ey (d := 10) rfl rfl (congrArg Value.bool (decide_eq_true hb33)) (oe_callf (vs := [.int .i64 1]) co77 (ar1 C) (whole_ok  (by omega)) ?_)
    rintro _ w55 ⟨nr50, A51, n52, c53, rfl, e56, h54⟩
    have E57 := below_ext E49 E49.size e56
    have lh54 := Num.len (by decide) h54
    have h58 := (h46.ext e56)
    refine lw_ey (d := 10) rfl rfl (congrArg Value.bool (decide_eq_true hb33)) (oe_callf (vs := [.agg #[.bool nr42, .slice A43 n44 c45], .agg #[.bool nr50, .slice A51 n52 c53]]) co76 (ar2 (T rfl rfl) (T rfl rfl)) (ncmp_ok h58 h54 (by first | decide | omega) (by first | decide | omega)) ?_)
    rintro _ w59 ⟨rfl, e60⟩
    have E61 := below_ext E57 E57.size e60
    refine lw_vy (.bool (decide ((sgnI ((gI x y) - 1)) = 0))) (d := 10) rfl rfl (congrArg Value.bool (decide_eq_true hb33)) (dv_eql (a := sgnI ((gI x y) - 1)) (b := 0) (T rfl rfl) C) ?_
    refine lw_v (.bool (decide ((sgnI ((gI x y) - 1)) = 0))) (dv_pick_t (T rfl (congrArg Value.bool (decide_eq_true hb33))) (T rfl rfl)) ?_
    refine lw_v (.bool (decide ((sgnI ((gI x y) - 1)) = 0))) (dv_assign (T rfl rfl)) ?_
    refine lw_nil ?_
    refine rk_ret Try.func53 (v := .bool (decide ((sgnI ((gI x y) - 1)) = 0))) (res1 Try.results53 (rv_tmp rfl rfl)) ⟨_, rfl, ?_⟩
    exact ⟨(vb (by unfold rOk; have h1 := @sgnI_gt y; have h2 := @sgnI_zero (gI x y - 1); omega)), E61⟩
  · -- F
    refine lw_no (d := 10) rfl rfl (congrArg Value.bool (decide_eq_false hb33)) ?_
    refine lw_no (d := 10) rfl rfl (congrArg Value.bool (decide_eq_false hb33)) ?_
    refine lw_no (d := 10) rfl rfl (congrArg Value.bool (decide_eq_false hb33)) ?_
    refine lw_no (d := 10) rfl rfl (congrArg Value.bool (decide_eq_false hb33)) ?_
    refine lw_no (d := 10) rfl rfl (congrArg Value.bool (decide_eq_false hb33)) ?_
    refine lw_no (d := 10) rfl rfl (congrArg Value.bool (decide_eq_false hb33)) ?_
    refine lw_no (d := 10) rfl rfl (congrArg Value.bool (decide_eq_false hb33)) ?_
    refine lw_no (d := 10) rfl rfl (congrArg Value.bool (decide_eq_false hb33)) ?_
    refine lw_no (d := 10) rfl rfl (congrArg Value.bool (decide_eq_false hb33)) ?_
    refine lw_v (.bool false) (dv_pick_f (T rfl (congrArg Value.bool (decide_eq_false hb33))) C) ?_
    refine lw_v (.bool false) (dv_assign (T rfl rfl)) ?_
    refine lw_nil ?_
    refine rk_ret Try.func53 (v := .bool false) (res1 Try.results53 (rv_tmp rfl rfl)) ⟨_, rfl, ?_⟩
    exact ⟨(vf (by unfold rOk; have h1 := @sgnI_gt y; omega)), E32⟩

set_option maxHeartbeats 1000000 in
theorem sratio_ok {w : World}  {x y : Int} (fx_ : fits x) (fy_ : fits y)   : Ct Try.prog 52 [.agg #[.int .u64 (wv3 x), .int .u64 (wv2 x), .int .u64 (wv1 x), .int .u64 (wv0 x), .int .u64 (wv3 y), .int .u64 (wv2 y), .int .u64 (wv1 y), .int .u64 (wv0 y)]] w fun v w1 => ∃ nr0_ A0_ l0_ c0_ nr1_ A1_ l1_ c1_, v = .agg #[.bool nr0_, .slice A0_ l0_ c0_, .bool nr1_, .slice A1_ l1_ c1_] ∧ Ext w w1 ∧ Num 32 115 .u32 w1 nr0_ A0_ l0_ c0_ (x) (256) ∧ Num 32 115 .u32 w1 nr1_ A1_ l1_ c1_ (y) (256) := by
  refine ct_run (n := 10) Try.func52 rfl Try.ntmps52 rfl ?_
  have E0 : Below w.heap.size w w := Below.refl _ _
  refine rk_seq ?_
  refine rk_reg ?_
  refine lw_e (oe_box (v := .agg #[.int .u64 (wv3 x), .int .u64 (wv2 x), .int .u64 (wv1 x), .int .u64 (wv0 x), .int .u64 (wv3 y), .int .u64 (wv2 y), .int .u64 (wv1 y), .int .u64 (wv0 y)]) (cs := #[.int .u64 (wv3 x), .int .u64 (wv2 x), .int .u64 (wv1 x), .int .u64 (wv0 x), .int .u64 (wv3 y), .int .u64 (wv2 y), .int .u64 (wv1 y), .int .u64 (wv0 y)]) (T rfl rfl) rfl ?_)
  intro b1 w2 n3
  have N4 : w.heap.size ≤ b1 := n3.eq ▸ E0.size
  have E5 := below_ext E0 E0.size n3.ext
  refine lw_e (oe_alloc ze64 ?_)
  intro b6 w7 n8
  have N9 : w.heap.size ≤ b6 := n8.eq ▸ E5.size
  have : b1 < b6 := n8.eq ▸ lt_of_blk n3.blk
  have E10 := below_ext E5 E5.size n8.ext
  refine lw_nil ?_
  refine rk_seq ?_
  refine rk_any (fun w => w.heap[b1]? = some (.cells #[.int .u64 (wv3 x), .int .u64 (wv2 x), .int .u64 (wv1 x), .int .u64 (wv0 x), .int .u64 (wv3 y), .int .u64 (wv2 y), .int .u64 (wv1 y), .int .u64 (wv0 y)] 27)) [7] mo ?_
  intro w11 d12
  have E13 := below_ext E10 E10.size d12.ext
  have H14 := (d12.ext.blk (n8.ext.blk n3.blk))
  refine aw_pure 0 (.pointer (some ⟨b1, 0, none⟩)) rfl (by kernel_rfl) .none H14 (fun _ => dv_fieldAddr (a := ⟨b1, 0, none⟩) (a' := ⟨b1, 0, none⟩) fo27_0 (T rfl rfl) rfl) ?_
  refine aw_load 1 (.agg #[.int .u64 (wv3 x), .int .u64 (wv2 x), .int .u64 (wv1 x), .int .u64 (wv0 x)]) rfl (by kernel_rfl) .none H14 (fun _ s => dv_loads (l := [.int .u64 (wv3 x), .int .u64 (wv2 x), .int .u64 (wv1 x), .int .u64 (wv0 x)]) agt25 sz25 (T rfl rfl) s rfl) ?_
  refine aw_pure 3 (.pointer (some ⟨b1, 4, none⟩)) rfl (by kernel_rfl) .none H14 (fun _ => dv_fieldAddr (a := ⟨b1, 0, none⟩) (a' := ⟨b1, 4, none⟩) fo27_1 (T rfl rfl) rfl) ?_
  refine aw_load 4 (.agg #[.int .u64 (wv3 y), .int .u64 (wv2 y), .int .u64 (wv1 y), .int .u64 (wv0 y)]) rfl (by kernel_rfl) .none H14 (fun _ s => dv_loads (l := [.int .u64 (wv3 y), .int .u64 (wv2 y), .int .u64 (wv1 y), .int .u64 (wv0 y)]) agt25 sz25 (T rfl rfl) s rfl) ?_
  refine aw_one 2 rfl (by kernel_rfl) .none (oe_callf (vs := [.agg #[.int .u64 (wv3 x), .int .u64 (wv2 x), .int .u64 (wv1 x), .int .u64 (wv0 x)]]) co46 (ar1 (T rfl rfl)) (l1Fromz_ok (z := x) fx_) ?_)
  rintro _ w20 ⟨nr15, A16, n17, c18, rfl, e21, h19⟩
  have E22 := below_ext E13 E13.size e21
  have lh19 := Num.len (by decide) h19
  have H23 := (e21.blk H14)
  refine ⟨.inr H23, ?_⟩
  refine aw_one 5 rfl (by kernel_rfl) .none (oe_callf (vs := [.agg #[.int .u64 (wv3 y), .int .u64 (wv2 y), .int .u64 (wv1 y), .int .u64 (wv0 y)]]) co46 (ar1 (T rfl rfl)) (l1Fromz_ok (z := y) fy_) ?_)
  rintro _ w29 ⟨nr24, A25, n26, c27, rfl, e30, h28⟩
  have E31 := below_ext E22 E22.size e30
  have lh28 := Num.len (by decide) h28
  have H32 := (e30.blk H23)
  refine ⟨.inr H32, ?_⟩
  refine aw_pure 6 (.agg #[.bool nr15, .slice A16 n17 c18, .bool nr24, .slice A25 n26 c27]) rfl (by kernel_rfl) .none H32 (fun _ => dv_build (pv := [(0, .agg #[.bool nr15, .slice A16 n17 c18]), (1, .agg #[.bool nr24, .slice A25 n26 c27])]) (l := [.bool nr15, .slice A16 n17 c18, .bool nr24, .slice A25 n26 c27]) zc64 pl64 ⟨rfl, (T rfl rfl), ⟨rfl, (T rfl rfl), trivial⟩⟩ rfl) ?_
  have H33 := (e30.blk (e21.blk (d12.ext.blk n8.blk)))
  refine aw_one 7 rfl (by kernel_rfl) .none (oe_store (v := .agg #[.bool nr15, .slice A16 n17 c18, .bool nr24, .slice A25 n26 c27]) (vs := [.bool nr15, .slice A16 n17 c18, .bool nr24, .slice A25 n26 c27]) (l := [.bool nr15, .slice A16 n17 c18, .bool nr24, .slice A25 n26 c27]) (T rfl rfl) (T rfl rfl) sz64 rfl rfl rfl H33 rfl ?_)
  intro w34 s35 H36
  have E37 := below_st E31 N9 s35
  refine ⟨.inl rfl, ?_⟩
  refine aw_done (by kernel_rfl) ?_
  refine rk_ret Try.func52 (v := .agg #[.bool nr15, .slice A16 n17 c18, .bool nr24, .slice A25 n26 c27]) (res1 Try.results52 (rv_cells (l := [.bool nr15, .slice A16 n17 c18, .bool nr24, .slice A25 n26 c27]) agt64 sz64 rfl rfl H36 rfl)) ⟨_, rfl, ?_⟩
  have h38 := ((h19.ext e30).st s35 H33 (by decide))
  have h39 := (h28.st s35 H33 (by decide))
  exact ⟨_, _, _, _, _, _, _, _, rfl, E37, h38.to rfl (Nat.le_refl _), h39.to rfl (Nat.le_refl _)⟩

set_option maxHeartbeats 1000000 in
theorem sRatioOk_ok {w : World} {x y : Int} (fx_ : fits x) (fy_ : fits y)  : Ct Try.prog 50 [.agg #[.int .u64 (wv3 x), .int .u64 (wv2 x), .int .u64 (wv1 x), .int .u64 (wv0 x), .int .u64 (wv3 y), .int .u64 (wv2 y), .int .u64 (wv1 y), .int .u64 (wv0 y)]] w fun v w1 => v = .bool (decide (rOk x y)) ∧ Ext w w1 := by
  refine ct_run (n := 20) Try.func50 rfl Try.ntmps50 rfl ?_
  have E0 : Below w.heap.size w w := Below.refl _ _
  refine rk_seq ?_
  refine rk_reg ?_
  refine lw_e (oe_box (v := .agg #[.int .u64 (wv3 x), .int .u64 (wv2 x), .int .u64 (wv1 x), .int .u64 (wv0 x), .int .u64 (wv3 y), .int .u64 (wv2 y), .int .u64 (wv1 y), .int .u64 (wv0 y)]) (cs := #[.int .u64 (wv3 x), .int .u64 (wv2 x), .int .u64 (wv1 x), .int .u64 (wv0 x), .int .u64 (wv3 y), .int .u64 (wv2 y), .int .u64 (wv1 y), .int .u64 (wv0 y)]) (T rfl rfl) rfl ?_)
  intro b1 w2 n3
  have N4 : w.heap.size ≤ b1 := n3.eq ▸ E0.size
  have E5 := below_ext E0 E0.size n3.ext
  refine lw_v (.bool false) (dv_assign C) ?_
  refine lw_nil ?_
  refine rk_seq ?_
  refine rk_reg ?_
  refine lw_v (.agg #[.int .u64 (wv3 x), .int .u64 (wv2 x), .int .u64 (wv1 x), .int .u64 (wv0 x), .int .u64 (wv3 y), .int .u64 (wv2 y), .int .u64 (wv1 y), .int .u64 (wv0 y)]) (dv_loads (l := [.int .u64 (wv3 x), .int .u64 (wv2 x), .int .u64 (wv1 x), .int .u64 (wv0 x), .int .u64 (wv3 y), .int .u64 (wv2 y), .int .u64 (wv1 y), .int .u64 (wv0 y)]) agt27 sz27 (T rfl rfl) n3.blk rfl) ?_
  refine lw_e (oe_callf (vs := [.agg #[.int .u64 (wv3 x), .int .u64 (wv2 x), .int .u64 (wv1 x), .int .u64 (wv0 x), .int .u64 (wv3 y), .int .u64 (wv2 y), .int .u64 (wv1 y), .int .u64 (wv0 y)]]) co52 (ar1 (T rfl rfl)) (sratio_ok fx_ fy_  ) ?_)
  rintro _ w16 ⟨nr6, A7, n8, c9, nr10, A11, n12, c13, rfl, e17, h14, h15⟩
  have E18 := below_ext E5 E5.size e17
  have lh14 := Num.len (by decide) h14
  have lh15 := Num.len (by decide) h15
  refine lw_e (oe_alloc ze64 ?_)
  intro b19 w20 n21
  have N22 : w.heap.size ≤ b19 := n21.eq ▸ E18.size
  have H23 := (e17.blk n3.blk)
  have : b1 < b19 := n21.eq ▸ lt_of_blk H23
  have E24 := below_ext E18 E18.size n21.ext
  refine lw_e (oe_store (v := .agg #[.bool nr6, .slice A7 n8 c9, .bool nr10, .slice A11 n12 c13]) (vs := [.bool nr6, .slice A7 n8 c9, .bool nr10, .slice A11 n12 c13]) (l := [.bool nr6, .slice A7 n8 c9, .bool nr10, .slice A11 n12 c13]) (T rfl rfl) (T rfl rfl) sz64 rfl rfl rfl n21.blk rfl ?_)
  intro w25 s26 H27
  have E28 := below_st E24 N22 s26
  refine lw_nil ?_
  refine rk_seq ?_
  refine rk_reg ?_
  refine lw_v (.pointer (some ⟨b19, 2, none⟩)) (dv_fieldAddr (a := ⟨b19, 0, none⟩) (a' := ⟨b19, 2, none⟩) fo64_1 (T rfl rfl) rfl) ?_
  refine lw_v (.agg #[.bool nr10, .slice A11 n12 c13]) (dv_loads (l := [.bool nr10, .slice A11 n12 c13]) agt62 sz62 (T rfl rfl) H27 rfl) ?_
  have h29 := ((h15.ext n21.ext).st s26 n21.blk (by decide))
  refine lw_e (oe_callf (vs := [.agg #[.bool nr10, .slice A11 n12 c13]]) co69 (ar1 (T rfl rfl)) (l1Sign_ok h29 ) ?_)
  rintro _ w30 ⟨rfl, e31⟩
  have E32 := below_ext E28 E28.size e31
  refine lw_v (.bool (decide (0 < (sgnI y)))) (dv_gtr (a := sgnI y) (b := 0) (T rfl rfl) C) ?_
  refine lw_v (.bool (decide (0 < (sgnI y)))) (dv_move (T rfl rfl)) ?_
  by_cases hb33 : 0 < (sgnI y)
  · -- T
    refine lw_vy (.pointer (some ⟨b19, 0, none⟩)) (d := 10) rfl rfl (congrArg Value.bool (decide_eq_true hb33)) (dv_fieldAddr (a := ⟨b19, 0, none⟩) (a' := ⟨b19, 0, none⟩) fo64_0 (T rfl rfl) rfl) ?_
    have H34 := (e31.blk H27)
    refine lw_vy (.agg #[.bool nr6, .slice A7 n8 c9]) (d := 10) rfl rfl (congrArg Value.bool (decide_eq_true hb33)) (dv_loads (l := [.bool nr6, .slice A7 n8 c9]) agt62 sz62 (T rfl rfl) H34 rfl) ?_
    refine lw_vy (.pointer (some ⟨b19, 2, none⟩)) (d := 10) rfl rfl (congrArg Value.bool (decide_eq_true hb33)) (dv_fieldAddr (a := ⟨b19, 0, none⟩) (a' := ⟨b19, 2, none⟩) fo64_1 (T rfl rfl) rfl) ?_
    refine lw_vy (.agg #[.bool nr10, .slice A11 n12 c13]) (d := 10) rfl rfl (congrArg Value.bool (decide_eq_true hb33)) (dv_loads (l := [.bool nr10, .slice A11 n12 c13]) agt62 sz62 (T rfl rfl) H34 rfl) ?_
    have h35 := (((h14.ext n21.ext).st s26 n21.blk (by decide)).ext e31)
    have h36 := (h29.ext e31)
    refine lw_ey (d := 10) rfl rfl (congrArg Value.bool (decide_eq_true hb33)) (oe_callf (vs := [.agg #[.bool nr6, .slice A7 n8 c9], .agg #[.bool nr10, .slice A11 n12 c13]]) co71 (ar2 (T rfl rfl) (T rfl rfl)) (l1Gcd_ok h35 h36 (by first | decide | omega) (by first | decide | omega)) ?_)
    rintro _ w42 ⟨nr37, A38, n39, c40, rfl, e43, h41⟩
    have E44 := below_ext E32 E32.size e43
    have lh41 := Num.len (by decide) h41
    refine lw_ey (d := 10) rfl rfl (congrArg Value.bool (decide_eq_true hb33)) (oe_callf (vs := [.int .i64 1]) co60 (ar1 C) (l1Int_ok  (by omega)) ?_)
    rintro _ w50 ⟨nr45, A46, n47, c48, rfl, e51, h49⟩
    have E52 := below_ext E44 E44.size e51
    have lh49 := Num.len (by decide) h49
    have h53 := (h41.ext e51)
    refine lw_ey (d := 10) rfl rfl (congrArg Value.bool (decide_eq_true hb33)) (oe_callf (vs := [.agg #[.bool nr37, .slice A38 n39 c40], .agg #[.bool nr45, .slice A46 n47 c48]]) co59 (ar2 (T rfl rfl) (T rfl rfl)) (l1Cmp_ok h53 h49 (by first | decide | omega) (by first | decide | omega)) ?_)
    rintro _ w54 ⟨rfl, e55⟩
    have E56 := below_ext E52 E52.size e55
    refine lw_vy (.bool (decide ((sgnI ((gI x y) - 1)) = 0))) (d := 10) rfl rfl (congrArg Value.bool (decide_eq_true hb33)) (dv_eql (a := sgnI ((gI x y) - 1)) (b := 0) (T rfl rfl) C) ?_
    refine lw_v (.bool (decide ((sgnI ((gI x y) - 1)) = 0))) (dv_pick_t (T rfl (congrArg Value.bool (decide_eq_true hb33))) (T rfl rfl)) ?_
    refine lw_v (.bool (decide ((sgnI ((gI x y) - 1)) = 0))) (dv_assign (T rfl rfl)) ?_
    refine lw_nil ?_
    refine rk_ret Try.func50 (v := .bool (decide ((sgnI ((gI x y) - 1)) = 0))) (res1 Try.results50 (rv_tmp rfl rfl)) ⟨_, rfl, ?_⟩
    exact ⟨(vb (by unfold rOk; have h1 := @sgnI_gt y; have h2 := @sgnI_zero (gI x y - 1); omega)), E56⟩
  · -- F
    refine lw_no (d := 10) rfl rfl (congrArg Value.bool (decide_eq_false hb33)) ?_
    refine lw_no (d := 10) rfl rfl (congrArg Value.bool (decide_eq_false hb33)) ?_
    refine lw_no (d := 10) rfl rfl (congrArg Value.bool (decide_eq_false hb33)) ?_
    refine lw_no (d := 10) rfl rfl (congrArg Value.bool (decide_eq_false hb33)) ?_
    refine lw_no (d := 10) rfl rfl (congrArg Value.bool (decide_eq_false hb33)) ?_
    refine lw_no (d := 10) rfl rfl (congrArg Value.bool (decide_eq_false hb33)) ?_
    refine lw_no (d := 10) rfl rfl (congrArg Value.bool (decide_eq_false hb33)) ?_
    refine lw_no (d := 10) rfl rfl (congrArg Value.bool (decide_eq_false hb33)) ?_
    refine lw_v (.bool false) (dv_pick_f (T rfl (congrArg Value.bool (decide_eq_false hb33))) C) ?_
    refine lw_v (.bool false) (dv_assign (T rfl rfl)) ?_
    refine lw_nil ?_
    refine rk_ret Try.func50 (v := .bool false) (res1 Try.results50 (rv_tmp rfl rfl)) ⟨_, rfl, ?_⟩
    exact ⟨(vf (by unfold rOk; have h1 := @sgnI_gt y; omega)), E32⟩

end Go.Proofs.Ytpnjkjahfklfnaa.W
