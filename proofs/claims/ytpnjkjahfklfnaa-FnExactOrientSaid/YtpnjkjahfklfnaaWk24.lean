/- Wk24: walks, written by a program of this session. -/
import Derived.Test.YtpnjkjahfklfnaaWk23
set_option linter.unusedVariables false
set_option linter.unusedSimpArgs false
namespace Go.Proofs.Ytpnjkjahfklfnaa.W
open Go Go.RowKit Go.Proofs.Ytpnjkjahfklfnaa.Fw
attribute [local irreducible] RunK LW AW DV OE Ct
theorem agt92 : aggB Try.prog 92 = some true := by kernel_rfl
theorem agt97 : aggB Try.prog 97 = some true := by kernel_rfl
theorem co113 : callOk Try.prog 113 = true := by kernel_rfl
theorem co33 : callOk Try.prog 33 = true := by kernel_rfl
theorem co34 : callOk Try.prog 34 = true := by kernel_rfl
theorem co35 : callOk Try.prog 35 = true := by kernel_rfl
theorem co46 : callOk Try.prog 46 = true := by kernel_rfl
theorem co47 : callOk Try.prog 47 = true := by kernel_rfl
theorem co49 : callOk Try.prog 49 = true := by kernel_rfl
theorem co59 : callOk Try.prog 59 = true := by kernel_rfl
theorem co68 : callOk Try.prog 68 = true := by kernel_rfl
theorem co70 : callOk Try.prog 70 = true := by kernel_rfl
theorem co71 : callOk Try.prog 71 = true := by kernel_rfl
theorem co72 : callOk Try.prog 72 = true := by kernel_rfl
theorem co75 : callOk Try.prog 75 = true := by kernel_rfl
theorem co76 : callOk Try.prog 76 = true := by kernel_rfl
theorem co78 : callOk Try.prog 78 = true := by kernel_rfl
theorem co79 : callOk Try.prog 79 = true := by kernel_rfl
theorem co80 : callOk Try.prog 80 = true := by kernel_rfl
theorem co86 : callOk Try.prog 86 = true := by kernel_rfl
theorem co88 : callOk Try.prog 88 = true := by kernel_rfl
theorem co96 : callOk Try.prog 96 = true := by kernel_rfl
theorem eg25 : Try.prog.eqGuardType Try.prog.depth 25 = false := by kernel_rfl
theorem fl25 : flatB Try.prog 25 .u64 4 = true := by kernel_rfl
theorem fo97_0 : fieldOffB Try.prog 97 0 = some 0 := by kernel_rfl
theorem fo97_1 : fieldOffB Try.prog 97 1 = some 2 := by kernel_rfl
theorem fo97_2 : fieldOffB Try.prog 97 2 = some 4 := by kernel_rfl
theorem pl46 : placesB Try.prog 46 = some [(0, 4), (4, 4), (8, 4)] := by kernel_rfl
theorem pl92 : placesB Try.prog 92 = some [(0, 2), (2, 2), (4, 2)] := by kernel_rfl
theorem pl97 : placesB Try.prog 97 = some [(0, 2), (2, 2), (4, 2)] := by kernel_rfl
theorem sz92 : sizeB Try.prog 92 = some 6 := by kernel_rfl
theorem sz97 : sizeB Try.prog 97 = some 6 := by kernel_rfl
theorem zc46 : zcB Try.prog 46 = some [.int .u64 0, .int .u64 0, .int .u64 0, .int .u64 0, .int .u64 0, .int .u64 0, .int .u64 0, .int .u64 0, .int .u64 0, .int .u64 0, .int .u64 0, .int .u64 0] := by kernel_rfl
theorem zc92 : zcB Try.prog 92 = some [.bool false, .slice none 0 0, .bool false, .slice none 0 0, .bool false, .slice none 0 0] := by kernel_rfl
theorem zc97 : zcB Try.prog 97 = some [.bool false, .slice none 0 0, .bool false, .slice none 0 0, .bool false, .slice none 0 0] := by kernel_rfl
theorem ze92 : zeroB Try.prog 92 = some #[.bool false, .slice none 0 0, .bool false, .slice none 0 0, .bool false, .slice none 0 0] := by kernel_rfl
theorem ze97 : zeroB Try.prog 97 = some #[.bool false, .slice none 0 0, .bool false, .slice none 0 0, .bool false, .slice none 0 0] := by kernel_rfl
set_option maxHeartbeats 1000000 in
theorem spot_ok {w : World}  {x y u : Int} (fx_ : fits x) (fy_ : fits y) (fu_ : fits u)   : Ct Try.prog 72 [.agg #[.int .u64 (wv3 x), .int .u64 (wv2 x), .int .u64 (wv1 x), .int .u64 (wv0 x), .int .u64 (wv3 y), .int .u64 (wv2 y), .int .u64 (wv1 y), .int .u64 (wv0 y), .int .u64 (wv3 u), .int .u64 (wv2 u), .int .u64 (wv1 u), .int .u64 (wv0 u)]] w fun v w1 => ∃ nr0_ A0_ l0_ c0_ nr1_ A1_ l1_ c1_ nr2_ A2_ l2_ c2_, v = .agg #[.bool nr0_, .slice A0_ l0_ c0_, .bool nr1_, .slice A1_ l1_ c1_, .bool nr2_, .slice A2_ l2_ c2_] ∧ Ext w w1 ∧ Num 64 22 .u64 w1 nr0_ A0_ l0_ c0_ (x) (256) ∧ Num 64 22 .u64 w1 nr1_ A1_ l1_ c1_ (y) (256) ∧ Num 64 22 .u64 w1 nr2_ A2_ l2_ c2_ (u) (256) := by
  refine ct_run (n := 13) Try.func72 rfl Try.ntmps72 rfl ?_
  have E0 : Below w.heap.size w w := Below.refl _ _
  refine rk_seq ?_
  refine rk_reg ?_
  refine lw_e (oe_box (v := .agg #[.int .u64 (wv3 x), .int .u64 (wv2 x), .int .u64 (wv1 x), .int .u64 (wv0 x), .int .u64 (wv3 y), .int .u64 (wv2 y), .int .u64 (wv1 y), .int .u64 (wv0 y), .int .u64 (wv3 u), .int .u64 (wv2 u), .int .u64 (wv1 u), .int .u64 (wv0 u)]) (cs := #[.int .u64 (wv3 x), .int .u64 (wv2 x), .int .u64 (wv1 x), .int .u64 (wv0 x), .int .u64 (wv3 y), .int .u64 (wv2 y), .int .u64 (wv1 y), .int .u64 (wv0 y), .int .u64 (wv3 u), .int .u64 (wv2 u), .int .u64 (wv1 u), .int .u64 (wv0 u)]) (T rfl rfl) rfl ?_)
  intro b1 w2 n3
  have N4 : w.heap.size ≤ b1 := n3.eq ▸ E0.size
  have E5 := below_ext E0 E0.size n3.ext
  refine lw_e (oe_alloc ze97 ?_)
  intro b6 w7 n8
  have N9 : w.heap.size ≤ b6 := n8.eq ▸ E5.size
  have : b1 < b6 := n8.eq ▸ lt_of_blk n3.blk
  have E10 := below_ext E5 E5.size n8.ext
  refine lw_nil ?_
  refine rk_seq ?_
  refine rk_any (fun w => w.heap[b1]? = some (.cells #[.int .u64 (wv3 x), .int .u64 (wv2 x), .int .u64 (wv1 x), .int .u64 (wv0 x), .int .u64 (wv3 y), .int .u64 (wv2 y), .int .u64 (wv1 y), .int .u64 (wv0 y), .int .u64 (wv3 u), .int .u64 (wv2 u), .int .u64 (wv1 u), .int .u64 (wv0 u)] 46)) [10] mo ?_
  intro w11 d12
  have E13 := below_ext E10 E10.size d12.ext
  have H14 := (d12.ext.blk (n8.ext.blk n3.blk))
  refine aw_pure 0 (.pointer (some ⟨b1, 0, none⟩)) rfl (by kernel_rfl) .none H14 (fun _ => dv_fieldAddr (a := ⟨b1, 0, none⟩) (a' := ⟨b1, 0, none⟩) fo46_0 (T rfl rfl) rfl) ?_
  refine aw_load 1 (.agg #[.int .u64 (wv3 x), .int .u64 (wv2 x), .int .u64 (wv1 x), .int .u64 (wv0 x)]) rfl (by kernel_rfl) .none H14 (fun _ s => dv_loads (l := [.int .u64 (wv3 x), .int .u64 (wv2 x), .int .u64 (wv1 x), .int .u64 (wv0 x)]) agt25 sz25 (T rfl rfl) s rfl) ?_
  refine aw_pure 3 (.pointer (some ⟨b1, 4, none⟩)) rfl (by kernel_rfl) .none H14 (fun _ => dv_fieldAddr (a := ⟨b1, 0, none⟩) (a' := ⟨b1, 4, none⟩) fo46_1 (T rfl rfl) rfl) ?_
  refine aw_load 4 (.agg #[.int .u64 (wv3 y), .int .u64 (wv2 y), .int .u64 (wv1 y), .int .u64 (wv0 y)]) rfl (by kernel_rfl) .none H14 (fun _ s => dv_loads (l := [.int .u64 (wv3 y), .int .u64 (wv2 y), .int .u64 (wv1 y), .int .u64 (wv0 y)]) agt25 sz25 (T rfl rfl) s rfl) ?_
  refine aw_pure 6 (.pointer (some ⟨b1, 8, none⟩)) rfl (by kernel_rfl) .none H14 (fun _ => dv_fieldAddr (a := ⟨b1, 0, none⟩) (a' := ⟨b1, 8, none⟩) fo46_2 (T rfl rfl) rfl) ?_
  refine aw_load 7 (.agg #[.int .u64 (wv3 u), .int .u64 (wv2 u), .int .u64 (wv1 u), .int .u64 (wv0 u)]) rfl (by kernel_rfl) .none H14 (fun _ s => dv_loads (l := [.int .u64 (wv3 u), .int .u64 (wv2 u), .int .u64 (wv1 u), .int .u64 (wv0 u)]) agt25 sz25 (T rfl rfl) s rfl) ?_
  refine aw_one 2 rfl (by kernel_rfl) .none (oe_callf (vs := [.agg #[.int .u64 (wv3 x), .int .u64 (wv2 x), .int .u64 (wv1 x), .int .u64 (wv0 x)]]) co47 (ar1 (T rfl rfl)) (wnumz_ok (z := x) fx_) ?_)
  rintro _ w20 ⟨nr15, A16, n17, c18, rfl, e21, h19⟩
  have E22 := below_ext E13 E13.size e21
  have lh19 := Num.len (by decide) h19
  have H23 := (e21.blk H14)
  refine ⟨.inr H23, ?_⟩
  refine aw_one 5 rfl (by kernel_rfl) .none (oe_callf (vs := [.agg #[.int .u64 (wv3 y), .int .u64 (wv2 y), .int .u64 (wv1 y), .int .u64 (wv0 y)]]) co47 (ar1 (T rfl rfl)) (wnumz_ok (z := y) fy_) ?_)
  rintro _ w29 ⟨nr24, A25, n26, c27, rfl, e30, h28⟩
  have E31 := below_ext E22 E22.size e30
  have lh28 := Num.len (by decide) h28
  have H32 := (e30.blk H23)
  refine ⟨.inr H32, ?_⟩
  refine aw_one 8 rfl (by kernel_rfl) .none (oe_callf (vs := [.agg #[.int .u64 (wv3 u), .int .u64 (wv2 u), .int .u64 (wv1 u), .int .u64 (wv0 u)]]) co47 (ar1 (T rfl rfl)) (wnumz_ok (z := u) fu_) ?_)
  rintro _ w38 ⟨nr33, A34, n35, c36, rfl, e39, h37⟩
  have E40 := below_ext E31 E31.size e39
  have lh37 := Num.len (by decide) h37
  have H41 := (e39.blk H32)
  refine ⟨.inr H41, ?_⟩
  refine aw_pure 9 (.agg #[.bool nr15, .slice A16 n17 c18, .bool nr24, .slice A25 n26 c27, .bool nr33, .slice A34 n35 c36]) rfl (by kernel_rfl) .none H41 (fun _ => dv_build (pv := [(0, .agg #[.bool nr15, .slice A16 n17 c18]), (1, .agg #[.bool nr24, .slice A25 n26 c27]), (2, .agg #[.bool nr33, .slice A34 n35 c36])]) (l := [.bool nr15, .slice A16 n17 c18, .bool nr24, .slice A25 n26 c27, .bool nr33, .slice A34 n35 c36]) zc97 pl97 ⟨rfl, (T rfl rfl), ⟨rfl, (T rfl rfl), ⟨rfl, (T rfl rfl), trivial⟩⟩⟩ rfl) ?_
  have H42 := (e39.blk (e30.blk (e21.blk (d12.ext.blk n8.blk))))
  refine aw_one 10 rfl (by kernel_rfl) .none (oe_store (v := .agg #[.bool nr15, .slice A16 n17 c18, .bool nr24, .slice A25 n26 c27, .bool nr33, .slice A34 n35 c36]) (vs := [.bool nr15, .slice A16 n17 c18, .bool nr24, .slice A25 n26 c27, .bool nr33, .slice A34 n35 c36]) (l := [.bool nr15, .slice A16 n17 c18, .bool nr24, .slice A25 n26 c27, .bool nr33, .slice A34 n35 c36]) (T rfl rfl) (T rfl rfl) sz97 rfl rfl rfl H42 rfl ?_)
  intro w43 s44 H45
  have E46 := below_st E40 N9 s44
  refine ⟨.inl rfl, ?_⟩
  refine aw_done (by kernel_rfl) ?_
  refine rk_ret Try.func72 (v := .agg #[.bool nr15, .slice A16 n17 c18, .bool nr24, .slice A25 n26 c27, .bool nr33, .slice A34 n35 c36]) (res1 Try.results72 (rv_cells (l := [.bool nr15, .slice A16 n17 c18, .bool nr24, .slice A25 n26 c27, .bool nr33, .slice A34 n35 c36]) agt97 sz97 rfl rfl H45 rfl)) ⟨_, rfl, ?_⟩
  have h47 := (((h19.ext e30).ext e39).st s44 H42 (by decide))
  have h48 := ((h28.ext e39).st s44 H42 (by decide))
  have h49 := (h37.st s44 H42 (by decide))
  exact ⟨_, _, _, _, _, _, _, _, _, _, _, _, rfl, E46, h47.to rfl (Nat.le_refl _), h48.to rfl (Nat.le_refl _), h49.to rfl (Nat.le_refl _)⟩

set_option maxHeartbeats 1000000 in
theorem l3Of_ok {w : World}  {x y u : Int} (fx_ : fits x) (fy_ : fits y) (fu_ : fits u)   : Ct Try.prog 68 [.agg #[.int .u64 (wv3 x), .int .u64 (wv2 x), .int .u64 (wv1 x), .int .u64 (wv0 x), .int .u64 (wv3 y), .int .u64 (wv2 y), .int .u64 (wv1 y), .int .u64 (wv0 y), .int .u64 (wv3 u), .int .u64 (wv2 u), .int .u64 (wv1 u), .int .u64 (wv0 u)]] w fun v w1 => ∃ nr0_ A0_ l0_ c0_ nr1_ A1_ l1_ c1_ nr2_ A2_ l2_ c2_, v = .agg #[.bool nr0_, .slice A0_ l0_ c0_, .bool nr1_, .slice A1_ l1_ c1_, .bool nr2_, .slice A2_ l2_ c2_] ∧ Ext w w1 ∧ Num 32 115 .u32 w1 nr0_ A0_ l0_ c0_ (x) (256) ∧ Num 32 115 .u32 w1 nr1_ A1_ l1_ c1_ (y) (256) ∧ Num 32 115 .u32 w1 nr2_ A2_ l2_ c2_ (u) (256) := by
  refine ct_run (n := 13) Try.func68 rfl Try.ntmps68 rfl ?_
  have E0 : Below w.heap.size w w := Below.refl _ _
  refine rk_seq ?_
  refine rk_reg ?_
  refine lw_e (oe_box (v := .agg #[.int .u64 (wv3 x), .int .u64 (wv2 x), .int .u64 (wv1 x), .int .u64 (wv0 x), .int .u64 (wv3 y), .int .u64 (wv2 y), .int .u64 (wv1 y), .int .u64 (wv0 y), .int .u64 (wv3 u), .int .u64 (wv2 u), .int .u64 (wv1 u), .int .u64 (wv0 u)]) (cs := #[.int .u64 (wv3 x), .int .u64 (wv2 x), .int .u64 (wv1 x), .int .u64 (wv0 x), .int .u64 (wv3 y), .int .u64 (wv2 y), .int .u64 (wv1 y), .int .u64 (wv0 y), .int .u64 (wv3 u), .int .u64 (wv2 u), .int .u64 (wv1 u), .int .u64 (wv0 u)]) (T rfl rfl) rfl ?_)
  intro b1 w2 n3
  have N4 : w.heap.size ≤ b1 := n3.eq ▸ E0.size
  have E5 := below_ext E0 E0.size n3.ext
  refine lw_e (oe_alloc ze92 ?_)
  intro b6 w7 n8
  have N9 : w.heap.size ≤ b6 := n8.eq ▸ E5.size
  have : b1 < b6 := n8.eq ▸ lt_of_blk n3.blk
  have E10 := below_ext E5 E5.size n8.ext
  refine lw_nil ?_
  refine rk_seq ?_
  refine rk_any (fun w => w.heap[b1]? = some (.cells #[.int .u64 (wv3 x), .int .u64 (wv2 x), .int .u64 (wv1 x), .int .u64 (wv0 x), .int .u64 (wv3 y), .int .u64 (wv2 y), .int .u64 (wv1 y), .int .u64 (wv0 y), .int .u64 (wv3 u), .int .u64 (wv2 u), .int .u64 (wv1 u), .int .u64 (wv0 u)] 46)) [10] mo ?_
  intro w11 d12
  have E13 := below_ext E10 E10.size d12.ext
  have H14 := (d12.ext.blk (n8.ext.blk n3.blk))
  refine aw_pure 0 (.pointer (some ⟨b1, 0, none⟩)) rfl (by kernel_rfl) .none H14 (fun _ => dv_fieldAddr (a := ⟨b1, 0, none⟩) (a' := ⟨b1, 0, none⟩) fo46_0 (T rfl rfl) rfl) ?_
  refine aw_load 1 (.agg #[.int .u64 (wv3 x), .int .u64 (wv2 x), .int .u64 (wv1 x), .int .u64 (wv0 x)]) rfl (by kernel_rfl) .none H14 (fun _ s => dv_loads (l := [.int .u64 (wv3 x), .int .u64 (wv2 x), .int .u64 (wv1 x), .int .u64 (wv0 x)]) agt25 sz25 (T rfl rfl) s rfl) ?_
  refine aw_pure 3 (.pointer (some ⟨b1, 4, none⟩)) rfl (by kernel_rfl) .none H14 (fun _ => dv_fieldAddr (a := ⟨b1, 0, none⟩) (a' := ⟨b1, 4, none⟩) fo46_1 (T rfl rfl) rfl) ?_
  refine aw_load 4 (.agg #[.int .u64 (wv3 y), .int .u64 (wv2 y), .int .u64 (wv1 y), .int .u64 (wv0 y)]) rfl (by kernel_rfl) .none H14 (fun _ s => dv_loads (l := [.int .u64 (wv3 y), .int .u64 (wv2 y), .int .u64 (wv1 y), .int .u64 (wv0 y)]) agt25 sz25 (T rfl rfl) s rfl) ?_
  refine aw_pure 6 (.pointer (some ⟨b1, 8, none⟩)) rfl (by kernel_rfl) .none H14 (fun _ => dv_fieldAddr (a := ⟨b1, 0, none⟩) (a' := ⟨b1, 8, none⟩) fo46_2 (T rfl rfl) rfl) ?_
  refine aw_load 7 (.agg #[.int .u64 (wv3 u), .int .u64 (wv2 u), .int .u64 (wv1 u), .int .u64 (wv0 u)]) rfl (by kernel_rfl) .none H14 (fun _ s => dv_loads (l := [.int .u64 (wv3 u), .int .u64 (wv2 u), .int .u64 (wv1 u), .int .u64 (wv0 u)]) agt25 sz25 (T rfl rfl) s rfl) ?_
  refine aw_one 2 rfl (by kernel_rfl) .none (oe_callf (vs := [.agg #[.int .u64 (wv3 x), .int .u64 (wv2 x), .int .u64 (wv1 x), .int .u64 (wv0 x)]]) co46 (ar1 (T rfl rfl)) (l1Fromz_ok (z := x) fx_) ?_)
  rintro _ w20 ⟨nr15, A16, n17, c18, rfl, e21, h19⟩
  have E22 := below_ext E13 E13.size e21
  have lh19 := Num.len (by decide) h19
  have H23 := (e21.blk H14)
  refine ⟨.inr H23, ?_⟩
  refine aw_one 5 rfl (by kernel_rfl) .none (oe_callf (vs := [.agg #[.int .u64 (wv3 y), .int .u64 (wv2 y), .int .u64 (wv1 y), .int .u64 (wv0 y)]]) co46 (ar1 (T rfl rfl)) (l1Fromz_ok (z := y) fy_) ?_)
  rintro _ w29 ⟨nr24, A25, n26, c27, rfl, e30, h28⟩
  have E31 := below_ext E22 E22.size e30
  have lh28 := Num.len (by decide) h28
  have H32 := (e30.blk H23)
  refine ⟨.inr H32, ?_⟩
  refine aw_one 8 rfl (by kernel_rfl) .none (oe_callf (vs := [.agg #[.int .u64 (wv3 u), .int .u64 (wv2 u), .int .u64 (wv1 u), .int .u64 (wv0 u)]]) co46 (ar1 (T rfl rfl)) (l1Fromz_ok (z := u) fu_) ?_)
  rintro _ w38 ⟨nr33, A34, n35, c36, rfl, e39, h37⟩
  have E40 := below_ext E31 E31.size e39
  have lh37 := Num.len (by decide) h37
  have H41 := (e39.blk H32)
  refine ⟨.inr H41, ?_⟩
  refine aw_pure 9 (.agg #[.bool nr15, .slice A16 n17 c18, .bool nr24, .slice A25 n26 c27, .bool nr33, .slice A34 n35 c36]) rfl (by kernel_rfl) .none H41 (fun _ => dv_build (pv := [(0, .agg #[.bool nr15, .slice A16 n17 c18]), (1, .agg #[.bool nr24, .slice A25 n26 c27]), (2, .agg #[.bool nr33, .slice A34 n35 c36])]) (l := [.bool nr15, .slice A16 n17 c18, .bool nr24, .slice A25 n26 c27, .bool nr33, .slice A34 n35 c36]) zc92 pl92 ⟨rfl, (T rfl rfl), ⟨rfl, (T rfl rfl), ⟨rfl, (T rfl rfl), trivial⟩⟩⟩ rfl) ?_
  have H42 := (e39.blk (e30.blk (e21.blk (d12.ext.blk n8.blk))))
  refine aw_one 10 rfl (by kernel_rfl) .none (oe_store (v := .agg #[.bool nr15, .slice A16 n17 c18, .bool nr24, .slice A25 n26 c27, .bool nr33, .slice A34 n35 c36]) (vs := [.bool nr15, .slice A16 n17 c18, .bool nr24, .slice A25 n26 c27, .bool nr33, .slice A34 n35 c36]) (l := [.bool nr15, .slice A16 n17 c18, .bool nr24, .slice A25 n26 c27, .bool nr33, .slice A34 n35 c36]) (T rfl rfl) (T rfl rfl) sz92 rfl rfl rfl H42 rfl ?_)
  intro w43 s44 H45
  have E46 := below_st E40 N9 s44
  refine ⟨.inl rfl, ?_⟩
  refine aw_done (by kernel_rfl) ?_
  refine rk_ret Try.func68 (v := .agg #[.bool nr15, .slice A16 n17 c18, .bool nr24, .slice A25 n26 c27, .bool nr33, .slice A34 n35 c36]) (res1 Try.results68 (rv_cells (l := [.bool nr15, .slice A16 n17 c18, .bool nr24, .slice A25 n26 c27, .bool nr33, .slice A34 n35 c36]) agt92 sz92 rfl rfl H45 rfl)) ⟨_, rfl, ?_⟩
  have h47 := (((h19.ext e30).ext e39).st s44 H42 (by decide))
  have h48 := ((h28.ext e39).st s44 H42 (by decide))
  have h49 := (h37.st s44 H42 (by decide))
  exact ⟨_, _, _, _, _, _, _, _, _, _, _, _, rfl, E46, h47.to rfl (Nat.le_refl _), h48.to rfl (Nat.le_refl _), h49.to rfl (Nat.le_refl _)⟩

set_option maxHeartbeats 1000000 in
theorem sPointOk_ok {w : World} {x y u : Int} (fx_ : fits x) (fy_ : fits y) (fu_ : fits u)  : Ct Try.prog 30 [.agg #[.int .u64 (wv3 x), .int .u64 (wv2 x), .int .u64 (wv1 x), .int .u64 (wv0 x), .int .u64 (wv3 y), .int .u64 (wv2 y), .int .u64 (wv1 y), .int .u64 (wv0 y), .int .u64 (wv3 u), .int .u64 (wv2 u), .int .u64 (wv1 u), .int .u64 (wv0 u)]] w fun v w1 => v = .bool (decide (pOk x y u)) ∧ Ext w w1 := by
  refine ct_run (n := 27) Try.func30 rfl Try.ntmps30 rfl ?_
  have E0 : Below w.heap.size w w := Below.refl _ _
  refine rk_seq ?_
  refine rk_reg ?_
  refine lw_e (oe_box (v := .agg #[.int .u64 (wv3 x), .int .u64 (wv2 x), .int .u64 (wv1 x), .int .u64 (wv0 x), .int .u64 (wv3 y), .int .u64 (wv2 y), .int .u64 (wv1 y), .int .u64 (wv0 y), .int .u64 (wv3 u), .int .u64 (wv2 u), .int .u64 (wv1 u), .int .u64 (wv0 u)]) (cs := #[.int .u64 (wv3 x), .int .u64 (wv2 x), .int .u64 (wv1 x), .int .u64 (wv0 x), .int .u64 (wv3 y), .int .u64 (wv2 y), .int .u64 (wv1 y), .int .u64 (wv0 y), .int .u64 (wv3 u), .int .u64 (wv2 u), .int .u64 (wv1 u), .int .u64 (wv0 u)]) (T rfl rfl) rfl ?_)
  intro b1 w2 n3
  have N4 : w.heap.size ≤ b1 := n3.eq ▸ E0.size
  have E5 := below_ext E0 E0.size n3.ext
  refine lw_v (.bool false) (dv_assign C) ?_
  refine lw_nil ?_
  refine rk_seq ?_
  refine rk_reg ?_
  refine lw_v (.agg #[.int .u64 (wv3 x), .int .u64 (wv2 x), .int .u64 (wv1 x), .int .u64 (wv0 x), .int .u64 (wv3 y), .int .u64 (wv2 y), .int .u64 (wv1 y), .int .u64 (wv0 y), .int .u64 (wv3 u), .int .u64 (wv2 u), .int .u64 (wv1 u), .int .u64 (wv0 u)]) (dv_loads (l := [.int .u64 (wv3 x), .int .u64 (wv2 x), .int .u64 (wv1 x), .int .u64 (wv0 x), .int .u64 (wv3 y), .int .u64 (wv2 y), .int .u64 (wv1 y), .int .u64 (wv0 y), .int .u64 (wv3 u), .int .u64 (wv2 u), .int .u64 (wv1 u), .int .u64 (wv0 u)]) agt46 sz46 (T rfl rfl) n3.blk rfl) ?_
  refine lw_e (oe_callf (vs := [.agg #[.int .u64 (wv3 x), .int .u64 (wv2 x), .int .u64 (wv1 x), .int .u64 (wv0 x), .int .u64 (wv3 y), .int .u64 (wv2 y), .int .u64 (wv1 y), .int .u64 (wv0 y), .int .u64 (wv3 u), .int .u64 (wv2 u), .int .u64 (wv1 u), .int .u64 (wv0 u)]]) co68 (ar1 (T rfl rfl)) (l3Of_ok fx_ fy_ fu_  ) ?_)
  rintro _ w21 ⟨nr6, A7, n8, c9, nr10, A11, n12, c13, nr14, A15, n16, c17, rfl, e22, h18, h19, h20⟩
  have E23 := below_ext E5 E5.size e22
  have lh18 := Num.len (by decide) h18
  have lh19 := Num.len (by decide) h19
  have lh20 := Num.len (by decide) h20
  refine lw_e (oe_alloc ze92 ?_)
  intro b24 w25 n26
  have N27 : w.heap.size ≤ b24 := n26.eq ▸ E23.size
  have H28 := (e22.blk n3.blk)
  have : b1 < b24 := n26.eq ▸ lt_of_blk H28
  have E29 := below_ext E23 E23.size n26.ext
  refine lw_e (oe_store (v := .agg #[.bool nr6, .slice A7 n8 c9, .bool nr10, .slice A11 n12 c13, .bool nr14, .slice A15 n16 c17]) (vs := [.bool nr6, .slice A7 n8 c9, .bool nr10, .slice A11 n12 c13, .bool nr14, .slice A15 n16 c17]) (l := [.bool nr6, .slice A7 n8 c9, .bool nr10, .slice A11 n12 c13, .bool nr14, .slice A15 n16 c17]) (T rfl rfl) (T rfl rfl) sz92 rfl rfl rfl n26.blk rfl ?_)
  intro w30 s31 H32
  have E33 := below_st E29 N27 s31
  refine lw_nil ?_
  refine rk_seq ?_
  refine rk_any (fun w => w.heap[b24]? = some (.cells #[.bool nr6, .slice A7 n8 c9, .bool nr10, .slice A11 n12 c13, .bool nr14, .slice A15 n16 c17] 92)) [21] mo ?_
  intro w34 d35
  have E36 := below_ext E33 E33.size d35.ext
  have H37 := (d35.ext.blk H32)
  refine aw_pure 0 (.pointer (some ⟨b24, 4, none⟩)) rfl (by kernel_rfl) .none H37 (fun _ => dv_fieldAddr (a := ⟨b24, 0, none⟩) (a' := ⟨b24, 4, none⟩) fo92_2 (T rfl rfl) rfl) ?_
  refine aw_load 1 (.agg #[.bool nr14, .slice A15 n16 c17]) rfl (by kernel_rfl) .none H37 (fun _ s => dv_loads (l := [.bool nr14, .slice A15 n16 c17]) agt62 sz62 (T rfl rfl) s rfl) ?_
  have h38 := (((h20.ext n26.ext).st s31 n26.blk (by decide)).ext d35.ext)
  refine aw_one 2 rfl (by kernel_rfl) .none (oe_callf (vs := [.agg #[.bool nr14, .slice A15 n16 c17]]) co69 (ar1 (T rfl rfl)) (l1Sign_ok h38 ) ?_)
  rintro _ w39 ⟨rfl, e40⟩
  have E41 := below_ext E36 E36.size e40
  have H42 := (e40.blk H37)
  refine ⟨.inr H42, ?_⟩
  refine aw_pure 3 (.bool (decide (0 < (sgnI u)))) rfl (by kernel_rfl) .none H42 (fun _ => dv_gtr (a := sgnI u) (b := 0) (T rfl rfl) C) ?_
  refine aw_pure 4 (.bool (decide (0 < (sgnI u)))) rfl (by kernel_rfl) .none H42 (fun _ => dv_move (T rfl rfl)) ?_
  by_cases hb43 : 0 < (sgnI u)
  · -- T
    refine aw_load 5 (.agg #[.bool nr6, .slice A7 n8 c9, .bool nr10, .slice A11 n12 c13, .bool nr14, .slice A15 n16 c17]) rfl (by kernel_rfl) (.yes (d := 10) rfl rfl (congrArg Value.bool (decide_eq_true hb43))) H42 (fun _ s => dv_loads (l := [.bool nr6, .slice A7 n8 c9, .bool nr10, .slice A11 n12 c13, .bool nr14, .slice A15 n16 c17]) agt92 sz92 (T rfl rfl) s rfl) ?_
    have h44 := ((((h18.ext n26.ext).st s31 n26.blk (by decide)).ext d35.ext).ext e40)
    have h45 := ((((h19.ext n26.ext).st s31 n26.blk (by decide)).ext d35.ext).ext e40)
    have h46 := (h38.ext e40)
    refine aw_one 6 rfl (by kernel_rfl) (.yes (d := 10) rfl rfl (congrArg Value.bool (decide_eq_true hb43))) (oe_callf (vs := [.agg #[.bool nr6, .slice A7 n8 c9, .bool nr10, .slice A11 n12 c13, .bool nr14, .slice A15 n16 c17]]) co70 (ar1 (T rfl rfl)) (l3Small_ok h44 h45 h46 (by first | decide | omega) (by first | decide | omega) (by first | decide | omega) ) ?_)
    rintro _ w47 ⟨rfl, e48⟩
    have E49 := below_ext E41 E41.size e48
    have H50 := (e48.blk H42)
    refine ⟨.inr H50, ?_⟩
    refine aw_pure 7 (.bool (decide (sm3 x y u))) rfl (by kernel_rfl) .none H50 (fun _ => dv_pick_t (T rfl (congrArg Value.bool (decide_eq_true hb43))) (T rfl rfl)) ?_
    refine aw_pure 8 (.bool (decide (sm3 x y u))) rfl (by kernel_rfl) .none H50 (fun _ => dv_move (T rfl rfl)) ?_
    by_cases hb51 : sm3 x y u
    · -- TT
      refine aw_pure 9 (.pointer (some ⟨b24, 0, none⟩)) rfl (by kernel_rfl) (.yes (d := 14) rfl rfl (congrArg Value.bool (decide_eq_true hb51))) H50 (fun _ => dv_fieldAddr (a := ⟨b24, 0, none⟩) (a' := ⟨b24, 0, none⟩) fo92_0 (T rfl rfl) rfl) ?_
      refine aw_load 10 (.agg #[.bool nr6, .slice A7 n8 c9]) rfl (by kernel_rfl) (.yes (d := 14) rfl rfl (congrArg Value.bool (decide_eq_true hb51))) H50 (fun _ s => dv_loads (l := [.bool nr6, .slice A7 n8 c9]) agt62 sz62 (T rfl rfl) s rfl) ?_
      refine aw_pure 11 (.pointer (some ⟨b24, 2, none⟩)) rfl (by kernel_rfl) (.yes (d := 14) rfl rfl (congrArg Value.bool (decide_eq_true hb51))) H50 (fun _ => dv_fieldAddr (a := ⟨b24, 0, none⟩) (a' := ⟨b24, 2, none⟩) fo92_1 (T rfl rfl) rfl) ?_
      refine aw_load 12 (.agg #[.bool nr10, .slice A11 n12 c13]) rfl (by kernel_rfl) (.yes (d := 14) rfl rfl (congrArg Value.bool (decide_eq_true hb51))) H50 (fun _ s => dv_loads (l := [.bool nr10, .slice A11 n12 c13]) agt62 sz62 (T rfl rfl) s rfl) ?_
      refine aw_pure 14 (.pointer (some ⟨b24, 4, none⟩)) rfl (by kernel_rfl) (.yes (d := 14) rfl rfl (congrArg Value.bool (decide_eq_true hb51))) H50 (fun _ => dv_fieldAddr (a := ⟨b24, 0, none⟩) (a' := ⟨b24, 4, none⟩) fo92_2 (T rfl rfl) rfl) ?_
      refine aw_load 15 (.agg #[.bool nr14, .slice A15 n16 c17]) rfl (by kernel_rfl) (.yes (d := 14) rfl rfl (congrArg Value.bool (decide_eq_true hb51))) H50 (fun _ s => dv_loads (l := [.bool nr14, .slice A15 n16 c17]) agt62 sz62 (T rfl rfl) s rfl) ?_
      have h52 := (h44.ext e48)
      have h53 := (h45.ext e48)
      refine aw_one 13 rfl (by kernel_rfl) (.yes (d := 14) rfl rfl (congrArg Value.bool (decide_eq_true hb51))) (oe_callf (vs := [.agg #[.bool nr6, .slice A7 n8 c9], .agg #[.bool nr10, .slice A11 n12 c13]]) co71 (ar2 (T rfl rfl) (T rfl rfl)) (l1Gcd_ok h52 h53 (by first | decide | omega) (by first | decide | omega)) ?_)
      rintro _ w59 ⟨nr54, A55, n56, c57, rfl, e60, h58⟩
      have E61 := below_ext E49 E49.size e60
      have lh58 := Num.len (by decide) h58
      have H62 := (e60.blk H50)
      refine ⟨.inr H62, ?_⟩
      have h63 := ((h46.ext e48).ext e60)
      refine aw_one 16 rfl (by kernel_rfl) (.yes (d := 14) rfl rfl (congrArg Value.bool (decide_eq_true hb51))) (oe_callf (vs := [.agg #[.bool nr54, .slice A55 n56 c57], .agg #[.bool nr14, .slice A15 n16 c17]]) co71 (ar2 (T rfl rfl) (T rfl rfl)) (l1Gcd_ok h58 h63 (by first | decide | omega) (by first | decide | omega)) ?_)
      rintro _ w69 ⟨nr64, A65, n66, c67, rfl, e70, h68⟩
      have E71 := below_ext E61 E61.size e70
      have lh68 := Num.len (by decide) h68
      have H72 := (e70.blk H62)
      refine ⟨.inr H72, ?_⟩
      refine aw_one 17 rfl (by kernel_rfl) (.yes (d := 14) rfl rfl (congrArg Value.bool (decide_eq_true hb51))) (oe_callf (vs := [.int .i64 1]) co60 (ar1 C) (l1Int_ok  (by omega)) ?_)
      rintro _ w78 ⟨nr73, A74, n75, c76, rfl, e79, h77⟩
      have E80 := below_ext E71 E71.size e79
      have lh77 := Num.len (by decide) h77
      have H81 := (e79.blk H72)
      refine ⟨.inr H81, ?_⟩
      have h82 := (h68.ext e79)
      refine aw_one 18 rfl (by kernel_rfl) (.yes (d := 14) rfl rfl (congrArg Value.bool (decide_eq_true hb51))) (oe_callf (vs := [.agg #[.bool nr64, .slice A65 n66 c67], .agg #[.bool nr73, .slice A74 n75 c76]]) co59 (ar2 (T rfl rfl) (T rfl rfl)) (l1Cmp_ok h82 h77 (by first | decide | omega) (by first | decide | omega)) ?_)
      rintro _ w83 ⟨rfl, e84⟩
      have E85 := below_ext E80 E80.size e84
      have H86 := (e84.blk H81)
      refine ⟨.inr H86, ?_⟩
      refine aw_pure 19 (.bool (decide ((sgnI ((gI (gI x y) u) - 1)) = 0))) rfl (by kernel_rfl) (.yes (d := 14) rfl rfl (congrArg Value.bool (decide_eq_true hb51))) H86 (fun _ => dv_eql (a := sgnI ((gI (gI x y) u) - 1)) (b := 0) (T rfl rfl) C) ?_
      refine aw_pure 20 (.bool (decide ((sgnI ((gI (gI x y) u) - 1)) = 0))) rfl (by kernel_rfl) .none H86 (fun _ => dv_pick_t (T rfl (congrArg Value.bool (decide_eq_true hb51))) (T rfl rfl)) ?_
      refine aw_last 21 (.bool (decide ((sgnI ((gI (gI x y) u) - 1)) = 0))) rfl (by kernel_rfl) .none (fun _ => dv_assign (T rfl rfl)) ?_
      refine aw_done (by kernel_rfl) ?_
      refine rk_ret Try.func30 (v := .bool (decide ((sgnI ((gI (gI x y) u) - 1)) = 0))) (res1 Try.results30 (rv_tmp rfl rfl)) ⟨_, rfl, ?_⟩
      have h1 : sm3 x y u := by first | assumption | exact sm3_iff.2 (mx3.1 ‹_›)
      have h2 : 0 < u := sgnI_gt.1 (by assumption)
      have h3 := @sgnI_zero (gI3 x y u - 1)
      exact ⟨(vb ⟨fun hh => ⟨h2, h1, by have := h3.1 hh; omega⟩, fun hh => h3.2 (by have := hh.2.2; omega)⟩), E85⟩
    · -- TF
      refine aw_no 9 rfl (by kernel_rfl) (d := 14) rfl rfl (congrArg Value.bool (decide_eq_false hb51)) H50 ?_
      refine aw_no 10 rfl (by kernel_rfl) (d := 14) rfl rfl (congrArg Value.bool (decide_eq_false hb51)) H50 ?_
      refine aw_no 11 rfl (by kernel_rfl) (d := 14) rfl rfl (congrArg Value.bool (decide_eq_false hb51)) H50 ?_
      refine aw_no 12 rfl (by kernel_rfl) (d := 14) rfl rfl (congrArg Value.bool (decide_eq_false hb51)) H50 ?_
      refine aw_no 13 rfl (by kernel_rfl) (d := 14) rfl rfl (congrArg Value.bool (decide_eq_false hb51)) H50 ?_
      refine aw_no 14 rfl (by kernel_rfl) (d := 14) rfl rfl (congrArg Value.bool (decide_eq_false hb51)) H50 ?_
      refine aw_no 15 rfl (by kernel_rfl) (d := 14) rfl rfl (congrArg Value.bool (decide_eq_false hb51)) H50 ?_
      refine aw_no 16 rfl (by kernel_rfl) (d := 14) rfl rfl (congrArg Value.bool (decide_eq_false hb51)) H50 ?_
      refine aw_no 17 rfl (by kernel_rfl) (d := 14) rfl rfl (congrArg Value.bool (decide_eq_false hb51)) H50 ?_
      refine aw_no 18 rfl (by kernel_rfl) (d := 14) rfl rfl (congrArg Value.bool (decide_eq_false hb51)) H50 ?_
      refine aw_no 19 rfl (by kernel_rfl) (d := 14) rfl rfl (congrArg Value.bool (decide_eq_false hb51)) H50 ?_
      refine aw_pure 20 (.bool false) rfl (by kernel_rfl) .none H50 (fun _ => dv_pick_f (T rfl (congrArg Value.bool (decide_eq_false hb51))) C) ?_
      refine aw_last 21 (.bool false) rfl (by kernel_rfl) .none (fun _ => dv_assign (T rfl rfl)) ?_
      refine aw_done (by kernel_rfl) ?_
      refine rk_ret Try.func30 (v := .bool false) (res1 Try.results30 (rv_tmp rfl rfl)) ⟨_, rfl, ?_⟩
      exact ⟨(vf (by intro hh; have h1 := sgnI_gt.2 hh.1; have h2 := hh.2.1; first | (exact absurd h2 (by assumption)) | (exact absurd (mx3.2 (sm3_iff.1 h2)) (by assumption)) | contradiction | omega)), E49⟩
  · -- F
    refine aw_no 5 rfl (by kernel_rfl) (d := 10) rfl rfl (congrArg Value.bool (decide_eq_false hb43)) H42 ?_
    refine aw_no 6 rfl (by kernel_rfl) (d := 10) rfl rfl (congrArg Value.bool (decide_eq_false hb43)) H42 ?_
    refine aw_pure 7 (.bool false) rfl (by kernel_rfl) .none H42 (fun _ => dv_pick_f (T rfl (congrArg Value.bool (decide_eq_false hb43))) C) ?_
    refine aw_pure 8 (.bool false) rfl (by kernel_rfl) .none H42 (fun _ => dv_move (T rfl rfl)) ?_
    refine aw_no 9 rfl (by kernel_rfl) (d := 14) rfl rfl (rfl) H42 ?_
    refine aw_no 10 rfl (by kernel_rfl) (d := 14) rfl rfl (rfl) H42 ?_
    refine aw_no 11 rfl (by kernel_rfl) (d := 14) rfl rfl (rfl) H42 ?_
    refine aw_no 12 rfl (by kernel_rfl) (d := 14) rfl rfl (rfl) H42 ?_
    refine aw_no 13 rfl (by kernel_rfl) (d := 14) rfl rfl (rfl) H42 ?_
    refine aw_no 14 rfl (by kernel_rfl) (d := 14) rfl rfl (rfl) H42 ?_
    refine aw_no 15 rfl (by kernel_rfl) (d := 14) rfl rfl (rfl) H42 ?_
    refine aw_no 16 rfl (by kernel_rfl) (d := 14) rfl rfl (rfl) H42 ?_
    refine aw_no 17 rfl (by kernel_rfl) (d := 14) rfl rfl (rfl) H42 ?_
    refine aw_no 18 rfl (by kernel_rfl) (d := 14) rfl rfl (rfl) H42 ?_
    refine aw_no 19 rfl (by kernel_rfl) (d := 14) rfl rfl (rfl) H42 ?_
    refine aw_pure 20 (.bool false) rfl (by kernel_rfl) .none H42 (fun _ => dv_pick_f (T rfl rfl) C) ?_
    refine aw_last 21 (.bool false) rfl (by kernel_rfl) .none (fun _ => dv_assign (T rfl rfl)) ?_
    refine aw_done (by kernel_rfl) ?_
    refine rk_ret Try.func30 (v := .bool false) (res1 Try.results30 (rv_tmp rfl rfl)) ⟨_, rfl, ?_⟩
    exact ⟨(vf (by intro hh; have h1 := sgnI_gt.2 hh.1; have h2 := hh.2.1; first | (exact absurd h2 (by assumption)) | (exact absurd (mx3.2 (sm3_iff.1 h2)) (by assumption)) | contradiction | omega)), E41⟩

set_option maxHeartbeats 1000000 in
theorem iPointOk_ok {w : World} {x y u : Int} (fx_ : fits x) (fy_ : fits y) (fu_ : fits u)  : Ct Try.prog 32 [.agg #[.int .u64 (wv3 x), .int .u64 (wv2 x), .int .u64 (wv1 x), .int .u64 (wv0 x), .int .u64 (wv3 y), .int .u64 (wv2 y), .int .u64 (wv1 y), .int .u64 (wv0 y), .int .u64 (wv3 u), .int .u64 (wv2 u), .int .u64 (wv1 u), .int .u64 (wv0 u)]] w fun v w1 => v = .bool (decide (pOk x y u)) ∧ Ext w w1 := by
  refine ct_run (n := 36) Try.func32 rfl Try.ntmps32 rfl ?_
  have E0 : Below w.heap.size w w := Below.refl _ _
  refine rk_seq ?_
  refine rk_reg ?_
  refine lw_e (oe_box (v := .agg #[.int .u64 (wv3 x), .int .u64 (wv2 x), .int .u64 (wv1 x), .int .u64 (wv0 x), .int .u64 (wv3 y), .int .u64 (wv2 y), .int .u64 (wv1 y), .int .u64 (wv0 y), .int .u64 (wv3 u), .int .u64 (wv2 u), .int .u64 (wv1 u), .int .u64 (wv0 u)]) (cs := #[.int .u64 (wv3 x), .int .u64 (wv2 x), .int .u64 (wv1 x), .int .u64 (wv0 x), .int .u64 (wv3 y), .int .u64 (wv2 y), .int .u64 (wv1 y), .int .u64 (wv0 y), .int .u64 (wv3 u), .int .u64 (wv2 u), .int .u64 (wv1 u), .int .u64 (wv0 u)]) (T rfl rfl) rfl ?_)
  intro b1 w2 n3
  have N4 : w.heap.size ≤ b1 := n3.eq ▸ E0.size
  have E5 := below_ext E0 E0.size n3.ext
  refine lw_v (.bool false) (dv_assign C) ?_
  refine lw_nil ?_
  refine rk_seq ?_
  refine rk_reg ?_
  refine lw_v (.agg #[.int .u64 (wv3 x), .int .u64 (wv2 x), .int .u64 (wv1 x), .int .u64 (wv0 x), .int .u64 (wv3 y), .int .u64 (wv2 y), .int .u64 (wv1 y), .int .u64 (wv0 y), .int .u64 (wv3 u), .int .u64 (wv2 u), .int .u64 (wv1 u), .int .u64 (wv0 u)]) (dv_loads (l := [.int .u64 (wv3 x), .int .u64 (wv2 x), .int .u64 (wv1 x), .int .u64 (wv0 x), .int .u64 (wv3 y), .int .u64 (wv2 y), .int .u64 (wv1 y), .int .u64 (wv0 y), .int .u64 (wv3 u), .int .u64 (wv2 u), .int .u64 (wv1 u), .int .u64 (wv0 u)]) agt46 sz46 (T rfl rfl) n3.blk rfl) ?_
  refine lw_e (oe_callf (vs := [.agg #[.int .u64 (wv3 x), .int .u64 (wv2 x), .int .u64 (wv1 x), .int .u64 (wv0 x), .int .u64 (wv3 y), .int .u64 (wv2 y), .int .u64 (wv1 y), .int .u64 (wv0 y), .int .u64 (wv3 u), .int .u64 (wv2 u), .int .u64 (wv1 u), .int .u64 (wv0 u)]]) co72 (ar1 (T rfl rfl)) (spot_ok fx_ fy_ fu_  ) ?_)
  rintro _ w21 ⟨nr6, A7, n8, c9, nr10, A11, n12, c13, nr14, A15, n16, c17, rfl, e22, h18, h19, h20⟩
  have E23 := below_ext E5 E5.size e22
  have lh18 := Num.len (by decide) h18
  have lh19 := Num.len (by decide) h19
  have lh20 := Num.len (by decide) h20
  refine lw_e (oe_alloc ze97 ?_)
  intro b24 w25 n26
  have N27 : w.heap.size ≤ b24 := n26.eq ▸ E23.size
  have H28 := (e22.blk n3.blk)
  have : b1 < b24 := n26.eq ▸ lt_of_blk H28
  have E29 := below_ext E23 E23.size n26.ext
  refine lw_e (oe_store (v := .agg #[.bool nr6, .slice A7 n8 c9, .bool nr10, .slice A11 n12 c13, .bool nr14, .slice A15 n16 c17]) (vs := [.bool nr6, .slice A7 n8 c9, .bool nr10, .slice A11 n12 c13, .bool nr14, .slice A15 n16 c17]) (l := [.bool nr6, .slice A7 n8 c9, .bool nr10, .slice A11 n12 c13, .bool nr14, .slice A15 n16 c17]) (T rfl rfl) (T rfl rfl) sz97 rfl rfl rfl n26.blk rfl ?_)
  intro w30 s31 H32
  have E33 := below_st E29 N27 s31
  refine lw_nil ?_
  refine rk_seq ?_
  refine rk_any (fun w => w.heap[b24]? = some (.cells #[.bool nr6, .slice A7 n8 c9, .bool nr10, .slice A11 n12 c13, .bool nr14, .slice A15 n16 c17] 97)) [30] mo ?_
  intro w34 d35
  have E36 := below_ext E33 E33.size d35.ext
  have H37 := (d35.ext.blk H32)
  refine aw_pure 0 (.pointer (some ⟨b24, 4, none⟩)) rfl (by kernel_rfl) .none H37 (fun _ => dv_fieldAddr (a := ⟨b24, 0, none⟩) (a' := ⟨b24, 4, none⟩) fo97_2 (T rfl rfl) rfl) ?_
  refine aw_load 1 (.agg #[.bool nr14, .slice A15 n16 c17]) rfl (by kernel_rfl) .none H37 (fun _ s => dv_loads (l := [.bool nr14, .slice A15 n16 c17]) agt69 sz69 (T rfl rfl) s rfl) ?_
  have h38 := (((h20.ext n26.ext).st s31 n26.blk (by decide)).ext d35.ext)
  refine aw_one 2 rfl (by kernel_rfl) .none (oe_callf (vs := [.agg #[.bool nr14, .slice A15 n16 c17]]) co73 (ar1 (T rfl rfl)) (nsign_ok h38 ) ?_)
  rintro _ w39 ⟨rfl, e40⟩
  have E41 := below_ext E36 E36.size e40
  have H42 := (e40.blk H37)
  refine ⟨.inr H42, ?_⟩
  refine aw_pure 3 (.bool (decide (0 < (sgnI u)))) rfl (by kernel_rfl) .none H42 (fun _ => dv_gtr (a := sgnI u) (b := 0) (T rfl rfl) C) ?_
  refine aw_pure 4 (.bool (decide (0 < (sgnI u)))) rfl (by kernel_rfl) .none H42 (fun _ => dv_move (T rfl rfl)) ?_
  by_cases hb43 : 0 < (sgnI u)
  · -- T
    refine aw_pure 5 (.pointer (some ⟨b24, 0, none⟩)) rfl (by kernel_rfl) (.yes (d := 10) rfl rfl (congrArg Value.bool (decide_eq_true hb43))) H42 (fun _ => dv_fieldAddr (a := ⟨b24, 0, none⟩) (a' := ⟨b24, 0, none⟩) fo97_0 (T rfl rfl) rfl) ?_
    refine aw_load 6 (.agg #[.bool nr6, .slice A7 n8 c9]) rfl (by kernel_rfl) (.yes (d := 10) rfl rfl (congrArg Value.bool (decide_eq_true hb43))) H42 (fun _ s => dv_loads (l := [.bool nr6, .slice A7 n8 c9]) agt69 sz69 (T rfl rfl) s rfl) ?_
    refine aw_pure 8 (.pointer (some ⟨b24, 2, none⟩)) rfl (by kernel_rfl) (.yes (d := 10) rfl rfl (congrArg Value.bool (decide_eq_true hb43))) H42 (fun _ => dv_fieldAddr (a := ⟨b24, 0, none⟩) (a' := ⟨b24, 2, none⟩) fo97_1 (T rfl rfl) rfl) ?_
    refine aw_load 9 (.agg #[.bool nr10, .slice A11 n12 c13]) rfl (by kernel_rfl) (.yes (d := 10) rfl rfl (congrArg Value.bool (decide_eq_true hb43))) H42 (fun _ s => dv_loads (l := [.bool nr10, .slice A11 n12 c13]) agt69 sz69 (T rfl rfl) s rfl) ?_
    refine aw_pure 11 (.pointer (some ⟨b24, 4, none⟩)) rfl (by kernel_rfl) (.yes (d := 10) rfl rfl (congrArg Value.bool (decide_eq_true hb43))) H42 (fun _ => dv_fieldAddr (a := ⟨b24, 0, none⟩) (a' := ⟨b24, 4, none⟩) fo97_2 (T rfl rfl) rfl) ?_
    refine aw_load 12 (.agg #[.bool nr14, .slice A15 n16 c17]) rfl (by kernel_rfl) (.yes (d := 10) rfl rfl (congrArg Value.bool (decide_eq_true hb43))) H42 (fun _ s => dv_loads (l := [.bool nr14, .slice A15 n16 c17]) agt69 sz69 (T rfl rfl) s rfl) ?_
    have h44 := ((((h18.ext n26.ext).st s31 n26.blk (by decide)).ext d35.ext).ext e40)
    refine aw_one 7 rfl (by kernel_rfl) (.yes (d := 10) rfl rfl (congrArg Value.bool (decide_eq_true hb43))) (oe_callf (vs := [.agg #[.bool nr6, .slice A7 n8 c9]]) co74 (ar1 (T rfl rfl)) (nsize_num h44 (by first | omega | (simp; done) | (simp; omega))) ?_)
    rintro _ w45 ⟨rfl, e46⟩
    have E47 := below_ext E41 E41.size e46
    have H48 := (e46.blk H42)
    refine ⟨.inr H48, ?_⟩
    have h49 := (((((h19.ext n26.ext).st s31 n26.blk (by decide)).ext d35.ext).ext e40).ext e46)
    refine aw_one 10 rfl (by kernel_rfl) (.yes (d := 10) rfl rfl (congrArg Value.bool (decide_eq_true hb43))) (oe_callf (vs := [.agg #[.bool nr10, .slice A11 n12 c13]]) co74 (ar1 (T rfl rfl)) (nsize_num h49 (by first | omega | (simp; done) | (simp; omega))) ?_)
    rintro _ w50 ⟨rfl, e51⟩
    have E52 := below_ext E47 E47.size e51
    have H53 := (e51.blk H48)
    refine ⟨.inr H53, ?_⟩
    have h54 := (((h38.ext e40).ext e46).ext e51)
    refine aw_one 13 rfl (by kernel_rfl) (.yes (d := 10) rfl rfl (congrArg Value.bool (decide_eq_true hb43))) (oe_callf (vs := [.agg #[.bool nr14, .slice A15 n16 c17]]) co74 (ar1 (T rfl rfl)) (nsize_num h54 (by first | omega | (simp; done) | (simp; omega))) ?_)
    rintro _ w55 ⟨rfl, e56⟩
    have E57 := below_ext E52 E52.size e56
    have H58 := (e56.blk H53)
    refine ⟨.inr H58, ?_⟩
    refine aw_pure 14 (.int .i64 (mx (mx ((nbits (x).natAbs : Int)) ((nbits (y).natAbs : Int))) ((nbits (u).natAbs : Int)))) rfl (by kernel_rfl) (.yes (d := 10) rfl rfl (congrArg Value.bool (decide_eq_true hb43))) H58 (fun _ => dv_max3 (a := (nbits (x).natAbs : Int)) (b := (nbits (y).natAbs : Int)) (c := (nbits (u).natAbs : Int)) (T rfl rfl) (T rfl rfl) (T rfl rfl)) ?_
    refine aw_pure 15 (.bool (decide ((mx (mx ((nbits (x).natAbs : Int)) ((nbits (y).natAbs : Int))) ((nbits (u).natAbs : Int))) ≤ 80))) rfl (by kernel_rfl) (.yes (d := 10) rfl rfl (congrArg Value.bool (decide_eq_true hb43))) H58 (fun _ => dv_leq (a := mx (mx ((nbits (x).natAbs : Int)) ((nbits (y).natAbs : Int))) ((nbits (u).natAbs : Int))) (b := 80) (T rfl rfl) C) ?_
    refine aw_pure 16 (.bool (decide ((mx (mx ((nbits (x).natAbs : Int)) ((nbits (y).natAbs : Int))) ((nbits (u).natAbs : Int))) ≤ 80))) rfl (by kernel_rfl) .none H58 (fun _ => dv_pick_t (T rfl (congrArg Value.bool (decide_eq_true hb43))) (T rfl rfl)) ?_
    refine aw_pure 17 (.bool (decide ((mx (mx ((nbits (x).natAbs : Int)) ((nbits (y).natAbs : Int))) ((nbits (u).natAbs : Int))) ≤ 80))) rfl (by kernel_rfl) .none H58 (fun _ => dv_move (T rfl rfl)) ?_
    by_cases hb59 : (mx (mx ((nbits (x).natAbs : Int)) ((nbits (y).natAbs : Int))) ((nbits (u).natAbs : Int))) ≤ 80
    · -- TT
      refine aw_pure 18 (.pointer (some ⟨b24, 0, none⟩)) rfl (by kernel_rfl) (.yes (d := 23) rfl rfl (congrArg Value.bool (decide_eq_true hb59))) H58 (fun _ => dv_fieldAddr (a := ⟨b24, 0, none⟩) (a' := ⟨b24, 0, none⟩) fo97_0 (T rfl rfl) rfl) ?_
      refine aw_load 19 (.agg #[.bool nr6, .slice A7 n8 c9]) rfl (by kernel_rfl) (.yes (d := 23) rfl rfl (congrArg Value.bool (decide_eq_true hb59))) H58 (fun _ s => dv_loads (l := [.bool nr6, .slice A7 n8 c9]) agt69 sz69 (T rfl rfl) s rfl) ?_
      refine aw_pure 20 (.pointer (some ⟨b24, 2, none⟩)) rfl (by kernel_rfl) (.yes (d := 23) rfl rfl (congrArg Value.bool (decide_eq_true hb59))) H58 (fun _ => dv_fieldAddr (a := ⟨b24, 0, none⟩) (a' := ⟨b24, 2, none⟩) fo97_1 (T rfl rfl) rfl) ?_
      refine aw_load 21 (.agg #[.bool nr10, .slice A11 n12 c13]) rfl (by kernel_rfl) (.yes (d := 23) rfl rfl (congrArg Value.bool (decide_eq_true hb59))) H58 (fun _ s => dv_loads (l := [.bool nr10, .slice A11 n12 c13]) agt69 sz69 (T rfl rfl) s rfl) ?_
      refine aw_pure 22 (.pointer (some ⟨b24, 4, none⟩)) rfl (by kernel_rfl) (.yes (d := 23) rfl rfl (congrArg Value.bool (decide_eq_true hb59))) H58 (fun _ => dv_fieldAddr (a := ⟨b24, 0, none⟩) (a' := ⟨b24, 4, none⟩) fo97_2 (T rfl rfl) rfl) ?_
      refine aw_load 23 (.agg #[.bool nr14, .slice A15 n16 c17]) rfl (by kernel_rfl) (.yes (d := 23) rfl rfl (congrArg Value.bool (decide_eq_true hb59))) H58 (fun _ s => dv_loads (l := [.bool nr14, .slice A15 n16 c17]) agt69 sz69 (T rfl rfl) s rfl) ?_
      refine aw_one 24 rfl (by kernel_rfl) (.yes (d := 23) rfl rfl (congrArg Value.bool (decide_eq_true hb59))) (oe_buildSlice (pv := [(0, .agg #[.bool nr6, .slice A7 n8 c9]), (1, .agg #[.bool nr10, .slice A11 n12 c13]), (2, .agg #[.bool nr14, .slice A15 n16 c17])]) (init := [.bool false, .slice none 0 0, .bool false, .slice none 0 0, .bool false, .slice none 0 0]) (l := [.bool nr6, .slice A7 n8 c9, .bool nr10, .slice A11 n12 c13, .bool nr14, .slice A15 n16 c17]) us136 sz69 rfl rfl zc69 (by kernel_rfl) ⟨rfl, (T rfl rfl), ⟨rfl, (T rfl rfl), ⟨rfl, (T rfl rfl), trivial⟩⟩⟩ rfl ?_)
      intro b60 w61 n62
      have N63 : w.heap.size ≤ b60 := n62.eq ▸ E57.size
      have : b24 < b60 := n62.eq ▸ lt_of_blk H58
      have E64 := below_ext E57 E57.size n62.ext
      have H65 := (n62.ext.blk H58)
      refine ⟨.inr H65, ?_⟩
      have h66 := ((((h44.ext e46).ext e51).ext e56).ext n62.ext)
      have h67 := (((h49.ext e51).ext e56).ext n62.ext)
      have h68 := ((h54.ext e56).ext n62.ext)
      refine aw_one 25 rfl (by kernel_rfl) (.yes (d := 23) rfl rfl (congrArg Value.bool (decide_eq_true hb59))) (oe_callf (vs := [.slice (some ⟨b60, 0, none⟩) 3 3]) co75 (ar1 (T rfl rfl)) (gcd3_ok h66 h67 h68 (by first | decide | omega) (by first | decide | omega) (by first | decide | omega) n62.blk) ?_)
      rintro _ w74 ⟨nr69, A70, n71, c72, rfl, e75, h73⟩
      have E76 := below_ext E64 E64.size e75
      have lh73 := Num.len (by decide) h73
      have H77 := (e75.blk H65)
      refine ⟨.inr H77, ?_⟩
      refine aw_one 26 rfl (by kernel_rfl) (.yes (d := 23) rfl rfl (congrArg Value.bool (decide_eq_true hb59))) (oe_callf (vs := [.int .i64 1]) co77 (ar1 C) (whole_ok  (by omega)) ?_)
      rintro _ w83 ⟨nr78, A79, n80, c81, rfl, e84, h82⟩
      have E85 := below_ext E76 E76.size e84
      have lh82 := Num.len (by decide) h82
      have H86 := (e84.blk H77)
      refine ⟨.inr H86, ?_⟩
      have h87 := (h73.ext e84)
      refine aw_one 27 rfl (by kernel_rfl) (.yes (d := 23) rfl rfl (congrArg Value.bool (decide_eq_true hb59))) (oe_callf (vs := [.agg #[.bool nr69, .slice A70 n71 c72], .agg #[.bool nr78, .slice A79 n80 c81]]) co76 (ar2 (T rfl rfl) (T rfl rfl)) (ncmp_ok h87 h82 (by first | decide | omega) (by first | decide | omega)) ?_)
      rintro _ w88 ⟨rfl, e89⟩
      have E90 := below_ext E85 E85.size e89
      have H91 := (e89.blk H86)
      refine ⟨.inr H91, ?_⟩
      refine aw_pure 28 (.bool (decide ((sgnI ((gI3 x y u) - 1)) = 0))) rfl (by kernel_rfl) (.yes (d := 23) rfl rfl (congrArg Value.bool (decide_eq_true hb59))) H91 (fun _ => dv_eql (a := sgnI ((gI3 x y u) - 1)) (b := 0) (T rfl rfl) C) ?_
      refine aw_pure 29 (.bool (decide ((sgnI ((gI3 x y u) - 1)) = 0))) rfl (by kernel_rfl) .none H91 (fun _ => dv_pick_t (T rfl (congrArg Value.bool (decide_eq_true hb59))) (T rfl rfl)) ?_
      refine aw_last 30 (.bool (decide ((sgnI ((gI3 x y u) - 1)) = 0))) rfl (by kernel_rfl) .none (fun _ => dv_assign (T rfl rfl)) ?_
      refine aw_done (by kernel_rfl) ?_
      refine rk_ret Try.func32 (v := .bool (decide ((sgnI ((gI3 x y u) - 1)) = 0))) (res1 Try.results32 (rv_tmp rfl rfl)) ⟨_, rfl, ?_⟩
      have h1 : sm3 x y u := by first | assumption | exact sm3_iff.2 (mx3.1 ‹_›)
      have h2 : 0 < u := sgnI_gt.1 (by assumption)
      have h3 := @sgnI_zero (gI3 x y u - 1)
      exact ⟨(vb ⟨fun hh => ⟨h2, h1, by have := h3.1 hh; omega⟩, fun hh => h3.2 (by have := hh.2.2; omega)⟩), E90⟩
    · -- TF
      refine aw_no 18 rfl (by kernel_rfl) (d := 23) rfl rfl (congrArg Value.bool (decide_eq_false hb59)) H58 ?_
      refine aw_no 19 rfl (by kernel_rfl) (d := 23) rfl rfl (congrArg Value.bool (decide_eq_false hb59)) H58 ?_
      refine aw_no 20 rfl (by kernel_rfl) (d := 23) rfl rfl (congrArg Value.bool (decide_eq_false hb59)) H58 ?_
      refine aw_no 21 rfl (by kernel_rfl) (d := 23) rfl rfl (congrArg Value.bool (decide_eq_false hb59)) H58 ?_
      refine aw_no 22 rfl (by kernel_rfl) (d := 23) rfl rfl (congrArg Value.bool (decide_eq_false hb59)) H58 ?_
      refine aw_no 23 rfl (by kernel_rfl) (d := 23) rfl rfl (congrArg Value.bool (decide_eq_false hb59)) H58 ?_
      refine aw_no 24 rfl (by kernel_rfl) (d := 23) rfl rfl (congrArg Value.bool (decide_eq_false hb59)) H58 ?_
      refine aw_no 25 rfl (by kernel_rfl) (d := 23) rfl rfl (congrArg Value.bool (decide_eq_false hb59)) H58 ?_
      refine aw_no 26 rfl (by kernel_rfl) (d := 23) rfl rfl (congrArg Value.bool (decide_eq_false hb59)) H58 ?_
      refine aw_no 27 rfl (by kernel_rfl) (d := 23) rfl rfl (congrArg Value.bool (decide_eq_false hb59)) H58 ?_
      refine aw_no 28 rfl (by kernel_rfl) (d := 23) rfl rfl (congrArg Value.bool (decide_eq_false hb59)) H58 ?_
      refine aw_pure 29 (.bool false) rfl (by kernel_rfl) .none H58 (fun _ => dv_pick_f (T rfl (congrArg Value.bool (decide_eq_false hb59))) C) ?_
      refine aw_last 30 (.bool false) rfl (by kernel_rfl) .none (fun _ => dv_assign (T rfl rfl)) ?_
      refine aw_done (by kernel_rfl) ?_
      refine rk_ret Try.func32 (v := .bool false) (res1 Try.results32 (rv_tmp rfl rfl)) ⟨_, rfl, ?_⟩
      exact ⟨(vf (by intro hh; have h1 := sgnI_gt.2 hh.1; have h2 := hh.2.1; first | (exact absurd h2 (by assumption)) | (exact absurd (mx3.2 (sm3_iff.1 h2)) (by assumption)) | contradiction | omega)), E57⟩
  · -- F
    refine aw_no 5 rfl (by kernel_rfl) (d := 10) rfl rfl (congrArg Value.bool (decide_eq_false hb43)) H42 ?_
    refine aw_no 6 rfl (by kernel_rfl) (d := 10) rfl rfl (congrArg Value.bool (decide_eq_false hb43)) H42 ?_
    refine aw_no 7 rfl (by kernel_rfl) (d := 10) rfl rfl (congrArg Value.bool (decide_eq_false hb43)) H42 ?_
    refine aw_no 8 rfl (by kernel_rfl) (d := 10) rfl rfl (congrArg Value.bool (decide_eq_false hb43)) H42 ?_
    refine aw_no 9 rfl (by kernel_rfl) (d := 10) rfl rfl (congrArg Value.bool (decide_eq_false hb43)) H42 ?_
    refine aw_no 10 rfl (by kernel_rfl) (d := 10) rfl rfl (congrArg Value.bool (decide_eq_false hb43)) H42 ?_
    refine aw_no 11 rfl (by kernel_rfl) (d := 10) rfl rfl (congrArg Value.bool (decide_eq_false hb43)) H42 ?_
    refine aw_no 12 rfl (by kernel_rfl) (d := 10) rfl rfl (congrArg Value.bool (decide_eq_false hb43)) H42 ?_
    refine aw_no 13 rfl (by kernel_rfl) (d := 10) rfl rfl (congrArg Value.bool (decide_eq_false hb43)) H42 ?_
    refine aw_no 14 rfl (by kernel_rfl) (d := 10) rfl rfl (congrArg Value.bool (decide_eq_false hb43)) H42 ?_
    refine aw_no 15 rfl (by kernel_rfl) (d := 10) rfl rfl (congrArg Value.bool (decide_eq_false hb43)) H42 ?_
    refine aw_pure 16 (.bool false) rfl (by kernel_rfl) .none H42 (fun _ => dv_pick_f (T rfl (congrArg Value.bool (decide_eq_false hb43))) C) ?_
    refine aw_pure 17 (.bool false) rfl (by kernel_rfl) .none H42 (fun _ => dv_move (T rfl rfl)) ?_
    refine aw_no 18 rfl (by kernel_rfl) (d := 23) rfl rfl (rfl) H42 ?_
    refine aw_no 19 rfl (by kernel_rfl) (d := 23) rfl rfl (rfl) H42 ?_
    refine aw_no 20 rfl (by kernel_rfl) (d := 23) rfl rfl (rfl) H42 ?_
    refine aw_no 21 rfl (by kernel_rfl) (d := 23) rfl rfl (rfl) H42 ?_
    refine aw_no 22 rfl (by kernel_rfl) (d := 23) rfl rfl (rfl) H42 ?_
    refine aw_no 23 rfl (by kernel_rfl) (d := 23) rfl rfl (rfl) H42 ?_
    refine aw_no 24 rfl (by kernel_rfl) (d := 23) rfl rfl (rfl) H42 ?_
    refine aw_no 25 rfl (by kernel_rfl) (d := 23) rfl rfl (rfl) H42 ?_
    refine aw_no 26 rfl (by kernel_rfl) (d := 23) rfl rfl (rfl) H42 ?_
    refine aw_no 27 rfl (by kernel_rfl) (d := 23) rfl rfl (rfl) H42 ?_
    refine aw_no 28 rfl (by kernel_rfl) (d := 23) rfl rfl (rfl) H42 ?_
    refine aw_pure 29 (.bool false) rfl (by kernel_rfl) .none H42 (fun _ => dv_pick_f (T rfl rfl) C) ?_
    refine aw_last 30 (.bool false) rfl (by kernel_rfl) .none (fun _ => dv_assign (T rfl rfl)) ?_
    refine aw_done (by kernel_rfl) ?_
    refine rk_ret Try.func32 (v := .bool false) (res1 Try.results32 (rv_tmp rfl rfl)) ⟨_, rfl, ?_⟩
    exact ⟨(vf (by intro hh; have h1 := sgnI_gt.2 hh.1; have h2 := hh.2.1; first | (exact absurd h2 (by assumption)) | (exact absurd (mx3.2 (sm3_iff.1 h2)) (by assumption)) | contradiction | omega)), E41⟩

end Go.Proofs.Ytpnjkjahfklfnaa.W
