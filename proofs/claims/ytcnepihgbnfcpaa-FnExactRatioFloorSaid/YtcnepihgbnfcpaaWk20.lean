/- Wk20: walks, written by a program of this session. -/
import Derived.Test.YtcnepihgbnfcpaaWk19
import Derived.Test.YtcnepihgbnfcpaaMa15
set_option linter.unusedVariables false
set_option linter.unusedSimpArgs false
namespace Go.Proofs.Ytcnepihgbnfcpaa.W
open Go Go.RowKit Go.Proofs.Ytcnepihgbnfcpaa.Fw
attribute [local irreducible] RunK LW AW DV OE Ct
theorem agt24 : aggB Try.prog 24 = some true := by kernel_rfl
theorem agt51 : aggB Try.prog 51 = some true := by kernel_rfl
theorem agt92 : aggB Try.prog 92 = some true := by kernel_rfl
theorem agt97 : aggB Try.prog 97 = some true := by kernel_rfl
theorem co16 : callOk Try.prog 16 = true := by kernel_rfl
theorem co18 : callOk Try.prog 18 = true := by kernel_rfl
theorem co19 : callOk Try.prog 19 = true := by kernel_rfl
theorem co20 : callOk Try.prog 20 = true := by kernel_rfl
theorem co21 : callOk Try.prog 21 = true := by kernel_rfl
theorem co22 : callOk Try.prog 22 = true := by kernel_rfl
theorem co42 : callOk Try.prog 42 = true := by kernel_rfl
theorem co44 : callOk Try.prog 44 = true := by kernel_rfl
theorem co64 : callOk Try.prog 64 = true := by kernel_rfl
theorem co65 : callOk Try.prog 65 = true := by kernel_rfl
theorem co70 : callOk Try.prog 70 = true := by kernel_rfl
theorem co76 : callOk Try.prog 76 = true := by kernel_rfl
theorem co79 : callOk Try.prog 79 = true := by kernel_rfl
theorem co80 : callOk Try.prog 80 = true := by kernel_rfl
theorem co81 : callOk Try.prog 81 = true := by kernel_rfl
theorem co96 : callOk Try.prog 96 = true := by kernel_rfl
theorem fo48_0 : fieldOffB Try.prog 48 0 = some 0 := by kernel_rfl
theorem fo48_1 : fieldOffB Try.prog 48 1 = some 4 := by kernel_rfl
theorem fo51_0 : fieldOffB Try.prog 51 0 = some 0 := by kernel_rfl
theorem fo51_1 : fieldOffB Try.prog 51 1 = some 4 := by kernel_rfl
theorem fo92_0 : fieldOffB Try.prog 92 0 = some 0 := by kernel_rfl
theorem fo92_1 : fieldOffB Try.prog 92 1 = some 2 := by kernel_rfl
theorem fo97_0 : fieldOffB Try.prog 97 0 = some 0 := by kernel_rfl
theorem fo97_1 : fieldOffB Try.prog 97 1 = some 2 := by kernel_rfl
theorem pl92 : placesB Try.prog 92 = some [(0, 2), (2, 2)] := by kernel_rfl
theorem pl97 : placesB Try.prog 97 = some [(0, 2), (2, 2)] := by kernel_rfl
theorem sz24 : sizeB Try.prog 24 = some 4 := by kernel_rfl
theorem sz51 : sizeB Try.prog 51 = some 8 := by kernel_rfl
theorem sz92 : sizeB Try.prog 92 = some 4 := by kernel_rfl
theorem sz97 : sizeB Try.prog 97 = some 4 := by kernel_rfl
theorem zc92 : zcB Try.prog 92 = some [.bool false, .slice none 0 0, .bool false, .slice none 0 0] := by kernel_rfl
theorem zc97 : zcB Try.prog 97 = some [.bool false, .slice none 0 0, .bool false, .slice none 0 0] := by kernel_rfl
theorem ze51 : zeroB Try.prog 51 = some #[.int .u64 0, .int .u64 0, .int .u64 0, .int .u64 0, .int .u64 0, .int .u64 0, .int .u64 0, .int .u64 0] := by kernel_rfl
theorem ze92 : zeroB Try.prog 92 = some #[.bool false, .slice none 0 0, .bool false, .slice none 0 0] := by kernel_rfl
theorem ze97 : zeroB Try.prog 97 = some #[.bool false, .slice none 0 0, .bool false, .slice none 0 0] := by kernel_rfl
set_option maxHeartbeats 1000000 in
theorem toRatio_ok {w : World} {x y : Int}   : Ct Try.prog 43 [.agg #[.int .u64 (wv3 x), .int .u64 (wv2 x), .int .u64 (wv1 x), .int .u64 (wv0 x), .int .u64 (wv3 y), .int .u64 (wv2 y), .int .u64 (wv1 y), .int .u64 (wv0 y)]] w fun v w1 => v = .agg #[.int .u64 (wv3 x), .int .u64 (wv2 x), .int .u64 (wv1 x), .int .u64 (wv0 x), .int .u64 (wv3 y), .int .u64 (wv2 y), .int .u64 (wv1 y), .int .u64 (wv0 y)] ∧ Ext w w1 := by
  refine ct_run (n := 13) Try.func43 rfl Try.ntmps43 rfl ?_
  have E0 : Below w.heap.size w w := Below.refl _ _
  refine rk_seq ?_
  refine rk_reg ?_
  refine lw_e (oe_box (v := .agg #[.int .u64 (wv3 x), .int .u64 (wv2 x), .int .u64 (wv1 x), .int .u64 (wv0 x), .int .u64 (wv3 y), .int .u64 (wv2 y), .int .u64 (wv1 y), .int .u64 (wv0 y)]) (cs := #[.int .u64 (wv3 x), .int .u64 (wv2 x), .int .u64 (wv1 x), .int .u64 (wv0 x), .int .u64 (wv3 y), .int .u64 (wv2 y), .int .u64 (wv1 y), .int .u64 (wv0 y)]) (T rfl rfl) rfl ?_)
  intro b1 w2 n3
  have N4 : w.heap.size ≤ b1 := n3.eq ▸ E0.size
  have E5 := below_ext E0 E0.size n3.ext
  refine lw_e (oe_alloc ze51 ?_)
  intro b6 w7 n8
  have N9 : w.heap.size ≤ b6 := n8.eq ▸ E5.size
  have : b1 < b6 := n8.eq ▸ lt_of_blk n3.blk
  have E10 := below_ext E5 E5.size n8.ext
  refine lw_nil ?_
  refine rk_seq ?_
  refine rk_reg ?_
  refine lw_e (oe_alloc ze51 ?_)
  intro b11 w12 n13
  have N14 : w.heap.size ≤ b11 := n13.eq ▸ E10.size
  have : b6 < b11 := n13.eq ▸ lt_of_blk n8.blk
  have E15 := below_ext E10 E10.size n13.ext
  refine lw_nil ?_
  refine rk_seq ?_
  refine rk_reg ?_
  refine lw_v (.pointer (some ⟨b1, 0, none⟩)) (dv_fieldAddr (a := ⟨b1, 0, none⟩) (a' := ⟨b1, 0, none⟩) fo48_0 (T rfl rfl) rfl) ?_
  have H16 := (n13.ext.blk (n8.ext.blk n3.blk))
  refine lw_v (.agg #[.int .u64 (wv3 x), .int .u64 (wv2 x), .int .u64 (wv1 x), .int .u64 (wv0 x)]) (dv_loads (l := [.int .u64 (wv3 x), .int .u64 (wv2 x), .int .u64 (wv1 x), .int .u64 (wv0 x)]) agt24 sz24 (T rfl rfl) H16 rfl) ?_
  refine lw_e (oe_callf (vs := [.agg #[.int .u64 (wv3 x), .int .u64 (wv2 x), .int .u64 (wv1 x), .int .u64 (wv0 x)]]) co16 (ar1 (T rfl rfl)) (toWide_ok (z := x)  ) ?_)
  rintro _ w17 ⟨rfl, e18⟩
  have E19 := below_ext E15 E15.size e18
  refine lw_v (.pointer (some ⟨b11, 0, none⟩)) (dv_fieldAddr (a := ⟨b11, 0, none⟩) (a' := ⟨b11, 0, none⟩) fo51_0 (T rfl rfl) rfl) ?_
  have H20 := (e18.blk n13.blk)
  refine lw_e (oe_store (v := .agg #[.int .u64 (wv3 x), .int .u64 (wv2 x), .int .u64 (wv1 x), .int .u64 (wv0 x)]) (vs := [.int .u64 (wv3 x), .int .u64 (wv2 x), .int .u64 (wv1 x), .int .u64 (wv0 x)]) (l := [.int .u64 (wv3 x), .int .u64 (wv2 x), .int .u64 (wv1 x), .int .u64 (wv0 x), .int .u64 0, .int .u64 0, .int .u64 0, .int .u64 0]) (T rfl rfl) (T rfl rfl) sz26 rfl rfl rfl H20 rfl ?_)
  intro w21 s22 H23
  have E24 := below_st E19 N14 s22
  refine lw_nil ?_
  refine rk_seq ?_
  refine rk_reg ?_
  refine lw_v (.pointer (some ⟨b1, 4, none⟩)) (dv_fieldAddr (a := ⟨b1, 0, none⟩) (a' := ⟨b1, 4, none⟩) fo48_1 (T rfl rfl) rfl) ?_
  have H25 := (s22.blk (e18.blk H16) (by omega))
  refine lw_v (.agg #[.int .u64 (wv3 y), .int .u64 (wv2 y), .int .u64 (wv1 y), .int .u64 (wv0 y)]) (dv_loads (l := [.int .u64 (wv3 y), .int .u64 (wv2 y), .int .u64 (wv1 y), .int .u64 (wv0 y)]) agt24 sz24 (T rfl rfl) H25 rfl) ?_
  refine lw_e (oe_callf (vs := [.agg #[.int .u64 (wv3 y), .int .u64 (wv2 y), .int .u64 (wv1 y), .int .u64 (wv0 y)]]) co16 (ar1 (T rfl rfl)) (toWide_ok (z := y)  ) ?_)
  rintro _ w26 ⟨rfl, e27⟩
  have E28 := below_ext E24 E24.size e27
  refine lw_v (.pointer (some ⟨b11, 4, none⟩)) (dv_fieldAddr (a := ⟨b11, 0, none⟩) (a' := ⟨b11, 4, none⟩) fo51_1 (T rfl rfl) rfl) ?_
  have H29 := (e27.blk H23)
  refine lw_e (oe_store (v := .agg #[.int .u64 (wv3 y), .int .u64 (wv2 y), .int .u64 (wv1 y), .int .u64 (wv0 y)]) (vs := [.int .u64 (wv3 y), .int .u64 (wv2 y), .int .u64 (wv1 y), .int .u64 (wv0 y)]) (l := [.int .u64 (wv3 x), .int .u64 (wv2 x), .int .u64 (wv1 x), .int .u64 (wv0 x), .int .u64 (wv3 y), .int .u64 (wv2 y), .int .u64 (wv1 y), .int .u64 (wv0 y)]) (T rfl rfl) (T rfl rfl) sz26 rfl rfl rfl H29 rfl ?_)
  intro w30 s31 H32
  have E33 := below_st E28 N14 s31
  refine lw_nil ?_
  refine rk_seq ?_
  refine rk_reg ?_
  refine lw_v (.agg #[.int .u64 (wv3 x), .int .u64 (wv2 x), .int .u64 (wv1 x), .int .u64 (wv0 x), .int .u64 (wv3 y), .int .u64 (wv2 y), .int .u64 (wv1 y), .int .u64 (wv0 y)]) (dv_loads (l := [.int .u64 (wv3 x), .int .u64 (wv2 x), .int .u64 (wv1 x), .int .u64 (wv0 x), .int .u64 (wv3 y), .int .u64 (wv2 y), .int .u64 (wv1 y), .int .u64 (wv0 y)]) agt51 sz51 (T rfl rfl) H32 rfl) ?_
  have H34 := (s31.blk (e27.blk (s22.blk (e18.blk (n13.ext.blk n8.blk)) (by omega))) (by omega))
  refine lw_e (oe_store (v := .agg #[.int .u64 (wv3 x), .int .u64 (wv2 x), .int .u64 (wv1 x), .int .u64 (wv0 x), .int .u64 (wv3 y), .int .u64 (wv2 y), .int .u64 (wv1 y), .int .u64 (wv0 y)]) (vs := [.int .u64 (wv3 x), .int .u64 (wv2 x), .int .u64 (wv1 x), .int .u64 (wv0 x), .int .u64 (wv3 y), .int .u64 (wv2 y), .int .u64 (wv1 y), .int .u64 (wv0 y)]) (l := [.int .u64 (wv3 x), .int .u64 (wv2 x), .int .u64 (wv1 x), .int .u64 (wv0 x), .int .u64 (wv3 y), .int .u64 (wv2 y), .int .u64 (wv1 y), .int .u64 (wv0 y)]) (T rfl rfl) (T rfl rfl) sz51 rfl rfl rfl H34 rfl ?_)
  intro w35 s36 H37
  have E38 := below_st E33 N9 s36
  refine lw_nil ?_
  refine rk_ret Try.func43 (v := .agg #[.int .u64 (wv3 x), .int .u64 (wv2 x), .int .u64 (wv1 x), .int .u64 (wv0 x), .int .u64 (wv3 y), .int .u64 (wv2 y), .int .u64 (wv1 y), .int .u64 (wv0 y)]) (res1 Try.results43 (rv_cells (l := [.int .u64 (wv3 x), .int .u64 (wv2 x), .int .u64 (wv1 x), .int .u64 (wv0 x), .int .u64 (wv3 y), .int .u64 (wv2 y), .int .u64 (wv1 y), .int .u64 (wv0 y)]) agt51 sz51 rfl rfl H37 rfl)) ⟨_, rfl, ?_⟩
  exact ⟨rfl, E38⟩

set_option maxHeartbeats 1000000 in
theorem iratio_ok {w : World}  {x y : Int} (fx_ : fits x) (fy_ : fits y)   : Ct Try.prog 79 [.agg #[.int .u64 (wv3 x), .int .u64 (wv2 x), .int .u64 (wv1 x), .int .u64 (wv0 x), .int .u64 (wv3 y), .int .u64 (wv2 y), .int .u64 (wv1 y), .int .u64 (wv0 y)]] w fun v w1 => ∃ nr0_ A0_ l0_ c0_ nr1_ A1_ l1_ c1_, v = .agg #[.bool nr0_, .slice A0_ l0_ c0_, .bool nr1_, .slice A1_ l1_ c1_] ∧ Ext w w1 ∧ Num 64 22 .u64 w1 nr0_ A0_ l0_ c0_ (x) (256) ∧ Num 64 22 .u64 w1 nr1_ A1_ l1_ c1_ (y) (256) := by
  refine ct_run (n := 10) Try.func79 rfl Try.ntmps79 rfl ?_
  have E0 : Below w.heap.size w w := Below.refl _ _
  refine rk_seq ?_
  refine rk_reg ?_
  refine lw_e (oe_box (v := .agg #[.int .u64 (wv3 x), .int .u64 (wv2 x), .int .u64 (wv1 x), .int .u64 (wv0 x), .int .u64 (wv3 y), .int .u64 (wv2 y), .int .u64 (wv1 y), .int .u64 (wv0 y)]) (cs := #[.int .u64 (wv3 x), .int .u64 (wv2 x), .int .u64 (wv1 x), .int .u64 (wv0 x), .int .u64 (wv3 y), .int .u64 (wv2 y), .int .u64 (wv1 y), .int .u64 (wv0 y)]) (T rfl rfl) rfl ?_)
  intro b1 w2 n3
  have N4 : w.heap.size ≤ b1 := n3.eq ▸ E0.size
  have E5 := below_ext E0 E0.size n3.ext
  refine lw_e (oe_alloc ze97 ?_)
  intro b6 w7 n8
  have N9 : w.heap.size ≤ b6 := n8.eq ▸ E5.size
  have : b1 < b6 := n8.eq ▸ lt_of_blk n3.blk
  have E10 := below_ext E5 E5.size n8.ext
  refine lw_nil ?_
  refine rk_seq ?_
  refine rk_any (fun w => w.heap[b1]? = some (.cells #[.int .u64 (wv3 x), .int .u64 (wv2 x), .int .u64 (wv1 x), .int .u64 (wv0 x), .int .u64 (wv3 y), .int .u64 (wv2 y), .int .u64 (wv1 y), .int .u64 (wv0 y)] 51)) [7] mo ?_
  intro w11 d12
  have E13 := below_ext E10 E10.size d12.ext
  have H14 := (d12.ext.blk (n8.ext.blk n3.blk))
  refine aw_pure 0 (.pointer (some ⟨b1, 0, none⟩)) rfl (by kernel_rfl) .none H14 (fun _ => dv_fieldAddr (a := ⟨b1, 0, none⟩) (a' := ⟨b1, 0, none⟩) fo51_0 (T rfl rfl) rfl) ?_
  refine aw_load 1 (.agg #[.int .u64 (wv3 x), .int .u64 (wv2 x), .int .u64 (wv1 x), .int .u64 (wv0 x)]) rfl (by kernel_rfl) .none H14 (fun _ s => dv_loads (l := [.int .u64 (wv3 x), .int .u64 (wv2 x), .int .u64 (wv1 x), .int .u64 (wv0 x)]) agt26 sz26 (T rfl rfl) s rfl) ?_
  refine aw_pure 3 (.pointer (some ⟨b1, 4, none⟩)) rfl (by kernel_rfl) .none H14 (fun _ => dv_fieldAddr (a := ⟨b1, 0, none⟩) (a' := ⟨b1, 4, none⟩) fo51_1 (T rfl rfl) rfl) ?_
  refine aw_load 4 (.agg #[.int .u64 (wv3 y), .int .u64 (wv2 y), .int .u64 (wv1 y), .int .u64 (wv0 y)]) rfl (by kernel_rfl) .none H14 (fun _ s => dv_loads (l := [.int .u64 (wv3 y), .int .u64 (wv2 y), .int .u64 (wv1 y), .int .u64 (wv0 y)]) agt26 sz26 (T rfl rfl) s rfl) ?_
  refine aw_one 2 rfl (by kernel_rfl) .none (oe_callf (vs := [.agg #[.int .u64 (wv3 x), .int .u64 (wv2 x), .int .u64 (wv1 x), .int .u64 (wv0 x)]]) co51 (ar1 (T rfl rfl)) (wnumz_ok (z := x) fx_) ?_)
  rintro _ w20 ⟨nr15, A16, n17, c18, rfl, e21, h19⟩
  have E22 := below_ext E13 E13.size e21
  have lh19 := Num.len (by decide) h19
  have H23 := (e21.blk H14)
  refine ⟨.inr H23, ?_⟩
  refine aw_one 5 rfl (by kernel_rfl) .none (oe_callf (vs := [.agg #[.int .u64 (wv3 y), .int .u64 (wv2 y), .int .u64 (wv1 y), .int .u64 (wv0 y)]]) co51 (ar1 (T rfl rfl)) (wnumz_ok (z := y) fy_) ?_)
  rintro _ w29 ⟨nr24, A25, n26, c27, rfl, e30, h28⟩
  have E31 := below_ext E22 E22.size e30
  have lh28 := Num.len (by decide) h28
  have H32 := (e30.blk H23)
  refine ⟨.inr H32, ?_⟩
  refine aw_pure 6 (.agg #[.bool nr15, .slice A16 n17 c18, .bool nr24, .slice A25 n26 c27]) rfl (by kernel_rfl) .none H32 (fun _ => dv_build (pv := [(0, .agg #[.bool nr15, .slice A16 n17 c18]), (1, .agg #[.bool nr24, .slice A25 n26 c27])]) (l := [.bool nr15, .slice A16 n17 c18, .bool nr24, .slice A25 n26 c27]) zc97 pl97 ⟨rfl, (T rfl rfl), ⟨rfl, (T rfl rfl), trivial⟩⟩ rfl) ?_
  have H33 := (e30.blk (e21.blk (d12.ext.blk n8.blk)))
  refine aw_one 7 rfl (by kernel_rfl) .none (oe_store (v := .agg #[.bool nr15, .slice A16 n17 c18, .bool nr24, .slice A25 n26 c27]) (vs := [.bool nr15, .slice A16 n17 c18, .bool nr24, .slice A25 n26 c27]) (l := [.bool nr15, .slice A16 n17 c18, .bool nr24, .slice A25 n26 c27]) (T rfl rfl) (T rfl rfl) sz97 rfl rfl rfl H33 rfl ?_)
  intro w34 s35 H36
  have E37 := below_st E31 N9 s35
  refine ⟨.inl rfl, ?_⟩
  refine aw_done (by kernel_rfl) ?_
  refine rk_ret Try.func79 (v := .agg #[.bool nr15, .slice A16 n17 c18, .bool nr24, .slice A25 n26 c27]) (res1 Try.results79 (rv_cells (l := [.bool nr15, .slice A16 n17 c18, .bool nr24, .slice A25 n26 c27]) agt97 sz97 rfl rfl H36 rfl)) ⟨_, rfl, ?_⟩
  have h38 := ((h19.ext e30).st s35 H33 (by decide))
  have h39 := (h28.st s35 H33 (by decide))
  exact ⟨_, _, _, _, _, _, _, _, rfl, E37, h38.to rfl (Nat.le_refl _), h39.to rfl (Nat.le_refl _)⟩

set_option maxHeartbeats 1000000 in
theorem ircmp_ok {w : World}  {na : Bool} {Aa : Option Addr} {la ca : Nat} {x : Int} {sx : Nat} (ha : Num 64 22 .u64 w na Aa la ca x sx) {nb : Bool} {Ab : Option Addr} {lb cb : Nat} {y : Int} {sy : Nat} (hb : Num 64 22 .u64 w nb Ab lb cb y sy) {nm : Bool} {Am : Option Addr} {lm cm : Nat} {p : Int} {sp : Nat} (hm : Num 64 22 .u64 w nm Am lm cm p sp) {nn : Bool} {An : Option Addr} {ln cn : Nat} {q : Int} {sq : Nat} (hn : Num 64 22 .u64 w nn An ln cn q sq) (hbsx : sx ≤ 100000) (hbsy : sy ≤ 100000) (hbsp : sp ≤ 100000) (hbsq : sq ≤ 100000)  : Ct Try.prog 81 [.agg #[.bool na, .slice Aa la ca, .bool nb, .slice Ab lb cb], .agg #[.bool nm, .slice Am lm cm, .bool nn, .slice An ln cn]] w fun v w1 => v = .int .i64 (sgnI (x * q - p * y)) ∧ Ext w w1 := by
  refine ct_run (n := 16) Try.func81 rfl Try.ntmps81 rfl ?_
  have E0 : Below w.heap.size w w := Below.refl _ _
  have lha := Num.len (by decide) ha
  have lhb := Num.len (by decide) hb
  have lhm := Num.len (by decide) hm
  have lhn := Num.len (by decide) hn
  refine rk_seq ?_
  refine rk_reg ?_
  refine lw_e (oe_box (v := .agg #[.bool na, .slice Aa la ca, .bool nb, .slice Ab lb cb]) (cs := #[.bool na, .slice Aa la ca, .bool nb, .slice Ab lb cb]) (T rfl rfl) rfl ?_)
  intro b1 w2 n3
  have N4 : w.heap.size ≤ b1 := n3.eq ▸ E0.size
  have E5 := below_ext E0 E0.size n3.ext
  refine lw_e (oe_box (v := .agg #[.bool nm, .slice Am lm cm, .bool nn, .slice An ln cn]) (cs := #[.bool nm, .slice Am lm cm, .bool nn, .slice An ln cn]) (T rfl rfl) rfl ?_)
  intro b6 w7 n8
  have N9 : w.heap.size ≤ b6 := n8.eq ▸ E5.size
  have : b1 < b6 := n8.eq ▸ lt_of_blk n3.blk
  have E10 := below_ext E5 E5.size n8.ext
  refine lw_v (.int .i64 0) (dv_assign C) ?_
  refine lw_nil ?_
  refine rk_seq ?_
  refine rk_any (fun w => w.heap[b1]? = some (.cells #[.bool na, .slice Aa la ca, .bool nb, .slice Ab lb cb] 97) ∧ w.heap[b6]? = some (.cells #[.bool nm, .slice Am lm cm, .bool nn, .slice An ln cn] 97)) [11] mo ?_
  intro w11 d12
  have E13 := below_ext E10 E10.size d12.ext
  have H14 := (d12.ext.blk (n8.ext.blk n3.blk))
  have H15 := (d12.ext.blk n8.blk)
  refine aw_pure 0 (.pointer (some ⟨b1, 0, none⟩)) rfl (by kernel_rfl) .none ⟨H14, H15⟩ (fun _ => dv_fieldAddr (a := ⟨b1, 0, none⟩) (a' := ⟨b1, 0, none⟩) fo97_0 (T rfl rfl) rfl) ?_
  refine aw_load 1 (.agg #[.bool na, .slice Aa la ca]) rfl (by kernel_rfl) .none ⟨H14, H15⟩ (fun _ s => dv_loads (l := [.bool na, .slice Aa la ca]) agt65 sz65 (T rfl rfl) s.1 rfl) ?_
  refine aw_pure 2 (.pointer (some ⟨b6, 2, none⟩)) rfl (by kernel_rfl) .none ⟨H14, H15⟩ (fun _ => dv_fieldAddr (a := ⟨b6, 0, none⟩) (a' := ⟨b6, 2, none⟩) fo97_1 (T rfl rfl) rfl) ?_
  refine aw_load 3 (.agg #[.bool nn, .slice An ln cn]) rfl (by kernel_rfl) .none ⟨H14, H15⟩ (fun _ s => dv_loads (l := [.bool nn, .slice An ln cn]) agt65 sz65 (T rfl rfl) s.2 rfl) ?_
  refine aw_pure 5 (.pointer (some ⟨b6, 0, none⟩)) rfl (by kernel_rfl) .none ⟨H14, H15⟩ (fun _ => dv_fieldAddr (a := ⟨b6, 0, none⟩) (a' := ⟨b6, 0, none⟩) fo97_0 (T rfl rfl) rfl) ?_
  refine aw_load 6 (.agg #[.bool nm, .slice Am lm cm]) rfl (by kernel_rfl) .none ⟨H14, H15⟩ (fun _ s => dv_loads (l := [.bool nm, .slice Am lm cm]) agt65 sz65 (T rfl rfl) s.2 rfl) ?_
  refine aw_pure 7 (.pointer (some ⟨b1, 2, none⟩)) rfl (by kernel_rfl) .none ⟨H14, H15⟩ (fun _ => dv_fieldAddr (a := ⟨b1, 0, none⟩) (a' := ⟨b1, 2, none⟩) fo97_1 (T rfl rfl) rfl) ?_
  refine aw_load 8 (.agg #[.bool nb, .slice Ab lb cb]) rfl (by kernel_rfl) .none ⟨H14, H15⟩ (fun _ s => dv_loads (l := [.bool nb, .slice Ab lb cb]) agt65 sz65 (T rfl rfl) s.1 rfl) ?_
  have h16 := (((ha.ext n3.ext).ext n8.ext).ext d12.ext)
  have h17 := (((hn.ext n3.ext).ext n8.ext).ext d12.ext)
  refine aw_one 4 rfl (by kernel_rfl) .none (oe_callf (vs := [.agg #[.bool na, .slice Aa la ca], .agg #[.bool nn, .slice An ln cn]]) co70 (ar2 (T rfl rfl) (T rfl rfl)) (nby_ok h16 h17 (by first | decide | omega) (by first | decide | omega)) ?_)
  rintro _ w23 ⟨nr18, A19, n20, c21, rfl, e24, h22⟩
  have E25 := below_ext E13 E13.size e24
  have lh22 := Num.len (by decide) h22
  have H26 := (e24.blk H14)
  have H27 := (e24.blk H15)
  refine ⟨.inr ⟨H26, H27⟩, ?_⟩
  have h28 := ((((hm.ext n3.ext).ext n8.ext).ext d12.ext).ext e24)
  have h29 := ((((hb.ext n3.ext).ext n8.ext).ext d12.ext).ext e24)
  refine aw_one 9 rfl (by kernel_rfl) .none (oe_callf (vs := [.agg #[.bool nm, .slice Am lm cm], .agg #[.bool nb, .slice Ab lb cb]]) co70 (ar2 (T rfl rfl) (T rfl rfl)) (nby_ok h28 h29 (by first | decide | omega) (by first | decide | omega)) ?_)
  rintro _ w35 ⟨nr30, A31, n32, c33, rfl, e36, h34⟩
  have E37 := below_ext E25 E25.size e36
  have lh34 := Num.len (by decide) h34
  have H38 := (e36.blk H26)
  have H39 := (e36.blk H27)
  refine ⟨.inr ⟨H38, H39⟩, ?_⟩
  have h40 := (h22.ext e36)
  refine aw_one 10 rfl (by kernel_rfl) .none (oe_callf (vs := [.agg #[.bool nr18, .slice A19 n20 c21], .agg #[.bool nr30, .slice A31 n32 c33]]) co64 (ar2 (T rfl rfl) (T rfl rfl)) (ncmp_ok h40 h34 (by first | decide | omega) (by first | decide | omega)) ?_)
  rintro _ w41 ⟨rfl, e42⟩
  have E43 := below_ext E37 E37.size e42
  have H44 := (e42.blk H38)
  have H45 := (e42.blk H39)
  refine ⟨.inr ⟨H44, H45⟩, ?_⟩
  refine aw_last 11 (.int .i64 (sgnI ((x * q) - (p * y)))) rfl (by kernel_rfl) .none (fun _ => dv_assign (T rfl rfl)) ?_
  refine aw_done (by kernel_rfl) ?_
  refine rk_ret Try.func81 (v := .int .i64 (sgnI ((x * q) - (p * y)))) (res1 Try.results81 (rv_tmp rfl rfl)) ⟨_, rfl, ?_⟩
  exact ⟨(vi (by rfl)), E43⟩

set_option maxHeartbeats 1000000 in
theorem iRatioOk_ok {w : World} {x y : Int} (fx_ : fits x) (fy_ : fits y)  : Ct Try.prog 44 [.agg #[.int .u64 (wv3 x), .int .u64 (wv2 x), .int .u64 (wv1 x), .int .u64 (wv0 x), .int .u64 (wv3 y), .int .u64 (wv2 y), .int .u64 (wv1 y), .int .u64 (wv0 y)]] w fun v w1 => v = .bool (decide (rOk x y)) ∧ Ext w w1 := by
  refine ct_run (n := 21) Try.func44 rfl Try.ntmps44 rfl ?_
  have E0 : Below w.heap.size w w := Below.refl _ _
  refine rk_seq ?_
  refine rk_reg ?_
  refine lw_e (oe_box (v := .agg #[.int .u64 (wv3 x), .int .u64 (wv2 x), .int .u64 (wv1 x), .int .u64 (wv0 x), .int .u64 (wv3 y), .int .u64 (wv2 y), .int .u64 (wv1 y), .int .u64 (wv0 y)]) (cs := #[.int .u64 (wv3 x), .int .u64 (wv2 x), .int .u64 (wv1 x), .int .u64 (wv0 x), .int .u64 (wv3 y), .int .u64 (wv2 y), .int .u64 (wv1 y), .int .u64 (wv0 y)]) (T rfl rfl) rfl ?_)
  intro b1 w2 n3
  have N4 : w.heap.size ≤ b1 := n3.eq ▸ E0.size
  have E5 := below_ext E0 E0.size n3.ext
  refine lw_v (.bool false) (dv_assign C) ?_
  refine lw_nil ?_
  refine rk_seq ?_
  refine rk_reg ?_
  refine lw_v (.agg #[.int .u64 (wv3 x), .int .u64 (wv2 x), .int .u64 (wv1 x), .int .u64 (wv0 x), .int .u64 (wv3 y), .int .u64 (wv2 y), .int .u64 (wv1 y), .int .u64 (wv0 y)]) (dv_loads (l := [.int .u64 (wv3 x), .int .u64 (wv2 x), .int .u64 (wv1 x), .int .u64 (wv0 x), .int .u64 (wv3 y), .int .u64 (wv2 y), .int .u64 (wv1 y), .int .u64 (wv0 y)]) agt51 sz51 (T rfl rfl) n3.blk rfl) ?_
  refine lw_e (oe_callf (vs := [.agg #[.int .u64 (wv3 x), .int .u64 (wv2 x), .int .u64 (wv1 x), .int .u64 (wv0 x), .int .u64 (wv3 y), .int .u64 (wv2 y), .int .u64 (wv1 y), .int .u64 (wv0 y)]]) co79 (ar1 (T rfl rfl)) (iratio_ok fx_ fy_  ) ?_)
  rintro _ w16 ⟨nr6, A7, n8, c9, nr10, A11, n12, c13, rfl, e17, h14, h15⟩
  have E18 := below_ext E5 E5.size e17
  have lh14 := Num.len (by decide) h14
  have lh15 := Num.len (by decide) h15
  refine lw_e (oe_alloc ze97 ?_)
  intro b19 w20 n21
  have N22 : w.heap.size ≤ b19 := n21.eq ▸ E18.size
  have H23 := (e17.blk n3.blk)
  have : b1 < b19 := n21.eq ▸ lt_of_blk H23
  have E24 := below_ext E18 E18.size n21.ext
  refine lw_e (oe_store (v := .agg #[.bool nr6, .slice A7 n8 c9, .bool nr10, .slice A11 n12 c13]) (vs := [.bool nr6, .slice A7 n8 c9, .bool nr10, .slice A11 n12 c13]) (l := [.bool nr6, .slice A7 n8 c9, .bool nr10, .slice A11 n12 c13]) (T rfl rfl) (T rfl rfl) sz97 rfl rfl rfl n21.blk rfl ?_)
  intro w25 s26 H27
  have E28 := below_st E24 N22 s26
  refine lw_nil ?_
  refine rk_seq ?_
  refine rk_reg ?_
  refine lw_v (.pointer (some ⟨b19, 2, none⟩)) (dv_fieldAddr (a := ⟨b19, 0, none⟩) (a' := ⟨b19, 2, none⟩) fo97_1 (T rfl rfl) rfl) ?_
  refine lw_v (.agg #[.bool nr10, .slice A11 n12 c13]) (dv_loads (l := [.bool nr10, .slice A11 n12 c13]) agt65 sz65 (T rfl rfl) H27 rfl) ?_
  have h29 := ((h15.ext n21.ext).st s26 n21.blk (by decide))
  refine lw_e (oe_callf (vs := [.agg #[.bool nr10, .slice A11 n12 c13]]) co67 (ar1 (T rfl rfl)) (nsign_ok h29 ) ?_)
  rintro _ w30 ⟨rfl, e31⟩
  have E32 := below_ext E28 E28.size e31
  refine lw_v (.bool (decide (0 < (sgnI y)))) (dv_gtr (a := sgnI y) (b := 0) (T rfl rfl) C) ?_
  refine lw_v (.bool (decide (0 < (sgnI y)))) (dv_move (T rfl rfl)) ?_
  by_cases hb33 : 0 < (sgnI y)
  · -- T
    refine lw_vy (.pointer (some ⟨b19, 0, none⟩)) (d := 10) rfl rfl (congrArg Value.bool (decide_eq_true hb33)) (dv_fieldAddr (a := ⟨b19, 0, none⟩) (a' := ⟨b19, 0, none⟩) fo97_0 (T rfl rfl) rfl) ?_
    have H34 := (e31.blk H27)
    refine lw_vy (.agg #[.bool nr6, .slice A7 n8 c9]) (d := 10) rfl rfl (congrArg Value.bool (decide_eq_true hb33)) (dv_loads (l := [.bool nr6, .slice A7 n8 c9]) agt65 sz65 (T rfl rfl) H34 rfl) ?_
    refine lw_vy (.pointer (some ⟨b19, 2, none⟩)) (d := 10) rfl rfl (congrArg Value.bool (decide_eq_true hb33)) (dv_fieldAddr (a := ⟨b19, 0, none⟩) (a' := ⟨b19, 2, none⟩) fo97_1 (T rfl rfl) rfl) ?_
    refine lw_vy (.agg #[.bool nr10, .slice A11 n12 c13]) (d := 10) rfl rfl (congrArg Value.bool (decide_eq_true hb33)) (dv_loads (l := [.bool nr10, .slice A11 n12 c13]) agt65 sz65 (T rfl rfl) H34 rfl) ?_
    refine lw_ey (d := 10) rfl rfl (congrArg Value.bool (decide_eq_true hb33)) (oe_buildSlice (pv := [(0, .agg #[.bool nr6, .slice A7 n8 c9]), (1, .agg #[.bool nr10, .slice A11 n12 c13])]) (init := [.bool false, .slice none 0 0, .bool false, .slice none 0 0]) (l := [.bool nr6, .slice A7 n8 c9, .bool nr10, .slice A11 n12 c13]) us116 sz65 rfl rfl zc65 (by kernel_rfl) ⟨rfl, (T rfl rfl), ⟨rfl, (T rfl rfl), trivial⟩⟩ rfl ?_)
    intro b35 w36 n37
    have N38 : w.heap.size ≤ b35 := n37.eq ▸ E32.size
    have : b19 < b35 := n37.eq ▸ lt_of_blk H34
    have E39 := below_ext E32 E32.size n37.ext
    have h40 := ((((h14.ext n21.ext).st s26 n21.blk (by decide)).ext e31).ext n37.ext)
    have h41 := ((h29.ext e31).ext n37.ext)
    refine lw_ey (d := 10) rfl rfl (congrArg Value.bool (decide_eq_true hb33)) (oe_callf (vs := [.slice (some ⟨b35, 0, none⟩) 2 2]) co58 (ar1 (T rfl rfl)) (gcd2_ok h40 h41 (by first | decide | omega) (by first | decide | omega) n37.blk) ?_)
    rintro _ w47 ⟨nr42, A43, n44, c45, rfl, e48, h46⟩
    have E49 := below_ext E39 E39.size e48
    have lh46 := Num.len (by decide) h46
    refine lw_ey (d := 10) rfl rfl (congrArg Value.bool (decide_eq_true hb33)) (oe_callf (vs := [.int .i64 1]) co71 (ar1 C) (whole_ok  (by omega)) ?_)
    rintro _ w55 ⟨nr50, A51, n52, c53, rfl, e56, h54⟩
    have E57 := below_ext E49 E49.size e56
    have lh54 := Num.len (by decide) h54
    have h58 := (h46.ext e56)
    refine lw_ey (d := 10) rfl rfl (congrArg Value.bool (decide_eq_true hb33)) (oe_callf (vs := [.agg #[.bool nr42, .slice A43 n44 c45], .agg #[.bool nr50, .slice A51 n52 c53]]) co64 (ar2 (T rfl rfl) (T rfl rfl)) (ncmp_ok h58 h54 (by first | decide | omega) (by first | decide | omega)) ?_)
    rintro _ w59 ⟨rfl, e60⟩
    have E61 := below_ext E57 E57.size e60
    refine lw_vy (.bool (decide ((sgnI ((gI x y) - 1)) = 0))) (d := 10) rfl rfl (congrArg Value.bool (decide_eq_true hb33)) (dv_eql (a := sgnI ((gI x y) - 1)) (b := 0) (T rfl rfl) C) ?_
    refine lw_v (.bool (decide ((sgnI ((gI x y) - 1)) = 0))) (dv_pick_t (T rfl (congrArg Value.bool (decide_eq_true hb33))) (T rfl rfl)) ?_
    refine lw_v (.bool (decide ((sgnI ((gI x y) - 1)) = 0))) (dv_assign (T rfl rfl)) ?_
    refine lw_nil ?_
    refine rk_ret Try.func44 (v := .bool (decide ((sgnI ((gI x y) - 1)) = 0))) (res1 Try.results44 (rv_tmp rfl rfl)) ⟨_, rfl, ?_⟩
    exact ⟨(vb (by unfold rOk; have h1 := @sgnI_gt y; have h2 := @sgnI_zero (gI x y - 1); omega)), E61⟩
  · -- F
    refine lw_no (d := 10) rfl rfl (congrArg Value.bool (decide_eq_false hb33)) ?_
    refine lw_no (d := 10) rfl rfl (congrArg Value.bool (decide_eq_false hb33)) ?_
    refine lw_no (d := 10) rfl rfl (congrArg Value.bool (decide_eq_false hb33)) ?_
    refine lw_no (d := 10) rfl rfl (congrArg Value.bool (decide_eq_false hb33)) ?_
    refine lw_no (d := 10) rfl rfl (congrArg Value.bool (decide_eq_false hb33)) ?_
    refine lw_no (d := 10) rfl rfl (congrArg Value.bool (decide_eq_false hb33)) ?_
    refine lw_no (d := 10) rfl rfl (congrArg Value.bool (decide_eq_false hb33)) ?_
    refine lw_no (d := 10) rfl rfl (congrArg Value.bool (decide_eq_false hb33)) ?_
    refine lw_no (d := 10) rfl rfl (congrArg Value.bool (decide_eq_false hb33)) ?_
    refine lw_v (.bool false) (dv_pick_f (T rfl (congrArg Value.bool (decide_eq_false hb33))) C) ?_
    refine lw_v (.bool false) (dv_assign (T rfl rfl)) ?_
    refine lw_nil ?_
    refine rk_ret Try.func44 (v := .bool false) (res1 Try.results44 (rv_tmp rfl rfl)) ⟨_, rfl, ?_⟩
    exact ⟨(vf (by unfold rOk; have h1 := @sgnI_gt y; omega)), E32⟩

set_option maxHeartbeats 1000000 in
theorem iRatioCmp_ok {w : World} {x y p q : Int} (fx_ : fits x) (fy_ : fits y) (fp_ : fits p) (fq_ : fits q)  : Ct Try.prog 46 [.agg #[.int .u64 (wv3 x), .int .u64 (wv2 x), .int .u64 (wv1 x), .int .u64 (wv0 x), .int .u64 (wv3 y), .int .u64 (wv2 y), .int .u64 (wv1 y), .int .u64 (wv0 y)], .agg #[.int .u64 (wv3 p), .int .u64 (wv2 p), .int .u64 (wv1 p), .int .u64 (wv0 p), .int .u64 (wv3 q), .int .u64 (wv2 q), .int .u64 (wv1 q), .int .u64 (wv0 q)]] w fun v w1 => v = .tuple #[.int .i64 (rCmp x y p q), .bool (decide (rOk x y ∧ rOk p q))] ∧ Ext w w1 := by
  refine ct_run (n := 19) Try.func46 rfl Try.ntmps46 rfl ?_
  have E0 : Below w.heap.size w w := Below.refl _ _
  refine rk_seq ?_
  refine rk_reg ?_
  refine lw_e (oe_box (v := .agg #[.int .u64 (wv3 x), .int .u64 (wv2 x), .int .u64 (wv1 x), .int .u64 (wv0 x), .int .u64 (wv3 y), .int .u64 (wv2 y), .int .u64 (wv1 y), .int .u64 (wv0 y)]) (cs := #[.int .u64 (wv3 x), .int .u64 (wv2 x), .int .u64 (wv1 x), .int .u64 (wv0 x), .int .u64 (wv3 y), .int .u64 (wv2 y), .int .u64 (wv1 y), .int .u64 (wv0 y)]) (T rfl rfl) rfl ?_)
  intro b1 w2 n3
  have N4 : w.heap.size ≤ b1 := n3.eq ▸ E0.size
  have E5 := below_ext E0 E0.size n3.ext
  refine lw_e (oe_box (v := .agg #[.int .u64 (wv3 p), .int .u64 (wv2 p), .int .u64 (wv1 p), .int .u64 (wv0 p), .int .u64 (wv3 q), .int .u64 (wv2 q), .int .u64 (wv1 q), .int .u64 (wv0 q)]) (cs := #[.int .u64 (wv3 p), .int .u64 (wv2 p), .int .u64 (wv1 p), .int .u64 (wv0 p), .int .u64 (wv3 q), .int .u64 (wv2 q), .int .u64 (wv1 q), .int .u64 (wv0 q)]) (T rfl rfl) rfl ?_)
  intro b6 w7 n8
  have N9 : w.heap.size ≤ b6 := n8.eq ▸ E5.size
  have : b1 < b6 := n8.eq ▸ lt_of_blk n3.blk
  have E10 := below_ext E5 E5.size n8.ext
  refine lw_v (.int .i64 0) (dv_assign C) ?_
  refine lw_v (.bool false) (dv_assign C) ?_
  refine lw_nil ?_
  refine rk_seq ?_
  refine rk_seq ?_
  refine rk_reg ?_
  have H11 := (n8.ext.blk n3.blk)
  refine lw_v (.agg #[.int .u64 (wv3 x), .int .u64 (wv2 x), .int .u64 (wv1 x), .int .u64 (wv0 x), .int .u64 (wv3 y), .int .u64 (wv2 y), .int .u64 (wv1 y), .int .u64 (wv0 y)]) (dv_loads (l := [.int .u64 (wv3 x), .int .u64 (wv2 x), .int .u64 (wv1 x), .int .u64 (wv0 x), .int .u64 (wv3 y), .int .u64 (wv2 y), .int .u64 (wv1 y), .int .u64 (wv0 y)]) agt51 sz51 (T rfl rfl) H11 rfl) ?_
  refine lw_e (oe_callf (vs := [.agg #[.int .u64 (wv3 x), .int .u64 (wv2 x), .int .u64 (wv1 x), .int .u64 (wv0 x), .int .u64 (wv3 y), .int .u64 (wv2 y), .int .u64 (wv1 y), .int .u64 (wv0 y)]]) co44 (ar1 (T rfl rfl)) (iRatioOk_ok (x := x) (y := y) fx_ fy_ ) ?_)
  rintro _ w12 ⟨rfl, e13⟩
  have E14 := below_ext E10 E10.size e13
  refine lw_v (.bool (decide (¬ (rOk x y)))) (dv_notd (p := rOk x y) (T rfl rfl)) ?_
  refine lw_v (.bool (decide (¬ (rOk x y)))) (dv_move (T rfl rfl)) ?_
  by_cases hb15 : rOk x y
  · -- T
    have H16 := (e13.blk n8.blk)
    refine lw_vy (.agg #[.int .u64 (wv3 p), .int .u64 (wv2 p), .int .u64 (wv1 p), .int .u64 (wv0 p), .int .u64 (wv3 q), .int .u64 (wv2 q), .int .u64 (wv1 q), .int .u64 (wv0 q)]) (d := 9) rfl rfl (congrArg Value.bool (decide_eq_false (not_not_intro hb15))) (dv_loads (l := [.int .u64 (wv3 p), .int .u64 (wv2 p), .int .u64 (wv1 p), .int .u64 (wv0 p), .int .u64 (wv3 q), .int .u64 (wv2 q), .int .u64 (wv1 q), .int .u64 (wv0 q)]) agt51 sz51 (T rfl rfl) H16 rfl) ?_
    refine lw_ey (d := 9) rfl rfl (congrArg Value.bool (decide_eq_false (not_not_intro hb15))) (oe_callf (vs := [.agg #[.int .u64 (wv3 p), .int .u64 (wv2 p), .int .u64 (wv1 p), .int .u64 (wv0 p), .int .u64 (wv3 q), .int .u64 (wv2 q), .int .u64 (wv1 q), .int .u64 (wv0 q)]]) co44 (ar1 (T rfl rfl)) (iRatioOk_ok (x := p) (y := q) fp_ fq_ ) ?_)
    rintro _ w17 ⟨rfl, e18⟩
    have E19 := below_ext E14 E14.size e18
    refine lw_vy (.bool (decide (¬ (rOk p q)))) (d := 9) rfl rfl (congrArg Value.bool (decide_eq_false (not_not_intro hb15))) (dv_notd (p := rOk p q) (T rfl rfl)) ?_
    refine lw_v (.bool (decide (¬ (rOk p q)))) (dv_pick_f (T rfl (congrArg Value.bool (decide_eq_false (not_not_intro hb15)))) (T rfl rfl)) ?_
    refine lw_nil ?_
    by_cases hb20 : rOk p q
    · -- TT
      refine rk_cf (T rfl (congrArg Value.bool (decide_eq_false (not_not_intro hb20)))) ?_
      refine rk_skip ?_
      refine rk_seq ?_
      refine rk_any (fun w => w.heap[b1]? = some (.cells #[.int .u64 (wv3 x), .int .u64 (wv2 x), .int .u64 (wv1 x), .int .u64 (wv0 x), .int .u64 (wv3 y), .int .u64 (wv2 y), .int .u64 (wv1 y), .int .u64 (wv0 y)] 51) ∧ w.heap[b6]? = some (.cells #[.int .u64 (wv3 p), .int .u64 (wv2 p), .int .u64 (wv1 p), .int .u64 (wv0 p), .int .u64 (wv3 q), .int .u64 (wv2 q), .int .u64 (wv1 q), .int .u64 (wv0 q)] 51)) [6] mo ?_
      intro w21 d22
      have E23 := below_ext E19 E19.size d22.ext
      have H24 := (d22.ext.blk (e18.blk (e13.blk H11)))
      have H25 := (d22.ext.blk (e18.blk H16))
      refine aw_load 0 (.agg #[.int .u64 (wv3 x), .int .u64 (wv2 x), .int .u64 (wv1 x), .int .u64 (wv0 x), .int .u64 (wv3 y), .int .u64 (wv2 y), .int .u64 (wv1 y), .int .u64 (wv0 y)]) rfl (by kernel_rfl) .none ⟨H24, H25⟩ (fun _ s => dv_loads (l := [.int .u64 (wv3 x), .int .u64 (wv2 x), .int .u64 (wv1 x), .int .u64 (wv0 x), .int .u64 (wv3 y), .int .u64 (wv2 y), .int .u64 (wv1 y), .int .u64 (wv0 y)]) agt51 sz51 (T rfl rfl) s.1 rfl) ?_
      refine aw_load 2 (.agg #[.int .u64 (wv3 p), .int .u64 (wv2 p), .int .u64 (wv1 p), .int .u64 (wv0 p), .int .u64 (wv3 q), .int .u64 (wv2 q), .int .u64 (wv1 q), .int .u64 (wv0 q)]) rfl (by kernel_rfl) .none ⟨H24, H25⟩ (fun _ s => dv_loads (l := [.int .u64 (wv3 p), .int .u64 (wv2 p), .int .u64 (wv1 p), .int .u64 (wv0 p), .int .u64 (wv3 q), .int .u64 (wv2 q), .int .u64 (wv1 q), .int .u64 (wv0 q)]) agt51 sz51 (T rfl rfl) s.2 rfl) ?_
      refine aw_one 1 rfl (by kernel_rfl) .none (oe_callf (vs := [.agg #[.int .u64 (wv3 x), .int .u64 (wv2 x), .int .u64 (wv1 x), .int .u64 (wv0 x), .int .u64 (wv3 y), .int .u64 (wv2 y), .int .u64 (wv1 y), .int .u64 (wv0 y)]]) co79 (ar1 (T rfl rfl)) (iratio_ok fx_ fy_  ) ?_)
      rintro _ w36 ⟨nr26, A27, n28, c29, nr30, A31, n32, c33, rfl, e37, h34, h35⟩
      have E38 := below_ext E23 E23.size e37
      have lh34 := Num.len (by decide) h34
      have lh35 := Num.len (by decide) h35
      have H39 := (e37.blk H24)
      have H40 := (e37.blk H25)
      refine ⟨.inr ⟨H39, H40⟩, ?_⟩
      refine aw_one 3 rfl (by kernel_rfl) .none (oe_callf (vs := [.agg #[.int .u64 (wv3 p), .int .u64 (wv2 p), .int .u64 (wv1 p), .int .u64 (wv0 p), .int .u64 (wv3 q), .int .u64 (wv2 q), .int .u64 (wv1 q), .int .u64 (wv0 q)]]) co79 (ar1 (T rfl rfl)) (iratio_ok fp_ fq_  ) ?_)
      rintro _ w51 ⟨nr41, A42, n43, c44, nr45, A46, n47, c48, rfl, e52, h49, h50⟩
      have E53 := below_ext E38 E38.size e52
      have lh49 := Num.len (by decide) h49
      have lh50 := Num.len (by decide) h50
      have H54 := (e52.blk H39)
      have H55 := (e52.blk H40)
      refine ⟨.inr ⟨H54, H55⟩, ?_⟩
      have h56 := (h34.ext e52)
      have h57 := (h35.ext e52)
      refine aw_one 4 rfl (by kernel_rfl) .none (oe_callf (vs := [.agg #[.bool nr26, .slice A27 n28 c29, .bool nr30, .slice A31 n32 c33], .agg #[.bool nr41, .slice A42 n43 c44, .bool nr45, .slice A46 n47 c48]]) co81 (ar2 (T rfl rfl) (T rfl rfl)) (ircmp_ok h56 h57 h49 h50 (by first | decide | omega) (by first | decide | omega) (by first | decide | omega) (by first | decide | omega) ) ?_)
      rintro _ w58 ⟨rfl, e59⟩
      have E60 := below_ext E53 E53.size e59
      have H61 := (e59.blk H54)
      have H62 := (e59.blk H55)
      refine ⟨.inr ⟨H61, H62⟩, ?_⟩
      refine aw_pure 5 (.int .i64 (sgnI (x * q - p * y))) rfl (by kernel_rfl) .none ⟨H61, H62⟩ (fun _ => dv_assign (T rfl rfl)) ?_
      refine aw_last 6 (.bool true) rfl (by kernel_rfl) .none (fun _ => dv_assign C) ?_
      refine aw_done (by kernel_rfl) ?_
      refine rk_ret Try.func46 (v := .tuple #[.int .i64 (sgnI (x * q - p * y)), .bool true]) (res2 Try.results46 (rv_tmp rfl rfl) (rv_tmp rfl rfl)) ⟨_, rfl, ?_⟩
      exact ⟨(tu2 (vi (by unfold rCmp; rw [if_pos ⟨(by first | assumption | simpa using ‹_›), (by first | assumption | simpa using ‹_›)⟩])) (vt ⟨(by first | assumption | simpa using ‹_›), (by first | assumption | simpa using ‹_›)⟩)), E60⟩
    · -- TF
      refine rk_ct (T rfl (congrArg Value.bool (decide_eq_true hb20))) ?_
      refine rk_seq ?_
      refine rk_reg ?_
      refine lw_v (.int .i64 0) (dv_assign C) ?_
      refine lw_v (.bool false) (dv_assign C) ?_
      refine lw_nil ?_
      refine rk_ret Try.func46 (v := .tuple #[.int .i64 0, .bool false]) (res2 Try.results46 (rv_tmp rfl rfl) (rv_tmp rfl rfl)) ⟨_, rfl, ?_⟩
      exact ⟨(tu2 (vi (by unfold rCmp; rw [if_neg (by first | (intro h; exact absurd h.1 (by assumption)) | (intro h; exact absurd h.2 (by assumption)))])) (vf (by first | (intro h; exact absurd h.1 (by assumption)) | (intro h; exact absurd h.2 (by assumption))))), E19⟩
  · -- F
    refine lw_no (d := 9) rfl rfl (congrArg Value.bool (decide_eq_true hb15)) ?_
    refine lw_no (d := 9) rfl rfl (congrArg Value.bool (decide_eq_true hb15)) ?_
    refine lw_no (d := 9) rfl rfl (congrArg Value.bool (decide_eq_true hb15)) ?_
    refine lw_v (.bool true) (dv_pick_t (T rfl (congrArg Value.bool (decide_eq_true hb15))) C) ?_
    refine lw_nil ?_
    refine rk_ct (T rfl rfl) ?_
    refine rk_seq ?_
    refine rk_reg ?_
    refine lw_v (.int .i64 0) (dv_assign C) ?_
    refine lw_v (.bool false) (dv_assign C) ?_
    refine lw_nil ?_
    refine rk_ret Try.func46 (v := .tuple #[.int .i64 0, .bool false]) (res2 Try.results46 (rv_tmp rfl rfl) (rv_tmp rfl rfl)) ⟨_, rfl, ?_⟩
    exact ⟨(tu2 (vi (by unfold rCmp; rw [if_neg (by first | (intro h; exact absurd h.1 (by assumption)) | (intro h; exact absurd h.2 (by assumption)))])) (vf (by first | (intro h; exact absurd h.1 (by assumption)) | (intro h; exact absurd h.2 (by assumption))))), E14⟩

set_option maxHeartbeats 1000000 in
theorem iRatioFloor_ok {w : World} {x y : Int} (fx_ : fits x) (fy_ : fits y)  : Ct Try.prog 48 [.agg #[.int .u64 (wv3 x), .int .u64 (wv2 x), .int .u64 (wv1 x), .int .u64 (wv0 x), .int .u64 (wv3 y), .int .u64 (wv2 y), .int .u64 (wv1 y), .int .u64 (wv0 y)]] w fun v w1 => v = .tuple #[.agg #[.int .u64 (wv3 (pkz (rOk x y ∧ fits (x / y)) (x / y))), .int .u64 (wv2 (pkz (rOk x y ∧ fits (x / y)) (x / y))), .int .u64 (wv1 (pkz (rOk x y ∧ fits (x / y)) (x / y))), .int .u64 (wv0 (pkz (rOk x y ∧ fits (x / y)) (x / y)))], .bool (decide (rOk x y ∧ fits (x / y)))] ∧ Ext w w1 := by
  refine ct_run (n := 24) Try.func48 rfl Try.ntmps48 rfl ?_
  have E0 : Below w.heap.size w w := Below.refl _ _
  refine rk_seq ?_
  refine rk_reg ?_
  refine lw_e (oe_box (v := .agg #[.int .u64 (wv3 x), .int .u64 (wv2 x), .int .u64 (wv1 x), .int .u64 (wv0 x), .int .u64 (wv3 y), .int .u64 (wv2 y), .int .u64 (wv1 y), .int .u64 (wv0 y)]) (cs := #[.int .u64 (wv3 x), .int .u64 (wv2 x), .int .u64 (wv1 x), .int .u64 (wv0 x), .int .u64 (wv3 y), .int .u64 (wv2 y), .int .u64 (wv1 y), .int .u64 (wv0 y)]) (T rfl rfl) rfl ?_)
  intro b1 w2 n3
  have N4 : w.heap.size ≤ b1 := n3.eq ▸ E0.size
  have E5 := below_ext E0 E0.size n3.ext
  refine lw_e (oe_alloc ze26 ?_)
  intro b6 w7 n8
  have N9 : w.heap.size ≤ b6 := n8.eq ▸ E5.size
  have : b1 < b6 := n8.eq ▸ lt_of_blk n3.blk
  have E10 := below_ext E5 E5.size n8.ext
  refine lw_v (.bool false) (dv_assign C) ?_
  refine lw_nil ?_
  refine rk_seq ?_
  refine rk_seq ?_
  refine rk_reg ?_
  have H11 := (n8.ext.blk n3.blk)
  refine lw_v (.agg #[.int .u64 (wv3 x), .int .u64 (wv2 x), .int .u64 (wv1 x), .int .u64 (wv0 x), .int .u64 (wv3 y), .int .u64 (wv2 y), .int .u64 (wv1 y), .int .u64 (wv0 y)]) (dv_loads (l := [.int .u64 (wv3 x), .int .u64 (wv2 x), .int .u64 (wv1 x), .int .u64 (wv0 x), .int .u64 (wv3 y), .int .u64 (wv2 y), .int .u64 (wv1 y), .int .u64 (wv0 y)]) agt51 sz51 (T rfl rfl) H11 rfl) ?_
  refine lw_e (oe_callf (vs := [.agg #[.int .u64 (wv3 x), .int .u64 (wv2 x), .int .u64 (wv1 x), .int .u64 (wv0 x), .int .u64 (wv3 y), .int .u64 (wv2 y), .int .u64 (wv1 y), .int .u64 (wv0 y)]]) co44 (ar1 (T rfl rfl)) (iRatioOk_ok (x := x) (y := y) fx_ fy_ ) ?_)
  rintro _ w12 ⟨rfl, e13⟩
  have E14 := below_ext E10 E10.size e13
  refine lw_v (.bool (decide (¬ (rOk x y)))) (dv_notd (p := rOk x y) (T rfl rfl)) ?_
  refine lw_nil ?_
  by_cases hb15 : rOk x y
  · -- T
    refine rk_cf (T rfl (congrArg Value.bool (decide_eq_false (not_not_intro hb15)))) ?_
    refine rk_skip ?_
    refine rk_seq ?_
    have H16 := (e13.blk H11)
    have : b1 < w12.heap.size := lt_of_blk H16
    have H17 := (e13.blk n8.blk)
    have : b6 < w12.heap.size := lt_of_blk H17
    have : w.heap.size ≤ w12.heap.size := E14.size
    refine rk_par2 [fun vq wq_ => vq = .pointer (some ⟨b1, 0, none⟩), fun vq wq_ => vq = .agg #[.int .u64 (wv3 x), .int .u64 (wv2 x), .int .u64 (wv1 x), .int .u64 (wv0 x)], fun vq wq_ => ∃ (nr39 : Bool) (A40 : Option Addr) (n41 : Nat) (c42 : Nat), vq = .agg #[.bool nr39, .slice A40 n41 c42] ∧ Num 64 22 .u64 wq_ nr39 A40 n41 c42 x 256, fun vq wq_ => vq = .pointer (some ⟨b1, 4, none⟩), fun vq wq_ => vq = .agg #[.int .u64 (wv3 y), .int .u64 (wv2 y), .int .u64 (wv1 y), .int .u64 (wv0 y)], fun vq wq_ => ∃ (nr68 : Bool) (A69 : Option Addr) (n70 : Nat) (c71 : Nat), vq = .agg #[.bool nr68, .slice A69 n70 c71] ∧ Num 64 22 .u64 wq_ nr68 A69 n70 c71 y 256, fun vq wq_ => ∃ (nr94 : Bool) (A95 : Option Addr) (n96 : Nat) (c97 : Nat) (nr98 : Bool) (A99 : Option Addr) (n100 : Nat) (c101 : Nat), vq = .tuple #[.agg #[.bool nr94, .slice A95 n96 c97], .agg #[.bool nr98, .slice A99 n100 c101]] ∧ Num 64 22 .u64 wq_ nr94 A95 n96 c97 (x / y) 256 ∧ Num 64 22 .u64 wq_ nr98 A99 n100 c101 (x % y) 256, fun vq wq_ => ∃ (nr113 : Bool) (A114 : Option Addr) (n115 : Nat) (c116 : Nat) (nr117 : Bool) (A118 : Option Addr) (n119 : Nat) (c120 : Nat), vq = .tuple #[.agg #[.bool nr113, .slice A114 n115 c116], .agg #[.bool nr117, .slice A118 n119 c120]] ∧ Num 64 22 .u64 wq_ nr113 A114 n115 c116 (x / y) 256 ∧ Num 64 22 .u64 wq_ nr117 A118 n119 c120 (x % y) 256, fun vq wq_ => ∃ (nr130 : Bool) (A131 : Option Addr) (n132 : Nat) (c133 : Nat), vq = .agg #[.bool nr130, .slice A131 n132 c133] ∧ Num 64 22 .u64 wq_ nr130 A131 n132 c133 (x / y) 256, fun vq wq_ => ∃ (nr151 : Bool) (A152 : Option Addr) (n153 : Nat) (c154 : Nat), vq = .agg #[.bool nr151, .slice A152 n153 c154] ∧ Num 64 22 .u64 wq_ nr151 A152 n153 c154 (x % y) 256, fun _ _ => True, fun _ _ => True, fun _ _ => True, fun _ _ => True] [⟨10, 12, 8, 65, #[.bool false, .slice none 0 0]⟩, ⟨11, 13, 9, 65, #[.bool false, .slice none 0 0]⟩] [65] mo (by kernel_rfl) (by kernel_rfl) ?_ ?_ ?_ ?_ ?_
    · intro e he e2 he2 h; simp only [List.mem_cons, List.not_mem_nil, or_false] at he he2; rcases he with rfl | rfl <;> rcases he2 with rfl | rfl <;> first | rfl | exact absurd h (by decide)
    · exact ⟨⟨fun v w w2 e h => h, fun v w w2 b cs T fz s hb hT h => h⟩, ⟨fun v w w2 e h => h, fun v w w2 b cs T fz s hb hT h => h⟩, ⟨fun v w w2 e ⟨nr39, A40, n41, c42, hv, h0_⟩ => ⟨nr39, A40, n41, c42, hv, h0_.ext e⟩, fun v w w2 b cs T fz s hb hT ⟨nr39, A40, n41, c42, hv, h0_⟩ => ⟨nr39, A40, n41, c42, hv, h0_.st s hb (ts_ne hT (by decide))⟩⟩, ⟨fun v w w2 e h => h, fun v w w2 b cs T fz s hb hT h => h⟩, ⟨fun v w w2 e h => h, fun v w w2 b cs T fz s hb hT h => h⟩, ⟨fun v w w2 e ⟨nr68, A69, n70, c71, hv, h0_⟩ => ⟨nr68, A69, n70, c71, hv, h0_.ext e⟩, fun v w w2 b cs T fz s hb hT ⟨nr68, A69, n70, c71, hv, h0_⟩ => ⟨nr68, A69, n70, c71, hv, h0_.st s hb (ts_ne hT (by decide))⟩⟩, ⟨fun v w w2 e ⟨nr94, A95, n96, c97, nr98, A99, n100, c101, hv, h0_, h1_⟩ => ⟨nr94, A95, n96, c97, nr98, A99, n100, c101, hv, h0_.ext e, h1_.ext e⟩, fun v w w2 b cs T fz s hb hT ⟨nr94, A95, n96, c97, nr98, A99, n100, c101, hv, h0_, h1_⟩ => ⟨nr94, A95, n96, c97, nr98, A99, n100, c101, hv, h0_.st s hb (ts_ne hT (by decide)), h1_.st s hb (ts_ne hT (by decide))⟩⟩, ⟨fun v w w2 e ⟨nr113, A114, n115, c116, nr117, A118, n119, c120, hv, h0_, h1_⟩ => ⟨nr113, A114, n115, c116, nr117, A118, n119, c120, hv, h0_.ext e, h1_.ext e⟩, fun v w w2 b cs T fz s hb hT ⟨nr113, A114, n115, c116, nr117, A118, n119, c120, hv, h0_, h1_⟩ => ⟨nr113, A114, n115, c116, nr117, A118, n119, c120, hv, h0_.st s hb (ts_ne hT (by decide)), h1_.st s hb (ts_ne hT (by decide))⟩⟩, ⟨fun v w w2 e ⟨nr130, A131, n132, c133, hv, h0_⟩ => ⟨nr130, A131, n132, c133, hv, h0_.ext e⟩, fun v w w2 b cs T fz s hb hT ⟨nr130, A131, n132, c133, hv, h0_⟩ => ⟨nr130, A131, n132, c133, hv, h0_.st s hb (ts_ne hT (by decide))⟩⟩, ⟨fun v w w2 e ⟨nr151, A152, n153, c154, hv, h0_⟩ => ⟨nr151, A152, n153, c154, hv, h0_.ext e⟩, fun v w w2 b cs T fz s hb hT ⟨nr151, A152, n153, c154, hv, h0_⟩ => ⟨nr151, A152, n153, c154, hv, h0_.st s hb (ts_ne hT (by decide))⟩⟩, ⟨fun v w w2 e h => h, fun v w w2 b cs T fz s hb hT h => h⟩, ⟨fun v w w2 e h => h, fun v w w2 b cs T fz s hb hT h => h⟩, ⟨fun v w w2 e h => h, fun v w w2 b cs T fz s hb hT h => h⟩, ⟨fun v w w2 e h => h, fun v w w2 b cs T fz s hb hT h => h⟩, trivial⟩
    · refine ⟨?_, ?_, ?_, ?_, ?_, ?_, ?_, ?_, ?_, ?_, ?_, ?_, ?_, ?_, trivial⟩
      · refine .inr ⟨by kernel_rfl, ?_⟩
        intro fr19 w18 e20 hF21 hD22
        have E23 := below_ext E14 E14.size e20
        exact DV.oe (dv_fieldAddr (a := ⟨b1, 0, none⟩) (a' := ⟨b1, 0, none⟩) fo51_0 (T rfl (hF21 1 (by kernel_rfl))) rfl) ⟨Below.refl _ _, rfl⟩
      · refine .inr ⟨by kernel_rfl, ?_⟩
        intro fr25 w24 e26 hF27 hD28
        have E29 := below_ext E14 E14.size e26
        have hv30 : fr25 11 = .pointer (some ⟨b1, 0, none⟩) := hD28 0 _ (by kernel_rfl) rfl (by kernel_rfl)
        have H31 := (e26.blk H16)
        exact DV.oe (dv_loads (l := [.int .u64 (wv3 x), .int .u64 (wv2 x), .int .u64 (wv1 x), .int .u64 (wv0 x)]) agt26 sz26 (T rfl hv30) H31 rfl) ⟨Below.refl _ _, rfl⟩
      · refine .inr ⟨by kernel_rfl, ?_⟩
        intro fr33 w32 e34 hF35 hD36
        have E37 := below_ext E14 E14.size e34
        have hv38 : fr33 12 = .agg #[.int .u64 (wv3 x), .int .u64 (wv2 x), .int .u64 (wv1 x), .int .u64 (wv0 x)] := hD36 1 _ (by kernel_rfl) rfl (by kernel_rfl)
        refine id (oe_callf (vs := [.agg #[.int .u64 (wv3 x), .int .u64 (wv2 x), .int .u64 (wv1 x), .int .u64 (wv0 x)]]) co51 (ar1 (T rfl hv38)) (wnumz_ok (z := x) fx_) ?_)
        rintro _ w44 ⟨nr39, A40, n41, c42, rfl, e45, h43⟩
        have E46 := below_ext E37 E37.size e45
        have lh43 := Num.len (by decide) h43
        exact ⟨e45, nr39, A40, n41, c42, rfl, h43⟩
      · refine .inr ⟨by kernel_rfl, ?_⟩
        intro fr48 w47 e49 hF50 hD51
        have E52 := below_ext E14 E14.size e49
        exact DV.oe (dv_fieldAddr (a := ⟨b1, 0, none⟩) (a' := ⟨b1, 4, none⟩) fo51_1 (T rfl (hF50 1 (by kernel_rfl))) rfl) ⟨Below.refl _ _, rfl⟩
      · refine .inr ⟨by kernel_rfl, ?_⟩
        intro fr54 w53 e55 hF56 hD57
        have E58 := below_ext E14 E14.size e55
        have hv59 : fr54 14 = .pointer (some ⟨b1, 4, none⟩) := hD57 3 _ (by kernel_rfl) rfl (by kernel_rfl)
        have H60 := (e55.blk H16)
        exact DV.oe (dv_loads (l := [.int .u64 (wv3 y), .int .u64 (wv2 y), .int .u64 (wv1 y), .int .u64 (wv0 y)]) agt26 sz26 (T rfl hv59) H60 rfl) ⟨Below.refl _ _, rfl⟩
      · refine .inr ⟨by kernel_rfl, ?_⟩
        intro fr62 w61 e63 hF64 hD65
        have E66 := below_ext E14 E14.size e63
        have hv67 : fr62 15 = .agg #[.int .u64 (wv3 y), .int .u64 (wv2 y), .int .u64 (wv1 y), .int .u64 (wv0 y)] := hD65 4 _ (by kernel_rfl) rfl (by kernel_rfl)
        refine id (oe_callf (vs := [.agg #[.int .u64 (wv3 y), .int .u64 (wv2 y), .int .u64 (wv1 y), .int .u64 (wv0 y)]]) co51 (ar1 (T rfl hv67)) (wnumz_ok (z := y) fy_) ?_)
        rintro _ w73 ⟨nr68, A69, n70, c71, rfl, e74, h72⟩
        have E75 := below_ext E66 E66.size e74
        have lh72 := Num.len (by decide) h72
        exact ⟨e74, nr68, A69, n70, c71, rfl, h72⟩
      · refine .inr ⟨by kernel_rfl, ?_⟩
        intro fr77 w76 e78 hF79 hD80
        have E81 := below_ext E14 E14.size e78
        obtain ⟨nr82, A83, n84, c85, hv86, hp87⟩ : ∃ (nr39 : Bool) (A40 : Option Addr) (n41 : Nat) (c42 : Nat), fr77 13 = .agg #[.bool nr39, .slice A40 n41 c42] ∧ Num 64 22 .u64 w76 nr39 A40 n41 c42 x 256 := hD80 2 _ (by kernel_rfl) rfl (by kernel_rfl)
        have lhp87 := Num.len (by decide) hp87
        obtain ⟨nr88, A89, n90, c91, hv92, hp93⟩ : ∃ (nr68 : Bool) (A69 : Option Addr) (n70 : Nat) (c71 : Nat), fr77 16 = .agg #[.bool nr68, .slice A69 n70 c71] ∧ Num 64 22 .u64 w76 nr68 A69 n70 c71 y 256 := hD80 5 _ (by kernel_rfl) rfl (by kernel_rfl)
        have lhp93 := Num.len (by decide) hp93
        refine id (oe_callf (vs := [.agg #[.bool nr82, .slice A83 n84 c85], .agg #[.bool nr88, .slice A89 n90 c91]]) co55 (ar2 (T rfl hv86) (T rfl hv92)) (over_ok hp87 hp93 (by have hR : rOk x y := (by first | assumption | simpa using ‹_›); exact Int.ne_of_gt hR.1) (by first | decide | omega) (by first | decide | omega)) ?_)
        rintro _ w104 ⟨nr94, A95, n96, c97, nr98, A99, n100, c101, rfl, e105, h102, h103⟩
        have E106 := below_ext E81 E81.size e105
        have lh102 := Num.len (by decide) h102
        have lh103 := Num.len (by decide) h103
        exact ⟨e105, nr94, A95, n96, c97, nr98, A99, n100, c101, rfl, h102, h103⟩
      · refine .inr ⟨by kernel_rfl, ?_⟩
        intro fr108 w107 e109 hF110 hD111
        have E112 := below_ext E14 E14.size e109
        obtain ⟨nr113, A114, n115, c116, nr117, A118, n119, c120, hv121, hp122, hp123⟩ : ∃ (nr94 : Bool) (A95 : Option Addr) (n96 : Nat) (c97 : Nat) (nr98 : Bool) (A99 : Option Addr) (n100 : Nat) (c101 : Nat), fr108 17 = .tuple #[.agg #[.bool nr94, .slice A95 n96 c97], .agg #[.bool nr98, .slice A99 n100 c101]] ∧ Num 64 22 .u64 w107 nr94 A95 n96 c97 (x / y) 256 ∧ Num 64 22 .u64 w107 nr98 A99 n100 c101 (x % y) 256 := hD111 6 _ (by kernel_rfl) rfl (by kernel_rfl)
        have lhp122 := Num.len (by decide) hp122
        have lhp123 := Num.len (by decide) hp123
        exact DV.oe (dv_move (T rfl hv121)) ⟨Below.refl _ _, nr113, A114, n115, c116, nr117, A118, n119, c120, rfl, hp122, hp123⟩
      · refine .inr ⟨by kernel_rfl, ?_⟩
        intro fr125 w124 e126 hF127 hD128
        have E129 := below_ext E14 E14.size e126
        obtain ⟨nr130, A131, n132, c133, nr134, A135, n136, c137, hv138, hp139, hp140⟩ : ∃ (nr113 : Bool) (A114 : Option Addr) (n115 : Nat) (c116 : Nat) (nr117 : Bool) (A118 : Option Addr) (n119 : Nat) (c120 : Nat), fr125 10 = .tuple #[.agg #[.bool nr113, .slice A114 n115 c116], .agg #[.bool nr117, .slice A118 n119 c120]] ∧ Num 64 22 .u64 w124 nr113 A114 n115 c116 (x / y) 256 ∧ Num 64 22 .u64 w124 nr117 A118 n119 c120 (x % y) 256 := hD128 7 _ (by kernel_rfl) rfl (by kernel_rfl)
        have lhp139 := Num.len (by decide) hp139
        have lhp140 := Num.len (by decide) hp140
        exact DV.oe (dv_extract (vs := #[.agg #[.bool nr130, .slice A131 n132 c133], .agg #[.bool nr134, .slice A135 n136 c137]]) (T rfl hv138) rfl) ⟨Below.refl _ _, nr130, A131, n132, c133, rfl, hp139⟩
      · refine .inr ⟨by kernel_rfl, ?_⟩
        intro fr142 w141 e143 hF144 hD145
        have E146 := below_ext E14 E14.size e143
        obtain ⟨nr147, A148, n149, c150, nr151, A152, n153, c154, hv155, hp156, hp157⟩ : ∃ (nr113 : Bool) (A114 : Option Addr) (n115 : Nat) (c116 : Nat) (nr117 : Bool) (A118 : Option Addr) (n119 : Nat) (c120 : Nat), fr142 10 = .tuple #[.agg #[.bool nr113, .slice A114 n115 c116], .agg #[.bool nr117, .slice A118 n119 c120]] ∧ Num 64 22 .u64 w141 nr113 A114 n115 c116 (x / y) 256 ∧ Num 64 22 .u64 w141 nr117 A118 n119 c120 (x % y) 256 := hD145 7 _ (by kernel_rfl) rfl (by kernel_rfl)
        have lhp156 := Num.len (by decide) hp156
        have lhp157 := Num.len (by decide) hp157
        exact DV.oe (dv_extract (vs := #[.agg #[.bool nr147, .slice A148 n149 c150], .agg #[.bool nr151, .slice A152 n153 c154]]) (T rfl hv155) rfl) ⟨Below.refl _ _, nr151, A152, n153, c154, rfl, hp157⟩
      · exact .inl (.inr ⟨by kernel_rfl, fun _ _ => trivial⟩)
      · exact .inl (.inr ⟨by kernel_rfl, fun _ _ => trivial⟩)
      · exact .inl (.inl (by kernel_rfl))
      · exact .inl (.inl (by kernel_rfl))
    · refine ⟨⟨⟨_, rfl, fun _ _ => oe_alloc ze65 fun b w hn => ⟨b, rfl, hn⟩⟩, ⟨_, rfl, ?_⟩⟩, ⟨⟨_, rfl, fun _ _ => oe_alloc ze65 fun b w hn => ⟨b, rfl, hn⟩⟩, ⟨_, rfl, ?_⟩⟩, trivial⟩
      · intro fr159 w158 b163 e160 hF161 hD162 hA164 hB165
        have E166 := below_ext E14 E14.size e160
        obtain ⟨nr167, A168, n169, c170, hv171, hp172⟩ : ∃ (nr130 : Bool) (A131 : Option Addr) (n132 : Nat) (c133 : Nat), fr159 18 = .agg #[.bool nr130, .slice A131 n132 c133] ∧ Num 64 22 .u64 w158 nr130 A131 n132 c133 (x / y) 256 := hD162 8 _ (by kernel_rfl) rfl (by kernel_rfl)
        have lhp172 := Num.len (by decide) hp172
        refine id (oe_store (v := .agg #[.bool nr167, .slice A168 n169 c170]) (vs := [.bool nr167, .slice A168 n169 c170]) (l := [.bool nr167, .slice A168 n169 c170]) (T rfl hA164) (T rfl hv171) sz65 rfl rfl rfl hB165 rfl ?_)
        intro w173 s174 H175
        exact ⟨s174, H175.trans (congrArg (fun v : Value => some (Obj.cells v.cells 65)) (show fr159 18 = _ from hv171).symm)⟩
      · intro fr178 w177 b182 e179 hF180 hD181 hA183 hB184
        have E185 := below_ext E14 E14.size e179
        obtain ⟨nr186, A187, n188, c189, hv190, hp191⟩ : ∃ (nr151 : Bool) (A152 : Option Addr) (n153 : Nat) (c154 : Nat), fr178 19 = .agg #[.bool nr151, .slice A152 n153 c154] ∧ Num 64 22 .u64 w177 nr151 A152 n153 c154 (x % y) 256 := hD181 9 _ (by kernel_rfl) rfl (by kernel_rfl)
        have lhp191 := Num.len (by decide) hp191
        refine id (oe_store (v := .agg #[.bool nr186, .slice A187 n188 c189]) (vs := [.bool nr186, .slice A187 n188 c189]) (l := [.bool nr186, .slice A187 n188 c189]) (T rfl hA183) (T rfl hv190) sz65 rfl rfl rfl hB184 rfl ?_)
        intro w192 s193 H194
        exact ⟨s193, H194.trans (congrArg (fun v : Value => some (Obj.cells v.cells 65)) (show fr178 19 = _ from hv190).symm)⟩
    intro fr197 w196 e198 hF199 hP200 hM201 hN202
    have E203 := below_ext E14 E14.size e198
    obtain ⟨_, _, _, _, _, _, _, _, p204, p205, _, _, _, _, _⟩ := hP200
    obtain ⟨nr206, A207, n208, c209, hv210, hp211⟩ : ∃ (nr130 : Bool) (A131 : Option Addr) (n132 : Nat) (c133 : Nat), fr197 18 = .agg #[.bool nr130, .slice A131 n132 c133] ∧ Num 64 22 .u64 w196 nr130 A131 n132 c133 (x / y) 256 := p204.resolve_left (nst (by kernel_rfl))
    have lhp211 := Num.len (by decide) hp211
    obtain ⟨nr212, A213, n214, c215, hv216, hp217⟩ : ∃ (nr151 : Bool) (A152 : Option Addr) (n153 : Nat) (c154 : Nat), fr197 19 = .agg #[.bool nr151, .slice A152 n153 c154] ∧ Num 64 22 .u64 w196 nr151 A152 n153 c154 (x % y) 256 := p205.resolve_left (nst (by kernel_rfl))
    have lhp217 := Num.len (by decide) hp217
    obtain ⟨⟨b218, hA219, hB220, hC221⟩, ⟨b222, hA223, hB224, hC225⟩, _⟩ := hM201
    have H226 : w196.heap[b218]? = some (.cells #[.bool nr206, .slice A207 n208 c209] 65) := hC221.trans (congrArg (fun v : Value => some (Obj.cells v.cells 65)) hv210)
    have N227 : w.heap.size ≤ b218 := by omega
    have H228 : w196.heap[b222]? = some (.cells #[.bool nr212, .slice A213 n214 c215] 65) := hC225.trans (congrArg (fun v : Value => some (Obj.cells v.cells 65)) hv216)
    have N229 : w.heap.size ≤ b222 := by omega
    have : b222 ≠ b218 := fun hh => hN202 _ (.tail _ (.head _)) _ (.head _) (by decide) (hA223.trans ((congrArg (fun q => Value.pointer (some ⟨q, 0, none⟩)) hh).trans hA219.symm))
    refine rk_seq ?_
    refine rk_reg ?_
    refine lw_v (.agg #[.bool nr206, .slice A207 n208 c209]) (dv_loads (l := [.bool nr206, .slice A207 n208 c209]) agt65 sz65 (T rfl hA219) H226 rfl) ?_
    refine lw_e (oe_callf (vs := [.agg #[.bool nr206, .slice A207 n208 c209]]) co56 (ar1 (T rfl rfl)) (nwide_ok hp211 (by first | decide | omega)) ?_)
    rintro _ w231 ⟨rfl, e232⟩
    have E233 := below_ext E203 E203.size e232
    have bw230 := w_rg (x / y)
    refine lw_v (.agg #[.int .u64 (wv3 (x / y)), .int .u64 (wv2 (x / y)), .int .u64 (wv1 (x / y)), .int .u64 (wv0 (x / y))]) (dv_extract (vs := #[.agg #[.int .u64 (wv3 (x / y)), .int .u64 (wv2 (x / y)), .int .u64 (wv1 (x / y)), .int .u64 (wv0 (x / y))], .bool (decide (fits (x / y)))]) (T rfl rfl) rfl) ?_
    refine lw_v (.bool (decide (fits (x / y)))) (dv_extract (vs := #[.agg #[.int .u64 (wv3 (x / y)), .int .u64 (wv2 (x / y)), .int .u64 (wv1 (x / y)), .int .u64 (wv0 (x / y))], .bool (decide (fits (x / y)))]) (T rfl rfl) rfl) ?_
    have H234 := (e232.blk (e198.blk H17))
    refine lw_e (oe_store (v := .agg #[.int .u64 (wv3 (x / y)), .int .u64 (wv2 (x / y)), .int .u64 (wv1 (x / y)), .int .u64 (wv0 (x / y))]) (vs := [.int .u64 (wv3 (x / y)), .int .u64 (wv2 (x / y)), .int .u64 (wv1 (x / y)), .int .u64 (wv0 (x / y))]) (l := [.int .u64 (wv3 (x / y)), .int .u64 (wv2 (x / y)), .int .u64 (wv1 (x / y)), .int .u64 (wv0 (x / y))]) (T rfl (hF199 2 rfl)) (T rfl rfl) sz26 rfl rfl rfl H234 rfl ?_)
    intro w235 s236 H237
    have E238 := below_st E233 N9 s236
    refine lw_v (.bool (decide (fits (x / y)))) (dv_assign (T rfl rfl)) ?_
    refine lw_nil ?_
    refine rk_ret Try.func48 (v := .tuple #[.agg #[.int .u64 (wv3 (x / y)), .int .u64 (wv2 (x / y)), .int .u64 (wv1 (x / y)), .int .u64 (wv0 (x / y))], .bool (decide (fits (x / y)))]) (res2 Try.results48 (rv_cells (l := [.int .u64 (wv3 (x / y)), .int .u64 (wv2 (x / y)), .int .u64 (wv1 (x / y)), .int .u64 (wv0 (x / y))]) agt26 sz26 rfl (hF199 2 rfl) H237 rfl) (rv_tmp rfl rfl)) ⟨_, rfl, ?_⟩
    have hR : rOk x y := by first | assumption | simpa using ‹_›
    exact ⟨(tu2 (ag4 (vi (wq3 hR)) (vi (wq2 hR)) (vi (wq1 hR)) (vi (wq0 hR))) (vb ⟨fun h => ⟨hR, h⟩, fun h => h.2⟩)), E238⟩
  · -- F
    refine rk_ct (T rfl (congrArg Value.bool (decide_eq_true hb15))) ?_
    refine rk_seq ?_
    refine rk_reg ?_
    refine lw_v (.agg #[.int .u64 0, .int .u64 0, .int .u64 0, .int .u64 0]) (dv_build (pv := []) (l := [.int .u64 0, .int .u64 0, .int .u64 0, .int .u64 0]) zc26 pl26 trivial rfl) ?_
    have H239 := (e13.blk n8.blk)
    refine lw_e (oe_store (v := .agg #[.int .u64 0, .int .u64 0, .int .u64 0, .int .u64 0]) (vs := [.int .u64 0, .int .u64 0, .int .u64 0, .int .u64 0]) (l := [.int .u64 0, .int .u64 0, .int .u64 0, .int .u64 0]) (T rfl rfl) (T rfl rfl) sz26 rfl rfl rfl H239 rfl ?_)
    intro w240 s241 H242
    have E243 := below_st E14 N9 s241
    refine lw_v (.bool false) (dv_assign C) ?_
    refine lw_nil ?_
    refine rk_ret Try.func48 (v := .tuple #[.agg #[.int .u64 0, .int .u64 0, .int .u64 0, .int .u64 0], .bool false]) (res2 Try.results48 (rv_cells (l := [.int .u64 0, .int .u64 0, .int .u64 0, .int .u64 0]) agt26 sz26 rfl rfl H242 rfl) (rv_tmp rfl rfl)) ⟨_, rfl, ?_⟩
    have hS : ¬ (rOk x y ∧ fits (x / y)) := fun h => absurd h.1 (by assumption)
    exact ⟨(tu2 (ag4 (vi (wf3 hS)) (vi (wf2 hS)) (vi (wf1 hS)) (vi (wf0 hS))) (vf hS)), E243⟩

set_option maxHeartbeats 1000000 in
theorem sratio_ok {w : World}  {x y : Int} (fx_ : fits x) (fy_ : fits y)   : Ct Try.prog 76 [.agg #[.int .u64 (wv3 x), .int .u64 (wv2 x), .int .u64 (wv1 x), .int .u64 (wv0 x), .int .u64 (wv3 y), .int .u64 (wv2 y), .int .u64 (wv1 y), .int .u64 (wv0 y)]] w fun v w1 => ∃ nr0_ A0_ l0_ c0_ nr1_ A1_ l1_ c1_, v = .agg #[.bool nr0_, .slice A0_ l0_ c0_, .bool nr1_, .slice A1_ l1_ c1_] ∧ Ext w w1 ∧ Num 32 102 .u32 w1 nr0_ A0_ l0_ c0_ (x) (256) ∧ Num 32 102 .u32 w1 nr1_ A1_ l1_ c1_ (y) (256) := by
  refine ct_run (n := 10) Try.func76 rfl Try.ntmps76 rfl ?_
  have E0 : Below w.heap.size w w := Below.refl _ _
  refine rk_seq ?_
  refine rk_reg ?_
  refine lw_e (oe_box (v := .agg #[.int .u64 (wv3 x), .int .u64 (wv2 x), .int .u64 (wv1 x), .int .u64 (wv0 x), .int .u64 (wv3 y), .int .u64 (wv2 y), .int .u64 (wv1 y), .int .u64 (wv0 y)]) (cs := #[.int .u64 (wv3 x), .int .u64 (wv2 x), .int .u64 (wv1 x), .int .u64 (wv0 x), .int .u64 (wv3 y), .int .u64 (wv2 y), .int .u64 (wv1 y), .int .u64 (wv0 y)]) (T rfl rfl) rfl ?_)
  intro b1 w2 n3
  have N4 : w.heap.size ≤ b1 := n3.eq ▸ E0.size
  have E5 := below_ext E0 E0.size n3.ext
  refine lw_e (oe_alloc ze92 ?_)
  intro b6 w7 n8
  have N9 : w.heap.size ≤ b6 := n8.eq ▸ E5.size
  have : b1 < b6 := n8.eq ▸ lt_of_blk n3.blk
  have E10 := below_ext E5 E5.size n8.ext
  refine lw_nil ?_
  refine rk_seq ?_
  refine rk_any (fun w => w.heap[b1]? = some (.cells #[.int .u64 (wv3 x), .int .u64 (wv2 x), .int .u64 (wv1 x), .int .u64 (wv0 x), .int .u64 (wv3 y), .int .u64 (wv2 y), .int .u64 (wv1 y), .int .u64 (wv0 y)] 51)) [7] mo ?_
  intro w11 d12
  have E13 := below_ext E10 E10.size d12.ext
  have H14 := (d12.ext.blk (n8.ext.blk n3.blk))
  refine aw_pure 0 (.pointer (some ⟨b1, 0, none⟩)) rfl (by kernel_rfl) .none H14 (fun _ => dv_fieldAddr (a := ⟨b1, 0, none⟩) (a' := ⟨b1, 0, none⟩) fo51_0 (T rfl rfl) rfl) ?_
  refine aw_load 1 (.agg #[.int .u64 (wv3 x), .int .u64 (wv2 x), .int .u64 (wv1 x), .int .u64 (wv0 x)]) rfl (by kernel_rfl) .none H14 (fun _ s => dv_loads (l := [.int .u64 (wv3 x), .int .u64 (wv2 x), .int .u64 (wv1 x), .int .u64 (wv0 x)]) agt26 sz26 (T rfl rfl) s rfl) ?_
  refine aw_pure 3 (.pointer (some ⟨b1, 4, none⟩)) rfl (by kernel_rfl) .none H14 (fun _ => dv_fieldAddr (a := ⟨b1, 0, none⟩) (a' := ⟨b1, 4, none⟩) fo51_1 (T rfl rfl) rfl) ?_
  refine aw_load 4 (.agg #[.int .u64 (wv3 y), .int .u64 (wv2 y), .int .u64 (wv1 y), .int .u64 (wv0 y)]) rfl (by kernel_rfl) .none H14 (fun _ s => dv_loads (l := [.int .u64 (wv3 y), .int .u64 (wv2 y), .int .u64 (wv1 y), .int .u64 (wv0 y)]) agt26 sz26 (T rfl rfl) s rfl) ?_
  refine aw_one 2 rfl (by kernel_rfl) .none (oe_callf (vs := [.agg #[.int .u64 (wv3 x), .int .u64 (wv2 x), .int .u64 (wv1 x), .int .u64 (wv0 x)]]) co50 (ar1 (T rfl rfl)) (l1Fromz_ok (z := x) fx_) ?_)
  rintro _ w20 ⟨nr15, A16, n17, c18, rfl, e21, h19⟩
  have E22 := below_ext E13 E13.size e21
  have lh19 := Num.len (by decide) h19
  have H23 := (e21.blk H14)
  refine ⟨.inr H23, ?_⟩
  refine aw_one 5 rfl (by kernel_rfl) .none (oe_callf (vs := [.agg #[.int .u64 (wv3 y), .int .u64 (wv2 y), .int .u64 (wv1 y), .int .u64 (wv0 y)]]) co50 (ar1 (T rfl rfl)) (l1Fromz_ok (z := y) fy_) ?_)
  rintro _ w29 ⟨nr24, A25, n26, c27, rfl, e30, h28⟩
  have E31 := below_ext E22 E22.size e30
  have lh28 := Num.len (by decide) h28
  have H32 := (e30.blk H23)
  refine ⟨.inr H32, ?_⟩
  refine aw_pure 6 (.agg #[.bool nr15, .slice A16 n17 c18, .bool nr24, .slice A25 n26 c27]) rfl (by kernel_rfl) .none H32 (fun _ => dv_build (pv := [(0, .agg #[.bool nr15, .slice A16 n17 c18]), (1, .agg #[.bool nr24, .slice A25 n26 c27])]) (l := [.bool nr15, .slice A16 n17 c18, .bool nr24, .slice A25 n26 c27]) zc92 pl92 ⟨rfl, (T rfl rfl), ⟨rfl, (T rfl rfl), trivial⟩⟩ rfl) ?_
  have H33 := (e30.blk (e21.blk (d12.ext.blk n8.blk)))
  refine aw_one 7 rfl (by kernel_rfl) .none (oe_store (v := .agg #[.bool nr15, .slice A16 n17 c18, .bool nr24, .slice A25 n26 c27]) (vs := [.bool nr15, .slice A16 n17 c18, .bool nr24, .slice A25 n26 c27]) (l := [.bool nr15, .slice A16 n17 c18, .bool nr24, .slice A25 n26 c27]) (T rfl rfl) (T rfl rfl) sz92 rfl rfl rfl H33 rfl ?_)
  intro w34 s35 H36
  have E37 := below_st E31 N9 s35
  refine ⟨.inl rfl, ?_⟩
  refine aw_done (by kernel_rfl) ?_
  refine rk_ret Try.func76 (v := .agg #[.bool nr15, .slice A16 n17 c18, .bool nr24, .slice A25 n26 c27]) (res1 Try.results76 (rv_cells (l := [.bool nr15, .slice A16 n17 c18, .bool nr24, .slice A25 n26 c27]) agt92 sz92 rfl rfl H36 rfl)) ⟨_, rfl, ?_⟩
  have h38 := ((h19.ext e30).st s35 H33 (by decide))
  have h39 := (h28.st s35 H33 (by decide))
  exact ⟨_, _, _, _, _, _, _, _, rfl, E37, h38.to rfl (Nat.le_refl _), h39.to rfl (Nat.le_refl _)⟩

set_option maxHeartbeats 1000000 in
theorem srcmp_ok {w : World}  {na : Bool} {Aa : Option Addr} {la ca : Nat} {x : Int} {sx : Nat} (ha : Num 32 102 .u32 w na Aa la ca x sx) {nb : Bool} {Ab : Option Addr} {lb cb : Nat} {y : Int} {sy : Nat} (hb : Num 32 102 .u32 w nb Ab lb cb y sy) {nm : Bool} {Am : Option Addr} {lm cm : Nat} {p : Int} {sp : Nat} (hm : Num 32 102 .u32 w nm Am lm cm p sp) {nn : Bool} {An : Option Addr} {ln cn : Nat} {q : Int} {sq : Nat} (hn : Num 32 102 .u32 w nn An ln cn q sq) (hbsx : sx ≤ 100000) (hbsy : sy ≤ 100000) (hbsp : sp ≤ 100000) (hbsq : sq ≤ 100000)  : Ct Try.prog 80 [.agg #[.bool na, .slice Aa la ca, .bool nb, .slice Ab lb cb], .agg #[.bool nm, .slice Am lm cm, .bool nn, .slice An ln cn]] w fun v w1 => v = .int .i64 (sgnI (x * q - p * y)) ∧ Ext w w1 := by
  refine ct_run (n := 16) Try.func80 rfl Try.ntmps80 rfl ?_
  have E0 : Below w.heap.size w w := Below.refl _ _
  have lha := Num.len (by decide) ha
  have lhb := Num.len (by decide) hb
  have lhm := Num.len (by decide) hm
  have lhn := Num.len (by decide) hn
  refine rk_seq ?_
  refine rk_reg ?_
  refine lw_e (oe_box (v := .agg #[.bool na, .slice Aa la ca, .bool nb, .slice Ab lb cb]) (cs := #[.bool na, .slice Aa la ca, .bool nb, .slice Ab lb cb]) (T rfl rfl) rfl ?_)
  intro b1 w2 n3
  have N4 : w.heap.size ≤ b1 := n3.eq ▸ E0.size
  have E5 := below_ext E0 E0.size n3.ext
  refine lw_e (oe_box (v := .agg #[.bool nm, .slice Am lm cm, .bool nn, .slice An ln cn]) (cs := #[.bool nm, .slice Am lm cm, .bool nn, .slice An ln cn]) (T rfl rfl) rfl ?_)
  intro b6 w7 n8
  have N9 : w.heap.size ≤ b6 := n8.eq ▸ E5.size
  have : b1 < b6 := n8.eq ▸ lt_of_blk n3.blk
  have E10 := below_ext E5 E5.size n8.ext
  refine lw_v (.int .i64 0) (dv_assign C) ?_
  refine lw_nil ?_
  refine rk_seq ?_
  refine rk_any (fun w => w.heap[b1]? = some (.cells #[.bool na, .slice Aa la ca, .bool nb, .slice Ab lb cb] 92) ∧ w.heap[b6]? = some (.cells #[.bool nm, .slice Am lm cm, .bool nn, .slice An ln cn] 92)) [11] mo ?_
  intro w11 d12
  have E13 := below_ext E10 E10.size d12.ext
  have H14 := (d12.ext.blk (n8.ext.blk n3.blk))
  have H15 := (d12.ext.blk n8.blk)
  refine aw_pure 0 (.pointer (some ⟨b1, 0, none⟩)) rfl (by kernel_rfl) .none ⟨H14, H15⟩ (fun _ => dv_fieldAddr (a := ⟨b1, 0, none⟩) (a' := ⟨b1, 0, none⟩) fo92_0 (T rfl rfl) rfl) ?_
  refine aw_load 1 (.agg #[.bool na, .slice Aa la ca]) rfl (by kernel_rfl) .none ⟨H14, H15⟩ (fun _ s => dv_loads (l := [.bool na, .slice Aa la ca]) agt61 sz61 (T rfl rfl) s.1 rfl) ?_
  refine aw_pure 2 (.pointer (some ⟨b6, 2, none⟩)) rfl (by kernel_rfl) .none ⟨H14, H15⟩ (fun _ => dv_fieldAddr (a := ⟨b6, 0, none⟩) (a' := ⟨b6, 2, none⟩) fo92_1 (T rfl rfl) rfl) ?_
  refine aw_load 3 (.agg #[.bool nn, .slice An ln cn]) rfl (by kernel_rfl) .none ⟨H14, H15⟩ (fun _ s => dv_loads (l := [.bool nn, .slice An ln cn]) agt61 sz61 (T rfl rfl) s.2 rfl) ?_
  refine aw_pure 5 (.pointer (some ⟨b6, 0, none⟩)) rfl (by kernel_rfl) .none ⟨H14, H15⟩ (fun _ => dv_fieldAddr (a := ⟨b6, 0, none⟩) (a' := ⟨b6, 0, none⟩) fo92_0 (T rfl rfl) rfl) ?_
  refine aw_load 6 (.agg #[.bool nm, .slice Am lm cm]) rfl (by kernel_rfl) .none ⟨H14, H15⟩ (fun _ s => dv_loads (l := [.bool nm, .slice Am lm cm]) agt61 sz61 (T rfl rfl) s.2 rfl) ?_
  refine aw_pure 7 (.pointer (some ⟨b1, 2, none⟩)) rfl (by kernel_rfl) .none ⟨H14, H15⟩ (fun _ => dv_fieldAddr (a := ⟨b1, 0, none⟩) (a' := ⟨b1, 2, none⟩) fo92_1 (T rfl rfl) rfl) ?_
  refine aw_load 8 (.agg #[.bool nb, .slice Ab lb cb]) rfl (by kernel_rfl) .none ⟨H14, H15⟩ (fun _ s => dv_loads (l := [.bool nb, .slice Ab lb cb]) agt61 sz61 (T rfl rfl) s.1 rfl) ?_
  have h16 := (((ha.ext n3.ext).ext n8.ext).ext d12.ext)
  have h17 := (((hn.ext n3.ext).ext n8.ext).ext d12.ext)
  refine aw_one 4 rfl (by kernel_rfl) .none (oe_callf (vs := [.agg #[.bool na, .slice Aa la ca], .agg #[.bool nn, .slice An ln cn]]) co96 (ar2 (T rfl rfl) (T rfl rfl)) (l1Mul_ok h16 h17 (by first | decide | omega) (by first | decide | omega)) ?_)
  rintro _ w23 ⟨nr18, A19, n20, c21, rfl, e24, h22⟩
  have E25 := below_ext E13 E13.size e24
  have lh22 := Num.len (by decide) h22
  have H26 := (e24.blk H14)
  have H27 := (e24.blk H15)
  refine ⟨.inr ⟨H26, H27⟩, ?_⟩
  have h28 := ((((hm.ext n3.ext).ext n8.ext).ext d12.ext).ext e24)
  have h29 := ((((hb.ext n3.ext).ext n8.ext).ext d12.ext).ext e24)
  refine aw_one 9 rfl (by kernel_rfl) .none (oe_callf (vs := [.agg #[.bool nm, .slice Am lm cm], .agg #[.bool nb, .slice Ab lb cb]]) co96 (ar2 (T rfl rfl) (T rfl rfl)) (l1Mul_ok h28 h29 (by first | decide | omega) (by first | decide | omega)) ?_)
  rintro _ w35 ⟨nr30, A31, n32, c33, rfl, e36, h34⟩
  have E37 := below_ext E25 E25.size e36
  have lh34 := Num.len (by decide) h34
  have H38 := (e36.blk H26)
  have H39 := (e36.blk H27)
  refine ⟨.inr ⟨H38, H39⟩, ?_⟩
  have h40 := (h22.ext e36)
  refine aw_one 10 rfl (by kernel_rfl) .none (oe_callf (vs := [.agg #[.bool nr18, .slice A19 n20 c21], .agg #[.bool nr30, .slice A31 n32 c33]]) co65 (ar2 (T rfl rfl) (T rfl rfl)) (l1Cmp_ok h40 h34 (by first | decide | omega) (by first | decide | omega)) ?_)
  rintro _ w41 ⟨rfl, e42⟩
  have E43 := below_ext E37 E37.size e42
  have H44 := (e42.blk H38)
  have H45 := (e42.blk H39)
  refine ⟨.inr ⟨H44, H45⟩, ?_⟩
  refine aw_last 11 (.int .i64 (sgnI ((x * q) - (p * y)))) rfl (by kernel_rfl) .none (fun _ => dv_assign (T rfl rfl)) ?_
  refine aw_done (by kernel_rfl) ?_
  refine rk_ret Try.func80 (v := .int .i64 (sgnI ((x * q) - (p * y)))) (res1 Try.results80 (rv_tmp rfl rfl)) ⟨_, rfl, ?_⟩
  exact ⟨(vi (by rfl)), E43⟩

set_option maxHeartbeats 1000000 in
theorem sRatioOk_ok {w : World} {x y : Int} (fx_ : fits x) (fy_ : fits y)  : Ct Try.prog 42 [.agg #[.int .u64 (wv3 x), .int .u64 (wv2 x), .int .u64 (wv1 x), .int .u64 (wv0 x), .int .u64 (wv3 y), .int .u64 (wv2 y), .int .u64 (wv1 y), .int .u64 (wv0 y)]] w fun v w1 => v = .bool (decide (rOk x y)) ∧ Ext w w1 := by
  refine ct_run (n := 20) Try.func42 rfl Try.ntmps42 rfl ?_
  have E0 : Below w.heap.size w w := Below.refl _ _
  refine rk_seq ?_
  refine rk_reg ?_
  refine lw_e (oe_box (v := .agg #[.int .u64 (wv3 x), .int .u64 (wv2 x), .int .u64 (wv1 x), .int .u64 (wv0 x), .int .u64 (wv3 y), .int .u64 (wv2 y), .int .u64 (wv1 y), .int .u64 (wv0 y)]) (cs := #[.int .u64 (wv3 x), .int .u64 (wv2 x), .int .u64 (wv1 x), .int .u64 (wv0 x), .int .u64 (wv3 y), .int .u64 (wv2 y), .int .u64 (wv1 y), .int .u64 (wv0 y)]) (T rfl rfl) rfl ?_)
  intro b1 w2 n3
  have N4 : w.heap.size ≤ b1 := n3.eq ▸ E0.size
  have E5 := below_ext E0 E0.size n3.ext
  refine lw_v (.bool false) (dv_assign C) ?_
  refine lw_nil ?_
  refine rk_seq ?_
  refine rk_reg ?_
  refine lw_v (.agg #[.int .u64 (wv3 x), .int .u64 (wv2 x), .int .u64 (wv1 x), .int .u64 (wv0 x), .int .u64 (wv3 y), .int .u64 (wv2 y), .int .u64 (wv1 y), .int .u64 (wv0 y)]) (dv_loads (l := [.int .u64 (wv3 x), .int .u64 (wv2 x), .int .u64 (wv1 x), .int .u64 (wv0 x), .int .u64 (wv3 y), .int .u64 (wv2 y), .int .u64 (wv1 y), .int .u64 (wv0 y)]) agt51 sz51 (T rfl rfl) n3.blk rfl) ?_
  refine lw_e (oe_callf (vs := [.agg #[.int .u64 (wv3 x), .int .u64 (wv2 x), .int .u64 (wv1 x), .int .u64 (wv0 x), .int .u64 (wv3 y), .int .u64 (wv2 y), .int .u64 (wv1 y), .int .u64 (wv0 y)]]) co76 (ar1 (T rfl rfl)) (sratio_ok fx_ fy_  ) ?_)
  rintro _ w16 ⟨nr6, A7, n8, c9, nr10, A11, n12, c13, rfl, e17, h14, h15⟩
  have E18 := below_ext E5 E5.size e17
  have lh14 := Num.len (by decide) h14
  have lh15 := Num.len (by decide) h15
  refine lw_e (oe_alloc ze92 ?_)
  intro b19 w20 n21
  have N22 : w.heap.size ≤ b19 := n21.eq ▸ E18.size
  have H23 := (e17.blk n3.blk)
  have : b1 < b19 := n21.eq ▸ lt_of_blk H23
  have E24 := below_ext E18 E18.size n21.ext
  refine lw_e (oe_store (v := .agg #[.bool nr6, .slice A7 n8 c9, .bool nr10, .slice A11 n12 c13]) (vs := [.bool nr6, .slice A7 n8 c9, .bool nr10, .slice A11 n12 c13]) (l := [.bool nr6, .slice A7 n8 c9, .bool nr10, .slice A11 n12 c13]) (T rfl rfl) (T rfl rfl) sz92 rfl rfl rfl n21.blk rfl ?_)
  intro w25 s26 H27
  have E28 := below_st E24 N22 s26
  refine lw_nil ?_
  refine rk_seq ?_
  refine rk_reg ?_
  refine lw_v (.pointer (some ⟨b19, 2, none⟩)) (dv_fieldAddr (a := ⟨b19, 0, none⟩) (a' := ⟨b19, 2, none⟩) fo92_1 (T rfl rfl) rfl) ?_
  refine lw_v (.agg #[.bool nr10, .slice A11 n12 c13]) (dv_loads (l := [.bool nr10, .slice A11 n12 c13]) agt61 sz61 (T rfl rfl) H27 rfl) ?_
  have h29 := ((h15.ext n21.ext).st s26 n21.blk (by decide))
  refine lw_e (oe_callf (vs := [.agg #[.bool nr10, .slice A11 n12 c13]]) co77 (ar1 (T rfl rfl)) (l1Sign_ok h29 ) ?_)
  rintro _ w30 ⟨rfl, e31⟩
  have E32 := below_ext E28 E28.size e31
  refine lw_v (.bool (decide (0 < (sgnI y)))) (dv_gtr (a := sgnI y) (b := 0) (T rfl rfl) C) ?_
  refine lw_v (.bool (decide (0 < (sgnI y)))) (dv_move (T rfl rfl)) ?_
  by_cases hb33 : 0 < (sgnI y)
  · -- T
    refine lw_vy (.pointer (some ⟨b19, 0, none⟩)) (d := 10) rfl rfl (congrArg Value.bool (decide_eq_true hb33)) (dv_fieldAddr (a := ⟨b19, 0, none⟩) (a' := ⟨b19, 0, none⟩) fo92_0 (T rfl rfl) rfl) ?_
    have H34 := (e31.blk H27)
    refine lw_vy (.agg #[.bool nr6, .slice A7 n8 c9]) (d := 10) rfl rfl (congrArg Value.bool (decide_eq_true hb33)) (dv_loads (l := [.bool nr6, .slice A7 n8 c9]) agt61 sz61 (T rfl rfl) H34 rfl) ?_
    refine lw_vy (.pointer (some ⟨b19, 2, none⟩)) (d := 10) rfl rfl (congrArg Value.bool (decide_eq_true hb33)) (dv_fieldAddr (a := ⟨b19, 0, none⟩) (a' := ⟨b19, 2, none⟩) fo92_1 (T rfl rfl) rfl) ?_
    refine lw_vy (.agg #[.bool nr10, .slice A11 n12 c13]) (d := 10) rfl rfl (congrArg Value.bool (decide_eq_true hb33)) (dv_loads (l := [.bool nr10, .slice A11 n12 c13]) agt61 sz61 (T rfl rfl) H34 rfl) ?_
    have h35 := (((h14.ext n21.ext).st s26 n21.blk (by decide)).ext e31)
    have h36 := (h29.ext e31)
    refine lw_ey (d := 10) rfl rfl (congrArg Value.bool (decide_eq_true hb33)) (oe_callf (vs := [.agg #[.bool nr6, .slice A7 n8 c9], .agg #[.bool nr10, .slice A11 n12 c13]]) co57 (ar2 (T rfl rfl) (T rfl rfl)) (l1Gcd_ok h35 h36 (by first | decide | omega) (by first | decide | omega)) ?_)
    rintro _ w42 ⟨nr37, A38, n39, c40, rfl, e43, h41⟩
    have E44 := below_ext E32 E32.size e43
    have lh41 := Num.len (by decide) h41
    refine lw_ey (d := 10) rfl rfl (congrArg Value.bool (decide_eq_true hb33)) (oe_callf (vs := [.int .i64 1]) co78 (ar1 C) (l1Int_ok  (by omega)) ?_)
    rintro _ w50 ⟨nr45, A46, n47, c48, rfl, e51, h49⟩
    have E52 := below_ext E44 E44.size e51
    have lh49 := Num.len (by decide) h49
    have h53 := (h41.ext e51)
    refine lw_ey (d := 10) rfl rfl (congrArg Value.bool (decide_eq_true hb33)) (oe_callf (vs := [.agg #[.bool nr37, .slice A38 n39 c40], .agg #[.bool nr45, .slice A46 n47 c48]]) co65 (ar2 (T rfl rfl) (T rfl rfl)) (l1Cmp_ok h53 h49 (by first | decide | omega) (by first | decide | omega)) ?_)
    rintro _ w54 ⟨rfl, e55⟩
    have E56 := below_ext E52 E52.size e55
    refine lw_vy (.bool (decide ((sgnI ((gI x y) - 1)) = 0))) (d := 10) rfl rfl (congrArg Value.bool (decide_eq_true hb33)) (dv_eql (a := sgnI ((gI x y) - 1)) (b := 0) (T rfl rfl) C) ?_
    refine lw_v (.bool (decide ((sgnI ((gI x y) - 1)) = 0))) (dv_pick_t (T rfl (congrArg Value.bool (decide_eq_true hb33))) (T rfl rfl)) ?_
    refine lw_v (.bool (decide ((sgnI ((gI x y) - 1)) = 0))) (dv_assign (T rfl rfl)) ?_
    refine lw_nil ?_
    refine rk_ret Try.func42 (v := .bool (decide ((sgnI ((gI x y) - 1)) = 0))) (res1 Try.results42 (rv_tmp rfl rfl)) ⟨_, rfl, ?_⟩
    exact ⟨(vb (by unfold rOk; have h1 := @sgnI_gt y; have h2 := @sgnI_zero (gI x y - 1); omega)), E56⟩
  · -- F
    refine lw_no (d := 10) rfl rfl (congrArg Value.bool (decide_eq_false hb33)) ?_
    refine lw_no (d := 10) rfl rfl (congrArg Value.bool (decide_eq_false hb33)) ?_
    refine lw_no (d := 10) rfl rfl (congrArg Value.bool (decide_eq_false hb33)) ?_
    refine lw_no (d := 10) rfl rfl (congrArg Value.bool (decide_eq_false hb33)) ?_
    refine lw_no (d := 10) rfl rfl (congrArg Value.bool (decide_eq_false hb33)) ?_
    refine lw_no (d := 10) rfl rfl (congrArg Value.bool (decide_eq_false hb33)) ?_
    refine lw_no (d := 10) rfl rfl (congrArg Value.bool (decide_eq_false hb33)) ?_
    refine lw_no (d := 10) rfl rfl (congrArg Value.bool (decide_eq_false hb33)) ?_
    refine lw_v (.bool false) (dv_pick_f (T rfl (congrArg Value.bool (decide_eq_false hb33))) C) ?_
    refine lw_v (.bool false) (dv_assign (T rfl rfl)) ?_
    refine lw_nil ?_
    refine rk_ret Try.func42 (v := .bool false) (res1 Try.results42 (rv_tmp rfl rfl)) ⟨_, rfl, ?_⟩
    exact ⟨(vf (by unfold rOk; have h1 := @sgnI_gt y; omega)), E32⟩

set_option maxHeartbeats 1000000 in
theorem sRatioCmp_ok {w : World} {x y p q : Int} (fx_ : fits x) (fy_ : fits y) (fp_ : fits p) (fq_ : fits q)  : Ct Try.prog 45 [.agg #[.int .u64 (wv3 x), .int .u64 (wv2 x), .int .u64 (wv1 x), .int .u64 (wv0 x), .int .u64 (wv3 y), .int .u64 (wv2 y), .int .u64 (wv1 y), .int .u64 (wv0 y)], .agg #[.int .u64 (wv3 p), .int .u64 (wv2 p), .int .u64 (wv1 p), .int .u64 (wv0 p), .int .u64 (wv3 q), .int .u64 (wv2 q), .int .u64 (wv1 q), .int .u64 (wv0 q)]] w fun v w1 => v = .tuple #[.int .i64 (rCmp x y p q), .bool (decide (rOk x y ∧ rOk p q))] ∧ Ext w w1 := by
  refine ct_run (n := 19) Try.func45 rfl Try.ntmps45 rfl ?_
  have E0 : Below w.heap.size w w := Below.refl _ _
  refine rk_seq ?_
  refine rk_reg ?_
  refine lw_e (oe_box (v := .agg #[.int .u64 (wv3 x), .int .u64 (wv2 x), .int .u64 (wv1 x), .int .u64 (wv0 x), .int .u64 (wv3 y), .int .u64 (wv2 y), .int .u64 (wv1 y), .int .u64 (wv0 y)]) (cs := #[.int .u64 (wv3 x), .int .u64 (wv2 x), .int .u64 (wv1 x), .int .u64 (wv0 x), .int .u64 (wv3 y), .int .u64 (wv2 y), .int .u64 (wv1 y), .int .u64 (wv0 y)]) (T rfl rfl) rfl ?_)
  intro b1 w2 n3
  have N4 : w.heap.size ≤ b1 := n3.eq ▸ E0.size
  have E5 := below_ext E0 E0.size n3.ext
  refine lw_e (oe_box (v := .agg #[.int .u64 (wv3 p), .int .u64 (wv2 p), .int .u64 (wv1 p), .int .u64 (wv0 p), .int .u64 (wv3 q), .int .u64 (wv2 q), .int .u64 (wv1 q), .int .u64 (wv0 q)]) (cs := #[.int .u64 (wv3 p), .int .u64 (wv2 p), .int .u64 (wv1 p), .int .u64 (wv0 p), .int .u64 (wv3 q), .int .u64 (wv2 q), .int .u64 (wv1 q), .int .u64 (wv0 q)]) (T rfl rfl) rfl ?_)
  intro b6 w7 n8
  have N9 : w.heap.size ≤ b6 := n8.eq ▸ E5.size
  have : b1 < b6 := n8.eq ▸ lt_of_blk n3.blk
  have E10 := below_ext E5 E5.size n8.ext
  refine lw_v (.int .i64 0) (dv_assign C) ?_
  refine lw_v (.bool false) (dv_assign C) ?_
  refine lw_nil ?_
  refine rk_seq ?_
  refine rk_seq ?_
  refine rk_reg ?_
  have H11 := (n8.ext.blk n3.blk)
  refine lw_v (.agg #[.int .u64 (wv3 x), .int .u64 (wv2 x), .int .u64 (wv1 x), .int .u64 (wv0 x), .int .u64 (wv3 y), .int .u64 (wv2 y), .int .u64 (wv1 y), .int .u64 (wv0 y)]) (dv_loads (l := [.int .u64 (wv3 x), .int .u64 (wv2 x), .int .u64 (wv1 x), .int .u64 (wv0 x), .int .u64 (wv3 y), .int .u64 (wv2 y), .int .u64 (wv1 y), .int .u64 (wv0 y)]) agt51 sz51 (T rfl rfl) H11 rfl) ?_
  refine lw_e (oe_callf (vs := [.agg #[.int .u64 (wv3 x), .int .u64 (wv2 x), .int .u64 (wv1 x), .int .u64 (wv0 x), .int .u64 (wv3 y), .int .u64 (wv2 y), .int .u64 (wv1 y), .int .u64 (wv0 y)]]) co42 (ar1 (T rfl rfl)) (sRatioOk_ok (x := x) (y := y) fx_ fy_ ) ?_)
  rintro _ w12 ⟨rfl, e13⟩
  have E14 := below_ext E10 E10.size e13
  refine lw_v (.bool (decide (¬ (rOk x y)))) (dv_notd (p := rOk x y) (T rfl rfl)) ?_
  refine lw_v (.bool (decide (¬ (rOk x y)))) (dv_move (T rfl rfl)) ?_
  by_cases hb15 : rOk x y
  · -- T
    have H16 := (e13.blk n8.blk)
    refine lw_vy (.agg #[.int .u64 (wv3 p), .int .u64 (wv2 p), .int .u64 (wv1 p), .int .u64 (wv0 p), .int .u64 (wv3 q), .int .u64 (wv2 q), .int .u64 (wv1 q), .int .u64 (wv0 q)]) (d := 9) rfl rfl (congrArg Value.bool (decide_eq_false (not_not_intro hb15))) (dv_loads (l := [.int .u64 (wv3 p), .int .u64 (wv2 p), .int .u64 (wv1 p), .int .u64 (wv0 p), .int .u64 (wv3 q), .int .u64 (wv2 q), .int .u64 (wv1 q), .int .u64 (wv0 q)]) agt51 sz51 (T rfl rfl) H16 rfl) ?_
    refine lw_ey (d := 9) rfl rfl (congrArg Value.bool (decide_eq_false (not_not_intro hb15))) (oe_callf (vs := [.agg #[.int .u64 (wv3 p), .int .u64 (wv2 p), .int .u64 (wv1 p), .int .u64 (wv0 p), .int .u64 (wv3 q), .int .u64 (wv2 q), .int .u64 (wv1 q), .int .u64 (wv0 q)]]) co42 (ar1 (T rfl rfl)) (sRatioOk_ok (x := p) (y := q) fp_ fq_ ) ?_)
    rintro _ w17 ⟨rfl, e18⟩
    have E19 := below_ext E14 E14.size e18
    refine lw_vy (.bool (decide (¬ (rOk p q)))) (d := 9) rfl rfl (congrArg Value.bool (decide_eq_false (not_not_intro hb15))) (dv_notd (p := rOk p q) (T rfl rfl)) ?_
    refine lw_v (.bool (decide (¬ (rOk p q)))) (dv_pick_f (T rfl (congrArg Value.bool (decide_eq_false (not_not_intro hb15)))) (T rfl rfl)) ?_
    refine lw_nil ?_
    by_cases hb20 : rOk p q
    · -- TT
      refine rk_cf (T rfl (congrArg Value.bool (decide_eq_false (not_not_intro hb20)))) ?_
      refine rk_skip ?_
      refine rk_seq ?_
      refine rk_any (fun w => w.heap[b1]? = some (.cells #[.int .u64 (wv3 x), .int .u64 (wv2 x), .int .u64 (wv1 x), .int .u64 (wv0 x), .int .u64 (wv3 y), .int .u64 (wv2 y), .int .u64 (wv1 y), .int .u64 (wv0 y)] 51) ∧ w.heap[b6]? = some (.cells #[.int .u64 (wv3 p), .int .u64 (wv2 p), .int .u64 (wv1 p), .int .u64 (wv0 p), .int .u64 (wv3 q), .int .u64 (wv2 q), .int .u64 (wv1 q), .int .u64 (wv0 q)] 51)) [6] mo ?_
      intro w21 d22
      have E23 := below_ext E19 E19.size d22.ext
      have H24 := (d22.ext.blk (e18.blk (e13.blk H11)))
      have H25 := (d22.ext.blk (e18.blk H16))
      refine aw_load 0 (.agg #[.int .u64 (wv3 x), .int .u64 (wv2 x), .int .u64 (wv1 x), .int .u64 (wv0 x), .int .u64 (wv3 y), .int .u64 (wv2 y), .int .u64 (wv1 y), .int .u64 (wv0 y)]) rfl (by kernel_rfl) .none ⟨H24, H25⟩ (fun _ s => dv_loads (l := [.int .u64 (wv3 x), .int .u64 (wv2 x), .int .u64 (wv1 x), .int .u64 (wv0 x), .int .u64 (wv3 y), .int .u64 (wv2 y), .int .u64 (wv1 y), .int .u64 (wv0 y)]) agt51 sz51 (T rfl rfl) s.1 rfl) ?_
      refine aw_load 2 (.agg #[.int .u64 (wv3 p), .int .u64 (wv2 p), .int .u64 (wv1 p), .int .u64 (wv0 p), .int .u64 (wv3 q), .int .u64 (wv2 q), .int .u64 (wv1 q), .int .u64 (wv0 q)]) rfl (by kernel_rfl) .none ⟨H24, H25⟩ (fun _ s => dv_loads (l := [.int .u64 (wv3 p), .int .u64 (wv2 p), .int .u64 (wv1 p), .int .u64 (wv0 p), .int .u64 (wv3 q), .int .u64 (wv2 q), .int .u64 (wv1 q), .int .u64 (wv0 q)]) agt51 sz51 (T rfl rfl) s.2 rfl) ?_
      refine aw_one 1 rfl (by kernel_rfl) .none (oe_callf (vs := [.agg #[.int .u64 (wv3 x), .int .u64 (wv2 x), .int .u64 (wv1 x), .int .u64 (wv0 x), .int .u64 (wv3 y), .int .u64 (wv2 y), .int .u64 (wv1 y), .int .u64 (wv0 y)]]) co76 (ar1 (T rfl rfl)) (sratio_ok fx_ fy_  ) ?_)
      rintro _ w36 ⟨nr26, A27, n28, c29, nr30, A31, n32, c33, rfl, e37, h34, h35⟩
      have E38 := below_ext E23 E23.size e37
      have lh34 := Num.len (by decide) h34
      have lh35 := Num.len (by decide) h35
      have H39 := (e37.blk H24)
      have H40 := (e37.blk H25)
      refine ⟨.inr ⟨H39, H40⟩, ?_⟩
      refine aw_one 3 rfl (by kernel_rfl) .none (oe_callf (vs := [.agg #[.int .u64 (wv3 p), .int .u64 (wv2 p), .int .u64 (wv1 p), .int .u64 (wv0 p), .int .u64 (wv3 q), .int .u64 (wv2 q), .int .u64 (wv1 q), .int .u64 (wv0 q)]]) co76 (ar1 (T rfl rfl)) (sratio_ok fp_ fq_  ) ?_)
      rintro _ w51 ⟨nr41, A42, n43, c44, nr45, A46, n47, c48, rfl, e52, h49, h50⟩
      have E53 := below_ext E38 E38.size e52
      have lh49 := Num.len (by decide) h49
      have lh50 := Num.len (by decide) h50
      have H54 := (e52.blk H39)
      have H55 := (e52.blk H40)
      refine ⟨.inr ⟨H54, H55⟩, ?_⟩
      have h56 := (h34.ext e52)
      have h57 := (h35.ext e52)
      refine aw_one 4 rfl (by kernel_rfl) .none (oe_callf (vs := [.agg #[.bool nr26, .slice A27 n28 c29, .bool nr30, .slice A31 n32 c33], .agg #[.bool nr41, .slice A42 n43 c44, .bool nr45, .slice A46 n47 c48]]) co80 (ar2 (T rfl rfl) (T rfl rfl)) (srcmp_ok h56 h57 h49 h50 (by first | decide | omega) (by first | decide | omega) (by first | decide | omega) (by first | decide | omega) ) ?_)
      rintro _ w58 ⟨rfl, e59⟩
      have E60 := below_ext E53 E53.size e59
      have H61 := (e59.blk H54)
      have H62 := (e59.blk H55)
      refine ⟨.inr ⟨H61, H62⟩, ?_⟩
      refine aw_pure 5 (.int .i64 (sgnI (x * q - p * y))) rfl (by kernel_rfl) .none ⟨H61, H62⟩ (fun _ => dv_assign (T rfl rfl)) ?_
      refine aw_last 6 (.bool true) rfl (by kernel_rfl) .none (fun _ => dv_assign C) ?_
      refine aw_done (by kernel_rfl) ?_
      refine rk_ret Try.func45 (v := .tuple #[.int .i64 (sgnI (x * q - p * y)), .bool true]) (res2 Try.results45 (rv_tmp rfl rfl) (rv_tmp rfl rfl)) ⟨_, rfl, ?_⟩
      exact ⟨(tu2 (vi (by unfold rCmp; rw [if_pos ⟨(by first | assumption | simpa using ‹_›), (by first | assumption | simpa using ‹_›)⟩])) (vt ⟨(by first | assumption | simpa using ‹_›), (by first | assumption | simpa using ‹_›)⟩)), E60⟩
    · -- TF
      refine rk_ct (T rfl (congrArg Value.bool (decide_eq_true hb20))) ?_
      refine rk_seq ?_
      refine rk_reg ?_
      refine lw_v (.int .i64 0) (dv_assign C) ?_
      refine lw_v (.bool false) (dv_assign C) ?_
      refine lw_nil ?_
      refine rk_ret Try.func45 (v := .tuple #[.int .i64 0, .bool false]) (res2 Try.results45 (rv_tmp rfl rfl) (rv_tmp rfl rfl)) ⟨_, rfl, ?_⟩
      exact ⟨(tu2 (vi (by unfold rCmp; rw [if_neg (by first | (intro h; exact absurd h.1 (by assumption)) | (intro h; exact absurd h.2 (by assumption)))])) (vf (by first | (intro h; exact absurd h.1 (by assumption)) | (intro h; exact absurd h.2 (by assumption))))), E19⟩
  · -- F
    refine lw_no (d := 9) rfl rfl (congrArg Value.bool (decide_eq_true hb15)) ?_
    refine lw_no (d := 9) rfl rfl (congrArg Value.bool (decide_eq_true hb15)) ?_
    refine lw_no (d := 9) rfl rfl (congrArg Value.bool (decide_eq_true hb15)) ?_
    refine lw_v (.bool true) (dv_pick_t (T rfl (congrArg Value.bool (decide_eq_true hb15))) C) ?_
    refine lw_nil ?_
    refine rk_ct (T rfl rfl) ?_
    refine rk_seq ?_
    refine rk_reg ?_
    refine lw_v (.int .i64 0) (dv_assign C) ?_
    refine lw_v (.bool false) (dv_assign C) ?_
    refine lw_nil ?_
    refine rk_ret Try.func45 (v := .tuple #[.int .i64 0, .bool false]) (res2 Try.results45 (rv_tmp rfl rfl) (rv_tmp rfl rfl)) ⟨_, rfl, ?_⟩
    exact ⟨(tu2 (vi (by unfold rCmp; rw [if_neg (by first | (intro h; exact absurd h.1 (by assumption)) | (intro h; exact absurd h.2 (by assumption)))])) (vf (by first | (intro h; exact absurd h.1 (by assumption)) | (intro h; exact absurd h.2 (by assumption))))), E14⟩

set_option maxHeartbeats 1000000 in
theorem sRatioFloor_ok {w : World} {x y : Int} (fx_ : fits x) (fy_ : fits y)  : Ct Try.prog 47 [.agg #[.int .u64 (wv3 x), .int .u64 (wv2 x), .int .u64 (wv1 x), .int .u64 (wv0 x), .int .u64 (wv3 y), .int .u64 (wv2 y), .int .u64 (wv1 y), .int .u64 (wv0 y)]] w fun v w1 => v = .tuple #[.agg #[.int .u64 (wv3 (pkz (rOk x y ∧ fits (x / y)) (x / y))), .int .u64 (wv2 (pkz (rOk x y ∧ fits (x / y)) (x / y))), .int .u64 (wv1 (pkz (rOk x y ∧ fits (x / y)) (x / y))), .int .u64 (wv0 (pkz (rOk x y ∧ fits (x / y)) (x / y)))], .bool (decide (rOk x y ∧ fits (x / y)))] ∧ Ext w w1 := by
  refine ct_run (n := 25) Try.func47 rfl Try.ntmps47 rfl ?_
  have E0 : Below w.heap.size w w := Below.refl _ _
  refine rk_seq ?_
  refine rk_reg ?_
  refine lw_e (oe_box (v := .agg #[.int .u64 (wv3 x), .int .u64 (wv2 x), .int .u64 (wv1 x), .int .u64 (wv0 x), .int .u64 (wv3 y), .int .u64 (wv2 y), .int .u64 (wv1 y), .int .u64 (wv0 y)]) (cs := #[.int .u64 (wv3 x), .int .u64 (wv2 x), .int .u64 (wv1 x), .int .u64 (wv0 x), .int .u64 (wv3 y), .int .u64 (wv2 y), .int .u64 (wv1 y), .int .u64 (wv0 y)]) (T rfl rfl) rfl ?_)
  intro b1 w2 n3
  have N4 : w.heap.size ≤ b1 := n3.eq ▸ E0.size
  have E5 := below_ext E0 E0.size n3.ext
  refine lw_e (oe_alloc ze26 ?_)
  intro b6 w7 n8
  have N9 : w.heap.size ≤ b6 := n8.eq ▸ E5.size
  have : b1 < b6 := n8.eq ▸ lt_of_blk n3.blk
  have E10 := below_ext E5 E5.size n8.ext
  refine lw_v (.bool false) (dv_assign C) ?_
  refine lw_nil ?_
  refine rk_seq ?_
  refine rk_seq ?_
  refine rk_reg ?_
  have H11 := (n8.ext.blk n3.blk)
  refine lw_v (.agg #[.int .u64 (wv3 x), .int .u64 (wv2 x), .int .u64 (wv1 x), .int .u64 (wv0 x), .int .u64 (wv3 y), .int .u64 (wv2 y), .int .u64 (wv1 y), .int .u64 (wv0 y)]) (dv_loads (l := [.int .u64 (wv3 x), .int .u64 (wv2 x), .int .u64 (wv1 x), .int .u64 (wv0 x), .int .u64 (wv3 y), .int .u64 (wv2 y), .int .u64 (wv1 y), .int .u64 (wv0 y)]) agt51 sz51 (T rfl rfl) H11 rfl) ?_
  refine lw_e (oe_callf (vs := [.agg #[.int .u64 (wv3 x), .int .u64 (wv2 x), .int .u64 (wv1 x), .int .u64 (wv0 x), .int .u64 (wv3 y), .int .u64 (wv2 y), .int .u64 (wv1 y), .int .u64 (wv0 y)]]) co42 (ar1 (T rfl rfl)) (sRatioOk_ok (x := x) (y := y) fx_ fy_ ) ?_)
  rintro _ w12 ⟨rfl, e13⟩
  have E14 := below_ext E10 E10.size e13
  refine lw_v (.bool (decide (¬ (rOk x y)))) (dv_notd (p := rOk x y) (T rfl rfl)) ?_
  refine lw_nil ?_
  by_cases hb15 : rOk x y
  · -- T
    refine rk_cf (T rfl (congrArg Value.bool (decide_eq_false (not_not_intro hb15)))) ?_
    refine rk_skip ?_
    refine rk_seq ?_
    refine rk_reg ?_
    have H16 := (e13.blk H11)
    refine lw_v (.agg #[.int .u64 (wv3 x), .int .u64 (wv2 x), .int .u64 (wv1 x), .int .u64 (wv0 x), .int .u64 (wv3 y), .int .u64 (wv2 y), .int .u64 (wv1 y), .int .u64 (wv0 y)]) (dv_loads (l := [.int .u64 (wv3 x), .int .u64 (wv2 x), .int .u64 (wv1 x), .int .u64 (wv0 x), .int .u64 (wv3 y), .int .u64 (wv2 y), .int .u64 (wv1 y), .int .u64 (wv0 y)]) agt51 sz51 (T rfl rfl) H16 rfl) ?_
    refine lw_e (oe_callf (vs := [.agg #[.int .u64 (wv3 x), .int .u64 (wv2 x), .int .u64 (wv1 x), .int .u64 (wv0 x), .int .u64 (wv3 y), .int .u64 (wv2 y), .int .u64 (wv1 y), .int .u64 (wv0 y)]]) co76 (ar1 (T rfl rfl)) (sratio_ok fx_ fy_  ) ?_)
    rintro _ w27 ⟨nr17, A18, n19, c20, nr21, A22, n23, c24, rfl, e28, h25, h26⟩
    have E29 := below_ext E14 E14.size e28
    have lh25 := Num.len (by decide) h25
    have lh26 := Num.len (by decide) h26
    refine lw_e (oe_alloc ze92 ?_)
    intro b30 w31 n32
    have N33 : w.heap.size ≤ b30 := n32.eq ▸ E29.size
    have H34 := (e28.blk (e13.blk n8.blk))
    have : b6 < b30 := n32.eq ▸ lt_of_blk H34
    have E35 := below_ext E29 E29.size n32.ext
    refine lw_e (oe_store (v := .agg #[.bool nr17, .slice A18 n19 c20, .bool nr21, .slice A22 n23 c24]) (vs := [.bool nr17, .slice A18 n19 c20, .bool nr21, .slice A22 n23 c24]) (l := [.bool nr17, .slice A18 n19 c20, .bool nr21, .slice A22 n23 c24]) (T rfl rfl) (T rfl rfl) sz92 rfl rfl rfl n32.blk rfl ?_)
    intro w36 s37 H38
    have E39 := below_st E35 N33 s37
    refine lw_nil ?_
    refine rk_seq ?_
    refine rk_reg ?_
    refine lw_v (.pointer (some ⟨b30, 0, none⟩)) (dv_fieldAddr (a := ⟨b30, 0, none⟩) (a' := ⟨b30, 0, none⟩) fo92_0 (T rfl rfl) rfl) ?_
    refine lw_v (.agg #[.bool nr17, .slice A18 n19 c20]) (dv_loads (l := [.bool nr17, .slice A18 n19 c20]) agt61 sz61 (T rfl rfl) H38 rfl) ?_
    refine lw_v (.pointer (some ⟨b30, 2, none⟩)) (dv_fieldAddr (a := ⟨b30, 0, none⟩) (a' := ⟨b30, 2, none⟩) fo92_1 (T rfl rfl) rfl) ?_
    refine lw_v (.agg #[.bool nr21, .slice A22 n23 c24]) (dv_loads (l := [.bool nr21, .slice A22 n23 c24]) agt61 sz61 (T rfl rfl) H38 rfl) ?_
    have h40 := ((h25.ext n32.ext).st s37 n32.blk (by decide))
    have h41 := ((h26.ext n32.ext).st s37 n32.blk (by decide))
    refine lw_e (oe_callf (vs := [.agg #[.bool nr17, .slice A18 n19 c20], .agg #[.bool nr21, .slice A22 n23 c24]]) co53 (ar2 (T rfl rfl) (T rfl rfl)) (l1Div_ok h40 h41 (by have hR : rOk x y := (by first | assumption | simpa using ‹_›); exact Int.ne_of_gt hR.1) (by first | decide | omega) (by first | decide | omega)) ?_)
    rintro _ w52 ⟨nr42, A43, n44, c45, nr46, A47, n48, c49, rfl, e53, h50, h51⟩
    have E54 := below_ext E39 E39.size e53
    have lh50 := Num.len (by decide) h50
    have lh51 := Num.len (by decide) h51
    refine lw_v (.tuple #[.agg #[.bool nr42, .slice A43 n44 c45], .agg #[.bool nr46, .slice A47 n48 c49]]) (dv_move (T rfl rfl)) ?_
    refine lw_v (.agg #[.bool nr42, .slice A43 n44 c45]) (dv_extract (vs := #[.agg #[.bool nr42, .slice A43 n44 c45], .agg #[.bool nr46, .slice A47 n48 c49]]) (T rfl rfl) rfl) ?_
    refine lw_v (.agg #[.bool nr46, .slice A47 n48 c49]) (dv_extract (vs := #[.agg #[.bool nr42, .slice A43 n44 c45], .agg #[.bool nr46, .slice A47 n48 c49]]) (T rfl rfl) rfl) ?_
    refine lw_e (oe_alloc ze61 ?_)
    intro b55 w56 n57
    have N58 : w.heap.size ≤ b55 := n57.eq ▸ E54.size
    have H59 := (e53.blk H38)
    have : b30 < b55 := n57.eq ▸ lt_of_blk H59
    have E60 := below_ext E54 E54.size n57.ext
    refine lw_e (oe_alloc ze61 ?_)
    intro b61 w62 n63
    have N64 : w.heap.size ≤ b61 := n63.eq ▸ E60.size
    have : b55 < b61 := n63.eq ▸ lt_of_blk n57.blk
    have E65 := below_ext E60 E60.size n63.ext
    have H66 := (n63.ext.blk n57.blk)
    refine lw_e (oe_store (v := .agg #[.bool nr42, .slice A43 n44 c45]) (vs := [.bool nr42, .slice A43 n44 c45]) (l := [.bool nr42, .slice A43 n44 c45]) (T rfl rfl) (T rfl rfl) sz61 rfl rfl rfl H66 rfl ?_)
    intro w67 s68 H69
    have E70 := below_st E65 N58 s68
    have H71 := (s68.blk n63.blk (by omega))
    refine lw_e (oe_store (v := .agg #[.bool nr46, .slice A47 n48 c49]) (vs := [.bool nr46, .slice A47 n48 c49]) (l := [.bool nr46, .slice A47 n48 c49]) (T rfl rfl) (T rfl rfl) sz61 rfl rfl rfl H71 rfl ?_)
    intro w72 s73 H74
    have E75 := below_st E70 N64 s73
    refine lw_nil ?_
    refine rk_seq ?_
    refine rk_reg ?_
    have H76 := (s73.blk H69 (by omega))
    refine lw_v (.agg #[.bool nr42, .slice A43 n44 c45]) (dv_loads (l := [.bool nr42, .slice A43 n44 c45]) agt61 sz61 (T rfl rfl) H76 rfl) ?_
    have h77 := ((((h50.ext n57.ext).ext n63.ext).st s68 H66 (by decide)).st s73 H71 (by decide))
    refine lw_e (oe_callf (vs := [.agg #[.bool nr42, .slice A43 n44 c45]]) co54 (ar1 (T rfl rfl)) (l1Wide_ok h77 (by first | decide | omega)) ?_)
    rintro _ w79 ⟨rfl, e80⟩
    have E81 := below_ext E75 E75.size e80
    have bw78 := w_rg (x / y)
    refine lw_v (.agg #[.int .u64 (wv3 (x / y)), .int .u64 (wv2 (x / y)), .int .u64 (wv1 (x / y)), .int .u64 (wv0 (x / y))]) (dv_extract (vs := #[.agg #[.int .u64 (wv3 (x / y)), .int .u64 (wv2 (x / y)), .int .u64 (wv1 (x / y)), .int .u64 (wv0 (x / y))], .bool (decide (fits (x / y)))]) (T rfl rfl) rfl) ?_
    refine lw_v (.bool (decide (fits (x / y)))) (dv_extract (vs := #[.agg #[.int .u64 (wv3 (x / y)), .int .u64 (wv2 (x / y)), .int .u64 (wv1 (x / y)), .int .u64 (wv0 (x / y))], .bool (decide (fits (x / y)))]) (T rfl rfl) rfl) ?_
    have H82 := (e80.blk (s73.blk (s68.blk (n63.ext.blk (n57.ext.blk (e53.blk (s37.blk (n32.ext.blk H34) (by omega))))) (by omega)) (by omega)))
    refine lw_e (oe_store (v := .agg #[.int .u64 (wv3 (x / y)), .int .u64 (wv2 (x / y)), .int .u64 (wv1 (x / y)), .int .u64 (wv0 (x / y))]) (vs := [.int .u64 (wv3 (x / y)), .int .u64 (wv2 (x / y)), .int .u64 (wv1 (x / y)), .int .u64 (wv0 (x / y))]) (l := [.int .u64 (wv3 (x / y)), .int .u64 (wv2 (x / y)), .int .u64 (wv1 (x / y)), .int .u64 (wv0 (x / y))]) (T rfl rfl) (T rfl rfl) sz26 rfl rfl rfl H82 rfl ?_)
    intro w83 s84 H85
    have E86 := below_st E81 N9 s84
    refine lw_v (.bool (decide (fits (x / y)))) (dv_assign (T rfl rfl)) ?_
    refine lw_nil ?_
    refine rk_ret Try.func47 (v := .tuple #[.agg #[.int .u64 (wv3 (x / y)), .int .u64 (wv2 (x / y)), .int .u64 (wv1 (x / y)), .int .u64 (wv0 (x / y))], .bool (decide (fits (x / y)))]) (res2 Try.results47 (rv_cells (l := [.int .u64 (wv3 (x / y)), .int .u64 (wv2 (x / y)), .int .u64 (wv1 (x / y)), .int .u64 (wv0 (x / y))]) agt26 sz26 rfl rfl H85 rfl) (rv_tmp rfl rfl)) ⟨_, rfl, ?_⟩
    have hR : rOk x y := by first | assumption | simpa using ‹_›
    exact ⟨(tu2 (ag4 (vi (wq3 hR)) (vi (wq2 hR)) (vi (wq1 hR)) (vi (wq0 hR))) (vb ⟨fun h => ⟨hR, h⟩, fun h => h.2⟩)), E86⟩
  · -- F
    refine rk_ct (T rfl (congrArg Value.bool (decide_eq_true hb15))) ?_
    refine rk_seq ?_
    refine rk_reg ?_
    refine lw_v (.agg #[.int .u64 0, .int .u64 0, .int .u64 0, .int .u64 0]) (dv_build (pv := []) (l := [.int .u64 0, .int .u64 0, .int .u64 0, .int .u64 0]) zc26 pl26 trivial rfl) ?_
    have H87 := (e13.blk n8.blk)
    refine lw_e (oe_store (v := .agg #[.int .u64 0, .int .u64 0, .int .u64 0, .int .u64 0]) (vs := [.int .u64 0, .int .u64 0, .int .u64 0, .int .u64 0]) (l := [.int .u64 0, .int .u64 0, .int .u64 0, .int .u64 0]) (T rfl rfl) (T rfl rfl) sz26 rfl rfl rfl H87 rfl ?_)
    intro w88 s89 H90
    have E91 := below_st E14 N9 s89
    refine lw_v (.bool false) (dv_assign C) ?_
    refine lw_nil ?_
    refine rk_ret Try.func47 (v := .tuple #[.agg #[.int .u64 0, .int .u64 0, .int .u64 0, .int .u64 0], .bool false]) (res2 Try.results47 (rv_cells (l := [.int .u64 0, .int .u64 0, .int .u64 0, .int .u64 0]) agt26 sz26 rfl rfl H90 rfl) (rv_tmp rfl rfl)) ⟨_, rfl, ?_⟩
    have hS : ¬ (rOk x y ∧ fits (x / y)) := fun h => absurd h.1 (by assumption)
    exact ⟨(tu2 (ag4 (vi (wf3 hS)) (vi (wf2 hS)) (vi (wf1 hS)) (vi (wf0 hS))) (vf hS)), E91⟩

end Go.Proofs.Ytcnepihgbnfcpaa.W
