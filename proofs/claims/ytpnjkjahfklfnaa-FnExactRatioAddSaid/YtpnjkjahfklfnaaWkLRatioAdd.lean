/- WkLRatioAdd: walks, written by a program of this session. -/
import Derived.Test.YtpnjkjahfklfnaaWk22
set_option linter.unusedVariables false
set_option linter.unusedSimpArgs false
namespace Go.Proofs.Ytpnjkjahfklfnaa.W
open Go Go.RowKit Go.Proofs.Ytpnjkjahfklfnaa.Fw
attribute [local irreducible] RunK LW AW DV OE Ct
theorem agt34 : aggB Try.prog 34 = some true := by kernel_rfl
theorem co15 : callOk Try.prog 15 = true := by kernel_rfl
theorem co17 : callOk Try.prog 17 = true := by kernel_rfl
theorem co18 : callOk Try.prog 18 = true := by kernel_rfl
theorem co19 : callOk Try.prog 19 = true := by kernel_rfl
theorem co20 : callOk Try.prog 20 = true := by kernel_rfl
theorem co21 : callOk Try.prog 21 = true := by kernel_rfl
theorem co22 : callOk Try.prog 22 = true := by kernel_rfl
theorem co23 : callOk Try.prog 23 = true := by kernel_rfl
theorem co24 : callOk Try.prog 24 = true := by kernel_rfl
theorem co25 : callOk Try.prog 25 = true := by kernel_rfl
theorem co44 : callOk Try.prog 44 = true := by kernel_rfl
theorem co48 : callOk Try.prog 48 = true := by kernel_rfl
theorem co50 : callOk Try.prog 50 = true := by kernel_rfl
theorem co51 : callOk Try.prog 51 = true := by kernel_rfl
theorem co53 : callOk Try.prog 53 = true := by kernel_rfl
theorem co57 : callOk Try.prog 57 = true := by kernel_rfl
theorem co58 : callOk Try.prog 58 = true := by kernel_rfl
theorem eg25 : Try.prog.eqGuardType Try.prog.depth 25 = false := by kernel_rfl
theorem fl25 : flatB Try.prog 25 .u64 4 = true := by kernel_rfl
theorem sz34 : sizeB Try.prog 34 = some 8 := by kernel_rfl
set_option maxHeartbeats 1000000 in
theorem iRatioAdd_ok {w : World} {x y p q : Int} (fx_ : fits x) (fy_ : fits y) (fp_ : fits p) (fq_ : fits q)  : Ct Try.prog 25 [.agg #[.int .u64 (wv3 x), .int .u64 (wv2 x), .int .u64 (wv1 x), .int .u64 (wv0 x), .int .u64 (wv3 y), .int .u64 (wv2 y), .int .u64 (wv1 y), .int .u64 (wv0 y)], .agg #[.int .u64 (wv3 p), .int .u64 (wv2 p), .int .u64 (wv1 p), .int .u64 (wv0 p), .int .u64 (wv3 q), .int .u64 (wv2 q), .int .u64 (wv1 q), .int .u64 (wv0 q)]] w fun v w1 => v = .tuple #[.agg #[.int .u64 (wv3 (pkz (rOk x y ∧ rOk p q ∧ rFit (x * q + p * y) (y * q)) (rUp (x * q + p * y) (y * q)))), .int .u64 (wv2 (pkz (rOk x y ∧ rOk p q ∧ rFit (x * q + p * y) (y * q)) (rUp (x * q + p * y) (y * q)))), .int .u64 (wv1 (pkz (rOk x y ∧ rOk p q ∧ rFit (x * q + p * y) (y * q)) (rUp (x * q + p * y) (y * q)))), .int .u64 (wv0 (pkz (rOk x y ∧ rOk p q ∧ rFit (x * q + p * y) (y * q)) (rUp (x * q + p * y) (y * q)))), .int .u64 (wv3 (pkz (rOk x y ∧ rOk p q ∧ rFit (x * q + p * y) (y * q)) (rDn (x * q + p * y) (y * q)))), .int .u64 (wv2 (pkz (rOk x y ∧ rOk p q ∧ rFit (x * q + p * y) (y * q)) (rDn (x * q + p * y) (y * q)))), .int .u64 (wv1 (pkz (rOk x y ∧ rOk p q ∧ rFit (x * q + p * y) (y * q)) (rDn (x * q + p * y) (y * q)))), .int .u64 (wv0 (pkz (rOk x y ∧ rOk p q ∧ rFit (x * q + p * y) (y * q)) (rDn (x * q + p * y) (y * q))))], .bool (decide (rOk x y ∧ rOk p q ∧ rFit (x * q + p * y) (y * q)))] ∧ Ext w w1 := by
  refine ct_run (n := 23) Try.func25 rfl Try.ntmps25 rfl ?_
  have E0 : Below w.heap.size w w := Below.refl _ _
  refine rk_seq ?_
  refine rk_reg ?_
  refine lw_e (oe_box (v := .agg #[.int .u64 (wv3 x), .int .u64 (wv2 x), .int .u64 (wv1 x), .int .u64 (wv0 x), .int .u64 (wv3 y), .int .u64 (wv2 y), .int .u64 (wv1 y), .int .u64 (wv0 y)]) (cs := #[.int .u64 (wv3 x), .int .u64 (wv2 x), .int .u64 (wv1 x), .int .u64 (wv0 x), .int .u64 (wv3 y), .int .u64 (wv2 y), .int .u64 (wv1 y), .int .u64 (wv0 y)]) (T rfl rfl) rfl ?_)
  intro b1 w2 n3
  have N4 : w.heap.size ≤ b1 := n3.eq ▸ E0.size
  have E5 := below_ext E0 E0.size n3.ext
  refine lw_e (oe_box (v := .agg #[.int .u64 (wv3 p), .int .u64 (wv2 p), .int .u64 (wv1 p), .int .u64 (wv0 p), .int .u64 (wv3 q), .int .u64 (wv2 q), .int .u64 (wv1 q), .int .u64 (wv0 q)]) (cs := #[.int .u64 (wv3 p), .int .u64 (wv2 p), .int .u64 (wv1 p), .int .u64 (wv0 p), .int .u64 (wv3 q), .int .u64 (wv2 q), .int .u64 (wv1 q), .int .u64 (wv0 q)]) (T rfl rfl) rfl ?_)
  intro b6 w7 n8
  have N9 : w.heap.size ≤ b6 := n8.eq ▸ E5.size
  have : b1 < b6 := n8.eq ▸ lt_of_blk n3.blk
  have E10 := below_ext E5 E5.size n8.ext
  refine lw_e (oe_alloc ze27 ?_)
  intro b11 w12 n13
  have N14 : w.heap.size ≤ b11 := n13.eq ▸ E10.size
  have : b6 < b11 := n13.eq ▸ lt_of_blk n8.blk
  have E15 := below_ext E10 E10.size n13.ext
  refine lw_v (.bool false) (dv_assign C) ?_
  refine lw_nil ?_
  refine rk_seq ?_
  refine rk_seq ?_
  refine rk_reg ?_
  have H16 := (n13.ext.blk (n8.ext.blk n3.blk))
  refine lw_v (.agg #[.int .u64 (wv3 x), .int .u64 (wv2 x), .int .u64 (wv1 x), .int .u64 (wv0 x), .int .u64 (wv3 y), .int .u64 (wv2 y), .int .u64 (wv1 y), .int .u64 (wv0 y)]) (dv_loads (l := [.int .u64 (wv3 x), .int .u64 (wv2 x), .int .u64 (wv1 x), .int .u64 (wv0 x), .int .u64 (wv3 y), .int .u64 (wv2 y), .int .u64 (wv1 y), .int .u64 (wv0 y)]) agt27 sz27 (T rfl rfl) H16 rfl) ?_
  refine lw_e (oe_callf (vs := [.agg #[.int .u64 (wv3 x), .int .u64 (wv2 x), .int .u64 (wv1 x), .int .u64 (wv0 x), .int .u64 (wv3 y), .int .u64 (wv2 y), .int .u64 (wv1 y), .int .u64 (wv0 y)]]) co53 (ar1 (T rfl rfl)) (iRatioOk_ok (x := x) (y := y) fx_ fy_ ) ?_)
  rintro _ w17 ⟨rfl, e18⟩
  have E19 := below_ext E15 E15.size e18
  refine lw_v (.bool (decide (¬ (rOk x y)))) (dv_notd (p := rOk x y) (T rfl rfl)) ?_
  refine lw_v (.bool (decide (¬ (rOk x y)))) (dv_move (T rfl rfl)) ?_
  by_cases hb20 : rOk x y
  · -- T
    have H21 := (e18.blk (n13.ext.blk n8.blk))
    refine lw_vy (.agg #[.int .u64 (wv3 p), .int .u64 (wv2 p), .int .u64 (wv1 p), .int .u64 (wv0 p), .int .u64 (wv3 q), .int .u64 (wv2 q), .int .u64 (wv1 q), .int .u64 (wv0 q)]) (d := 9) rfl rfl (congrArg Value.bool (decide_eq_false (not_not_intro hb20))) (dv_loads (l := [.int .u64 (wv3 p), .int .u64 (wv2 p), .int .u64 (wv1 p), .int .u64 (wv0 p), .int .u64 (wv3 q), .int .u64 (wv2 q), .int .u64 (wv1 q), .int .u64 (wv0 q)]) agt27 sz27 (T rfl rfl) H21 rfl) ?_
    refine lw_ey (d := 9) rfl rfl (congrArg Value.bool (decide_eq_false (not_not_intro hb20))) (oe_callf (vs := [.agg #[.int .u64 (wv3 p), .int .u64 (wv2 p), .int .u64 (wv1 p), .int .u64 (wv0 p), .int .u64 (wv3 q), .int .u64 (wv2 q), .int .u64 (wv1 q), .int .u64 (wv0 q)]]) co53 (ar1 (T rfl rfl)) (iRatioOk_ok (x := p) (y := q) fp_ fq_ ) ?_)
    rintro _ w22 ⟨rfl, e23⟩
    have E24 := below_ext E19 E19.size e23
    refine lw_vy (.bool (decide (¬ (rOk p q)))) (d := 9) rfl rfl (congrArg Value.bool (decide_eq_false (not_not_intro hb20))) (dv_notd (p := rOk p q) (T rfl rfl)) ?_
    refine lw_v (.bool (decide (¬ (rOk p q)))) (dv_pick_f (T rfl (congrArg Value.bool (decide_eq_false (not_not_intro hb20)))) (T rfl rfl)) ?_
    refine lw_nil ?_
    by_cases hb25 : rOk p q
    · -- TT
      refine rk_cf (T rfl (congrArg Value.bool (decide_eq_false (not_not_intro hb25)))) ?_
      refine rk_skip ?_
      refine rk_seq ?_
      refine rk_any (fun w => w.heap[b1]? = some (.cells #[.int .u64 (wv3 x), .int .u64 (wv2 x), .int .u64 (wv1 x), .int .u64 (wv0 x), .int .u64 (wv3 y), .int .u64 (wv2 y), .int .u64 (wv1 y), .int .u64 (wv0 y)] 27) ∧ w.heap[b6]? = some (.cells #[.int .u64 (wv3 p), .int .u64 (wv2 p), .int .u64 (wv1 p), .int .u64 (wv0 p), .int .u64 (wv3 q), .int .u64 (wv2 q), .int .u64 (wv1 q), .int .u64 (wv0 q)] 27)) [9] mo ?_
      intro w26 d27
      have E28 := below_ext E24 E24.size d27.ext
      have H29 := (d27.ext.blk (e23.blk (e18.blk H16)))
      have H30 := (d27.ext.blk (e23.blk H21))
      refine aw_load 0 (.agg #[.int .u64 (wv3 x), .int .u64 (wv2 x), .int .u64 (wv1 x), .int .u64 (wv0 x), .int .u64 (wv3 y), .int .u64 (wv2 y), .int .u64 (wv1 y), .int .u64 (wv0 y)]) rfl (by kernel_rfl) .none ⟨H29, H30⟩ (fun _ s => dv_loads (l := [.int .u64 (wv3 x), .int .u64 (wv2 x), .int .u64 (wv1 x), .int .u64 (wv0 x), .int .u64 (wv3 y), .int .u64 (wv2 y), .int .u64 (wv1 y), .int .u64 (wv0 y)]) agt27 sz27 (T rfl rfl) s.1 rfl) ?_
      refine aw_load 2 (.agg #[.int .u64 (wv3 p), .int .u64 (wv2 p), .int .u64 (wv1 p), .int .u64 (wv0 p), .int .u64 (wv3 q), .int .u64 (wv2 q), .int .u64 (wv1 q), .int .u64 (wv0 q)]) rfl (by kernel_rfl) .none ⟨H29, H30⟩ (fun _ s => dv_loads (l := [.int .u64 (wv3 p), .int .u64 (wv2 p), .int .u64 (wv1 p), .int .u64 (wv0 p), .int .u64 (wv3 q), .int .u64 (wv2 q), .int .u64 (wv1 q), .int .u64 (wv0 q)]) agt27 sz27 (T rfl rfl) s.2 rfl) ?_
      refine aw_one 1 rfl (by kernel_rfl) .none (oe_callf (vs := [.agg #[.int .u64 (wv3 x), .int .u64 (wv2 x), .int .u64 (wv1 x), .int .u64 (wv0 x), .int .u64 (wv3 y), .int .u64 (wv2 y), .int .u64 (wv1 y), .int .u64 (wv0 y)]]) co54 (ar1 (T rfl rfl)) (iratio_ok fx_ fy_  ) ?_)
      rintro _ w41 ⟨nr31, A32, n33, c34, nr35, A36, n37, c38, rfl, e42, h39, h40⟩
      have E43 := below_ext E28 E28.size e42
      have lh39 := Num.len (by decide) h39
      have lh40 := Num.len (by decide) h40
      have H44 := (e42.blk H29)
      have H45 := (e42.blk H30)
      refine ⟨.inr ⟨H44, H45⟩, ?_⟩
      refine aw_one 3 rfl (by kernel_rfl) .none (oe_callf (vs := [.agg #[.int .u64 (wv3 p), .int .u64 (wv2 p), .int .u64 (wv1 p), .int .u64 (wv0 p), .int .u64 (wv3 q), .int .u64 (wv2 q), .int .u64 (wv1 q), .int .u64 (wv0 q)]]) co54 (ar1 (T rfl rfl)) (iratio_ok fp_ fq_  ) ?_)
      rintro _ w56 ⟨nr46, A47, n48, c49, nr50, A51, n52, c53, rfl, e57, h54, h55⟩
      have E58 := below_ext E43 E43.size e57
      have lh54 := Num.len (by decide) h54
      have lh55 := Num.len (by decide) h55
      have H59 := (e57.blk H44)
      have H60 := (e57.blk H45)
      refine ⟨.inr ⟨H59, H60⟩, ?_⟩
      have h61 := (h39.ext e57)
      have h62 := (h40.ext e57)
      refine aw_one 4 rfl (by kernel_rfl) .none (oe_callf (vs := [.agg #[.bool nr31, .slice A32 n33 c34, .bool nr35, .slice A36 n37 c38], .agg #[.bool nr46, .slice A47 n48 c49, .bool nr50, .slice A51 n52 c53]]) co58 (ar2 (T rfl rfl) (T rfl rfl)) (rplus_ok h61 h62 h54 h55 (by first | decide | omega) (by first | decide | omega) (by first | decide | omega) (by first | decide | omega) ) ?_)
      rintro _ w73 ⟨nr63, A64, n65, c66, nr67, A68, n69, c70, rfl, e74, h71, h72⟩
      have E75 := below_ext E58 E58.size e74
      have lh71 := Num.len (by decide) h71
      have lh72 := Num.len (by decide) h72
      have H76 := (e74.blk H59)
      have H77 := (e74.blk H60)
      refine ⟨.inr ⟨H76, H77⟩, ?_⟩
      refine aw_one 5 rfl (by kernel_rfl) .none (oe_callf (vs := [.agg #[.bool nr63, .slice A64 n65 c66, .bool nr67, .slice A68 n69 c70]]) co48 (ar1 (T rfl rfl)) (told_ok h71 h72 (by first | decide | omega) (by first | decide | omega) ) ?_)
      rintro _ w78 ⟨rfl, e79⟩
      have E80 := below_ext E75 E75.size e79
      have H81 := (e79.blk H76)
      have H82 := (e79.blk H77)
      refine ⟨.inr ⟨H81, H82⟩, ?_⟩
      refine aw_pure 6 (.agg #[.int .u64 (wv3 (pkz (rFit (x * q + p * y) (y * q)) (rUp (x * q + p * y) (y * q)))), .int .u64 (wv2 (pkz (rFit (x * q + p * y) (y * q)) (rUp (x * q + p * y) (y * q)))), .int .u64 (wv1 (pkz (rFit (x * q + p * y) (y * q)) (rUp (x * q + p * y) (y * q)))), .int .u64 (wv0 (pkz (rFit (x * q + p * y) (y * q)) (rUp (x * q + p * y) (y * q)))), .int .u64 (wv3 (pkz (rFit (x * q + p * y) (y * q)) (rDn (x * q + p * y) (y * q)))), .int .u64 (wv2 (pkz (rFit (x * q + p * y) (y * q)) (rDn (x * q + p * y) (y * q)))), .int .u64 (wv1 (pkz (rFit (x * q + p * y) (y * q)) (rDn (x * q + p * y) (y * q)))), .int .u64 (wv0 (pkz (rFit (x * q + p * y) (y * q)) (rDn (x * q + p * y) (y * q))))]) rfl (by kernel_rfl) .none ⟨H81, H82⟩ (fun _ => dv_extract (vs := #[.agg #[.int .u64 (wv3 (pkz (rFit (x * q + p * y) (y * q)) (rUp (x * q + p * y) (y * q)))), .int .u64 (wv2 (pkz (rFit (x * q + p * y) (y * q)) (rUp (x * q + p * y) (y * q)))), .int .u64 (wv1 (pkz (rFit (x * q + p * y) (y * q)) (rUp (x * q + p * y) (y * q)))), .int .u64 (wv0 (pkz (rFit (x * q + p * y) (y * q)) (rUp (x * q + p * y) (y * q)))), .int .u64 (wv3 (pkz (rFit (x * q + p * y) (y * q)) (rDn (x * q + p * y) (y * q)))), .int .u64 (wv2 (pkz (rFit (x * q + p * y) (y * q)) (rDn (x * q + p * y) (y * q)))), .int .u64 (wv1 (pkz (rFit (x * q + p * y) (y * q)) (rDn (x * q + p * y) (y * q)))), .int .u64 (wv0 (pkz (rFit (x * q + p * y) (y * q)) (rDn (x * q + p * y) (y * q))))], .bool (decide (rFit (x * q + p * y) (y * q)))]) (T rfl rfl) rfl) ?_
      refine aw_pure 7 (.bool (decide (rFit (x * q + p * y) (y * q)))) rfl (by kernel_rfl) .none ⟨H81, H82⟩ (fun _ => dv_extract (vs := #[.agg #[.int .u64 (wv3 (pkz (rFit (x * q + p * y) (y * q)) (rUp (x * q + p * y) (y * q)))), .int .u64 (wv2 (pkz (rFit (x * q + p * y) (y * q)) (rUp (x * q + p * y) (y * q)))), .int .u64 (wv1 (pkz (rFit (x * q + p * y) (y * q)) (rUp (x * q + p * y) (y * q)))), .int .u64 (wv0 (pkz (rFit (x * q + p * y) (y * q)) (rUp (x * q + p * y) (y * q)))), .int .u64 (wv3 (pkz (rFit (x * q + p * y) (y * q)) (rDn (x * q + p * y) (y * q)))), .int .u64 (wv2 (pkz (rFit (x * q + p * y) (y * q)) (rDn (x * q + p * y) (y * q)))), .int .u64 (wv1 (pkz (rFit (x * q + p * y) (y * q)) (rDn (x * q + p * y) (y * q)))), .int .u64 (wv0 (pkz (rFit (x * q + p * y) (y * q)) (rDn (x * q + p * y) (y * q))))], .bool (decide (rFit (x * q + p * y) (y * q)))]) (T rfl rfl) rfl) ?_
      have H83 := (e79.blk (e74.blk (e57.blk (e42.blk (d27.ext.blk (e23.blk (e18.blk n13.blk)))))))
      refine aw_one 8 rfl (by kernel_rfl) .none (oe_store (v := .agg #[.int .u64 (wv3 (pkz (rFit (x * q + p * y) (y * q)) (rUp (x * q + p * y) (y * q)))), .int .u64 (wv2 (pkz (rFit (x * q + p * y) (y * q)) (rUp (x * q + p * y) (y * q)))), .int .u64 (wv1 (pkz (rFit (x * q + p * y) (y * q)) (rUp (x * q + p * y) (y * q)))), .int .u64 (wv0 (pkz (rFit (x * q + p * y) (y * q)) (rUp (x * q + p * y) (y * q)))), .int .u64 (wv3 (pkz (rFit (x * q + p * y) (y * q)) (rDn (x * q + p * y) (y * q)))), .int .u64 (wv2 (pkz (rFit (x * q + p * y) (y * q)) (rDn (x * q + p * y) (y * q)))), .int .u64 (wv1 (pkz (rFit (x * q + p * y) (y * q)) (rDn (x * q + p * y) (y * q)))), .int .u64 (wv0 (pkz (rFit (x * q + p * y) (y * q)) (rDn (x * q + p * y) (y * q))))]) (vs := [.int .u64 (wv3 (pkz (rFit (x * q + p * y) (y * q)) (rUp (x * q + p * y) (y * q)))), .int .u64 (wv2 (pkz (rFit (x * q + p * y) (y * q)) (rUp (x * q + p * y) (y * q)))), .int .u64 (wv1 (pkz (rFit (x * q + p * y) (y * q)) (rUp (x * q + p * y) (y * q)))), .int .u64 (wv0 (pkz (rFit (x * q + p * y) (y * q)) (rUp (x * q + p * y) (y * q)))), .int .u64 (wv3 (pkz (rFit (x * q + p * y) (y * q)) (rDn (x * q + p * y) (y * q)))), .int .u64 (wv2 (pkz (rFit (x * q + p * y) (y * q)) (rDn (x * q + p * y) (y * q)))), .int .u64 (wv1 (pkz (rFit (x * q + p * y) (y * q)) (rDn (x * q + p * y) (y * q)))), .int .u64 (wv0 (pkz (rFit (x * q + p * y) (y * q)) (rDn (x * q + p * y) (y * q))))]) (l := [.int .u64 (wv3 (pkz (rFit (x * q + p * y) (y * q)) (rUp (x * q + p * y) (y * q)))), .int .u64 (wv2 (pkz (rFit (x * q + p * y) (y * q)) (rUp (x * q + p * y) (y * q)))), .int .u64 (wv1 (pkz (rFit (x * q + p * y) (y * q)) (rUp (x * q + p * y) (y * q)))), .int .u64 (wv0 (pkz (rFit (x * q + p * y) (y * q)) (rUp (x * q + p * y) (y * q)))), .int .u64 (wv3 (pkz (rFit (x * q + p * y) (y * q)) (rDn (x * q + p * y) (y * q)))), .int .u64 (wv2 (pkz (rFit (x * q + p * y) (y * q)) (rDn (x * q + p * y) (y * q)))), .int .u64 (wv1 (pkz (rFit (x * q + p * y) (y * q)) (rDn (x * q + p * y) (y * q)))), .int .u64 (wv0 (pkz (rFit (x * q + p * y) (y * q)) (rDn (x * q + p * y) (y * q))))]) (T rfl rfl) (T rfl rfl) sz27 rfl rfl rfl H83 rfl ?_)
      intro w84 s85 H86
      have E87 := below_st E80 N14 s85
      have H88 := (s85.blk H81 (by omega))
      have H89 := (s85.blk H82 (by omega))
      refine ⟨.inr ⟨H88, H89⟩, ?_⟩
      refine aw_last 9 (.bool (decide (rFit (x * q + p * y) (y * q)))) rfl (by kernel_rfl) .none (fun _ => dv_assign (T rfl rfl)) ?_
      refine aw_done (by kernel_rfl) ?_
      refine rk_ret Try.func25 (v := .tuple #[.agg #[.int .u64 (wv3 (pkz (rFit (x * q + p * y) (y * q)) (rUp (x * q + p * y) (y * q)))), .int .u64 (wv2 (pkz (rFit (x * q + p * y) (y * q)) (rUp (x * q + p * y) (y * q)))), .int .u64 (wv1 (pkz (rFit (x * q + p * y) (y * q)) (rUp (x * q + p * y) (y * q)))), .int .u64 (wv0 (pkz (rFit (x * q + p * y) (y * q)) (rUp (x * q + p * y) (y * q)))), .int .u64 (wv3 (pkz (rFit (x * q + p * y) (y * q)) (rDn (x * q + p * y) (y * q)))), .int .u64 (wv2 (pkz (rFit (x * q + p * y) (y * q)) (rDn (x * q + p * y) (y * q)))), .int .u64 (wv1 (pkz (rFit (x * q + p * y) (y * q)) (rDn (x * q + p * y) (y * q)))), .int .u64 (wv0 (pkz (rFit (x * q + p * y) (y * q)) (rDn (x * q + p * y) (y * q))))], .bool (decide (rFit (x * q + p * y) (y * q)))]) (res2 Try.results25 (rv_cells (l := [.int .u64 (wv3 (pkz (rFit (x * q + p * y) (y * q)) (rUp (x * q + p * y) (y * q)))), .int .u64 (wv2 (pkz (rFit (x * q + p * y) (y * q)) (rUp (x * q + p * y) (y * q)))), .int .u64 (wv1 (pkz (rFit (x * q + p * y) (y * q)) (rUp (x * q + p * y) (y * q)))), .int .u64 (wv0 (pkz (rFit (x * q + p * y) (y * q)) (rUp (x * q + p * y) (y * q)))), .int .u64 (wv3 (pkz (rFit (x * q + p * y) (y * q)) (rDn (x * q + p * y) (y * q)))), .int .u64 (wv2 (pkz (rFit (x * q + p * y) (y * q)) (rDn (x * q + p * y) (y * q)))), .int .u64 (wv1 (pkz (rFit (x * q + p * y) (y * q)) (rDn (x * q + p * y) (y * q)))), .int .u64 (wv0 (pkz (rFit (x * q + p * y) (y * q)) (rDn (x * q + p * y) (y * q))))]) agt27 sz27 rfl rfl H86 rfl) (rv_tmp rfl rfl)) ⟨_, rfl, ?_⟩
      have hi : (rFit (x * q + p * y) (y * q)) ↔ (rOk x y ∧ rOk p q ∧ rFit (x * q + p * y) (y * q)) := by have h1 : rOk x y := (by first | assumption | simpa using ‹_›); have h2 : rOk p q := (by first | assumption | simpa using ‹_›); first | exact ⟨fun hh => ⟨h1, h2, hh⟩, fun hh => hh.2.2⟩ | exact ⟨fun hh => ⟨h1, h2, (Int.ne_of_gt (Int.mul_pos h1.1 h2.1)), hh⟩, fun hh => hh.2.2.2⟩
      exact ⟨(tu2 (ag8 (vi (by rw [pkz_iff hi])) (vi (by rw [pkz_iff hi])) (vi (by rw [pkz_iff hi])) (vi (by rw [pkz_iff hi])) (vi (by rw [pkz_iff hi])) (vi (by rw [pkz_iff hi])) (vi (by rw [pkz_iff hi])) (vi (by rw [pkz_iff hi]))) (vb hi)), E87⟩
    · -- TF
      refine rk_ct (T rfl (congrArg Value.bool (decide_eq_true hb25))) ?_
      refine rk_seq ?_
      refine rk_reg ?_
      refine lw_v (.agg #[.int .u64 0, .int .u64 0, .int .u64 0, .int .u64 0, .int .u64 0, .int .u64 0, .int .u64 0, .int .u64 0]) (dv_build (pv := []) (l := [.int .u64 0, .int .u64 0, .int .u64 0, .int .u64 0, .int .u64 0, .int .u64 0, .int .u64 0, .int .u64 0]) zc27 pl27 trivial rfl) ?_
      have H90 := (e23.blk (e18.blk n13.blk))
      refine lw_e (oe_store (v := .agg #[.int .u64 0, .int .u64 0, .int .u64 0, .int .u64 0, .int .u64 0, .int .u64 0, .int .u64 0, .int .u64 0]) (vs := [.int .u64 0, .int .u64 0, .int .u64 0, .int .u64 0, .int .u64 0, .int .u64 0, .int .u64 0, .int .u64 0]) (l := [.int .u64 0, .int .u64 0, .int .u64 0, .int .u64 0, .int .u64 0, .int .u64 0, .int .u64 0, .int .u64 0]) (T rfl rfl) (T rfl rfl) sz27 rfl rfl rfl H90 rfl ?_)
      intro w91 s92 H93
      have E94 := below_st E24 N14 s92
      refine lw_v (.bool false) (dv_assign C) ?_
      refine lw_nil ?_
      refine rk_ret Try.func25 (v := .tuple #[.agg #[.int .u64 0, .int .u64 0, .int .u64 0, .int .u64 0, .int .u64 0, .int .u64 0, .int .u64 0, .int .u64 0], .bool false]) (res2 Try.results25 (rv_cells (l := [.int .u64 0, .int .u64 0, .int .u64 0, .int .u64 0, .int .u64 0, .int .u64 0, .int .u64 0, .int .u64 0]) agt27 sz27 rfl rfl H93 rfl) (rv_tmp rfl rfl)) ⟨_, rfl, ?_⟩
      have hS : ¬ (rOk x y ∧ rOk p q ∧ rFit (x * q + p * y) (y * q)) := by first | (intro hh; exact absurd hh.1 (by assumption)) | (intro hh; exact absurd hh.2.1 (by assumption)) | (intro hh; have h1 := hh.2.2.1; simp_all)
      exact ⟨(tu2 (ag8 (vi (wf3 hS)) (vi (wf2 hS)) (vi (wf1 hS)) (vi (wf0 hS)) (vi (wf3 hS)) (vi (wf2 hS)) (vi (wf1 hS)) (vi (wf0 hS))) (vf hS)), E94⟩
  · -- F
    refine lw_no (d := 9) rfl rfl (congrArg Value.bool (decide_eq_true hb20)) ?_
    refine lw_no (d := 9) rfl rfl (congrArg Value.bool (decide_eq_true hb20)) ?_
    refine lw_no (d := 9) rfl rfl (congrArg Value.bool (decide_eq_true hb20)) ?_
    refine lw_v (.bool true) (dv_pick_t (T rfl (congrArg Value.bool (decide_eq_true hb20))) C) ?_
    refine lw_nil ?_
    refine rk_ct (T rfl rfl) ?_
    refine rk_seq ?_
    refine rk_reg ?_
    refine lw_v (.agg #[.int .u64 0, .int .u64 0, .int .u64 0, .int .u64 0, .int .u64 0, .int .u64 0, .int .u64 0, .int .u64 0]) (dv_build (pv := []) (l := [.int .u64 0, .int .u64 0, .int .u64 0, .int .u64 0, .int .u64 0, .int .u64 0, .int .u64 0, .int .u64 0]) zc27 pl27 trivial rfl) ?_
    have H95 := (e18.blk n13.blk)
    refine lw_e (oe_store (v := .agg #[.int .u64 0, .int .u64 0, .int .u64 0, .int .u64 0, .int .u64 0, .int .u64 0, .int .u64 0, .int .u64 0]) (vs := [.int .u64 0, .int .u64 0, .int .u64 0, .int .u64 0, .int .u64 0, .int .u64 0, .int .u64 0, .int .u64 0]) (l := [.int .u64 0, .int .u64 0, .int .u64 0, .int .u64 0, .int .u64 0, .int .u64 0, .int .u64 0, .int .u64 0]) (T rfl rfl) (T rfl rfl) sz27 rfl rfl rfl H95 rfl ?_)
    intro w96 s97 H98
    have E99 := below_st E19 N14 s97
    refine lw_v (.bool false) (dv_assign C) ?_
    refine lw_nil ?_
    refine rk_ret Try.func25 (v := .tuple #[.agg #[.int .u64 0, .int .u64 0, .int .u64 0, .int .u64 0, .int .u64 0, .int .u64 0, .int .u64 0, .int .u64 0], .bool false]) (res2 Try.results25 (rv_cells (l := [.int .u64 0, .int .u64 0, .int .u64 0, .int .u64 0, .int .u64 0, .int .u64 0, .int .u64 0, .int .u64 0]) agt27 sz27 rfl rfl H98 rfl) (rv_tmp rfl rfl)) ⟨_, rfl, ?_⟩
    have hS : ¬ (rOk x y ∧ rOk p q ∧ rFit (x * q + p * y) (y * q)) := by first | (intro hh; exact absurd hh.1 (by assumption)) | (intro hh; exact absurd hh.2.1 (by assumption)) | (intro hh; have h1 := hh.2.2.1; simp_all)
    exact ⟨(tu2 (ag8 (vi (wf3 hS)) (vi (wf2 hS)) (vi (wf1 hS)) (vi (wf0 hS)) (vi (wf3 hS)) (vi (wf2 hS)) (vi (wf1 hS)) (vi (wf0 hS))) (vf hS)), E99⟩

set_option maxHeartbeats 1000000 in
theorem sRatioAdd_ok {w : World} {x y p q : Int} (fx_ : fits x) (fy_ : fits y) (fp_ : fits p) (fq_ : fits q)  : Ct Try.prog 24 [.agg #[.int .u64 (wv3 x), .int .u64 (wv2 x), .int .u64 (wv1 x), .int .u64 (wv0 x), .int .u64 (wv3 y), .int .u64 (wv2 y), .int .u64 (wv1 y), .int .u64 (wv0 y)], .agg #[.int .u64 (wv3 p), .int .u64 (wv2 p), .int .u64 (wv1 p), .int .u64 (wv0 p), .int .u64 (wv3 q), .int .u64 (wv2 q), .int .u64 (wv1 q), .int .u64 (wv0 q)]] w fun v w1 => v = .tuple #[.agg #[.int .u64 (wv3 (pkz (rOk x y ∧ rOk p q ∧ rFit (x * q + p * y) (y * q)) (rUp (x * q + p * y) (y * q)))), .int .u64 (wv2 (pkz (rOk x y ∧ rOk p q ∧ rFit (x * q + p * y) (y * q)) (rUp (x * q + p * y) (y * q)))), .int .u64 (wv1 (pkz (rOk x y ∧ rOk p q ∧ rFit (x * q + p * y) (y * q)) (rUp (x * q + p * y) (y * q)))), .int .u64 (wv0 (pkz (rOk x y ∧ rOk p q ∧ rFit (x * q + p * y) (y * q)) (rUp (x * q + p * y) (y * q)))), .int .u64 (wv3 (pkz (rOk x y ∧ rOk p q ∧ rFit (x * q + p * y) (y * q)) (rDn (x * q + p * y) (y * q)))), .int .u64 (wv2 (pkz (rOk x y ∧ rOk p q ∧ rFit (x * q + p * y) (y * q)) (rDn (x * q + p * y) (y * q)))), .int .u64 (wv1 (pkz (rOk x y ∧ rOk p q ∧ rFit (x * q + p * y) (y * q)) (rDn (x * q + p * y) (y * q)))), .int .u64 (wv0 (pkz (rOk x y ∧ rOk p q ∧ rFit (x * q + p * y) (y * q)) (rDn (x * q + p * y) (y * q))))], .bool (decide (rOk x y ∧ rOk p q ∧ rFit (x * q + p * y) (y * q)))] ∧ Ext w w1 := by
  refine ct_run (n := 23) Try.func24 rfl Try.ntmps24 rfl ?_
  have E0 : Below w.heap.size w w := Below.refl _ _
  refine rk_seq ?_
  refine rk_reg ?_
  refine lw_e (oe_box (v := .agg #[.int .u64 (wv3 x), .int .u64 (wv2 x), .int .u64 (wv1 x), .int .u64 (wv0 x), .int .u64 (wv3 y), .int .u64 (wv2 y), .int .u64 (wv1 y), .int .u64 (wv0 y)]) (cs := #[.int .u64 (wv3 x), .int .u64 (wv2 x), .int .u64 (wv1 x), .int .u64 (wv0 x), .int .u64 (wv3 y), .int .u64 (wv2 y), .int .u64 (wv1 y), .int .u64 (wv0 y)]) (T rfl rfl) rfl ?_)
  intro b1 w2 n3
  have N4 : w.heap.size ≤ b1 := n3.eq ▸ E0.size
  have E5 := below_ext E0 E0.size n3.ext
  refine lw_e (oe_box (v := .agg #[.int .u64 (wv3 p), .int .u64 (wv2 p), .int .u64 (wv1 p), .int .u64 (wv0 p), .int .u64 (wv3 q), .int .u64 (wv2 q), .int .u64 (wv1 q), .int .u64 (wv0 q)]) (cs := #[.int .u64 (wv3 p), .int .u64 (wv2 p), .int .u64 (wv1 p), .int .u64 (wv0 p), .int .u64 (wv3 q), .int .u64 (wv2 q), .int .u64 (wv1 q), .int .u64 (wv0 q)]) (T rfl rfl) rfl ?_)
  intro b6 w7 n8
  have N9 : w.heap.size ≤ b6 := n8.eq ▸ E5.size
  have : b1 < b6 := n8.eq ▸ lt_of_blk n3.blk
  have E10 := below_ext E5 E5.size n8.ext
  refine lw_e (oe_alloc ze27 ?_)
  intro b11 w12 n13
  have N14 : w.heap.size ≤ b11 := n13.eq ▸ E10.size
  have : b6 < b11 := n13.eq ▸ lt_of_blk n8.blk
  have E15 := below_ext E10 E10.size n13.ext
  refine lw_v (.bool false) (dv_assign C) ?_
  refine lw_nil ?_
  refine rk_seq ?_
  refine rk_seq ?_
  refine rk_reg ?_
  have H16 := (n13.ext.blk (n8.ext.blk n3.blk))
  refine lw_v (.agg #[.int .u64 (wv3 x), .int .u64 (wv2 x), .int .u64 (wv1 x), .int .u64 (wv0 x), .int .u64 (wv3 y), .int .u64 (wv2 y), .int .u64 (wv1 y), .int .u64 (wv0 y)]) (dv_loads (l := [.int .u64 (wv3 x), .int .u64 (wv2 x), .int .u64 (wv1 x), .int .u64 (wv0 x), .int .u64 (wv3 y), .int .u64 (wv2 y), .int .u64 (wv1 y), .int .u64 (wv0 y)]) agt27 sz27 (T rfl rfl) H16 rfl) ?_
  refine lw_e (oe_callf (vs := [.agg #[.int .u64 (wv3 x), .int .u64 (wv2 x), .int .u64 (wv1 x), .int .u64 (wv0 x), .int .u64 (wv3 y), .int .u64 (wv2 y), .int .u64 (wv1 y), .int .u64 (wv0 y)]]) co50 (ar1 (T rfl rfl)) (sRatioOk_ok (x := x) (y := y) fx_ fy_ ) ?_)
  rintro _ w17 ⟨rfl, e18⟩
  have E19 := below_ext E15 E15.size e18
  refine lw_v (.bool (decide (¬ (rOk x y)))) (dv_notd (p := rOk x y) (T rfl rfl)) ?_
  refine lw_v (.bool (decide (¬ (rOk x y)))) (dv_move (T rfl rfl)) ?_
  by_cases hb20 : rOk x y
  · -- T
    have H21 := (e18.blk (n13.ext.blk n8.blk))
    refine lw_vy (.agg #[.int .u64 (wv3 p), .int .u64 (wv2 p), .int .u64 (wv1 p), .int .u64 (wv0 p), .int .u64 (wv3 q), .int .u64 (wv2 q), .int .u64 (wv1 q), .int .u64 (wv0 q)]) (d := 9) rfl rfl (congrArg Value.bool (decide_eq_false (not_not_intro hb20))) (dv_loads (l := [.int .u64 (wv3 p), .int .u64 (wv2 p), .int .u64 (wv1 p), .int .u64 (wv0 p), .int .u64 (wv3 q), .int .u64 (wv2 q), .int .u64 (wv1 q), .int .u64 (wv0 q)]) agt27 sz27 (T rfl rfl) H21 rfl) ?_
    refine lw_ey (d := 9) rfl rfl (congrArg Value.bool (decide_eq_false (not_not_intro hb20))) (oe_callf (vs := [.agg #[.int .u64 (wv3 p), .int .u64 (wv2 p), .int .u64 (wv1 p), .int .u64 (wv0 p), .int .u64 (wv3 q), .int .u64 (wv2 q), .int .u64 (wv1 q), .int .u64 (wv0 q)]]) co50 (ar1 (T rfl rfl)) (sRatioOk_ok (x := p) (y := q) fp_ fq_ ) ?_)
    rintro _ w22 ⟨rfl, e23⟩
    have E24 := below_ext E19 E19.size e23
    refine lw_vy (.bool (decide (¬ (rOk p q)))) (d := 9) rfl rfl (congrArg Value.bool (decide_eq_false (not_not_intro hb20))) (dv_notd (p := rOk p q) (T rfl rfl)) ?_
    refine lw_v (.bool (decide (¬ (rOk p q)))) (dv_pick_f (T rfl (congrArg Value.bool (decide_eq_false (not_not_intro hb20)))) (T rfl rfl)) ?_
    refine lw_nil ?_
    by_cases hb25 : rOk p q
    · -- TT
      refine rk_cf (T rfl (congrArg Value.bool (decide_eq_false (not_not_intro hb25)))) ?_
      refine rk_skip ?_
      refine rk_seq ?_
      refine rk_any (fun w => w.heap[b1]? = some (.cells #[.int .u64 (wv3 x), .int .u64 (wv2 x), .int .u64 (wv1 x), .int .u64 (wv0 x), .int .u64 (wv3 y), .int .u64 (wv2 y), .int .u64 (wv1 y), .int .u64 (wv0 y)] 27) ∧ w.heap[b6]? = some (.cells #[.int .u64 (wv3 p), .int .u64 (wv2 p), .int .u64 (wv1 p), .int .u64 (wv0 p), .int .u64 (wv3 q), .int .u64 (wv2 q), .int .u64 (wv1 q), .int .u64 (wv0 q)] 27)) [9] mo ?_
      intro w26 d27
      have E28 := below_ext E24 E24.size d27.ext
      have H29 := (d27.ext.blk (e23.blk (e18.blk H16)))
      have H30 := (d27.ext.blk (e23.blk H21))
      refine aw_load 0 (.agg #[.int .u64 (wv3 x), .int .u64 (wv2 x), .int .u64 (wv1 x), .int .u64 (wv0 x), .int .u64 (wv3 y), .int .u64 (wv2 y), .int .u64 (wv1 y), .int .u64 (wv0 y)]) rfl (by kernel_rfl) .none ⟨H29, H30⟩ (fun _ s => dv_loads (l := [.int .u64 (wv3 x), .int .u64 (wv2 x), .int .u64 (wv1 x), .int .u64 (wv0 x), .int .u64 (wv3 y), .int .u64 (wv2 y), .int .u64 (wv1 y), .int .u64 (wv0 y)]) agt27 sz27 (T rfl rfl) s.1 rfl) ?_
      refine aw_load 2 (.agg #[.int .u64 (wv3 p), .int .u64 (wv2 p), .int .u64 (wv1 p), .int .u64 (wv0 p), .int .u64 (wv3 q), .int .u64 (wv2 q), .int .u64 (wv1 q), .int .u64 (wv0 q)]) rfl (by kernel_rfl) .none ⟨H29, H30⟩ (fun _ s => dv_loads (l := [.int .u64 (wv3 p), .int .u64 (wv2 p), .int .u64 (wv1 p), .int .u64 (wv0 p), .int .u64 (wv3 q), .int .u64 (wv2 q), .int .u64 (wv1 q), .int .u64 (wv0 q)]) agt27 sz27 (T rfl rfl) s.2 rfl) ?_
      refine aw_one 1 rfl (by kernel_rfl) .none (oe_callf (vs := [.agg #[.int .u64 (wv3 x), .int .u64 (wv2 x), .int .u64 (wv1 x), .int .u64 (wv0 x), .int .u64 (wv3 y), .int .u64 (wv2 y), .int .u64 (wv1 y), .int .u64 (wv0 y)]]) co52 (ar1 (T rfl rfl)) (sratio_ok fx_ fy_  ) ?_)
      rintro _ w41 ⟨nr31, A32, n33, c34, nr35, A36, n37, c38, rfl, e42, h39, h40⟩
      have E43 := below_ext E28 E28.size e42
      have lh39 := Num.len (by decide) h39
      have lh40 := Num.len (by decide) h40
      have H44 := (e42.blk H29)
      have H45 := (e42.blk H30)
      refine ⟨.inr ⟨H44, H45⟩, ?_⟩
      refine aw_one 3 rfl (by kernel_rfl) .none (oe_callf (vs := [.agg #[.int .u64 (wv3 p), .int .u64 (wv2 p), .int .u64 (wv1 p), .int .u64 (wv0 p), .int .u64 (wv3 q), .int .u64 (wv2 q), .int .u64 (wv1 q), .int .u64 (wv0 q)]]) co52 (ar1 (T rfl rfl)) (sratio_ok fp_ fq_  ) ?_)
      rintro _ w56 ⟨nr46, A47, n48, c49, nr50, A51, n52, c53, rfl, e57, h54, h55⟩
      have E58 := below_ext E43 E43.size e57
      have lh54 := Num.len (by decide) h54
      have lh55 := Num.len (by decide) h55
      have H59 := (e57.blk H44)
      have H60 := (e57.blk H45)
      refine ⟨.inr ⟨H59, H60⟩, ?_⟩
      have h61 := (h39.ext e57)
      have h62 := (h40.ext e57)
      refine aw_one 4 rfl (by kernel_rfl) .none (oe_callf (vs := [.agg #[.bool nr31, .slice A32 n33 c34, .bool nr35, .slice A36 n37 c38], .agg #[.bool nr46, .slice A47 n48 c49, .bool nr50, .slice A51 n52 c53]]) co57 (ar2 (T rfl rfl) (T rfl rfl)) (l2Add_ok h61 h62 h54 h55 (by first | decide | omega) (by first | decide | omega) (by first | decide | omega) (by first | decide | omega) (by have h1 : rOk x y := (by first | assumption | simpa using ‹_›); have h2 : rOk p q := (by first | assumption | simpa using ‹_›); exact (Int.ne_of_gt (Int.mul_pos h1.1 h2.1)))) ?_)
      rintro _ w73 ⟨nr63, A64, n65, c66, nr67, A68, n69, c70, rfl, e74, h71, h72⟩
      have E75 := below_ext E58 E58.size e74
      have lh71 := Num.len (by decide) h71
      have lh72 := Num.len (by decide) h72
      have H76 := (e74.blk H59)
      have H77 := (e74.blk H60)
      refine ⟨.inr ⟨H76, H77⟩, ?_⟩
      refine aw_one 5 rfl (by kernel_rfl) .none (oe_callf (vs := [.agg #[.bool nr63, .slice A64 n65 c66, .bool nr67, .slice A68 n69 c70]]) co44 (ar1 (T rfl rfl)) (l2Ratio_ok h71 h72 (by first | decide | omega) (by first | decide | omega) ) ?_)
      rintro _ w78 ⟨rfl, e79⟩
      have E80 := below_ext E75 E75.size e79
      have H81 := (e79.blk H76)
      have H82 := (e79.blk H77)
      refine ⟨.inr ⟨H81, H82⟩, ?_⟩
      refine aw_pure 6 (.agg #[.int .u64 (wv3 (pkz (fits (rUp (x * q + p * y) (y * q)) ∧ fits (rDn (x * q + p * y) (y * q))) (rUp (x * q + p * y) (y * q)))), .int .u64 (wv2 (pkz (fits (rUp (x * q + p * y) (y * q)) ∧ fits (rDn (x * q + p * y) (y * q))) (rUp (x * q + p * y) (y * q)))), .int .u64 (wv1 (pkz (fits (rUp (x * q + p * y) (y * q)) ∧ fits (rDn (x * q + p * y) (y * q))) (rUp (x * q + p * y) (y * q)))), .int .u64 (wv0 (pkz (fits (rUp (x * q + p * y) (y * q)) ∧ fits (rDn (x * q + p * y) (y * q))) (rUp (x * q + p * y) (y * q)))), .int .u64 (wv3 (pkz (fits (rUp (x * q + p * y) (y * q)) ∧ fits (rDn (x * q + p * y) (y * q))) (rDn (x * q + p * y) (y * q)))), .int .u64 (wv2 (pkz (fits (rUp (x * q + p * y) (y * q)) ∧ fits (rDn (x * q + p * y) (y * q))) (rDn (x * q + p * y) (y * q)))), .int .u64 (wv1 (pkz (fits (rUp (x * q + p * y) (y * q)) ∧ fits (rDn (x * q + p * y) (y * q))) (rDn (x * q + p * y) (y * q)))), .int .u64 (wv0 (pkz (fits (rUp (x * q + p * y) (y * q)) ∧ fits (rDn (x * q + p * y) (y * q))) (rDn (x * q + p * y) (y * q))))]) rfl (by kernel_rfl) .none ⟨H81, H82⟩ (fun _ => dv_extract (vs := #[.agg #[.int .u64 (wv3 (pkz (fits (rUp (x * q + p * y) (y * q)) ∧ fits (rDn (x * q + p * y) (y * q))) (rUp (x * q + p * y) (y * q)))), .int .u64 (wv2 (pkz (fits (rUp (x * q + p * y) (y * q)) ∧ fits (rDn (x * q + p * y) (y * q))) (rUp (x * q + p * y) (y * q)))), .int .u64 (wv1 (pkz (fits (rUp (x * q + p * y) (y * q)) ∧ fits (rDn (x * q + p * y) (y * q))) (rUp (x * q + p * y) (y * q)))), .int .u64 (wv0 (pkz (fits (rUp (x * q + p * y) (y * q)) ∧ fits (rDn (x * q + p * y) (y * q))) (rUp (x * q + p * y) (y * q)))), .int .u64 (wv3 (pkz (fits (rUp (x * q + p * y) (y * q)) ∧ fits (rDn (x * q + p * y) (y * q))) (rDn (x * q + p * y) (y * q)))), .int .u64 (wv2 (pkz (fits (rUp (x * q + p * y) (y * q)) ∧ fits (rDn (x * q + p * y) (y * q))) (rDn (x * q + p * y) (y * q)))), .int .u64 (wv1 (pkz (fits (rUp (x * q + p * y) (y * q)) ∧ fits (rDn (x * q + p * y) (y * q))) (rDn (x * q + p * y) (y * q)))), .int .u64 (wv0 (pkz (fits (rUp (x * q + p * y) (y * q)) ∧ fits (rDn (x * q + p * y) (y * q))) (rDn (x * q + p * y) (y * q))))], .bool (decide (fits (rUp (x * q + p * y) (y * q)) ∧ fits (rDn (x * q + p * y) (y * q))))]) (T rfl rfl) rfl) ?_
      refine aw_pure 7 (.bool (decide (fits (rUp (x * q + p * y) (y * q)) ∧ fits (rDn (x * q + p * y) (y * q))))) rfl (by kernel_rfl) .none ⟨H81, H82⟩ (fun _ => dv_extract (vs := #[.agg #[.int .u64 (wv3 (pkz (fits (rUp (x * q + p * y) (y * q)) ∧ fits (rDn (x * q + p * y) (y * q))) (rUp (x * q + p * y) (y * q)))), .int .u64 (wv2 (pkz (fits (rUp (x * q + p * y) (y * q)) ∧ fits (rDn (x * q + p * y) (y * q))) (rUp (x * q + p * y) (y * q)))), .int .u64 (wv1 (pkz (fits (rUp (x * q + p * y) (y * q)) ∧ fits (rDn (x * q + p * y) (y * q))) (rUp (x * q + p * y) (y * q)))), .int .u64 (wv0 (pkz (fits (rUp (x * q + p * y) (y * q)) ∧ fits (rDn (x * q + p * y) (y * q))) (rUp (x * q + p * y) (y * q)))), .int .u64 (wv3 (pkz (fits (rUp (x * q + p * y) (y * q)) ∧ fits (rDn (x * q + p * y) (y * q))) (rDn (x * q + p * y) (y * q)))), .int .u64 (wv2 (pkz (fits (rUp (x * q + p * y) (y * q)) ∧ fits (rDn (x * q + p * y) (y * q))) (rDn (x * q + p * y) (y * q)))), .int .u64 (wv1 (pkz (fits (rUp (x * q + p * y) (y * q)) ∧ fits (rDn (x * q + p * y) (y * q))) (rDn (x * q + p * y) (y * q)))), .int .u64 (wv0 (pkz (fits (rUp (x * q + p * y) (y * q)) ∧ fits (rDn (x * q + p * y) (y * q))) (rDn (x * q + p * y) (y * q))))], .bool (decide (fits (rUp (x * q + p * y) (y * q)) ∧ fits (rDn (x * q + p * y) (y * q))))]) (T rfl rfl) rfl) ?_
      have H83 := (e79.blk (e74.blk (e57.blk (e42.blk (d27.ext.blk (e23.blk (e18.blk n13.blk)))))))
      refine aw_one 8 rfl (by kernel_rfl) .none (oe_store (v := .agg #[.int .u64 (wv3 (pkz (fits (rUp (x * q + p * y) (y * q)) ∧ fits (rDn (x * q + p * y) (y * q))) (rUp (x * q + p * y) (y * q)))), .int .u64 (wv2 (pkz (fits (rUp (x * q + p * y) (y * q)) ∧ fits (rDn (x * q + p * y) (y * q))) (rUp (x * q + p * y) (y * q)))), .int .u64 (wv1 (pkz (fits (rUp (x * q + p * y) (y * q)) ∧ fits (rDn (x * q + p * y) (y * q))) (rUp (x * q + p * y) (y * q)))), .int .u64 (wv0 (pkz (fits (rUp (x * q + p * y) (y * q)) ∧ fits (rDn (x * q + p * y) (y * q))) (rUp (x * q + p * y) (y * q)))), .int .u64 (wv3 (pkz (fits (rUp (x * q + p * y) (y * q)) ∧ fits (rDn (x * q + p * y) (y * q))) (rDn (x * q + p * y) (y * q)))), .int .u64 (wv2 (pkz (fits (rUp (x * q + p * y) (y * q)) ∧ fits (rDn (x * q + p * y) (y * q))) (rDn (x * q + p * y) (y * q)))), .int .u64 (wv1 (pkz (fits (rUp (x * q + p * y) (y * q)) ∧ fits (rDn (x * q + p * y) (y * q))) (rDn (x * q + p * y) (y * q)))), .int .u64 (wv0 (pkz (fits (rUp (x * q + p * y) (y * q)) ∧ fits (rDn (x * q + p * y) (y * q))) (rDn (x * q + p * y) (y * q))))]) (vs := [.int .u64 (wv3 (pkz (fits (rUp (x * q + p * y) (y * q)) ∧ fits (rDn (x * q + p * y) (y * q))) (rUp (x * q + p * y) (y * q)))), .int .u64 (wv2 (pkz (fits (rUp (x * q + p * y) (y * q)) ∧ fits (rDn (x * q + p * y) (y * q))) (rUp (x * q + p * y) (y * q)))), .int .u64 (wv1 (pkz (fits (rUp (x * q + p * y) (y * q)) ∧ fits (rDn (x * q + p * y) (y * q))) (rUp (x * q + p * y) (y * q)))), .int .u64 (wv0 (pkz (fits (rUp (x * q + p * y) (y * q)) ∧ fits (rDn (x * q + p * y) (y * q))) (rUp (x * q + p * y) (y * q)))), .int .u64 (wv3 (pkz (fits (rUp (x * q + p * y) (y * q)) ∧ fits (rDn (x * q + p * y) (y * q))) (rDn (x * q + p * y) (y * q)))), .int .u64 (wv2 (pkz (fits (rUp (x * q + p * y) (y * q)) ∧ fits (rDn (x * q + p * y) (y * q))) (rDn (x * q + p * y) (y * q)))), .int .u64 (wv1 (pkz (fits (rUp (x * q + p * y) (y * q)) ∧ fits (rDn (x * q + p * y) (y * q))) (rDn (x * q + p * y) (y * q)))), .int .u64 (wv0 (pkz (fits (rUp (x * q + p * y) (y * q)) ∧ fits (rDn (x * q + p * y) (y * q))) (rDn (x * q + p * y) (y * q))))]) (l := [.int .u64 (wv3 (pkz (fits (rUp (x * q + p * y) (y * q)) ∧ fits (rDn (x * q + p * y) (y * q))) (rUp (x * q + p * y) (y * q)))), .int .u64 (wv2 (pkz (fits (rUp (x * q + p * y) (y * q)) ∧ fits (rDn (x * q + p * y) (y * q))) (rUp (x * q + p * y) (y * q)))), .int .u64 (wv1 (pkz (fits (rUp (x * q + p * y) (y * q)) ∧ fits (rDn (x * q + p * y) (y * q))) (rUp (x * q + p * y) (y * q)))), .int .u64 (wv0 (pkz (fits (rUp (x * q + p * y) (y * q)) ∧ fits (rDn (x * q + p * y) (y * q))) (rUp (x * q + p * y) (y * q)))), .int .u64 (wv3 (pkz (fits (rUp (x * q + p * y) (y * q)) ∧ fits (rDn (x * q + p * y) (y * q))) (rDn (x * q + p * y) (y * q)))), .int .u64 (wv2 (pkz (fits (rUp (x * q + p * y) (y * q)) ∧ fits (rDn (x * q + p * y) (y * q))) (rDn (x * q + p * y) (y * q)))), .int .u64 (wv1 (pkz (fits (rUp (x * q + p * y) (y * q)) ∧ fits (rDn (x * q + p * y) (y * q))) (rDn (x * q + p * y) (y * q)))), .int .u64 (wv0 (pkz (fits (rUp (x * q + p * y) (y * q)) ∧ fits (rDn (x * q + p * y) (y * q))) (rDn (x * q + p * y) (y * q))))]) (T rfl rfl) (T rfl rfl) sz27 rfl rfl rfl H83 rfl ?_)
      intro w84 s85 H86
      have E87 := below_st E80 N14 s85
      have H88 := (s85.blk H81 (by omega))
      have H89 := (s85.blk H82 (by omega))
      refine ⟨.inr ⟨H88, H89⟩, ?_⟩
      refine aw_last 9 (.bool (decide (fits (rUp (x * q + p * y) (y * q)) ∧ fits (rDn (x * q + p * y) (y * q))))) rfl (by kernel_rfl) .none (fun _ => dv_assign (T rfl rfl)) ?_
      refine aw_done (by kernel_rfl) ?_
      refine rk_ret Try.func24 (v := .tuple #[.agg #[.int .u64 (wv3 (pkz (fits (rUp (x * q + p * y) (y * q)) ∧ fits (rDn (x * q + p * y) (y * q))) (rUp (x * q + p * y) (y * q)))), .int .u64 (wv2 (pkz (fits (rUp (x * q + p * y) (y * q)) ∧ fits (rDn (x * q + p * y) (y * q))) (rUp (x * q + p * y) (y * q)))), .int .u64 (wv1 (pkz (fits (rUp (x * q + p * y) (y * q)) ∧ fits (rDn (x * q + p * y) (y * q))) (rUp (x * q + p * y) (y * q)))), .int .u64 (wv0 (pkz (fits (rUp (x * q + p * y) (y * q)) ∧ fits (rDn (x * q + p * y) (y * q))) (rUp (x * q + p * y) (y * q)))), .int .u64 (wv3 (pkz (fits (rUp (x * q + p * y) (y * q)) ∧ fits (rDn (x * q + p * y) (y * q))) (rDn (x * q + p * y) (y * q)))), .int .u64 (wv2 (pkz (fits (rUp (x * q + p * y) (y * q)) ∧ fits (rDn (x * q + p * y) (y * q))) (rDn (x * q + p * y) (y * q)))), .int .u64 (wv1 (pkz (fits (rUp (x * q + p * y) (y * q)) ∧ fits (rDn (x * q + p * y) (y * q))) (rDn (x * q + p * y) (y * q)))), .int .u64 (wv0 (pkz (fits (rUp (x * q + p * y) (y * q)) ∧ fits (rDn (x * q + p * y) (y * q))) (rDn (x * q + p * y) (y * q))))], .bool (decide (fits (rUp (x * q + p * y) (y * q)) ∧ fits (rDn (x * q + p * y) (y * q))))]) (res2 Try.results24 (rv_cells (l := [.int .u64 (wv3 (pkz (fits (rUp (x * q + p * y) (y * q)) ∧ fits (rDn (x * q + p * y) (y * q))) (rUp (x * q + p * y) (y * q)))), .int .u64 (wv2 (pkz (fits (rUp (x * q + p * y) (y * q)) ∧ fits (rDn (x * q + p * y) (y * q))) (rUp (x * q + p * y) (y * q)))), .int .u64 (wv1 (pkz (fits (rUp (x * q + p * y) (y * q)) ∧ fits (rDn (x * q + p * y) (y * q))) (rUp (x * q + p * y) (y * q)))), .int .u64 (wv0 (pkz (fits (rUp (x * q + p * y) (y * q)) ∧ fits (rDn (x * q + p * y) (y * q))) (rUp (x * q + p * y) (y * q)))), .int .u64 (wv3 (pkz (fits (rUp (x * q + p * y) (y * q)) ∧ fits (rDn (x * q + p * y) (y * q))) (rDn (x * q + p * y) (y * q)))), .int .u64 (wv2 (pkz (fits (rUp (x * q + p * y) (y * q)) ∧ fits (rDn (x * q + p * y) (y * q))) (rDn (x * q + p * y) (y * q)))), .int .u64 (wv1 (pkz (fits (rUp (x * q + p * y) (y * q)) ∧ fits (rDn (x * q + p * y) (y * q))) (rDn (x * q + p * y) (y * q)))), .int .u64 (wv0 (pkz (fits (rUp (x * q + p * y) (y * q)) ∧ fits (rDn (x * q + p * y) (y * q))) (rDn (x * q + p * y) (y * q))))]) agt27 sz27 rfl rfl H86 rfl) (rv_tmp rfl rfl)) ⟨_, rfl, ?_⟩
      have hi : (fits (rUp (x * q + p * y) (y * q)) ∧ fits (rDn (x * q + p * y) (y * q))) ↔ (rOk x y ∧ rOk p q ∧ rFit (x * q + p * y) (y * q)) := by have h1 : rOk x y := (by first | assumption | simpa using ‹_›); have h2 : rOk p q := (by first | assumption | simpa using ‹_›); first | exact ⟨fun hh => ⟨h1, h2, hh⟩, fun hh => hh.2.2⟩ | exact ⟨fun hh => ⟨h1, h2, (Int.ne_of_gt (Int.mul_pos h1.1 h2.1)), hh⟩, fun hh => hh.2.2.2⟩
      exact ⟨(tu2 (ag8 (vi (by rw [pkz_iff hi])) (vi (by rw [pkz_iff hi])) (vi (by rw [pkz_iff hi])) (vi (by rw [pkz_iff hi])) (vi (by rw [pkz_iff hi])) (vi (by rw [pkz_iff hi])) (vi (by rw [pkz_iff hi])) (vi (by rw [pkz_iff hi]))) (vb hi)), E87⟩
    · -- TF
      refine rk_ct (T rfl (congrArg Value.bool (decide_eq_true hb25))) ?_
      refine rk_seq ?_
      refine rk_reg ?_
      refine lw_v (.agg #[.int .u64 0, .int .u64 0, .int .u64 0, .int .u64 0, .int .u64 0, .int .u64 0, .int .u64 0, .int .u64 0]) (dv_build (pv := []) (l := [.int .u64 0, .int .u64 0, .int .u64 0, .int .u64 0, .int .u64 0, .int .u64 0, .int .u64 0, .int .u64 0]) zc27 pl27 trivial rfl) ?_
      have H90 := (e23.blk (e18.blk n13.blk))
      refine lw_e (oe_store (v := .agg #[.int .u64 0, .int .u64 0, .int .u64 0, .int .u64 0, .int .u64 0, .int .u64 0, .int .u64 0, .int .u64 0]) (vs := [.int .u64 0, .int .u64 0, .int .u64 0, .int .u64 0, .int .u64 0, .int .u64 0, .int .u64 0, .int .u64 0]) (l := [.int .u64 0, .int .u64 0, .int .u64 0, .int .u64 0, .int .u64 0, .int .u64 0, .int .u64 0, .int .u64 0]) (T rfl rfl) (T rfl rfl) sz27 rfl rfl rfl H90 rfl ?_)
      intro w91 s92 H93
      have E94 := below_st E24 N14 s92
      refine lw_v (.bool false) (dv_assign C) ?_
      refine lw_nil ?_
      refine rk_ret Try.func24 (v := .tuple #[.agg #[.int .u64 0, .int .u64 0, .int .u64 0, .int .u64 0, .int .u64 0, .int .u64 0, .int .u64 0, .int .u64 0], .bool false]) (res2 Try.results24 (rv_cells (l := [.int .u64 0, .int .u64 0, .int .u64 0, .int .u64 0, .int .u64 0, .int .u64 0, .int .u64 0, .int .u64 0]) agt27 sz27 rfl rfl H93 rfl) (rv_tmp rfl rfl)) ⟨_, rfl, ?_⟩
      have hS : ¬ (rOk x y ∧ rOk p q ∧ rFit (x * q + p * y) (y * q)) := by first | (intro hh; exact absurd hh.1 (by assumption)) | (intro hh; exact absurd hh.2.1 (by assumption)) | (intro hh; have h1 := hh.2.2.1; simp_all)
      exact ⟨(tu2 (ag8 (vi (wf3 hS)) (vi (wf2 hS)) (vi (wf1 hS)) (vi (wf0 hS)) (vi (wf3 hS)) (vi (wf2 hS)) (vi (wf1 hS)) (vi (wf0 hS))) (vf hS)), E94⟩
  · -- F
    refine lw_no (d := 9) rfl rfl (congrArg Value.bool (decide_eq_true hb20)) ?_
    refine lw_no (d := 9) rfl rfl (congrArg Value.bool (decide_eq_true hb20)) ?_
    refine lw_no (d := 9) rfl rfl (congrArg Value.bool (decide_eq_true hb20)) ?_
    refine lw_v (.bool true) (dv_pick_t (T rfl (congrArg Value.bool (decide_eq_true hb20))) C) ?_
    refine lw_nil ?_
    refine rk_ct (T rfl rfl) ?_
    refine rk_seq ?_
    refine rk_reg ?_
    refine lw_v (.agg #[.int .u64 0, .int .u64 0, .int .u64 0, .int .u64 0, .int .u64 0, .int .u64 0, .int .u64 0, .int .u64 0]) (dv_build (pv := []) (l := [.int .u64 0, .int .u64 0, .int .u64 0, .int .u64 0, .int .u64 0, .int .u64 0, .int .u64 0, .int .u64 0]) zc27 pl27 trivial rfl) ?_
    have H95 := (e18.blk n13.blk)
    refine lw_e (oe_store (v := .agg #[.int .u64 0, .int .u64 0, .int .u64 0, .int .u64 0, .int .u64 0, .int .u64 0, .int .u64 0, .int .u64 0]) (vs := [.int .u64 0, .int .u64 0, .int .u64 0, .int .u64 0, .int .u64 0, .int .u64 0, .int .u64 0, .int .u64 0]) (l := [.int .u64 0, .int .u64 0, .int .u64 0, .int .u64 0, .int .u64 0, .int .u64 0, .int .u64 0, .int .u64 0]) (T rfl rfl) (T rfl rfl) sz27 rfl rfl rfl H95 rfl ?_)
    intro w96 s97 H98
    have E99 := below_st E19 N14 s97
    refine lw_v (.bool false) (dv_assign C) ?_
    refine lw_nil ?_
    refine rk_ret Try.func24 (v := .tuple #[.agg #[.int .u64 0, .int .u64 0, .int .u64 0, .int .u64 0, .int .u64 0, .int .u64 0, .int .u64 0, .int .u64 0], .bool false]) (res2 Try.results24 (rv_cells (l := [.int .u64 0, .int .u64 0, .int .u64 0, .int .u64 0, .int .u64 0, .int .u64 0, .int .u64 0, .int .u64 0]) agt27 sz27 rfl rfl H98 rfl) (rv_tmp rfl rfl)) ⟨_, rfl, ?_⟩
    have hS : ¬ (rOk x y ∧ rOk p q ∧ rFit (x * q + p * y) (y * q)) := by first | (intro hh; exact absurd hh.1 (by assumption)) | (intro hh; exact absurd hh.2.1 (by assumption)) | (intro hh; have h1 := hh.2.2.1; simp_all)
    exact ⟨(tu2 (ag8 (vi (wf3 hS)) (vi (wf2 hS)) (vi (wf1 hS)) (vi (wf0 hS)) (vi (wf3 hS)) (vi (wf2 hS)) (vi (wf1 hS)) (vi (wf0 hS))) (vf hS)), E99⟩

set_option maxHeartbeats 1000000 in
theorem lawRatioAdd_ok {w : World} {x y p q : Int} (fx_ : fits x) (fy_ : fits y) (fp_ : fits p) (fq_ : fits q)  : Ct Try.prog 6 [.agg #[.int .u64 (wv3 x), .int .u64 (wv2 x), .int .u64 (wv1 x), .int .u64 (wv0 x), .int .u64 (wv3 y), .int .u64 (wv2 y), .int .u64 (wv1 y), .int .u64 (wv0 y)], .agg #[.int .u64 (wv3 p), .int .u64 (wv2 p), .int .u64 (wv1 p), .int .u64 (wv0 p), .int .u64 (wv3 q), .int .u64 (wv2 q), .int .u64 (wv1 q), .int .u64 (wv0 q)]] w fun v w1 => v = .bool true ∧ Ext w w1 := by
  refine ct_run (n := 34) Try.func6 rfl Try.ntmps6 rfl ?_
  have E0 : Below w.heap.size w w := Below.refl _ _
  refine rk_seq ?_
  refine rk_reg ?_
  refine lw_e (oe_box (v := .agg #[.int .u64 (wv3 x), .int .u64 (wv2 x), .int .u64 (wv1 x), .int .u64 (wv0 x), .int .u64 (wv3 y), .int .u64 (wv2 y), .int .u64 (wv1 y), .int .u64 (wv0 y)]) (cs := #[.int .u64 (wv3 x), .int .u64 (wv2 x), .int .u64 (wv1 x), .int .u64 (wv0 x), .int .u64 (wv3 y), .int .u64 (wv2 y), .int .u64 (wv1 y), .int .u64 (wv0 y)]) (T rfl rfl) rfl ?_)
  intro b1 w2 n3
  have N4 : w.heap.size ≤ b1 := n3.eq ▸ E0.size
  have E5 := below_ext E0 E0.size n3.ext
  refine lw_e (oe_box (v := .agg #[.int .u64 (wv3 p), .int .u64 (wv2 p), .int .u64 (wv1 p), .int .u64 (wv0 p), .int .u64 (wv3 q), .int .u64 (wv2 q), .int .u64 (wv1 q), .int .u64 (wv0 q)]) (cs := #[.int .u64 (wv3 p), .int .u64 (wv2 p), .int .u64 (wv1 p), .int .u64 (wv0 p), .int .u64 (wv3 q), .int .u64 (wv2 q), .int .u64 (wv1 q), .int .u64 (wv0 q)]) (T rfl rfl) rfl ?_)
  intro b6 w7 n8
  have N9 : w.heap.size ≤ b6 := n8.eq ▸ E5.size
  have : b1 < b6 := n8.eq ▸ lt_of_blk n3.blk
  have E10 := below_ext E5 E5.size n8.ext
  refine lw_v (.bool false) (dv_assign C) ?_
  refine lw_nil ?_
  refine rk_seq ?_
  have H11 := (n8.ext.blk n3.blk)
  have : b1 < w7.heap.size := lt_of_blk H11
  have : b6 < w7.heap.size := lt_of_blk n8.blk
  have : w.heap.size ≤ w7.heap.size := E10.size
  refine rk_par2 [fun vq wq_ => vq = .agg #[.int .u64 (wv3 x), .int .u64 (wv2 x), .int .u64 (wv1 x), .int .u64 (wv0 x), .int .u64 (wv3 y), .int .u64 (wv2 y), .int .u64 (wv1 y), .int .u64 (wv0 y)], fun vq wq_ => vq = .agg #[.int .u64 (wv3 x), .int .u64 (wv2 x), .int .u64 (wv1 x), .int .u64 (wv0 x), .int .u64 (wv3 y), .int .u64 (wv2 y), .int .u64 (wv1 y), .int .u64 (wv0 y)], fun vq wq_ => vq = .agg #[.int .u64 (wv3 p), .int .u64 (wv2 p), .int .u64 (wv1 p), .int .u64 (wv0 p), .int .u64 (wv3 q), .int .u64 (wv2 q), .int .u64 (wv1 q), .int .u64 (wv0 q)], fun vq wq_ => vq = .agg #[.int .u64 (wv3 p), .int .u64 (wv2 p), .int .u64 (wv1 p), .int .u64 (wv0 p), .int .u64 (wv3 q), .int .u64 (wv2 q), .int .u64 (wv1 q), .int .u64 (wv0 q)], fun vq wq_ => vq = .tuple #[.agg #[.int .u64 (wv3 (pkz (rOk x y ∧ rOk p q ∧ rFit (x * q + p * y) (y * q)) (rUp (x * q + p * y) (y * q)))), .int .u64 (wv2 (pkz (rOk x y ∧ rOk p q ∧ rFit (x * q + p * y) (y * q)) (rUp (x * q + p * y) (y * q)))), .int .u64 (wv1 (pkz (rOk x y ∧ rOk p q ∧ rFit (x * q + p * y) (y * q)) (rUp (x * q + p * y) (y * q)))), .int .u64 (wv0 (pkz (rOk x y ∧ rOk p q ∧ rFit (x * q + p * y) (y * q)) (rUp (x * q + p * y) (y * q)))), .int .u64 (wv3 (pkz (rOk x y ∧ rOk p q ∧ rFit (x * q + p * y) (y * q)) (rDn (x * q + p * y) (y * q)))), .int .u64 (wv2 (pkz (rOk x y ∧ rOk p q ∧ rFit (x * q + p * y) (y * q)) (rDn (x * q + p * y) (y * q)))), .int .u64 (wv1 (pkz (rOk x y ∧ rOk p q ∧ rFit (x * q + p * y) (y * q)) (rDn (x * q + p * y) (y * q)))), .int .u64 (wv0 (pkz (rOk x y ∧ rOk p q ∧ rFit (x * q + p * y) (y * q)) (rDn (x * q + p * y) (y * q))))], .bool (decide (rOk x y ∧ rOk p q ∧ rFit (x * q + p * y) (y * q)))], fun vq wq_ => vq = .tuple #[.agg #[.int .u64 (wv3 (pkz (rOk x y ∧ rOk p q ∧ rFit (x * q + p * y) (y * q)) (rUp (x * q + p * y) (y * q)))), .int .u64 (wv2 (pkz (rOk x y ∧ rOk p q ∧ rFit (x * q + p * y) (y * q)) (rUp (x * q + p * y) (y * q)))), .int .u64 (wv1 (pkz (rOk x y ∧ rOk p q ∧ rFit (x * q + p * y) (y * q)) (rUp (x * q + p * y) (y * q)))), .int .u64 (wv0 (pkz (rOk x y ∧ rOk p q ∧ rFit (x * q + p * y) (y * q)) (rUp (x * q + p * y) (y * q)))), .int .u64 (wv3 (pkz (rOk x y ∧ rOk p q ∧ rFit (x * q + p * y) (y * q)) (rDn (x * q + p * y) (y * q)))), .int .u64 (wv2 (pkz (rOk x y ∧ rOk p q ∧ rFit (x * q + p * y) (y * q)) (rDn (x * q + p * y) (y * q)))), .int .u64 (wv1 (pkz (rOk x y ∧ rOk p q ∧ rFit (x * q + p * y) (y * q)) (rDn (x * q + p * y) (y * q)))), .int .u64 (wv0 (pkz (rOk x y ∧ rOk p q ∧ rFit (x * q + p * y) (y * q)) (rDn (x * q + p * y) (y * q))))], .bool (decide (rOk x y ∧ rOk p q ∧ rFit (x * q + p * y) (y * q)))], fun vq wq_ => vq = .agg #[.int .u64 (wv3 (pkz (rOk x y ∧ rOk p q ∧ rFit (x * q + p * y) (y * q)) (rUp (x * q + p * y) (y * q)))), .int .u64 (wv2 (pkz (rOk x y ∧ rOk p q ∧ rFit (x * q + p * y) (y * q)) (rUp (x * q + p * y) (y * q)))), .int .u64 (wv1 (pkz (rOk x y ∧ rOk p q ∧ rFit (x * q + p * y) (y * q)) (rUp (x * q + p * y) (y * q)))), .int .u64 (wv0 (pkz (rOk x y ∧ rOk p q ∧ rFit (x * q + p * y) (y * q)) (rUp (x * q + p * y) (y * q)))), .int .u64 (wv3 (pkz (rOk x y ∧ rOk p q ∧ rFit (x * q + p * y) (y * q)) (rDn (x * q + p * y) (y * q)))), .int .u64 (wv2 (pkz (rOk x y ∧ rOk p q ∧ rFit (x * q + p * y) (y * q)) (rDn (x * q + p * y) (y * q)))), .int .u64 (wv1 (pkz (rOk x y ∧ rOk p q ∧ rFit (x * q + p * y) (y * q)) (rDn (x * q + p * y) (y * q)))), .int .u64 (wv0 (pkz (rOk x y ∧ rOk p q ∧ rFit (x * q + p * y) (y * q)) (rDn (x * q + p * y) (y * q))))], fun vq wq_ => vq = .bool (decide (rOk x y ∧ rOk p q ∧ rFit (x * q + p * y) (y * q))), fun _ _ => True, fun _ _ => True, fun vq wq_ => vq = .bool (decide (rOk x y ∧ rOk p q ∧ rFit (x * q + p * y) (y * q)))] [⟨8, 9, 6, 27, #[.int .u64 0, .int .u64 0, .int .u64 0, .int .u64 0, .int .u64 0, .int .u64 0, .int .u64 0, .int .u64 0]⟩] [27] mo (by kernel_rfl) (by kernel_rfl) ?_ ?_ ?_ ?_ ?_
  · intro e he e2 he2 h; simp only [List.mem_cons, List.not_mem_nil, or_false] at he he2; rcases he with rfl <;> rcases he2 with rfl <;> first | rfl | exact absurd h (by decide)
  · exact ⟨⟨fun v w w2 e h => h, fun v w w2 b cs T fz s hb hT h => h⟩, ⟨fun v w w2 e h => h, fun v w w2 b cs T fz s hb hT h => h⟩, ⟨fun v w w2 e h => h, fun v w w2 b cs T fz s hb hT h => h⟩, ⟨fun v w w2 e h => h, fun v w w2 b cs T fz s hb hT h => h⟩, ⟨fun v w w2 e h => h, fun v w w2 b cs T fz s hb hT h => h⟩, ⟨fun v w w2 e h => h, fun v w w2 b cs T fz s hb hT h => h⟩, ⟨fun v w w2 e h => h, fun v w w2 b cs T fz s hb hT h => h⟩, ⟨fun v w w2 e h => h, fun v w w2 b cs T fz s hb hT h => h⟩, ⟨fun v w w2 e h => h, fun v w w2 b cs T fz s hb hT h => h⟩, ⟨fun v w w2 e h => h, fun v w w2 b cs T fz s hb hT h => h⟩, ⟨fun v w w2 e h => h, fun v w w2 b cs T fz s hb hT h => h⟩, trivial⟩
  · refine ⟨?_, ?_, ?_, ?_, ?_, ?_, ?_, ?_, ?_, ?_, ?_, trivial⟩
    · refine .inr ⟨by kernel_rfl, ?_⟩
      intro fr13 w12 e14 hF15 hD16
      have E17 := below_ext E10 E10.size e14
      have H18 := (e14.blk H11)
      exact DV.oe (dv_loads (l := [.int .u64 (wv3 x), .int .u64 (wv2 x), .int .u64 (wv1 x), .int .u64 (wv0 x), .int .u64 (wv3 y), .int .u64 (wv2 y), .int .u64 (wv1 y), .int .u64 (wv0 y)]) agt34 sz34 (T rfl (hF15 2 (by kernel_rfl))) H18 rfl) ⟨Below.refl _ _, rfl⟩
    · refine .inr ⟨by kernel_rfl, ?_⟩
      intro fr20 w19 e21 hF22 hD23
      have E24 := below_ext E10 E10.size e21
      have hv25 : fr20 10 = .agg #[.int .u64 (wv3 x), .int .u64 (wv2 x), .int .u64 (wv1 x), .int .u64 (wv0 x), .int .u64 (wv3 y), .int .u64 (wv2 y), .int .u64 (wv1 y), .int .u64 (wv0 y)] := hD23 0 _ (by kernel_rfl) rfl (by kernel_rfl)
      refine id (oe_callf (vs := [.agg #[.int .u64 (wv3 x), .int .u64 (wv2 x), .int .u64 (wv1 x), .int .u64 (wv0 x), .int .u64 (wv3 y), .int .u64 (wv2 y), .int .u64 (wv1 y), .int .u64 (wv0 y)]]) co20 (ar1 (T rfl hv25)) (toRatio_ok (x := x) (y := y)  ) ?_)
      rintro _ w26 ⟨rfl, e27⟩
      have E28 := below_ext E24 E24.size e27
      exact ⟨e27, rfl⟩
    · refine .inr ⟨by kernel_rfl, ?_⟩
      intro fr30 w29 e31 hF32 hD33
      have E34 := below_ext E10 E10.size e31
      have H35 := (e31.blk n8.blk)
      exact DV.oe (dv_loads (l := [.int .u64 (wv3 p), .int .u64 (wv2 p), .int .u64 (wv1 p), .int .u64 (wv0 p), .int .u64 (wv3 q), .int .u64 (wv2 q), .int .u64 (wv1 q), .int .u64 (wv0 q)]) agt34 sz34 (T rfl (hF32 3 (by kernel_rfl))) H35 rfl) ⟨Below.refl _ _, rfl⟩
    · refine .inr ⟨by kernel_rfl, ?_⟩
      intro fr37 w36 e38 hF39 hD40
      have E41 := below_ext E10 E10.size e38
      have hv42 : fr37 12 = .agg #[.int .u64 (wv3 p), .int .u64 (wv2 p), .int .u64 (wv1 p), .int .u64 (wv0 p), .int .u64 (wv3 q), .int .u64 (wv2 q), .int .u64 (wv1 q), .int .u64 (wv0 q)] := hD40 2 _ (by kernel_rfl) rfl (by kernel_rfl)
      refine id (oe_callf (vs := [.agg #[.int .u64 (wv3 p), .int .u64 (wv2 p), .int .u64 (wv1 p), .int .u64 (wv0 p), .int .u64 (wv3 q), .int .u64 (wv2 q), .int .u64 (wv1 q), .int .u64 (wv0 q)]]) co20 (ar1 (T rfl hv42)) (toRatio_ok (x := p) (y := q)  ) ?_)
      rintro _ w43 ⟨rfl, e44⟩
      have E45 := below_ext E41 E41.size e44
      exact ⟨e44, rfl⟩
    · refine .inr ⟨by kernel_rfl, ?_⟩
      intro fr47 w46 e48 hF49 hD50
      have E51 := below_ext E10 E10.size e48
      have hv52 : fr47 11 = .agg #[.int .u64 (wv3 x), .int .u64 (wv2 x), .int .u64 (wv1 x), .int .u64 (wv0 x), .int .u64 (wv3 y), .int .u64 (wv2 y), .int .u64 (wv1 y), .int .u64 (wv0 y)] := hD50 1 _ (by kernel_rfl) rfl (by kernel_rfl)
      have hv53 : fr47 13 = .agg #[.int .u64 (wv3 p), .int .u64 (wv2 p), .int .u64 (wv1 p), .int .u64 (wv0 p), .int .u64 (wv3 q), .int .u64 (wv2 q), .int .u64 (wv1 q), .int .u64 (wv0 q)] := hD50 3 _ (by kernel_rfl) rfl (by kernel_rfl)
      refine id (oe_callf (vs := [.agg #[.int .u64 (wv3 x), .int .u64 (wv2 x), .int .u64 (wv1 x), .int .u64 (wv0 x), .int .u64 (wv3 y), .int .u64 (wv2 y), .int .u64 (wv1 y), .int .u64 (wv0 y)], .agg #[.int .u64 (wv3 p), .int .u64 (wv2 p), .int .u64 (wv1 p), .int .u64 (wv0 p), .int .u64 (wv3 q), .int .u64 (wv2 q), .int .u64 (wv1 q), .int .u64 (wv0 q)]]) co24 (ar2 (T rfl hv52) (T rfl hv53)) (sRatioAdd_ok (x := x) (y := y) (p := p) (q := q) fx_ fy_ fp_ fq_ ) ?_)
      rintro _ w54 ⟨rfl, e55⟩
      have E56 := below_ext E51 E51.size e55
      exact ⟨e55, rfl⟩
    · refine .inr ⟨by kernel_rfl, ?_⟩
      intro fr58 w57 e59 hF60 hD61
      have E62 := below_ext E10 E10.size e59
      have hv63 : fr58 14 = .tuple #[.agg #[.int .u64 (wv3 (pkz (rOk x y ∧ rOk p q ∧ rFit (x * q + p * y) (y * q)) (rUp (x * q + p * y) (y * q)))), .int .u64 (wv2 (pkz (rOk x y ∧ rOk p q ∧ rFit (x * q + p * y) (y * q)) (rUp (x * q + p * y) (y * q)))), .int .u64 (wv1 (pkz (rOk x y ∧ rOk p q ∧ rFit (x * q + p * y) (y * q)) (rUp (x * q + p * y) (y * q)))), .int .u64 (wv0 (pkz (rOk x y ∧ rOk p q ∧ rFit (x * q + p * y) (y * q)) (rUp (x * q + p * y) (y * q)))), .int .u64 (wv3 (pkz (rOk x y ∧ rOk p q ∧ rFit (x * q + p * y) (y * q)) (rDn (x * q + p * y) (y * q)))), .int .u64 (wv2 (pkz (rOk x y ∧ rOk p q ∧ rFit (x * q + p * y) (y * q)) (rDn (x * q + p * y) (y * q)))), .int .u64 (wv1 (pkz (rOk x y ∧ rOk p q ∧ rFit (x * q + p * y) (y * q)) (rDn (x * q + p * y) (y * q)))), .int .u64 (wv0 (pkz (rOk x y ∧ rOk p q ∧ rFit (x * q + p * y) (y * q)) (rDn (x * q + p * y) (y * q))))], .bool (decide (rOk x y ∧ rOk p q ∧ rFit (x * q + p * y) (y * q)))] := hD61 4 _ (by kernel_rfl) rfl (by kernel_rfl)
      exact DV.oe (dv_move (T rfl hv63)) ⟨Below.refl _ _, rfl⟩
    · refine .inr ⟨by kernel_rfl, ?_⟩
      intro fr65 w64 e66 hF67 hD68
      have E69 := below_ext E10 E10.size e66
      have hv70 : fr65 9 = .tuple #[.agg #[.int .u64 (wv3 (pkz (rOk x y ∧ rOk p q ∧ rFit (x * q + p * y) (y * q)) (rUp (x * q + p * y) (y * q)))), .int .u64 (wv2 (pkz (rOk x y ∧ rOk p q ∧ rFit (x * q + p * y) (y * q)) (rUp (x * q + p * y) (y * q)))), .int .u64 (wv1 (pkz (rOk x y ∧ rOk p q ∧ rFit (x * q + p * y) (y * q)) (rUp (x * q + p * y) (y * q)))), .int .u64 (wv0 (pkz (rOk x y ∧ rOk p q ∧ rFit (x * q + p * y) (y * q)) (rUp (x * q + p * y) (y * q)))), .int .u64 (wv3 (pkz (rOk x y ∧ rOk p q ∧ rFit (x * q + p * y) (y * q)) (rDn (x * q + p * y) (y * q)))), .int .u64 (wv2 (pkz (rOk x y ∧ rOk p q ∧ rFit (x * q + p * y) (y * q)) (rDn (x * q + p * y) (y * q)))), .int .u64 (wv1 (pkz (rOk x y ∧ rOk p q ∧ rFit (x * q + p * y) (y * q)) (rDn (x * q + p * y) (y * q)))), .int .u64 (wv0 (pkz (rOk x y ∧ rOk p q ∧ rFit (x * q + p * y) (y * q)) (rDn (x * q + p * y) (y * q))))], .bool (decide (rOk x y ∧ rOk p q ∧ rFit (x * q + p * y) (y * q)))] := hD68 5 _ (by kernel_rfl) rfl (by kernel_rfl)
      exact DV.oe (dv_extract (vs := #[.agg #[.int .u64 (wv3 (pkz (rOk x y ∧ rOk p q ∧ rFit (x * q + p * y) (y * q)) (rUp (x * q + p * y) (y * q)))), .int .u64 (wv2 (pkz (rOk x y ∧ rOk p q ∧ rFit (x * q + p * y) (y * q)) (rUp (x * q + p * y) (y * q)))), .int .u64 (wv1 (pkz (rOk x y ∧ rOk p q ∧ rFit (x * q + p * y) (y * q)) (rUp (x * q + p * y) (y * q)))), .int .u64 (wv0 (pkz (rOk x y ∧ rOk p q ∧ rFit (x * q + p * y) (y * q)) (rUp (x * q + p * y) (y * q)))), .int .u64 (wv3 (pkz (rOk x y ∧ rOk p q ∧ rFit (x * q + p * y) (y * q)) (rDn (x * q + p * y) (y * q)))), .int .u64 (wv2 (pkz (rOk x y ∧ rOk p q ∧ rFit (x * q + p * y) (y * q)) (rDn (x * q + p * y) (y * q)))), .int .u64 (wv1 (pkz (rOk x y ∧ rOk p q ∧ rFit (x * q + p * y) (y * q)) (rDn (x * q + p * y) (y * q)))), .int .u64 (wv0 (pkz (rOk x y ∧ rOk p q ∧ rFit (x * q + p * y) (y * q)) (rDn (x * q + p * y) (y * q))))], .bool (decide (rOk x y ∧ rOk p q ∧ rFit (x * q + p * y) (y * q)))]) (T rfl hv70) rfl) ⟨Below.refl _ _, rfl⟩
    · refine .inr ⟨by kernel_rfl, ?_⟩
      intro fr72 w71 e73 hF74 hD75
      have E76 := below_ext E10 E10.size e73
      have hv77 : fr72 9 = .tuple #[.agg #[.int .u64 (wv3 (pkz (rOk x y ∧ rOk p q ∧ rFit (x * q + p * y) (y * q)) (rUp (x * q + p * y) (y * q)))), .int .u64 (wv2 (pkz (rOk x y ∧ rOk p q ∧ rFit (x * q + p * y) (y * q)) (rUp (x * q + p * y) (y * q)))), .int .u64 (wv1 (pkz (rOk x y ∧ rOk p q ∧ rFit (x * q + p * y) (y * q)) (rUp (x * q + p * y) (y * q)))), .int .u64 (wv0 (pkz (rOk x y ∧ rOk p q ∧ rFit (x * q + p * y) (y * q)) (rUp (x * q + p * y) (y * q)))), .int .u64 (wv3 (pkz (rOk x y ∧ rOk p q ∧ rFit (x * q + p * y) (y * q)) (rDn (x * q + p * y) (y * q)))), .int .u64 (wv2 (pkz (rOk x y ∧ rOk p q ∧ rFit (x * q + p * y) (y * q)) (rDn (x * q + p * y) (y * q)))), .int .u64 (wv1 (pkz (rOk x y ∧ rOk p q ∧ rFit (x * q + p * y) (y * q)) (rDn (x * q + p * y) (y * q)))), .int .u64 (wv0 (pkz (rOk x y ∧ rOk p q ∧ rFit (x * q + p * y) (y * q)) (rDn (x * q + p * y) (y * q))))], .bool (decide (rOk x y ∧ rOk p q ∧ rFit (x * q + p * y) (y * q)))] := hD75 5 _ (by kernel_rfl) rfl (by kernel_rfl)
      exact DV.oe (dv_extract (vs := #[.agg #[.int .u64 (wv3 (pkz (rOk x y ∧ rOk p q ∧ rFit (x * q + p * y) (y * q)) (rUp (x * q + p * y) (y * q)))), .int .u64 (wv2 (pkz (rOk x y ∧ rOk p q ∧ rFit (x * q + p * y) (y * q)) (rUp (x * q + p * y) (y * q)))), .int .u64 (wv1 (pkz (rOk x y ∧ rOk p q ∧ rFit (x * q + p * y) (y * q)) (rUp (x * q + p * y) (y * q)))), .int .u64 (wv0 (pkz (rOk x y ∧ rOk p q ∧ rFit (x * q + p * y) (y * q)) (rUp (x * q + p * y) (y * q)))), .int .u64 (wv3 (pkz (rOk x y ∧ rOk p q ∧ rFit (x * q + p * y) (y * q)) (rDn (x * q + p * y) (y * q)))), .int .u64 (wv2 (pkz (rOk x y ∧ rOk p q ∧ rFit (x * q + p * y) (y * q)) (rDn (x * q + p * y) (y * q)))), .int .u64 (wv1 (pkz (rOk x y ∧ rOk p q ∧ rFit (x * q + p * y) (y * q)) (rDn (x * q + p * y) (y * q)))), .int .u64 (wv0 (pkz (rOk x y ∧ rOk p q ∧ rFit (x * q + p * y) (y * q)) (rDn (x * q + p * y) (y * q))))], .bool (decide (rOk x y ∧ rOk p q ∧ rFit (x * q + p * y) (y * q)))]) (T rfl hv77) rfl) ⟨Below.refl _ _, rfl⟩
    · exact .inl (.inr ⟨by kernel_rfl, fun _ _ => trivial⟩)
    · exact .inl (.inl (by kernel_rfl))
    · refine .inr ⟨by kernel_rfl, ?_⟩
      intro fr93 w92 e94 hF95 hD96
      have E97 := below_ext E10 E10.size e94
      have hv98 : fr93 16 = .bool (decide (rOk x y ∧ rOk p q ∧ rFit (x * q + p * y) (y * q))) := hD96 7 _ (by kernel_rfl) rfl (by kernel_rfl)
      exact DV.oe (dv_assign (T rfl hv98)) ⟨Below.refl _ _, rfl⟩
  · refine ⟨⟨⟨_, rfl, fun _ _ => oe_alloc ze27 fun b w hn => ⟨b, rfl, hn⟩⟩, ⟨_, rfl, ?_⟩⟩, trivial⟩
    · intro fr79 w78 b83 e80 hF81 hD82 hA84 hB85
      have E86 := below_ext E10 E10.size e80
      have hv87 : fr79 15 = .agg #[.int .u64 (wv3 (pkz (rOk x y ∧ rOk p q ∧ rFit (x * q + p * y) (y * q)) (rUp (x * q + p * y) (y * q)))), .int .u64 (wv2 (pkz (rOk x y ∧ rOk p q ∧ rFit (x * q + p * y) (y * q)) (rUp (x * q + p * y) (y * q)))), .int .u64 (wv1 (pkz (rOk x y ∧ rOk p q ∧ rFit (x * q + p * y) (y * q)) (rUp (x * q + p * y) (y * q)))), .int .u64 (wv0 (pkz (rOk x y ∧ rOk p q ∧ rFit (x * q + p * y) (y * q)) (rUp (x * q + p * y) (y * q)))), .int .u64 (wv3 (pkz (rOk x y ∧ rOk p q ∧ rFit (x * q + p * y) (y * q)) (rDn (x * q + p * y) (y * q)))), .int .u64 (wv2 (pkz (rOk x y ∧ rOk p q ∧ rFit (x * q + p * y) (y * q)) (rDn (x * q + p * y) (y * q)))), .int .u64 (wv1 (pkz (rOk x y ∧ rOk p q ∧ rFit (x * q + p * y) (y * q)) (rDn (x * q + p * y) (y * q)))), .int .u64 (wv0 (pkz (rOk x y ∧ rOk p q ∧ rFit (x * q + p * y) (y * q)) (rDn (x * q + p * y) (y * q))))] := hD82 6 _ (by kernel_rfl) rfl (by kernel_rfl)
      refine id (oe_store (v := .agg #[.int .u64 (wv3 (pkz (rOk x y ∧ rOk p q ∧ rFit (x * q + p * y) (y * q)) (rUp (x * q + p * y) (y * q)))), .int .u64 (wv2 (pkz (rOk x y ∧ rOk p q ∧ rFit (x * q + p * y) (y * q)) (rUp (x * q + p * y) (y * q)))), .int .u64 (wv1 (pkz (rOk x y ∧ rOk p q ∧ rFit (x * q + p * y) (y * q)) (rUp (x * q + p * y) (y * q)))), .int .u64 (wv0 (pkz (rOk x y ∧ rOk p q ∧ rFit (x * q + p * y) (y * q)) (rUp (x * q + p * y) (y * q)))), .int .u64 (wv3 (pkz (rOk x y ∧ rOk p q ∧ rFit (x * q + p * y) (y * q)) (rDn (x * q + p * y) (y * q)))), .int .u64 (wv2 (pkz (rOk x y ∧ rOk p q ∧ rFit (x * q + p * y) (y * q)) (rDn (x * q + p * y) (y * q)))), .int .u64 (wv1 (pkz (rOk x y ∧ rOk p q ∧ rFit (x * q + p * y) (y * q)) (rDn (x * q + p * y) (y * q)))), .int .u64 (wv0 (pkz (rOk x y ∧ rOk p q ∧ rFit (x * q + p * y) (y * q)) (rDn (x * q + p * y) (y * q))))]) (vs := [.int .u64 (wv3 (pkz (rOk x y ∧ rOk p q ∧ rFit (x * q + p * y) (y * q)) (rUp (x * q + p * y) (y * q)))), .int .u64 (wv2 (pkz (rOk x y ∧ rOk p q ∧ rFit (x * q + p * y) (y * q)) (rUp (x * q + p * y) (y * q)))), .int .u64 (wv1 (pkz (rOk x y ∧ rOk p q ∧ rFit (x * q + p * y) (y * q)) (rUp (x * q + p * y) (y * q)))), .int .u64 (wv0 (pkz (rOk x y ∧ rOk p q ∧ rFit (x * q + p * y) (y * q)) (rUp (x * q + p * y) (y * q)))), .int .u64 (wv3 (pkz (rOk x y ∧ rOk p q ∧ rFit (x * q + p * y) (y * q)) (rDn (x * q + p * y) (y * q)))), .int .u64 (wv2 (pkz (rOk x y ∧ rOk p q ∧ rFit (x * q + p * y) (y * q)) (rDn (x * q + p * y) (y * q)))), .int .u64 (wv1 (pkz (rOk x y ∧ rOk p q ∧ rFit (x * q + p * y) (y * q)) (rDn (x * q + p * y) (y * q)))), .int .u64 (wv0 (pkz (rOk x y ∧ rOk p q ∧ rFit (x * q + p * y) (y * q)) (rDn (x * q + p * y) (y * q))))]) (l := [.int .u64 (wv3 (pkz (rOk x y ∧ rOk p q ∧ rFit (x * q + p * y) (y * q)) (rUp (x * q + p * y) (y * q)))), .int .u64 (wv2 (pkz (rOk x y ∧ rOk p q ∧ rFit (x * q + p * y) (y * q)) (rUp (x * q + p * y) (y * q)))), .int .u64 (wv1 (pkz (rOk x y ∧ rOk p q ∧ rFit (x * q + p * y) (y * q)) (rUp (x * q + p * y) (y * q)))), .int .u64 (wv0 (pkz (rOk x y ∧ rOk p q ∧ rFit (x * q + p * y) (y * q)) (rUp (x * q + p * y) (y * q)))), .int .u64 (wv3 (pkz (rOk x y ∧ rOk p q ∧ rFit (x * q + p * y) (y * q)) (rDn (x * q + p * y) (y * q)))), .int .u64 (wv2 (pkz (rOk x y ∧ rOk p q ∧ rFit (x * q + p * y) (y * q)) (rDn (x * q + p * y) (y * q)))), .int .u64 (wv1 (pkz (rOk x y ∧ rOk p q ∧ rFit (x * q + p * y) (y * q)) (rDn (x * q + p * y) (y * q)))), .int .u64 (wv0 (pkz (rOk x y ∧ rOk p q ∧ rFit (x * q + p * y) (y * q)) (rDn (x * q + p * y) (y * q))))]) (T rfl hA84) (T rfl hv87) sz27 rfl rfl rfl hB85 rfl ?_)
      intro w88 s89 H90
      exact ⟨s89, H90.trans (congrArg (fun v : Value => some (Obj.cells v.cells 27)) (show fr79 15 = _ from hv87).symm)⟩
  intro fr100 w99 e101 hF102 hP103 hM104 hN105
  have E106 := below_ext E10 E10.size e101
  obtain ⟨_, _, _, _, _, _, p107, _, _, _, p108, _⟩ := hP103
  have hv109 : fr100 15 = .agg #[.int .u64 (wv3 (pkz (rOk x y ∧ rOk p q ∧ rFit (x * q + p * y) (y * q)) (rUp (x * q + p * y) (y * q)))), .int .u64 (wv2 (pkz (rOk x y ∧ rOk p q ∧ rFit (x * q + p * y) (y * q)) (rUp (x * q + p * y) (y * q)))), .int .u64 (wv1 (pkz (rOk x y ∧ rOk p q ∧ rFit (x * q + p * y) (y * q)) (rUp (x * q + p * y) (y * q)))), .int .u64 (wv0 (pkz (rOk x y ∧ rOk p q ∧ rFit (x * q + p * y) (y * q)) (rUp (x * q + p * y) (y * q)))), .int .u64 (wv3 (pkz (rOk x y ∧ rOk p q ∧ rFit (x * q + p * y) (y * q)) (rDn (x * q + p * y) (y * q)))), .int .u64 (wv2 (pkz (rOk x y ∧ rOk p q ∧ rFit (x * q + p * y) (y * q)) (rDn (x * q + p * y) (y * q)))), .int .u64 (wv1 (pkz (rOk x y ∧ rOk p q ∧ rFit (x * q + p * y) (y * q)) (rDn (x * q + p * y) (y * q)))), .int .u64 (wv0 (pkz (rOk x y ∧ rOk p q ∧ rFit (x * q + p * y) (y * q)) (rDn (x * q + p * y) (y * q))))] := p107.resolve_left (nst (by kernel_rfl))
  have hv110 : fr100 6 = .bool (decide (rOk x y ∧ rOk p q ∧ rFit (x * q + p * y) (y * q))) := p108.resolve_left (nst (by kernel_rfl))
  obtain ⟨⟨b111, hA112, hB113, hC114⟩, _⟩ := hM104
  have H115 : w99.heap[b111]? = some (.cells #[.int .u64 (wv3 (pkz (rOk x y ∧ rOk p q ∧ rFit (x * q + p * y) (y * q)) (rUp (x * q + p * y) (y * q)))), .int .u64 (wv2 (pkz (rOk x y ∧ rOk p q ∧ rFit (x * q + p * y) (y * q)) (rUp (x * q + p * y) (y * q)))), .int .u64 (wv1 (pkz (rOk x y ∧ rOk p q ∧ rFit (x * q + p * y) (y * q)) (rUp (x * q + p * y) (y * q)))), .int .u64 (wv0 (pkz (rOk x y ∧ rOk p q ∧ rFit (x * q + p * y) (y * q)) (rUp (x * q + p * y) (y * q)))), .int .u64 (wv3 (pkz (rOk x y ∧ rOk p q ∧ rFit (x * q + p * y) (y * q)) (rDn (x * q + p * y) (y * q)))), .int .u64 (wv2 (pkz (rOk x y ∧ rOk p q ∧ rFit (x * q + p * y) (y * q)) (rDn (x * q + p * y) (y * q)))), .int .u64 (wv1 (pkz (rOk x y ∧ rOk p q ∧ rFit (x * q + p * y) (y * q)) (rDn (x * q + p * y) (y * q)))), .int .u64 (wv0 (pkz (rOk x y ∧ rOk p q ∧ rFit (x * q + p * y) (y * q)) (rDn (x * q + p * y) (y * q))))] 27) := hC114.trans (congrArg (fun v : Value => some (Obj.cells v.cells 27)) hv109)
  have N116 : w.heap.size ≤ b111 := by omega
  refine rk_seq ?_
  have H117 := (e101.blk H11)
  have : b1 < w99.heap.size := lt_of_blk H117
  have H118 := (e101.blk n8.blk)
  have : b6 < w99.heap.size := lt_of_blk H118
  have : b111 < w99.heap.size := lt_of_blk H115
  have : w.heap.size ≤ w99.heap.size := E106.size
  refine rk_par2 [fun vq wq_ => vq = .agg #[.int .u64 (wv3 x), .int .u64 (wv2 x), .int .u64 (wv1 x), .int .u64 (wv0 x), .int .u64 (wv3 y), .int .u64 (wv2 y), .int .u64 (wv1 y), .int .u64 (wv0 y)], fun vq wq_ => vq = .agg #[.int .u64 (wv3 x), .int .u64 (wv2 x), .int .u64 (wv1 x), .int .u64 (wv0 x), .int .u64 (wv3 y), .int .u64 (wv2 y), .int .u64 (wv1 y), .int .u64 (wv0 y)], fun vq wq_ => vq = .agg #[.int .u64 (wv3 p), .int .u64 (wv2 p), .int .u64 (wv1 p), .int .u64 (wv0 p), .int .u64 (wv3 q), .int .u64 (wv2 q), .int .u64 (wv1 q), .int .u64 (wv0 q)], fun vq wq_ => vq = .agg #[.int .u64 (wv3 p), .int .u64 (wv2 p), .int .u64 (wv1 p), .int .u64 (wv0 p), .int .u64 (wv3 q), .int .u64 (wv2 q), .int .u64 (wv1 q), .int .u64 (wv0 q)], fun vq wq_ => vq = .tuple #[.agg #[.int .u64 (wv3 (pkz (rOk x y ∧ rOk p q ∧ rFit (x * q + p * y) (y * q)) (rUp (x * q + p * y) (y * q)))), .int .u64 (wv2 (pkz (rOk x y ∧ rOk p q ∧ rFit (x * q + p * y) (y * q)) (rUp (x * q + p * y) (y * q)))), .int .u64 (wv1 (pkz (rOk x y ∧ rOk p q ∧ rFit (x * q + p * y) (y * q)) (rUp (x * q + p * y) (y * q)))), .int .u64 (wv0 (pkz (rOk x y ∧ rOk p q ∧ rFit (x * q + p * y) (y * q)) (rUp (x * q + p * y) (y * q)))), .int .u64 (wv3 (pkz (rOk x y ∧ rOk p q ∧ rFit (x * q + p * y) (y * q)) (rDn (x * q + p * y) (y * q)))), .int .u64 (wv2 (pkz (rOk x y ∧ rOk p q ∧ rFit (x * q + p * y) (y * q)) (rDn (x * q + p * y) (y * q)))), .int .u64 (wv1 (pkz (rOk x y ∧ rOk p q ∧ rFit (x * q + p * y) (y * q)) (rDn (x * q + p * y) (y * q)))), .int .u64 (wv0 (pkz (rOk x y ∧ rOk p q ∧ rFit (x * q + p * y) (y * q)) (rDn (x * q + p * y) (y * q))))], .bool (decide (rOk x y ∧ rOk p q ∧ rFit (x * q + p * y) (y * q)))], fun vq wq_ => vq = .tuple #[.agg #[.int .u64 (wv3 (pkz (rOk x y ∧ rOk p q ∧ rFit (x * q + p * y) (y * q)) (rUp (x * q + p * y) (y * q)))), .int .u64 (wv2 (pkz (rOk x y ∧ rOk p q ∧ rFit (x * q + p * y) (y * q)) (rUp (x * q + p * y) (y * q)))), .int .u64 (wv1 (pkz (rOk x y ∧ rOk p q ∧ rFit (x * q + p * y) (y * q)) (rUp (x * q + p * y) (y * q)))), .int .u64 (wv0 (pkz (rOk x y ∧ rOk p q ∧ rFit (x * q + p * y) (y * q)) (rUp (x * q + p * y) (y * q)))), .int .u64 (wv3 (pkz (rOk x y ∧ rOk p q ∧ rFit (x * q + p * y) (y * q)) (rDn (x * q + p * y) (y * q)))), .int .u64 (wv2 (pkz (rOk x y ∧ rOk p q ∧ rFit (x * q + p * y) (y * q)) (rDn (x * q + p * y) (y * q)))), .int .u64 (wv1 (pkz (rOk x y ∧ rOk p q ∧ rFit (x * q + p * y) (y * q)) (rDn (x * q + p * y) (y * q)))), .int .u64 (wv0 (pkz (rOk x y ∧ rOk p q ∧ rFit (x * q + p * y) (y * q)) (rDn (x * q + p * y) (y * q))))], .bool (decide (rOk x y ∧ rOk p q ∧ rFit (x * q + p * y) (y * q)))], fun vq wq_ => vq = .agg #[.int .u64 (wv3 (pkz (rOk x y ∧ rOk p q ∧ rFit (x * q + p * y) (y * q)) (rUp (x * q + p * y) (y * q)))), .int .u64 (wv2 (pkz (rOk x y ∧ rOk p q ∧ rFit (x * q + p * y) (y * q)) (rUp (x * q + p * y) (y * q)))), .int .u64 (wv1 (pkz (rOk x y ∧ rOk p q ∧ rFit (x * q + p * y) (y * q)) (rUp (x * q + p * y) (y * q)))), .int .u64 (wv0 (pkz (rOk x y ∧ rOk p q ∧ rFit (x * q + p * y) (y * q)) (rUp (x * q + p * y) (y * q)))), .int .u64 (wv3 (pkz (rOk x y ∧ rOk p q ∧ rFit (x * q + p * y) (y * q)) (rDn (x * q + p * y) (y * q)))), .int .u64 (wv2 (pkz (rOk x y ∧ rOk p q ∧ rFit (x * q + p * y) (y * q)) (rDn (x * q + p * y) (y * q)))), .int .u64 (wv1 (pkz (rOk x y ∧ rOk p q ∧ rFit (x * q + p * y) (y * q)) (rDn (x * q + p * y) (y * q)))), .int .u64 (wv0 (pkz (rOk x y ∧ rOk p q ∧ rFit (x * q + p * y) (y * q)) (rDn (x * q + p * y) (y * q))))], fun vq wq_ => vq = .bool (decide (rOk x y ∧ rOk p q ∧ rFit (x * q + p * y) (y * q))), fun _ _ => True, fun _ _ => True, fun vq wq_ => vq = .bool (decide (rOk x y ∧ rOk p q ∧ rFit (x * q + p * y) (y * q)))] [⟨8, 9, 6, 27, #[.int .u64 0, .int .u64 0, .int .u64 0, .int .u64 0, .int .u64 0, .int .u64 0, .int .u64 0, .int .u64 0]⟩] [27] mo (by kernel_rfl) (by kernel_rfl) ?_ ?_ ?_ ?_ ?_
  · intro e he e2 he2 h; simp only [List.mem_cons, List.not_mem_nil, or_false] at he he2; rcases he with rfl <;> rcases he2 with rfl <;> first | rfl | exact absurd h (by decide)
  · exact ⟨⟨fun v w w2 e h => h, fun v w w2 b cs T fz s hb hT h => h⟩, ⟨fun v w w2 e h => h, fun v w w2 b cs T fz s hb hT h => h⟩, ⟨fun v w w2 e h => h, fun v w w2 b cs T fz s hb hT h => h⟩, ⟨fun v w w2 e h => h, fun v w w2 b cs T fz s hb hT h => h⟩, ⟨fun v w w2 e h => h, fun v w w2 b cs T fz s hb hT h => h⟩, ⟨fun v w w2 e h => h, fun v w w2 b cs T fz s hb hT h => h⟩, ⟨fun v w w2 e h => h, fun v w w2 b cs T fz s hb hT h => h⟩, ⟨fun v w w2 e h => h, fun v w w2 b cs T fz s hb hT h => h⟩, ⟨fun v w w2 e h => h, fun v w w2 b cs T fz s hb hT h => h⟩, ⟨fun v w w2 e h => h, fun v w w2 b cs T fz s hb hT h => h⟩, ⟨fun v w w2 e h => h, fun v w w2 b cs T fz s hb hT h => h⟩, trivial⟩
  · refine ⟨?_, ?_, ?_, ?_, ?_, ?_, ?_, ?_, ?_, ?_, ?_, trivial⟩
    · refine .inr ⟨by kernel_rfl, ?_⟩
      intro fr120 w119 e121 hF122 hD123
      have E124 := below_ext E106 E106.size e121
      have H125 := (e121.blk H117)
      exact DV.oe (dv_loads (l := [.int .u64 (wv3 x), .int .u64 (wv2 x), .int .u64 (wv1 x), .int .u64 (wv0 x), .int .u64 (wv3 y), .int .u64 (wv2 y), .int .u64 (wv1 y), .int .u64 (wv0 y)]) agt34 sz34 (T rfl ((hF122 2 (by kernel_rfl)).trans (hF102 2 rfl))) H125 rfl) ⟨Below.refl _ _, rfl⟩
    · refine .inr ⟨by kernel_rfl, ?_⟩
      intro fr127 w126 e128 hF129 hD130
      have E131 := below_ext E106 E106.size e128
      have hv132 : fr127 18 = .agg #[.int .u64 (wv3 x), .int .u64 (wv2 x), .int .u64 (wv1 x), .int .u64 (wv0 x), .int .u64 (wv3 y), .int .u64 (wv2 y), .int .u64 (wv1 y), .int .u64 (wv0 y)] := hD130 0 _ (by kernel_rfl) rfl (by kernel_rfl)
      refine id (oe_callf (vs := [.agg #[.int .u64 (wv3 x), .int .u64 (wv2 x), .int .u64 (wv1 x), .int .u64 (wv0 x), .int .u64 (wv3 y), .int .u64 (wv2 y), .int .u64 (wv1 y), .int .u64 (wv0 y)]]) co20 (ar1 (T rfl hv132)) (toRatio_ok (x := x) (y := y)  ) ?_)
      rintro _ w133 ⟨rfl, e134⟩
      have E135 := below_ext E131 E131.size e134
      exact ⟨e134, rfl⟩
    · refine .inr ⟨by kernel_rfl, ?_⟩
      intro fr137 w136 e138 hF139 hD140
      have E141 := below_ext E106 E106.size e138
      have H142 := (e138.blk H118)
      exact DV.oe (dv_loads (l := [.int .u64 (wv3 p), .int .u64 (wv2 p), .int .u64 (wv1 p), .int .u64 (wv0 p), .int .u64 (wv3 q), .int .u64 (wv2 q), .int .u64 (wv1 q), .int .u64 (wv0 q)]) agt34 sz34 (T rfl ((hF139 3 (by kernel_rfl)).trans (hF102 3 rfl))) H142 rfl) ⟨Below.refl _ _, rfl⟩
    · refine .inr ⟨by kernel_rfl, ?_⟩
      intro fr144 w143 e145 hF146 hD147
      have E148 := below_ext E106 E106.size e145
      have hv149 : fr144 20 = .agg #[.int .u64 (wv3 p), .int .u64 (wv2 p), .int .u64 (wv1 p), .int .u64 (wv0 p), .int .u64 (wv3 q), .int .u64 (wv2 q), .int .u64 (wv1 q), .int .u64 (wv0 q)] := hD147 2 _ (by kernel_rfl) rfl (by kernel_rfl)
      refine id (oe_callf (vs := [.agg #[.int .u64 (wv3 p), .int .u64 (wv2 p), .int .u64 (wv1 p), .int .u64 (wv0 p), .int .u64 (wv3 q), .int .u64 (wv2 q), .int .u64 (wv1 q), .int .u64 (wv0 q)]]) co20 (ar1 (T rfl hv149)) (toRatio_ok (x := p) (y := q)  ) ?_)
      rintro _ w150 ⟨rfl, e151⟩
      have E152 := below_ext E148 E148.size e151
      exact ⟨e151, rfl⟩
    · refine .inr ⟨by kernel_rfl, ?_⟩
      intro fr154 w153 e155 hF156 hD157
      have E158 := below_ext E106 E106.size e155
      have hv159 : fr154 19 = .agg #[.int .u64 (wv3 x), .int .u64 (wv2 x), .int .u64 (wv1 x), .int .u64 (wv0 x), .int .u64 (wv3 y), .int .u64 (wv2 y), .int .u64 (wv1 y), .int .u64 (wv0 y)] := hD157 1 _ (by kernel_rfl) rfl (by kernel_rfl)
      have hv160 : fr154 21 = .agg #[.int .u64 (wv3 p), .int .u64 (wv2 p), .int .u64 (wv1 p), .int .u64 (wv0 p), .int .u64 (wv3 q), .int .u64 (wv2 q), .int .u64 (wv1 q), .int .u64 (wv0 q)] := hD157 3 _ (by kernel_rfl) rfl (by kernel_rfl)
      refine id (oe_callf (vs := [.agg #[.int .u64 (wv3 x), .int .u64 (wv2 x), .int .u64 (wv1 x), .int .u64 (wv0 x), .int .u64 (wv3 y), .int .u64 (wv2 y), .int .u64 (wv1 y), .int .u64 (wv0 y)], .agg #[.int .u64 (wv3 p), .int .u64 (wv2 p), .int .u64 (wv1 p), .int .u64 (wv0 p), .int .u64 (wv3 q), .int .u64 (wv2 q), .int .u64 (wv1 q), .int .u64 (wv0 q)]]) co25 (ar2 (T rfl hv159) (T rfl hv160)) (iRatioAdd_ok (x := x) (y := y) (p := p) (q := q) fx_ fy_ fp_ fq_ ) ?_)
      rintro _ w161 ⟨rfl, e162⟩
      have E163 := below_ext E158 E158.size e162
      exact ⟨e162, rfl⟩
    · refine .inr ⟨by kernel_rfl, ?_⟩
      intro fr165 w164 e166 hF167 hD168
      have E169 := below_ext E106 E106.size e166
      have hv170 : fr165 22 = .tuple #[.agg #[.int .u64 (wv3 (pkz (rOk x y ∧ rOk p q ∧ rFit (x * q + p * y) (y * q)) (rUp (x * q + p * y) (y * q)))), .int .u64 (wv2 (pkz (rOk x y ∧ rOk p q ∧ rFit (x * q + p * y) (y * q)) (rUp (x * q + p * y) (y * q)))), .int .u64 (wv1 (pkz (rOk x y ∧ rOk p q ∧ rFit (x * q + p * y) (y * q)) (rUp (x * q + p * y) (y * q)))), .int .u64 (wv0 (pkz (rOk x y ∧ rOk p q ∧ rFit (x * q + p * y) (y * q)) (rUp (x * q + p * y) (y * q)))), .int .u64 (wv3 (pkz (rOk x y ∧ rOk p q ∧ rFit (x * q + p * y) (y * q)) (rDn (x * q + p * y) (y * q)))), .int .u64 (wv2 (pkz (rOk x y ∧ rOk p q ∧ rFit (x * q + p * y) (y * q)) (rDn (x * q + p * y) (y * q)))), .int .u64 (wv1 (pkz (rOk x y ∧ rOk p q ∧ rFit (x * q + p * y) (y * q)) (rDn (x * q + p * y) (y * q)))), .int .u64 (wv0 (pkz (rOk x y ∧ rOk p q ∧ rFit (x * q + p * y) (y * q)) (rDn (x * q + p * y) (y * q))))], .bool (decide (rOk x y ∧ rOk p q ∧ rFit (x * q + p * y) (y * q)))] := hD168 4 _ (by kernel_rfl) rfl (by kernel_rfl)
      exact DV.oe (dv_move (T rfl hv170)) ⟨Below.refl _ _, rfl⟩
    · refine .inr ⟨by kernel_rfl, ?_⟩
      intro fr172 w171 e173 hF174 hD175
      have E176 := below_ext E106 E106.size e173
      have hv177 : fr172 17 = .tuple #[.agg #[.int .u64 (wv3 (pkz (rOk x y ∧ rOk p q ∧ rFit (x * q + p * y) (y * q)) (rUp (x * q + p * y) (y * q)))), .int .u64 (wv2 (pkz (rOk x y ∧ rOk p q ∧ rFit (x * q + p * y) (y * q)) (rUp (x * q + p * y) (y * q)))), .int .u64 (wv1 (pkz (rOk x y ∧ rOk p q ∧ rFit (x * q + p * y) (y * q)) (rUp (x * q + p * y) (y * q)))), .int .u64 (wv0 (pkz (rOk x y ∧ rOk p q ∧ rFit (x * q + p * y) (y * q)) (rUp (x * q + p * y) (y * q)))), .int .u64 (wv3 (pkz (rOk x y ∧ rOk p q ∧ rFit (x * q + p * y) (y * q)) (rDn (x * q + p * y) (y * q)))), .int .u64 (wv2 (pkz (rOk x y ∧ rOk p q ∧ rFit (x * q + p * y) (y * q)) (rDn (x * q + p * y) (y * q)))), .int .u64 (wv1 (pkz (rOk x y ∧ rOk p q ∧ rFit (x * q + p * y) (y * q)) (rDn (x * q + p * y) (y * q)))), .int .u64 (wv0 (pkz (rOk x y ∧ rOk p q ∧ rFit (x * q + p * y) (y * q)) (rDn (x * q + p * y) (y * q))))], .bool (decide (rOk x y ∧ rOk p q ∧ rFit (x * q + p * y) (y * q)))] := hD175 5 _ (by kernel_rfl) rfl (by kernel_rfl)
      exact DV.oe (dv_extract (vs := #[.agg #[.int .u64 (wv3 (pkz (rOk x y ∧ rOk p q ∧ rFit (x * q + p * y) (y * q)) (rUp (x * q + p * y) (y * q)))), .int .u64 (wv2 (pkz (rOk x y ∧ rOk p q ∧ rFit (x * q + p * y) (y * q)) (rUp (x * q + p * y) (y * q)))), .int .u64 (wv1 (pkz (rOk x y ∧ rOk p q ∧ rFit (x * q + p * y) (y * q)) (rUp (x * q + p * y) (y * q)))), .int .u64 (wv0 (pkz (rOk x y ∧ rOk p q ∧ rFit (x * q + p * y) (y * q)) (rUp (x * q + p * y) (y * q)))), .int .u64 (wv3 (pkz (rOk x y ∧ rOk p q ∧ rFit (x * q + p * y) (y * q)) (rDn (x * q + p * y) (y * q)))), .int .u64 (wv2 (pkz (rOk x y ∧ rOk p q ∧ rFit (x * q + p * y) (y * q)) (rDn (x * q + p * y) (y * q)))), .int .u64 (wv1 (pkz (rOk x y ∧ rOk p q ∧ rFit (x * q + p * y) (y * q)) (rDn (x * q + p * y) (y * q)))), .int .u64 (wv0 (pkz (rOk x y ∧ rOk p q ∧ rFit (x * q + p * y) (y * q)) (rDn (x * q + p * y) (y * q))))], .bool (decide (rOk x y ∧ rOk p q ∧ rFit (x * q + p * y) (y * q)))]) (T rfl hv177) rfl) ⟨Below.refl _ _, rfl⟩
    · refine .inr ⟨by kernel_rfl, ?_⟩
      intro fr179 w178 e180 hF181 hD182
      have E183 := below_ext E106 E106.size e180
      have hv184 : fr179 17 = .tuple #[.agg #[.int .u64 (wv3 (pkz (rOk x y ∧ rOk p q ∧ rFit (x * q + p * y) (y * q)) (rUp (x * q + p * y) (y * q)))), .int .u64 (wv2 (pkz (rOk x y ∧ rOk p q ∧ rFit (x * q + p * y) (y * q)) (rUp (x * q + p * y) (y * q)))), .int .u64 (wv1 (pkz (rOk x y ∧ rOk p q ∧ rFit (x * q + p * y) (y * q)) (rUp (x * q + p * y) (y * q)))), .int .u64 (wv0 (pkz (rOk x y ∧ rOk p q ∧ rFit (x * q + p * y) (y * q)) (rUp (x * q + p * y) (y * q)))), .int .u64 (wv3 (pkz (rOk x y ∧ rOk p q ∧ rFit (x * q + p * y) (y * q)) (rDn (x * q + p * y) (y * q)))), .int .u64 (wv2 (pkz (rOk x y ∧ rOk p q ∧ rFit (x * q + p * y) (y * q)) (rDn (x * q + p * y) (y * q)))), .int .u64 (wv1 (pkz (rOk x y ∧ rOk p q ∧ rFit (x * q + p * y) (y * q)) (rDn (x * q + p * y) (y * q)))), .int .u64 (wv0 (pkz (rOk x y ∧ rOk p q ∧ rFit (x * q + p * y) (y * q)) (rDn (x * q + p * y) (y * q))))], .bool (decide (rOk x y ∧ rOk p q ∧ rFit (x * q + p * y) (y * q)))] := hD182 5 _ (by kernel_rfl) rfl (by kernel_rfl)
      exact DV.oe (dv_extract (vs := #[.agg #[.int .u64 (wv3 (pkz (rOk x y ∧ rOk p q ∧ rFit (x * q + p * y) (y * q)) (rUp (x * q + p * y) (y * q)))), .int .u64 (wv2 (pkz (rOk x y ∧ rOk p q ∧ rFit (x * q + p * y) (y * q)) (rUp (x * q + p * y) (y * q)))), .int .u64 (wv1 (pkz (rOk x y ∧ rOk p q ∧ rFit (x * q + p * y) (y * q)) (rUp (x * q + p * y) (y * q)))), .int .u64 (wv0 (pkz (rOk x y ∧ rOk p q ∧ rFit (x * q + p * y) (y * q)) (rUp (x * q + p * y) (y * q)))), .int .u64 (wv3 (pkz (rOk x y ∧ rOk p q ∧ rFit (x * q + p * y) (y * q)) (rDn (x * q + p * y) (y * q)))), .int .u64 (wv2 (pkz (rOk x y ∧ rOk p q ∧ rFit (x * q + p * y) (y * q)) (rDn (x * q + p * y) (y * q)))), .int .u64 (wv1 (pkz (rOk x y ∧ rOk p q ∧ rFit (x * q + p * y) (y * q)) (rDn (x * q + p * y) (y * q)))), .int .u64 (wv0 (pkz (rOk x y ∧ rOk p q ∧ rFit (x * q + p * y) (y * q)) (rDn (x * q + p * y) (y * q))))], .bool (decide (rOk x y ∧ rOk p q ∧ rFit (x * q + p * y) (y * q)))]) (T rfl hv184) rfl) ⟨Below.refl _ _, rfl⟩
    · exact .inl (.inr ⟨by kernel_rfl, fun _ _ => trivial⟩)
    · exact .inl (.inl (by kernel_rfl))
    · refine .inr ⟨by kernel_rfl, ?_⟩
      intro fr200 w199 e201 hF202 hD203
      have E204 := below_ext E106 E106.size e201
      have hv205 : fr200 24 = .bool (decide (rOk x y ∧ rOk p q ∧ rFit (x * q + p * y) (y * q))) := hD203 7 _ (by kernel_rfl) rfl (by kernel_rfl)
      exact DV.oe (dv_assign (T rfl hv205)) ⟨Below.refl _ _, rfl⟩
  · refine ⟨⟨⟨_, rfl, fun _ _ => oe_alloc ze27 fun b w hn => ⟨b, rfl, hn⟩⟩, ⟨_, rfl, ?_⟩⟩, trivial⟩
    · intro fr186 w185 b190 e187 hF188 hD189 hA191 hB192
      have E193 := below_ext E106 E106.size e187
      have hv194 : fr186 23 = .agg #[.int .u64 (wv3 (pkz (rOk x y ∧ rOk p q ∧ rFit (x * q + p * y) (y * q)) (rUp (x * q + p * y) (y * q)))), .int .u64 (wv2 (pkz (rOk x y ∧ rOk p q ∧ rFit (x * q + p * y) (y * q)) (rUp (x * q + p * y) (y * q)))), .int .u64 (wv1 (pkz (rOk x y ∧ rOk p q ∧ rFit (x * q + p * y) (y * q)) (rUp (x * q + p * y) (y * q)))), .int .u64 (wv0 (pkz (rOk x y ∧ rOk p q ∧ rFit (x * q + p * y) (y * q)) (rUp (x * q + p * y) (y * q)))), .int .u64 (wv3 (pkz (rOk x y ∧ rOk p q ∧ rFit (x * q + p * y) (y * q)) (rDn (x * q + p * y) (y * q)))), .int .u64 (wv2 (pkz (rOk x y ∧ rOk p q ∧ rFit (x * q + p * y) (y * q)) (rDn (x * q + p * y) (y * q)))), .int .u64 (wv1 (pkz (rOk x y ∧ rOk p q ∧ rFit (x * q + p * y) (y * q)) (rDn (x * q + p * y) (y * q)))), .int .u64 (wv0 (pkz (rOk x y ∧ rOk p q ∧ rFit (x * q + p * y) (y * q)) (rDn (x * q + p * y) (y * q))))] := hD189 6 _ (by kernel_rfl) rfl (by kernel_rfl)
      refine id (oe_store (v := .agg #[.int .u64 (wv3 (pkz (rOk x y ∧ rOk p q ∧ rFit (x * q + p * y) (y * q)) (rUp (x * q + p * y) (y * q)))), .int .u64 (wv2 (pkz (rOk x y ∧ rOk p q ∧ rFit (x * q + p * y) (y * q)) (rUp (x * q + p * y) (y * q)))), .int .u64 (wv1 (pkz (rOk x y ∧ rOk p q ∧ rFit (x * q + p * y) (y * q)) (rUp (x * q + p * y) (y * q)))), .int .u64 (wv0 (pkz (rOk x y ∧ rOk p q ∧ rFit (x * q + p * y) (y * q)) (rUp (x * q + p * y) (y * q)))), .int .u64 (wv3 (pkz (rOk x y ∧ rOk p q ∧ rFit (x * q + p * y) (y * q)) (rDn (x * q + p * y) (y * q)))), .int .u64 (wv2 (pkz (rOk x y ∧ rOk p q ∧ rFit (x * q + p * y) (y * q)) (rDn (x * q + p * y) (y * q)))), .int .u64 (wv1 (pkz (rOk x y ∧ rOk p q ∧ rFit (x * q + p * y) (y * q)) (rDn (x * q + p * y) (y * q)))), .int .u64 (wv0 (pkz (rOk x y ∧ rOk p q ∧ rFit (x * q + p * y) (y * q)) (rDn (x * q + p * y) (y * q))))]) (vs := [.int .u64 (wv3 (pkz (rOk x y ∧ rOk p q ∧ rFit (x * q + p * y) (y * q)) (rUp (x * q + p * y) (y * q)))), .int .u64 (wv2 (pkz (rOk x y ∧ rOk p q ∧ rFit (x * q + p * y) (y * q)) (rUp (x * q + p * y) (y * q)))), .int .u64 (wv1 (pkz (rOk x y ∧ rOk p q ∧ rFit (x * q + p * y) (y * q)) (rUp (x * q + p * y) (y * q)))), .int .u64 (wv0 (pkz (rOk x y ∧ rOk p q ∧ rFit (x * q + p * y) (y * q)) (rUp (x * q + p * y) (y * q)))), .int .u64 (wv3 (pkz (rOk x y ∧ rOk p q ∧ rFit (x * q + p * y) (y * q)) (rDn (x * q + p * y) (y * q)))), .int .u64 (wv2 (pkz (rOk x y ∧ rOk p q ∧ rFit (x * q + p * y) (y * q)) (rDn (x * q + p * y) (y * q)))), .int .u64 (wv1 (pkz (rOk x y ∧ rOk p q ∧ rFit (x * q + p * y) (y * q)) (rDn (x * q + p * y) (y * q)))), .int .u64 (wv0 (pkz (rOk x y ∧ rOk p q ∧ rFit (x * q + p * y) (y * q)) (rDn (x * q + p * y) (y * q))))]) (l := [.int .u64 (wv3 (pkz (rOk x y ∧ rOk p q ∧ rFit (x * q + p * y) (y * q)) (rUp (x * q + p * y) (y * q)))), .int .u64 (wv2 (pkz (rOk x y ∧ rOk p q ∧ rFit (x * q + p * y) (y * q)) (rUp (x * q + p * y) (y * q)))), .int .u64 (wv1 (pkz (rOk x y ∧ rOk p q ∧ rFit (x * q + p * y) (y * q)) (rUp (x * q + p * y) (y * q)))), .int .u64 (wv0 (pkz (rOk x y ∧ rOk p q ∧ rFit (x * q + p * y) (y * q)) (rUp (x * q + p * y) (y * q)))), .int .u64 (wv3 (pkz (rOk x y ∧ rOk p q ∧ rFit (x * q + p * y) (y * q)) (rDn (x * q + p * y) (y * q)))), .int .u64 (wv2 (pkz (rOk x y ∧ rOk p q ∧ rFit (x * q + p * y) (y * q)) (rDn (x * q + p * y) (y * q)))), .int .u64 (wv1 (pkz (rOk x y ∧ rOk p q ∧ rFit (x * q + p * y) (y * q)) (rDn (x * q + p * y) (y * q)))), .int .u64 (wv0 (pkz (rOk x y ∧ rOk p q ∧ rFit (x * q + p * y) (y * q)) (rDn (x * q + p * y) (y * q))))]) (T rfl hA191) (T rfl hv194) sz27 rfl rfl rfl hB192 rfl ?_)
      intro w195 s196 H197
      exact ⟨s196, H197.trans (congrArg (fun v : Value => some (Obj.cells v.cells 27)) (show fr186 23 = _ from hv194).symm)⟩
  intro fr207 w206 e208 hF209 hP210 hM211 hN212
  have E213 := below_ext E106 E106.size e208
  obtain ⟨_, _, _, _, _, _, p214, _, _, _, p215, _⟩ := hP210
  have hv216 : fr207 23 = .agg #[.int .u64 (wv3 (pkz (rOk x y ∧ rOk p q ∧ rFit (x * q + p * y) (y * q)) (rUp (x * q + p * y) (y * q)))), .int .u64 (wv2 (pkz (rOk x y ∧ rOk p q ∧ rFit (x * q + p * y) (y * q)) (rUp (x * q + p * y) (y * q)))), .int .u64 (wv1 (pkz (rOk x y ∧ rOk p q ∧ rFit (x * q + p * y) (y * q)) (rUp (x * q + p * y) (y * q)))), .int .u64 (wv0 (pkz (rOk x y ∧ rOk p q ∧ rFit (x * q + p * y) (y * q)) (rUp (x * q + p * y) (y * q)))), .int .u64 (wv3 (pkz (rOk x y ∧ rOk p q ∧ rFit (x * q + p * y) (y * q)) (rDn (x * q + p * y) (y * q)))), .int .u64 (wv2 (pkz (rOk x y ∧ rOk p q ∧ rFit (x * q + p * y) (y * q)) (rDn (x * q + p * y) (y * q)))), .int .u64 (wv1 (pkz (rOk x y ∧ rOk p q ∧ rFit (x * q + p * y) (y * q)) (rDn (x * q + p * y) (y * q)))), .int .u64 (wv0 (pkz (rOk x y ∧ rOk p q ∧ rFit (x * q + p * y) (y * q)) (rDn (x * q + p * y) (y * q))))] := p214.resolve_left (nst (by kernel_rfl))
  have hv217 : fr207 8 = .bool (decide (rOk x y ∧ rOk p q ∧ rFit (x * q + p * y) (y * q))) := p215.resolve_left (nst (by kernel_rfl))
  obtain ⟨⟨b218, hA219, hB220, hC221⟩, _⟩ := hM211
  have H222 : w206.heap[b218]? = some (.cells #[.int .u64 (wv3 (pkz (rOk x y ∧ rOk p q ∧ rFit (x * q + p * y) (y * q)) (rUp (x * q + p * y) (y * q)))), .int .u64 (wv2 (pkz (rOk x y ∧ rOk p q ∧ rFit (x * q + p * y) (y * q)) (rUp (x * q + p * y) (y * q)))), .int .u64 (wv1 (pkz (rOk x y ∧ rOk p q ∧ rFit (x * q + p * y) (y * q)) (rUp (x * q + p * y) (y * q)))), .int .u64 (wv0 (pkz (rOk x y ∧ rOk p q ∧ rFit (x * q + p * y) (y * q)) (rUp (x * q + p * y) (y * q)))), .int .u64 (wv3 (pkz (rOk x y ∧ rOk p q ∧ rFit (x * q + p * y) (y * q)) (rDn (x * q + p * y) (y * q)))), .int .u64 (wv2 (pkz (rOk x y ∧ rOk p q ∧ rFit (x * q + p * y) (y * q)) (rDn (x * q + p * y) (y * q)))), .int .u64 (wv1 (pkz (rOk x y ∧ rOk p q ∧ rFit (x * q + p * y) (y * q)) (rDn (x * q + p * y) (y * q)))), .int .u64 (wv0 (pkz (rOk x y ∧ rOk p q ∧ rFit (x * q + p * y) (y * q)) (rDn (x * q + p * y) (y * q))))] 27) := hC221.trans (congrArg (fun v : Value => some (Obj.cells v.cells 27)) hv216)
  have N223 : w.heap.size ≤ b218 := by omega
  refine rk_seq ?_
  refine rk_seq ?_
  refine rk_reg ?_
  refine lw_v (.agg #[.int .u64 (wv3 (pkz (rOk x y ∧ rOk p q ∧ rFit (x * q + p * y) (y * q)) (rUp (x * q + p * y) (y * q)))), .int .u64 (wv2 (pkz (rOk x y ∧ rOk p q ∧ rFit (x * q + p * y) (y * q)) (rUp (x * q + p * y) (y * q)))), .int .u64 (wv1 (pkz (rOk x y ∧ rOk p q ∧ rFit (x * q + p * y) (y * q)) (rUp (x * q + p * y) (y * q)))), .int .u64 (wv0 (pkz (rOk x y ∧ rOk p q ∧ rFit (x * q + p * y) (y * q)) (rUp (x * q + p * y) (y * q)))), .int .u64 (wv3 (pkz (rOk x y ∧ rOk p q ∧ rFit (x * q + p * y) (y * q)) (rDn (x * q + p * y) (y * q)))), .int .u64 (wv2 (pkz (rOk x y ∧ rOk p q ∧ rFit (x * q + p * y) (y * q)) (rDn (x * q + p * y) (y * q)))), .int .u64 (wv1 (pkz (rOk x y ∧ rOk p q ∧ rFit (x * q + p * y) (y * q)) (rDn (x * q + p * y) (y * q)))), .int .u64 (wv0 (pkz (rOk x y ∧ rOk p q ∧ rFit (x * q + p * y) (y * q)) (rDn (x * q + p * y) (y * q))))]) (dv_loads (l := [.int .u64 (wv3 (pkz (rOk x y ∧ rOk p q ∧ rFit (x * q + p * y) (y * q)) (rUp (x * q + p * y) (y * q)))), .int .u64 (wv2 (pkz (rOk x y ∧ rOk p q ∧ rFit (x * q + p * y) (y * q)) (rUp (x * q + p * y) (y * q)))), .int .u64 (wv1 (pkz (rOk x y ∧ rOk p q ∧ rFit (x * q + p * y) (y * q)) (rUp (x * q + p * y) (y * q)))), .int .u64 (wv0 (pkz (rOk x y ∧ rOk p q ∧ rFit (x * q + p * y) (y * q)) (rUp (x * q + p * y) (y * q)))), .int .u64 (wv3 (pkz (rOk x y ∧ rOk p q ∧ rFit (x * q + p * y) (y * q)) (rDn (x * q + p * y) (y * q)))), .int .u64 (wv2 (pkz (rOk x y ∧ rOk p q ∧ rFit (x * q + p * y) (y * q)) (rDn (x * q + p * y) (y * q)))), .int .u64 (wv1 (pkz (rOk x y ∧ rOk p q ∧ rFit (x * q + p * y) (y * q)) (rDn (x * q + p * y) (y * q)))), .int .u64 (wv0 (pkz (rOk x y ∧ rOk p q ∧ rFit (x * q + p * y) (y * q)) (rDn (x * q + p * y) (y * q))))]) agt27 sz27 (T rfl hA219) H222 rfl) ?_
  have H224 := (e208.blk H115)
  refine lw_v (.agg #[.int .u64 (wv3 (pkz (rOk x y ∧ rOk p q ∧ rFit (x * q + p * y) (y * q)) (rUp (x * q + p * y) (y * q)))), .int .u64 (wv2 (pkz (rOk x y ∧ rOk p q ∧ rFit (x * q + p * y) (y * q)) (rUp (x * q + p * y) (y * q)))), .int .u64 (wv1 (pkz (rOk x y ∧ rOk p q ∧ rFit (x * q + p * y) (y * q)) (rUp (x * q + p * y) (y * q)))), .int .u64 (wv0 (pkz (rOk x y ∧ rOk p q ∧ rFit (x * q + p * y) (y * q)) (rUp (x * q + p * y) (y * q)))), .int .u64 (wv3 (pkz (rOk x y ∧ rOk p q ∧ rFit (x * q + p * y) (y * q)) (rDn (x * q + p * y) (y * q)))), .int .u64 (wv2 (pkz (rOk x y ∧ rOk p q ∧ rFit (x * q + p * y) (y * q)) (rDn (x * q + p * y) (y * q)))), .int .u64 (wv1 (pkz (rOk x y ∧ rOk p q ∧ rFit (x * q + p * y) (y * q)) (rDn (x * q + p * y) (y * q)))), .int .u64 (wv0 (pkz (rOk x y ∧ rOk p q ∧ rFit (x * q + p * y) (y * q)) (rDn (x * q + p * y) (y * q))))]) (dv_loads (l := [.int .u64 (wv3 (pkz (rOk x y ∧ rOk p q ∧ rFit (x * q + p * y) (y * q)) (rUp (x * q + p * y) (y * q)))), .int .u64 (wv2 (pkz (rOk x y ∧ rOk p q ∧ rFit (x * q + p * y) (y * q)) (rUp (x * q + p * y) (y * q)))), .int .u64 (wv1 (pkz (rOk x y ∧ rOk p q ∧ rFit (x * q + p * y) (y * q)) (rUp (x * q + p * y) (y * q)))), .int .u64 (wv0 (pkz (rOk x y ∧ rOk p q ∧ rFit (x * q + p * y) (y * q)) (rUp (x * q + p * y) (y * q)))), .int .u64 (wv3 (pkz (rOk x y ∧ rOk p q ∧ rFit (x * q + p * y) (y * q)) (rDn (x * q + p * y) (y * q)))), .int .u64 (wv2 (pkz (rOk x y ∧ rOk p q ∧ rFit (x * q + p * y) (y * q)) (rDn (x * q + p * y) (y * q)))), .int .u64 (wv1 (pkz (rOk x y ∧ rOk p q ∧ rFit (x * q + p * y) (y * q)) (rDn (x * q + p * y) (y * q)))), .int .u64 (wv0 (pkz (rOk x y ∧ rOk p q ∧ rFit (x * q + p * y) (y * q)) (rDn (x * q + p * y) (y * q))))]) agt27 sz27 (T rfl ((hF209 5 rfl).trans hA112)) H224 rfl) ?_
  refine lw_e (oe_callf (vs := [.agg #[.int .u64 (wv3 (pkz (rOk x y ∧ rOk p q ∧ rFit (x * q + p * y) (y * q)) (rUp (x * q + p * y) (y * q)))), .int .u64 (wv2 (pkz (rOk x y ∧ rOk p q ∧ rFit (x * q + p * y) (y * q)) (rUp (x * q + p * y) (y * q)))), .int .u64 (wv1 (pkz (rOk x y ∧ rOk p q ∧ rFit (x * q + p * y) (y * q)) (rUp (x * q + p * y) (y * q)))), .int .u64 (wv0 (pkz (rOk x y ∧ rOk p q ∧ rFit (x * q + p * y) (y * q)) (rUp (x * q + p * y) (y * q)))), .int .u64 (wv3 (pkz (rOk x y ∧ rOk p q ∧ rFit (x * q + p * y) (y * q)) (rDn (x * q + p * y) (y * q)))), .int .u64 (wv2 (pkz (rOk x y ∧ rOk p q ∧ rFit (x * q + p * y) (y * q)) (rDn (x * q + p * y) (y * q)))), .int .u64 (wv1 (pkz (rOk x y ∧ rOk p q ∧ rFit (x * q + p * y) (y * q)) (rDn (x * q + p * y) (y * q)))), .int .u64 (wv0 (pkz (rOk x y ∧ rOk p q ∧ rFit (x * q + p * y) (y * q)) (rDn (x * q + p * y) (y * q))))], .agg #[.int .u64 (wv3 (pkz (rOk x y ∧ rOk p q ∧ rFit (x * q + p * y) (y * q)) (rUp (x * q + p * y) (y * q)))), .int .u64 (wv2 (pkz (rOk x y ∧ rOk p q ∧ rFit (x * q + p * y) (y * q)) (rUp (x * q + p * y) (y * q)))), .int .u64 (wv1 (pkz (rOk x y ∧ rOk p q ∧ rFit (x * q + p * y) (y * q)) (rUp (x * q + p * y) (y * q)))), .int .u64 (wv0 (pkz (rOk x y ∧ rOk p q ∧ rFit (x * q + p * y) (y * q)) (rUp (x * q + p * y) (y * q)))), .int .u64 (wv3 (pkz (rOk x y ∧ rOk p q ∧ rFit (x * q + p * y) (y * q)) (rDn (x * q + p * y) (y * q)))), .int .u64 (wv2 (pkz (rOk x y ∧ rOk p q ∧ rFit (x * q + p * y) (y * q)) (rDn (x * q + p * y) (y * q)))), .int .u64 (wv1 (pkz (rOk x y ∧ rOk p q ∧ rFit (x * q + p * y) (y * q)) (rDn (x * q + p * y) (y * q)))), .int .u64 (wv0 (pkz (rOk x y ∧ rOk p q ∧ rFit (x * q + p * y) (y * q)) (rDn (x * q + p * y) (y * q))))]]) co18 (ar2 (T rfl rfl) (T rfl rfl)) (eqRatio_ok (x := pkz (rOk x y ∧ rOk p q ∧ rFit (x * q + p * y) (y * q)) (rUp (x * q + p * y) (y * q))) (y := pkz (rOk x y ∧ rOk p q ∧ rFit (x * q + p * y) (y * q)) (rDn (x * q + p * y) (y * q))) (p := pkz (rOk x y ∧ rOk p q ∧ rFit (x * q + p * y) (y * q)) (rUp (x * q + p * y) (y * q))) (q := pkz (rOk x y ∧ rOk p q ∧ rFit (x * q + p * y) (y * q)) (rDn (x * q + p * y) (y * q))) (fits_pkz fun h => h.2.2.2.1) (fits_pkz fun h => h.2.2.2.2) (fits_pkz fun h => h.2.2.2.1) (fits_pkz fun h => h.2.2.2.2) ) ?_)
  rintro _ w225 ⟨rfl, e226⟩
  have E227 := below_ext E213 E213.size e226
  refine lw_v (.bool (decide (¬ ((pkz (rOk x y ∧ rOk p q ∧ rFit (x * q + p * y) (y * q)) (rUp (x * q + p * y) (y * q))) = (pkz (rOk x y ∧ rOk p q ∧ rFit (x * q + p * y) (y * q)) (rUp (x * q + p * y) (y * q))) ∧ (pkz (rOk x y ∧ rOk p q ∧ rFit (x * q + p * y) (y * q)) (rDn (x * q + p * y) (y * q))) = (pkz (rOk x y ∧ rOk p q ∧ rFit (x * q + p * y) (y * q)) (rDn (x * q + p * y) (y * q))))))) (dv_notd (p := (pkz (rOk x y ∧ rOk p q ∧ rFit (x * q + p * y) (y * q)) (rUp (x * q + p * y) (y * q))) = (pkz (rOk x y ∧ rOk p q ∧ rFit (x * q + p * y) (y * q)) (rUp (x * q + p * y) (y * q))) ∧ (pkz (rOk x y ∧ rOk p q ∧ rFit (x * q + p * y) (y * q)) (rDn (x * q + p * y) (y * q))) = (pkz (rOk x y ∧ rOk p q ∧ rFit (x * q + p * y) (y * q)) (rDn (x * q + p * y) (y * q)))) (T rfl rfl)) ?_
  refine lw_v (.bool (decide (¬ ((pkz (rOk x y ∧ rOk p q ∧ rFit (x * q + p * y) (y * q)) (rUp (x * q + p * y) (y * q))) = (pkz (rOk x y ∧ rOk p q ∧ rFit (x * q + p * y) (y * q)) (rUp (x * q + p * y) (y * q))) ∧ (pkz (rOk x y ∧ rOk p q ∧ rFit (x * q + p * y) (y * q)) (rDn (x * q + p * y) (y * q))) = (pkz (rOk x y ∧ rOk p q ∧ rFit (x * q + p * y) (y * q)) (rDn (x * q + p * y) (y * q))))))) (dv_move (T rfl rfl)) ?_
  by_cases hb228 : (pkz (rOk x y ∧ rOk p q ∧ rFit (x * q + p * y) (y * q)) (rUp (x * q + p * y) (y * q))) = (pkz (rOk x y ∧ rOk p q ∧ rFit (x * q + p * y) (y * q)) (rUp (x * q + p * y) (y * q))) ∧ (pkz (rOk x y ∧ rOk p q ∧ rFit (x * q + p * y) (y * q)) (rDn (x * q + p * y) (y * q))) = (pkz (rOk x y ∧ rOk p q ∧ rFit (x * q + p * y) (y * q)) (rDn (x * q + p * y) (y * q)))
  · -- T
    refine lw_vy (.bool (decide (rOk x y ∧ rOk p q ∧ rFit (x * q + p * y) (y * q)))) (d := 29) rfl rfl (congrArg Value.bool (decide_eq_false (not_not_intro hb228))) (dv_move (T rfl hv217)) ?_
    refine lw_vy (.bool (decide (rOk x y ∧ rOk p q ∧ rFit (x * q + p * y) (y * q)))) (d := 29) rfl rfl (congrArg Value.bool (decide_eq_false (not_not_intro hb228))) (dv_move (T rfl ((hF209 6 rfl).trans hv110))) ?_
    refine lw_vy (.bool ((decide (rOk x y ∧ rOk p q ∧ rFit (x * q + p * y) (y * q))) != (decide (rOk x y ∧ rOk p q ∧ rFit (x * q + p * y) (y * q))))) (d := 29) rfl rfl (congrArg Value.bool (decide_eq_false (not_not_intro hb228))) (dv_neqb (a := decide (rOk x y ∧ rOk p q ∧ rFit (x * q + p * y) (y * q))) (b := decide (rOk x y ∧ rOk p q ∧ rFit (x * q + p * y) (y * q))) ub4 (T rfl rfl) (T rfl rfl)) ?_
    refine lw_v (.bool ((decide (rOk x y ∧ rOk p q ∧ rFit (x * q + p * y) (y * q))) != (decide (rOk x y ∧ rOk p q ∧ rFit (x * q + p * y) (y * q))))) (dv_pick_f (T rfl (congrArg Value.bool (decide_eq_false (not_not_intro hb228)))) (T rfl rfl)) ?_
    refine lw_nil ?_
    rcases Bool.eq_false_or_eq_true ((decide (rOk x y ∧ rOk p q ∧ rFit (x * q + p * y) (y * q))) != (decide (rOk x y ∧ rOk p q ∧ rFit (x * q + p * y) (y * q)))) with hb229 | hb229
    · -- TT
      refine rk_ct (T rfl (congrArg Value.bool hb229)) ?_
      refine rk_seq ?_
      refine rk_reg ?_
      refine lw_v (.bool false) (dv_assign C) ?_
      refine lw_nil ?_
      refine rk_ret Try.func6 (v := .bool false) (res1 Try.results6 (rv_tmp rfl rfl)) ⟨_, rfl, ?_⟩
      exact ⟨(by exfalso; grind), E227⟩
    · -- TF
      refine rk_cf (T rfl (congrArg Value.bool hb229)) ?_
      refine rk_skip ?_
      refine rk_seq ?_
      refine rk_reg ?_
      refine lw_v (.bool true) (dv_assign C) ?_
      refine lw_nil ?_
      refine rk_ret Try.func6 (v := .bool true) (res1 Try.results6 (rv_tmp rfl rfl)) ⟨_, rfl, ?_⟩
      exact ⟨rfl, E227⟩
  · -- F
    refine lw_no (d := 29) rfl rfl (congrArg Value.bool (decide_eq_true hb228)) ?_
    refine lw_no (d := 29) rfl rfl (congrArg Value.bool (decide_eq_true hb228)) ?_
    refine lw_no (d := 29) rfl rfl (congrArg Value.bool (decide_eq_true hb228)) ?_
    refine lw_v (.bool true) (dv_pick_t (T rfl (congrArg Value.bool (decide_eq_true hb228))) C) ?_
    refine lw_nil ?_
    refine rk_ct (T rfl rfl) ?_
    refine rk_seq ?_
    refine rk_reg ?_
    refine lw_v (.bool false) (dv_assign C) ?_
    refine lw_nil ?_
    refine rk_ret Try.func6 (v := .bool false) (res1 Try.results6 (rv_tmp rfl rfl)) ⟨_, rfl, ?_⟩
    exact ⟨(by exfalso; grind), E227⟩

theorem lawRatioAdd_w {w : World} {x3 x2 x1 x0 y3 y2 y1 y0 p3 p2 p1 p0 q3 q2 q1 q0 : Int} (hx3 : 0 ≤ x3 ∧ x3 < 18446744073709551616) (hx2 : 0 ≤ x2 ∧ x2 < 18446744073709551616) (hx1 : 0 ≤ x1 ∧ x1 < 18446744073709551616) (hx0 : 0 ≤ x0 ∧ x0 < 18446744073709551616) (hy3 : 0 ≤ y3 ∧ y3 < 18446744073709551616) (hy2 : 0 ≤ y2 ∧ y2 < 18446744073709551616) (hy1 : 0 ≤ y1 ∧ y1 < 18446744073709551616) (hy0 : 0 ≤ y0 ∧ y0 < 18446744073709551616) (hp3 : 0 ≤ p3 ∧ p3 < 18446744073709551616) (hp2 : 0 ≤ p2 ∧ p2 < 18446744073709551616) (hp1 : 0 ≤ p1 ∧ p1 < 18446744073709551616) (hp0 : 0 ≤ p0 ∧ p0 < 18446744073709551616) (hq3 : 0 ≤ q3 ∧ q3 < 18446744073709551616) (hq2 : 0 ≤ q2 ∧ q2 < 18446744073709551616) (hq1 : 0 ≤ q1 ∧ q1 < 18446744073709551616) (hq0 : 0 ≤ q0 ∧ q0 < 18446744073709551616) : Ct Try.prog 6 [.agg #[.int .u64 x3, .int .u64 x2, .int .u64 x1, .int .u64 x0, .int .u64 y3, .int .u64 y2, .int .u64 y1, .int .u64 y0], .agg #[.int .u64 p3, .int .u64 p2, .int .u64 p1, .int .u64 p0, .int .u64 q3, .int .u64 q2, .int .u64 q1, .int .u64 q0]] w fun v w1 => v = .bool true ∧ Ext w w1 := by
  obtain ⟨x, fx, rfl, rfl, rfl, rfl⟩ := words_z hx3 hx2 hx1 hx0
  obtain ⟨y, fy, rfl, rfl, rfl, rfl⟩ := words_z hy3 hy2 hy1 hy0
  obtain ⟨p, fp, rfl, rfl, rfl, rfl⟩ := words_z hp3 hp2 hp1 hp0
  obtain ⟨q, fq, rfl, rfl, rfl, rfl⟩ := words_z hq3 hq2 hq1 hq0
  exact lawRatioAdd_ok fx fy fp fq
end Go.Proofs.Ytpnjkjahfklfnaa.W
