/- WkLRatioDiv: walks, written by a program of this session. -/
import Derived.Test.YtpnjkjahfklfnaaWk22
set_option linter.unusedVariables false
set_option linter.unusedSimpArgs false
namespace Go.Proofs.Ytpnjkjahfklfnaa.W
open Go Go.RowKit Go.Proofs.Ytpnjkjahfklfnaa.Fw
attribute [local irreducible] RunK LW AW DV OE Ct
theorem agt34 : aggB Try.prog 34 = some true := by kernel_rfl
theorem co15 : callOk Try.prog 15 = true := by kernel_rfl
theorem co17 : callOk Try.prog 17 = true := by kernel_rfl
theorem co18 : callOk Try.prog 18 = true := by kernel_rfl
theorem co19 : callOk Try.prog 19 = true := by kernel_rfl
theorem co20 : callOk Try.prog 20 = true := by kernel_rfl
theorem co21 : callOk Try.prog 21 = true := by kernel_rfl
theorem co22 : callOk Try.prog 22 = true := by kernel_rfl
theorem co23 : callOk Try.prog 23 = true := by kernel_rfl
theorem co44 : callOk Try.prog 44 = true := by kernel_rfl
theorem co48 : callOk Try.prog 48 = true := by kernel_rfl
theorem co50 : callOk Try.prog 50 = true := by kernel_rfl
theorem co51 : callOk Try.prog 51 = true := by kernel_rfl
theorem co53 : callOk Try.prog 53 = true := by kernel_rfl
theorem eg25 : Try.prog.eqGuardType Try.prog.depth 25 = false := by kernel_rfl
theorem fl25 : flatB Try.prog 25 .u64 4 = true := by kernel_rfl
theorem sz34 : sizeB Try.prog 34 = some 8 := by kernel_rfl
set_option maxHeartbeats 1000000 in
theorem iRatioDiv_ok {w : World} {x y p q : Int} (fx_ : fits x) (fy_ : fits y) (fp_ : fits p) (fq_ : fits q)  : Ct Try.prog 23 [.agg #[.int .u64 (wv3 x), .int .u64 (wv2 x), .int .u64 (wv1 x), .int .u64 (wv0 x), .int .u64 (wv3 y), .int .u64 (wv2 y), .int .u64 (wv1 y), .int .u64 (wv0 y)], .agg #[.int .u64 (wv3 p), .int .u64 (wv2 p), .int .u64 (wv1 p), .int .u64 (wv0 p), .int .u64 (wv3 q), .int .u64 (wv2 q), .int .u64 (wv1 q), .int .u64 (wv0 q)]] w fun v w1 => v = .tuple #[.agg #[.int .u64 (wv3 (pkz (rOk x y ∧ rOk p q ∧ rFit (x * q) (y * p)) (rUp (x * q) (y * p)))), .int .u64 (wv2 (pkz (rOk x y ∧ rOk p q ∧ rFit (x * q) (y * p)) (rUp (x * q) (y * p)))), .int .u64 (wv1 (pkz (rOk x y ∧ rOk p q ∧ rFit (x * q) (y * p)) (rUp (x * q) (y * p)))), .int .u64 (wv0 (pkz (rOk x y ∧ rOk p q ∧ rFit (x * q) (y * p)) (rUp (x * q) (y * p)))), .int .u64 (wv3 (pkz (rOk x y ∧ rOk p q ∧ rFit (x * q) (y * p)) (rDn (x * q) (y * p)))), .int .u64 (wv2 (pkz (rOk x y ∧ rOk p q ∧ rFit (x * q) (y * p)) (rDn (x * q) (y * p)))), .int .u64 (wv1 (pkz (rOk x y ∧ rOk p q ∧ rFit (x * q) (y * p)) (rDn (x * q) (y * p)))), .int .u64 (wv0 (pkz (rOk x y ∧ rOk p q ∧ rFit (x * q) (y * p)) (rDn (x * q) (y * p))))], .bool (decide (rOk x y ∧ rOk p q ∧ rFit (x * q) (y * p)))] ∧ Ext w w1 := by
  refine ct_run (n := 35) Try.func23 rfl Try.ntmps23 rfl ?_
  have E0 : Below w.heap.size w w := Below.refl _ _
  refine rk_seq ?_
  refine rk_reg ?_
  refine lw_e (oe_box (v := .agg #[.int .u64 (wv3 x), .int .u64 (wv2 x), .int .u64 (wv1 x), .int .u64 (wv0 x), .int .u64 (wv3 y), .int .u64 (wv2 y), .int .u64 (wv1 y), .int .u64 (wv0 y)]) (cs := #[.int .u64 (wv3 x), .int .u64 (wv2 x), .int .u64 (wv1 x), .int .u64 (wv0 x), .int .u64 (wv3 y), .int .u64 (wv2 y), .int .u64 (wv1 y), .int .u64 (wv0 y)]) (T rfl rfl) rfl ?_)
  intro b1 w2 n3
  have N4 : w.heap.size ≤ b1 := n3.eq ▸ E0.size
  have E5 := below_ext E0 E0.size n3.ext
  refine lw_e (oe_box (v := .agg #[.int .u64 (wv3 p), .int .u64 (wv2 p), .int .u64 (wv1 p), .int .u64 (wv0 p), .int .u64 (wv3 q), .int .u64 (wv2 q), .int .u64 (wv1 q), .int .u64 (wv0 q)]) (cs := #[.int .u64 (wv3 p), .int .u64 (wv2 p), .int .u64 (wv1 p), .int .u64 (wv0 p), .int .u64 (wv3 q), .int .u64 (wv2 q), .int .u64 (wv1 q), .int .u64 (wv0 q)]) (T rfl rfl) rfl ?_)
  intro b6 w7 n8
  have N9 : w.heap.size ≤ b6 := n8.eq ▸ E5.size
  have : b1 < b6 := n8.eq ▸ lt_of_blk n3.blk
  have E10 := below_ext E5 E5.size n8.ext
  refine lw_e (oe_alloc ze27 ?_)
  intro b11 w12 n13
  have N14 : w.heap.size ≤ b11 := n13.eq ▸ E10.size
  have : b6 < b11 := n13.eq ▸ lt_of_blk n8.blk
  have E15 := below_ext E10 E10.size n13.ext
  refine lw_v (.bool false) (dv_assign C) ?_
  refine lw_nil ?_
  refine rk_seq ?_
  refine rk_seq ?_
  refine rk_reg ?_
  have H16 := (n13.ext.blk (n8.ext.blk n3.blk))
  refine lw_v (.agg #[.int .u64 (wv3 x), .int .u64 (wv2 x), .int .u64 (wv1 x), .int .u64 (wv0 x), .int .u64 (wv3 y), .int .u64 (wv2 y), .int .u64 (wv1 y), .int .u64 (wv0 y)]) (dv_loads (l := [.int .u64 (wv3 x), .int .u64 (wv2 x), .int .u64 (wv1 x), .int .u64 (wv0 x), .int .u64 (wv3 y), .int .u64 (wv2 y), .int .u64 (wv1 y), .int .u64 (wv0 y)]) agt27 sz27 (T rfl rfl) H16 rfl) ?_
  refine lw_e (oe_callf (vs := [.agg #[.int .u64 (wv3 x), .int .u64 (wv2 x), .int .u64 (wv1 x), .int .u64 (wv0 x), .int .u64 (wv3 y), .int .u64 (wv2 y), .int .u64 (wv1 y), .int .u64 (wv0 y)]]) co53 (ar1 (T rfl rfl)) (iRatioOk_ok (x := x) (y := y) fx_ fy_ ) ?_)
  rintro _ w17 ⟨rfl, e18⟩
  have E19 := below_ext E15 E15.size e18
  refine lw_v (.bool (decide (¬ (rOk x y)))) (dv_notd (p := rOk x y) (T rfl rfl)) ?_
  refine lw_v (.bool (decide (¬ (rOk x y)))) (dv_move (T rfl rfl)) ?_
  by_cases hb20 : rOk x y
  · -- T
    have H21 := (e18.blk (n13.ext.blk n8.blk))
    refine lw_vy (.agg #[.int .u64 (wv3 p), .int .u64 (wv2 p), .int .u64 (wv1 p), .int .u64 (wv0 p), .int .u64 (wv3 q), .int .u64 (wv2 q), .int .u64 (wv1 q), .int .u64 (wv0 q)]) (d := 11) rfl rfl (congrArg Value.bool (decide_eq_false (not_not_intro hb20))) (dv_loads (l := [.int .u64 (wv3 p), .int .u64 (wv2 p), .int .u64 (wv1 p), .int .u64 (wv0 p), .int .u64 (wv3 q), .int .u64 (wv2 q), .int .u64 (wv1 q), .int .u64 (wv0 q)]) agt27 sz27 (T rfl rfl) H21 rfl) ?_
    refine lw_ey (d := 11) rfl rfl (congrArg Value.bool (decide_eq_false (not_not_intro hb20))) (oe_callf (vs := [.agg #[.int .u64 (wv3 p), .int .u64 (wv2 p), .int .u64 (wv1 p), .int .u64 (wv0 p), .int .u64 (wv3 q), .int .u64 (wv2 q), .int .u64 (wv1 q), .int .u64 (wv0 q)]]) co53 (ar1 (T rfl rfl)) (iRatioOk_ok (x := p) (y := q) fp_ fq_ ) ?_)
    rintro _ w22 ⟨rfl, e23⟩
    have E24 := below_ext E19 E19.size e23
    refine lw_vy (.bool (decide (¬ (rOk p q)))) (d := 11) rfl rfl (congrArg Value.bool (decide_eq_false (not_not_intro hb20))) (dv_notd (p := rOk p q) (T rfl rfl)) ?_
    refine lw_v (.bool (decide (¬ (rOk p q)))) (dv_pick_f (T rfl (congrArg Value.bool (decide_eq_false (not_not_intro hb20)))) (T rfl rfl)) ?_
    refine lw_nil ?_
    by_cases hb25 : rOk p q
    · -- TT
      refine rk_cf (T rfl (congrArg Value.bool (decide_eq_false (not_not_intro hb25)))) ?_
      refine rk_skip ?_
      refine rk_seq ?_
      have H26 := (e23.blk (e18.blk H16))
      have : b1 < w22.heap.size := lt_of_blk H26
      have H27 := (e23.blk H21)
      have : b6 < w22.heap.size := lt_of_blk H27
      have H28 := (e23.blk (e18.blk n13.blk))
      have : b11 < w22.heap.size := lt_of_blk H28
      have : w.heap.size ≤ w22.heap.size := E24.size
      refine rk_par2 [fun vq wq_ => vq = .agg #[.int .u64 (wv3 x), .int .u64 (wv2 x), .int .u64 (wv1 x), .int .u64 (wv0 x), .int .u64 (wv3 y), .int .u64 (wv2 y), .int .u64 (wv1 y), .int .u64 (wv0 y)], fun vq wq_ => ∃ (nr43 : Bool) (A44 : Option Addr) (n45 : Nat) (c46 : Nat) (nr47 : Bool) (A48 : Option Addr) (n49 : Nat) (c50 : Nat), vq = .agg #[.bool nr43, .slice A44 n45 c46, .bool nr47, .slice A48 n49 c50] ∧ Num 64 22 .u64 wq_ nr43 A44 n45 c46 x 256 ∧ Num 64 22 .u64 wq_ nr47 A48 n49 c50 y 256, fun vq wq_ => vq = .agg #[.int .u64 (wv3 p), .int .u64 (wv2 p), .int .u64 (wv1 p), .int .u64 (wv0 p), .int .u64 (wv3 q), .int .u64 (wv2 q), .int .u64 (wv1 q), .int .u64 (wv0 q)], fun vq wq_ => ∃ (nr70 : Bool) (A71 : Option Addr) (n72 : Nat) (c73 : Nat) (nr74 : Bool) (A75 : Option Addr) (n76 : Nat) (c77 : Nat), vq = .agg #[.bool nr70, .slice A71 n72 c73, .bool nr74, .slice A75 n76 c77] ∧ Num 64 22 .u64 wq_ nr70 A71 n72 c73 p 256 ∧ Num 64 22 .u64 wq_ nr74 A75 n76 c77 q 256, fun _ _ => True, fun _ _ => True, fun _ _ => True, fun _ _ => True] [⟨4, 6, 1, 72, #[.bool false, .slice none 0 0, .bool false, .slice none 0 0]⟩, ⟨5, 7, 3, 72, #[.bool false, .slice none 0 0, .bool false, .slice none 0 0]⟩] [72] mo (by kernel_rfl) (by kernel_rfl) ?_ ?_ ?_ ?_ ?_
      · intro e he e2 he2 h; simp only [List.mem_cons, List.not_mem_nil, or_false] at he he2; rcases he with rfl | rfl <;> rcases he2 with rfl | rfl <;> first | rfl | exact absurd h (by decide)
      · exact ⟨⟨fun v w w2 e h => h, fun v w w2 b cs T fz s hb hT h => h⟩, ⟨fun v w w2 e ⟨nr43, A44, n45, c46, nr47, A48, n49, c50, hv, h0_, h1_⟩ => ⟨nr43, A44, n45, c46, nr47, A48, n49, c50, hv, h0_.ext e, h1_.ext e⟩, fun v w w2 b cs T fz s hb hT ⟨nr43, A44, n45, c46, nr47, A48, n49, c50, hv, h0_, h1_⟩ => ⟨nr43, A44, n45, c46, nr47, A48, n49, c50, hv, h0_.st s hb (ts_ne hT (by decide)), h1_.st s hb (ts_ne hT (by decide))⟩⟩, ⟨fun v w w2 e h => h, fun v w w2 b cs T fz s hb hT h => h⟩, ⟨fun v w w2 e ⟨nr70, A71, n72, c73, nr74, A75, n76, c77, hv, h0_, h1_⟩ => ⟨nr70, A71, n72, c73, nr74, A75, n76, c77, hv, h0_.ext e, h1_.ext e⟩, fun v w w2 b cs T fz s hb hT ⟨nr70, A71, n72, c73, nr74, A75, n76, c77, hv, h0_, h1_⟩ => ⟨nr70, A71, n72, c73, nr74, A75, n76, c77, hv, h0_.st s hb (ts_ne hT (by decide)), h1_.st s hb (ts_ne hT (by decide))⟩⟩, ⟨fun v w w2 e h => h, fun v w w2 b cs T fz s hb hT h => h⟩, ⟨fun v w w2 e h => h, fun v w w2 b cs T fz s hb hT h => h⟩, ⟨fun v w w2 e h => h, fun v w w2 b cs T fz s hb hT h => h⟩, ⟨fun v w w2 e h => h, fun v w w2 b cs T fz s hb hT h => h⟩, trivial⟩
      · refine ⟨?_, ?_, ?_, ?_, ?_, ?_, ?_, ?_, trivial⟩
        · refine .inr ⟨by kernel_rfl, ?_⟩
          intro fr30 w29 e31 hF32 hD33
          have E34 := below_ext E24 E24.size e31
          have H35 := (e31.blk H26)
          exact DV.oe (dv_loads (l := [.int .u64 (wv3 x), .int .u64 (wv2 x), .int .u64 (wv1 x), .int .u64 (wv0 x), .int .u64 (wv3 y), .int .u64 (wv2 y), .int .u64 (wv1 y), .int .u64 (wv0 y)]) agt27 sz27 (T rfl (hF32 2 (by kernel_rfl))) H35 rfl) ⟨Below.refl _ _, rfl⟩
        · refine .inr ⟨by kernel_rfl, ?_⟩
          intro fr37 w36 e38 hF39 hD40
          have E41 := below_ext E24 E24.size e38
          have hv42 : fr37 17 = .agg #[.int .u64 (wv3 x), .int .u64 (wv2 x), .int .u64 (wv1 x), .int .u64 (wv0 x), .int .u64 (wv3 y), .int .u64 (wv2 y), .int .u64 (wv1 y), .int .u64 (wv0 y)] := hD40 0 _ (by kernel_rfl) rfl (by kernel_rfl)
          refine id (oe_callf (vs := [.agg #[.int .u64 (wv3 x), .int .u64 (wv2 x), .int .u64 (wv1 x), .int .u64 (wv0 x), .int .u64 (wv3 y), .int .u64 (wv2 y), .int .u64 (wv1 y), .int .u64 (wv0 y)]]) co54 (ar1 (T rfl hv42)) (iratio_ok fx_ fy_  ) ?_)
          rintro _ w53 ⟨nr43, A44, n45, c46, nr47, A48, n49, c50, rfl, e54, h51, h52⟩
          have E55 := below_ext E41 E41.size e54
          have lh51 := Num.len (by decide) h51
          have lh52 := Num.len (by decide) h52
          exact ⟨e54, nr43, A44, n45, c46, nr47, A48, n49, c50, rfl, h51, h52⟩
        · refine .inr ⟨by kernel_rfl, ?_⟩
          intro fr57 w56 e58 hF59 hD60
          have E61 := below_ext E24 E24.size e58
          have H62 := (e58.blk H27)
          exact DV.oe (dv_loads (l := [.int .u64 (wv3 p), .int .u64 (wv2 p), .int .u64 (wv1 p), .int .u64 (wv0 p), .int .u64 (wv3 q), .int .u64 (wv2 q), .int .u64 (wv1 q), .int .u64 (wv0 q)]) agt27 sz27 (T rfl (hF59 3 (by kernel_rfl))) H62 rfl) ⟨Below.refl _ _, rfl⟩
        · refine .inr ⟨by kernel_rfl, ?_⟩
          intro fr64 w63 e65 hF66 hD67
          have E68 := below_ext E24 E24.size e65
          have hv69 : fr64 19 = .agg #[.int .u64 (wv3 p), .int .u64 (wv2 p), .int .u64 (wv1 p), .int .u64 (wv0 p), .int .u64 (wv3 q), .int .u64 (wv2 q), .int .u64 (wv1 q), .int .u64 (wv0 q)] := hD67 2 _ (by kernel_rfl) rfl (by kernel_rfl)
          refine id (oe_callf (vs := [.agg #[.int .u64 (wv3 p), .int .u64 (wv2 p), .int .u64 (wv1 p), .int .u64 (wv0 p), .int .u64 (wv3 q), .int .u64 (wv2 q), .int .u64 (wv1 q), .int .u64 (wv0 q)]]) co54 (ar1 (T rfl hv69)) (iratio_ok fp_ fq_  ) ?_)
          rintro _ w80 ⟨nr70, A71, n72, c73, nr74, A75, n76, c77, rfl, e81, h78, h79⟩
          have E82 := below_ext E68 E68.size e81
          have lh78 := Num.len (by decide) h78
          have lh79 := Num.len (by decide) h79
          exact ⟨e81, nr70, A71, n72, c73, nr74, A75, n76, c77, rfl, h78, h79⟩
        · exact .inl (.inr ⟨by kernel_rfl, fun _ _ => trivial⟩)
        · exact .inl (.inr ⟨by kernel_rfl, fun _ _ => trivial⟩)
        · exact .inl (.inl (by kernel_rfl))
        · exact .inl (.inl (by kernel_rfl))
      · refine ⟨⟨⟨_, rfl, fun _ _ => oe_alloc ze72 fun b w hn => ⟨b, rfl, hn⟩⟩, ⟨_, rfl, ?_⟩⟩, ⟨⟨_, rfl, fun _ _ => oe_alloc ze72 fun b w hn => ⟨b, rfl, hn⟩⟩, ⟨_, rfl, ?_⟩⟩, trivial⟩
        · intro fr84 w83 b88 e85 hF86 hD87 hA89 hB90
          have E91 := below_ext E24 E24.size e85
          obtain ⟨nr92, A93, n94, c95, nr96, A97, n98, c99, hv100, hp101, hp102⟩ : ∃ (nr43 : Bool) (A44 : Option Addr) (n45 : Nat) (c46 : Nat) (nr47 : Bool) (A48 : Option Addr) (n49 : Nat) (c50 : Nat), fr84 18 = .agg #[.bool nr43, .slice A44 n45 c46, .bool nr47, .slice A48 n49 c50] ∧ Num 64 22 .u64 w83 nr43 A44 n45 c46 x 256 ∧ Num 64 22 .u64 w83 nr47 A48 n49 c50 y 256 := hD87 1 _ (by kernel_rfl) rfl (by kernel_rfl)
          have lhp101 := Num.len (by decide) hp101
          have lhp102 := Num.len (by decide) hp102
          refine id (oe_store (v := .agg #[.bool nr92, .slice A93 n94 c95, .bool nr96, .slice A97 n98 c99]) (vs := [.bool nr92, .slice A93 n94 c95, .bool nr96, .slice A97 n98 c99]) (l := [.bool nr92, .slice A93 n94 c95, .bool nr96, .slice A97 n98 c99]) (T rfl hA89) (T rfl hv100) sz72 rfl rfl rfl hB90 rfl ?_)
          intro w103 s104 H105
          exact ⟨s104, H105.trans (congrArg (fun v : Value => some (Obj.cells v.cells 72)) (show fr84 18 = _ from hv100).symm)⟩
        · intro fr108 w107 b112 e109 hF110 hD111 hA113 hB114
          have E115 := below_ext E24 E24.size e109
          obtain ⟨nr116, A117, n118, c119, nr120, A121, n122, c123, hv124, hp125, hp126⟩ : ∃ (nr70 : Bool) (A71 : Option Addr) (n72 : Nat) (c73 : Nat) (nr74 : Bool) (A75 : Option Addr) (n76 : Nat) (c77 : Nat), fr108 20 = .agg #[.bool nr70, .slice A71 n72 c73, .bool nr74, .slice A75 n76 c77] ∧ Num 64 22 .u64 w107 nr70 A71 n72 c73 p 256 ∧ Num 64 22 .u64 w107 nr74 A75 n76 c77 q 256 := hD111 3 _ (by kernel_rfl) rfl (by kernel_rfl)
          have lhp125 := Num.len (by decide) hp125
          have lhp126 := Num.len (by decide) hp126
          refine id (oe_store (v := .agg #[.bool nr116, .slice A117 n118 c119, .bool nr120, .slice A121 n122 c123]) (vs := [.bool nr116, .slice A117 n118 c119, .bool nr120, .slice A121 n122 c123]) (l := [.bool nr116, .slice A117 n118 c119, .bool nr120, .slice A121 n122 c123]) (T rfl hA113) (T rfl hv124) sz72 rfl rfl rfl hB114 rfl ?_)
          intro w127 s128 H129
          exact ⟨s128, H129.trans (congrArg (fun v : Value => some (Obj.cells v.cells 72)) (show fr108 20 = _ from hv124).symm)⟩
      intro fr132 w131 e133 hF134 hP135 hM136 hN137
      have E138 := below_ext E24 E24.size e133
      obtain ⟨_, p139, _, p140, _, _, _, _, _⟩ := hP135
      obtain ⟨nr141, A142, n143, c144, nr145, A146, n147, c148, hv149, hp150, hp151⟩ : ∃ (nr43 : Bool) (A44 : Option Addr) (n45 : Nat) (c46 : Nat) (nr47 : Bool) (A48 : Option Addr) (n49 : Nat) (c50 : Nat), fr132 18 = .agg #[.bool nr43, .slice A44 n45 c46, .bool nr47, .slice A48 n49 c50] ∧ Num 64 22 .u64 w131 nr43 A44 n45 c46 x 256 ∧ Num 64 22 .u64 w131 nr47 A48 n49 c50 y 256 := p139.resolve_left (nst (by kernel_rfl))
      have lhp150 := Num.len (by decide) hp150
      have lhp151 := Num.len (by decide) hp151
      obtain ⟨nr152, A153, n154, c155, nr156, A157, n158, c159, hv160, hp161, hp162⟩ : ∃ (nr70 : Bool) (A71 : Option Addr) (n72 : Nat) (c73 : Nat) (nr74 : Bool) (A75 : Option Addr) (n76 : Nat) (c77 : Nat), fr132 20 = .agg #[.bool nr70, .slice A71 n72 c73, .bool nr74, .slice A75 n76 c77] ∧ Num 64 22 .u64 w131 nr70 A71 n72 c73 p 256 ∧ Num 64 22 .u64 w131 nr74 A75 n76 c77 q 256 := p140.resolve_left (nst (by kernel_rfl))
      have lhp161 := Num.len (by decide) hp161
      have lhp162 := Num.len (by decide) hp162
      obtain ⟨⟨b163, hA164, hB165, hC166⟩, ⟨b167, hA168, hB169, hC170⟩, _⟩ := hM136
      have H171 : w131.heap[b163]? = some (.cells #[.bool nr141, .slice A142 n143 c144, .bool nr145, .slice A146 n147 c148] 72) := hC166.trans (congrArg (fun v : Value => some (Obj.cells v.cells 72)) hv149)
      have N172 : w.heap.size ≤ b163 := by omega
      have H173 : w131.heap[b167]? = some (.cells #[.bool nr152, .slice A153 n154 c155, .bool nr156, .slice A157 n158 c159] 72) := hC170.trans (congrArg (fun v : Value => some (Obj.cells v.cells 72)) hv160)
      have N174 : w.heap.size ≤ b167 := by omega
      have : b167 ≠ b163 := fun hh => hN137 _ (.tail _ (.head _)) _ (.head _) (by decide) (hA168.trans ((congrArg (fun q => Value.pointer (some ⟨q, 0, none⟩)) hh).trans hA164.symm))
      refine rk_seq ?_
      refine rk_any (fun w => w.heap[b163]? = some (.cells #[.bool nr141, .slice A142 n143 c144, .bool nr145, .slice A146 n147 c148] 72) ∧ w.heap[b167]? = some (.cells #[.bool nr152, .slice A153 n154 c155, .bool nr156, .slice A157 n158 c159] 72)) [15] mo ?_
      intro w175 d176
      have E177 := below_ext E138 E138.size d176.ext
      have H178 := (d176.ext.blk H171)
      have H179 := (d176.ext.blk H173)
      refine aw_pure 0 (.pointer (some ⟨b163, 0, none⟩)) rfl (by kernel_rfl) .none ⟨H178, H179⟩ (fun _ => dv_fieldAddr (a := ⟨b163, 0, none⟩) (a' := ⟨b163, 0, none⟩) fo72_0 (T rfl hA164) rfl) ?_
      refine aw_load 1 (.agg #[.bool nr141, .slice A142 n143 c144]) rfl (by kernel_rfl) .none ⟨H178, H179⟩ (fun _ s => dv_loads (l := [.bool nr141, .slice A142 n143 c144]) agt69 sz69 (T rfl rfl) s.1 rfl) ?_
      refine aw_pure 2 (.pointer (some ⟨b167, 2, none⟩)) rfl (by kernel_rfl) .none ⟨H178, H179⟩ (fun _ => dv_fieldAddr (a := ⟨b167, 0, none⟩) (a' := ⟨b167, 2, none⟩) fo72_1 (T rfl hA168) rfl) ?_
      refine aw_load 3 (.agg #[.bool nr156, .slice A157 n158 c159]) rfl (by kernel_rfl) .none ⟨H178, H179⟩ (fun _ s => dv_loads (l := [.bool nr156, .slice A157 n158 c159]) agt69 sz69 (T rfl rfl) s.2 rfl) ?_
      refine aw_pure 5 (.pointer (some ⟨b163, 2, none⟩)) rfl (by kernel_rfl) .none ⟨H178, H179⟩ (fun _ => dv_fieldAddr (a := ⟨b163, 0, none⟩) (a' := ⟨b163, 2, none⟩) fo72_1 (T rfl hA164) rfl) ?_
      refine aw_load 6 (.agg #[.bool nr145, .slice A146 n147 c148]) rfl (by kernel_rfl) .none ⟨H178, H179⟩ (fun _ s => dv_loads (l := [.bool nr145, .slice A146 n147 c148]) agt69 sz69 (T rfl rfl) s.1 rfl) ?_
      refine aw_pure 7 (.pointer (some ⟨b167, 0, none⟩)) rfl (by kernel_rfl) .none ⟨H178, H179⟩ (fun _ => dv_fieldAddr (a := ⟨b167, 0, none⟩) (a' := ⟨b167, 0, none⟩) fo72_0 (T rfl hA168) rfl) ?_
      refine aw_load 8 (.agg #[.bool nr152, .slice A153 n154 c155]) rfl (by kernel_rfl) .none ⟨H178, H179⟩ (fun _ s => dv_loads (l := [.bool nr152, .slice A153 n154 c155]) agt69 sz69 (T rfl rfl) s.2 rfl) ?_
      have h180 := (hp150.ext d176.ext)
      have h181 := (hp162.ext d176.ext)
      refine aw_one 4 rfl (by kernel_rfl) .none (oe_callf (vs := [.agg #[.bool nr141, .slice A142 n143 c144], .agg #[.bool nr156, .slice A157 n158 c159]]) co55 (ar2 (T rfl rfl) (T rfl rfl)) (nby_ok h180 h181 (by first | decide | omega) (by first | decide | omega)) ?_)
      rintro _ w187 ⟨nr182, A183, n184, c185, rfl, e188, h186⟩
      have E189 := below_ext E177 E177.size e188
      have lh186 := Num.len (by decide) h186
      have H190 := (e188.blk H178)
      have H191 := (e188.blk H179)
      refine ⟨.inr ⟨H190, H191⟩, ?_⟩
      have h192 := ((hp151.ext d176.ext).ext e188)
      have h193 := ((hp161.ext d176.ext).ext e188)
      refine aw_one 9 rfl (by kernel_rfl) .none (oe_callf (vs := [.agg #[.bool nr145, .slice A146 n147 c148], .agg #[.bool nr152, .slice A153 n154 c155]]) co55 (ar2 (T rfl rfl) (T rfl rfl)) (nby_ok h192 h193 (by first | decide | omega) (by first | decide | omega)) ?_)
      rintro _ w199 ⟨nr194, A195, n196, c197, rfl, e200, h198⟩
      have E201 := below_ext E189 E189.size e200
      have lh198 := Num.len (by decide) h198
      have H202 := (e200.blk H190)
      have H203 := (e200.blk H191)
      refine ⟨.inr ⟨H202, H203⟩, ?_⟩
      refine aw_pure 10 (.agg #[.bool nr182, .slice A183 n184 c185, .bool nr194, .slice A195 n196 c197]) rfl (by kernel_rfl) .none ⟨H202, H203⟩ (fun _ => dv_build (pv := [(0, .agg #[.bool nr182, .slice A183 n184 c185]), (1, .agg #[.bool nr194, .slice A195 n196 c197])]) (l := [.bool nr182, .slice A183 n184 c185, .bool nr194, .slice A195 n196 c197]) zc72 pl72 ⟨rfl, (T rfl rfl), ⟨rfl, (T rfl rfl), trivial⟩⟩ rfl) ?_
      have h204 := (h186.ext e200)
      refine aw_one 11 rfl (by kernel_rfl) .none (oe_callf (vs := [.agg #[.bool nr182, .slice A183 n184 c185, .bool nr194, .slice A195 n196 c197]]) co48 (ar1 (T rfl rfl)) (told_ok h204 h198 (by first | decide | omega) (by first | decide | omega) ) ?_)
      rintro _ w205 ⟨rfl, e206⟩
      have E207 := below_ext E201 E201.size e206
      have H208 := (e206.blk H202)
      have H209 := (e206.blk H203)
      refine ⟨.inr ⟨H208, H209⟩, ?_⟩
      refine aw_pure 12 (.agg #[.int .u64 (wv3 (pkz (rFit (x * q) (y * p)) (rUp (x * q) (y * p)))), .int .u64 (wv2 (pkz (rFit (x * q) (y * p)) (rUp (x * q) (y * p)))), .int .u64 (wv1 (pkz (rFit (x * q) (y * p)) (rUp (x * q) (y * p)))), .int .u64 (wv0 (pkz (rFit (x * q) (y * p)) (rUp (x * q) (y * p)))), .int .u64 (wv3 (pkz (rFit (x * q) (y * p)) (rDn (x * q) (y * p)))), .int .u64 (wv2 (pkz (rFit (x * q) (y * p)) (rDn (x * q) (y * p)))), .int .u64 (wv1 (pkz (rFit (x * q) (y * p)) (rDn (x * q) (y * p)))), .int .u64 (wv0 (pkz (rFit (x * q) (y * p)) (rDn (x * q) (y * p))))]) rfl (by kernel_rfl) .none ⟨H208, H209⟩ (fun _ => dv_extract (vs := #[.agg #[.int .u64 (wv3 (pkz (rFit (x * q) (y * p)) (rUp (x * q) (y * p)))), .int .u64 (wv2 (pkz (rFit (x * q) (y * p)) (rUp (x * q) (y * p)))), .int .u64 (wv1 (pkz (rFit (x * q) (y * p)) (rUp (x * q) (y * p)))), .int .u64 (wv0 (pkz (rFit (x * q) (y * p)) (rUp (x * q) (y * p)))), .int .u64 (wv3 (pkz (rFit (x * q) (y * p)) (rDn (x * q) (y * p)))), .int .u64 (wv2 (pkz (rFit (x * q) (y * p)) (rDn (x * q) (y * p)))), .int .u64 (wv1 (pkz (rFit (x * q) (y * p)) (rDn (x * q) (y * p)))), .int .u64 (wv0 (pkz (rFit (x * q) (y * p)) (rDn (x * q) (y * p))))], .bool (decide (rFit (x * q) (y * p)))]) (T rfl rfl) rfl) ?_
      refine aw_pure 13 (.bool (decide (rFit (x * q) (y * p)))) rfl (by kernel_rfl) .none ⟨H208, H209⟩ (fun _ => dv_extract (vs := #[.agg #[.int .u64 (wv3 (pkz (rFit (x * q) (y * p)) (rUp (x * q) (y * p)))), .int .u64 (wv2 (pkz (rFit (x * q) (y * p)) (rUp (x * q) (y * p)))), .int .u64 (wv1 (pkz (rFit (x * q) (y * p)) (rUp (x * q) (y * p)))), .int .u64 (wv0 (pkz (rFit (x * q) (y * p)) (rUp (x * q) (y * p)))), .int .u64 (wv3 (pkz (rFit (x * q) (y * p)) (rDn (x * q) (y * p)))), .int .u64 (wv2 (pkz (rFit (x * q) (y * p)) (rDn (x * q) (y * p)))), .int .u64 (wv1 (pkz (rFit (x * q) (y * p)) (rDn (x * q) (y * p)))), .int .u64 (wv0 (pkz (rFit (x * q) (y * p)) (rDn (x * q) (y * p))))], .bool (decide (rFit (x * q) (y * p)))]) (T rfl rfl) rfl) ?_
      have H210 := (e206.blk (e200.blk (e188.blk (d176.ext.blk (e133.blk H28)))))
      refine aw_one 14 rfl (by kernel_rfl) .none (oe_store (v := .agg #[.int .u64 (wv3 (pkz (rFit (x * q) (y * p)) (rUp (x * q) (y * p)))), .int .u64 (wv2 (pkz (rFit (x * q) (y * p)) (rUp (x * q) (y * p)))), .int .u64 (wv1 (pkz (rFit (x * q) (y * p)) (rUp (x * q) (y * p)))), .int .u64 (wv0 (pkz (rFit (x * q) (y * p)) (rUp (x * q) (y * p)))), .int .u64 (wv3 (pkz (rFit (x * q) (y * p)) (rDn (x * q) (y * p)))), .int .u64 (wv2 (pkz (rFit (x * q) (y * p)) (rDn (x * q) (y * p)))), .int .u64 (wv1 (pkz (rFit (x * q) (y * p)) (rDn (x * q) (y * p)))), .int .u64 (wv0 (pkz (rFit (x * q) (y * p)) (rDn (x * q) (y * p))))]) (vs := [.int .u64 (wv3 (pkz (rFit (x * q) (y * p)) (rUp (x * q) (y * p)))), .int .u64 (wv2 (pkz (rFit (x * q) (y * p)) (rUp (x * q) (y * p)))), .int .u64 (wv1 (pkz (rFit (x * q) (y * p)) (rUp (x * q) (y * p)))), .int .u64 (wv0 (pkz (rFit (x * q) (y * p)) (rUp (x * q) (y * p)))), .int .u64 (wv3 (pkz (rFit (x * q) (y * p)) (rDn (x * q) (y * p)))), .int .u64 (wv2 (pkz (rFit (x * q) (y * p)) (rDn (x * q) (y * p)))), .int .u64 (wv1 (pkz (rFit (x * q) (y * p)) (rDn (x * q) (y * p)))), .int .u64 (wv0 (pkz (rFit (x * q) (y * p)) (rDn (x * q) (y * p))))]) (l := [.int .u64 (wv3 (pkz (rFit (x * q) (y * p)) (rUp (x * q) (y * p)))), .int .u64 (wv2 (pkz (rFit (x * q) (y * p)) (rUp (x * q) (y * p)))), .int .u64 (wv1 (pkz (rFit (x * q) (y * p)) (rUp (x * q) (y * p)))), .int .u64 (wv0 (pkz (rFit (x * q) (y * p)) (rUp (x * q) (y * p)))), .int .u64 (wv3 (pkz (rFit (x * q) (y * p)) (rDn (x * q) (y * p)))), .int .u64 (wv2 (pkz (rFit (x * q) (y * p)) (rDn (x * q) (y * p)))), .int .u64 (wv1 (pkz (rFit (x * q) (y * p)) (rDn (x * q) (y * p)))), .int .u64 (wv0 (pkz (rFit (x * q) (y * p)) (rDn (x * q) (y * p))))]) (T rfl (hF134 4 rfl)) (T rfl rfl) sz27 rfl rfl rfl H210 rfl ?_)
      intro w211 s212 H213
      have E214 := below_st E207 N14 s212
      have H215 := (s212.blk H208 (by omega))
      have H216 := (s212.blk H209 (by omega))
      refine ⟨.inr ⟨H215, H216⟩, ?_⟩
      refine aw_last 15 (.bool (decide (rFit (x * q) (y * p)))) rfl (by kernel_rfl) .none (fun _ => dv_assign (T rfl rfl)) ?_
      refine aw_done (by kernel_rfl) ?_
      refine rk_ret Try.func23 (v := .tuple #[.agg #[.int .u64 (wv3 (pkz (rFit (x * q) (y * p)) (rUp (x * q) (y * p)))), .int .u64 (wv2 (pkz (rFit (x * q) (y * p)) (rUp (x * q) (y * p)))), .int .u64 (wv1 (pkz (rFit (x * q) (y * p)) (rUp (x * q) (y * p)))), .int .u64 (wv0 (pkz (rFit (x * q) (y * p)) (rUp (x * q) (y * p)))), .int .u64 (wv3 (pkz (rFit (x * q) (y * p)) (rDn (x * q) (y * p)))), .int .u64 (wv2 (pkz (rFit (x * q) (y * p)) (rDn (x * q) (y * p)))), .int .u64 (wv1 (pkz (rFit (x * q) (y * p)) (rDn (x * q) (y * p)))), .int .u64 (wv0 (pkz (rFit (x * q) (y * p)) (rDn (x * q) (y * p))))], .bool (decide (rFit (x * q) (y * p)))]) (res2 Try.results23 (rv_cells (l := [.int .u64 (wv3 (pkz (rFit (x * q) (y * p)) (rUp (x * q) (y * p)))), .int .u64 (wv2 (pkz (rFit (x * q) (y * p)) (rUp (x * q) (y * p)))), .int .u64 (wv1 (pkz (rFit (x * q) (y * p)) (rUp (x * q) (y * p)))), .int .u64 (wv0 (pkz (rFit (x * q) (y * p)) (rUp (x * q) (y * p)))), .int .u64 (wv3 (pkz (rFit (x * q) (y * p)) (rDn (x * q) (y * p)))), .int .u64 (wv2 (pkz (rFit (x * q) (y * p)) (rDn (x * q) (y * p)))), .int .u64 (wv1 (pkz (rFit (x * q) (y * p)) (rDn (x * q) (y * p)))), .int .u64 (wv0 (pkz (rFit (x * q) (y * p)) (rDn (x * q) (y * p))))]) agt27 sz27 rfl (hF134 4 rfl) H213 rfl) (rv_tmp rfl rfl)) ⟨_, rfl, ?_⟩
      have hi : (rFit (x * q) (y * p)) ↔ (rOk x y ∧ rOk p q ∧ rFit (x * q) (y * p)) := by have h1 : rOk x y := (by first | assumption | simpa using ‹_›); have h2 : rOk p q := (by first | assumption | simpa using ‹_›); first | exact ⟨fun hh => ⟨h1, h2, hh⟩, fun hh => hh.2.2⟩ | exact ⟨fun hh => ⟨h1, h2, (Int.mul_ne_zero (Int.ne_of_gt h1.1) (by assumption)), hh⟩, fun hh => hh.2.2.2⟩
      exact ⟨(tu2 (ag8 (vi (by rw [pkz_iff hi])) (vi (by rw [pkz_iff hi])) (vi (by rw [pkz_iff hi])) (vi (by rw [pkz_iff hi])) (vi (by rw [pkz_iff hi])) (vi (by rw [pkz_iff hi])) (vi (by rw [pkz_iff hi])) (vi (by rw [pkz_iff hi]))) (vb hi)), E214⟩
    · -- TF
      refine rk_ct (T rfl (congrArg Value.bool (decide_eq_true hb25))) ?_
      refine rk_seq ?_
      refine rk_reg ?_
      refine lw_v (.agg #[.int .u64 0, .int .u64 0, .int .u64 0, .int .u64 0, .int .u64 0, .int .u64 0, .int .u64 0, .int .u64 0]) (dv_build (pv := []) (l := [.int .u64 0, .int .u64 0, .int .u64 0, .int .u64 0, .int .u64 0, .int .u64 0, .int .u64 0, .int .u64 0]) zc27 pl27 trivial rfl) ?_
      have H217 := (e23.blk (e18.blk n13.blk))
      refine lw_e (oe_store (v := .agg #[.int .u64 0, .int .u64 0, .int .u64 0, .int .u64 0, .int .u64 0, .int .u64 0, .int .u64 0, .int .u64 0]) (vs := [.int .u64 0, .int .u64 0, .int .u64 0, .int .u64 0, .int .u64 0, .int .u64 0, .int .u64 0, .int .u64 0]) (l := [.int .u64 0, .int .u64 0, .int .u64 0, .int .u64 0, .int .u64 0, .int .u64 0, .int .u64 0, .int .u64 0]) (T rfl rfl) (T rfl rfl) sz27 rfl rfl rfl H217 rfl ?_)
      intro w218 s219 H220
      have E221 := below_st E24 N14 s219
      refine lw_v (.bool false) (dv_assign C) ?_
      refine lw_nil ?_
      refine rk_ret Try.func23 (v := .tuple #[.agg #[.int .u64 0, .int .u64 0, .int .u64 0, .int .u64 0, .int .u64 0, .int .u64 0, .int .u64 0, .int .u64 0], .bool false]) (res2 Try.results23 (rv_cells (l := [.int .u64 0, .int .u64 0, .int .u64 0, .int .u64 0, .int .u64 0, .int .u64 0, .int .u64 0, .int .u64 0]) agt27 sz27 rfl rfl H220 rfl) (rv_tmp rfl rfl)) ⟨_, rfl, ?_⟩
      have hS : ¬ (rOk x y ∧ rOk p q ∧ rFit (x * q) (y * p)) := by first | (intro hh; exact absurd hh.1 (by assumption)) | (intro hh; exact absurd hh.2.1 (by assumption)) | (intro hh; have h1 := hh.2.2.1; simp_all)
      exact ⟨(tu2 (ag8 (vi (wf3 hS)) (vi (wf2 hS)) (vi (wf1 hS)) (vi (wf0 hS)) (vi (wf3 hS)) (vi (wf2 hS)) (vi (wf1 hS)) (vi (wf0 hS))) (vf hS)), E221⟩
  · -- F
    refine lw_no (d := 11) rfl rfl (congrArg Value.bool (decide_eq_true hb20)) ?_
    refine lw_no (d := 11) rfl rfl (congrArg Value.bool (decide_eq_true hb20)) ?_
    refine lw_no (d := 11) rfl rfl (congrArg Value.bool (decide_eq_true hb20)) ?_
    refine lw_v (.bool true) (dv_pick_t (T rfl (congrArg Value.bool (decide_eq_true hb20))) C) ?_
    refine lw_nil ?_
    refine rk_ct (T rfl rfl) ?_
    refine rk_seq ?_
    refine rk_reg ?_
    refine lw_v (.agg #[.int .u64 0, .int .u64 0, .int .u64 0, .int .u64 0, .int .u64 0, .int .u64 0, .int .u64 0, .int .u64 0]) (dv_build (pv := []) (l := [.int .u64 0, .int .u64 0, .int .u64 0, .int .u64 0, .int .u64 0, .int .u64 0, .int .u64 0, .int .u64 0]) zc27 pl27 trivial rfl) ?_
    have H222 := (e18.blk n13.blk)
    refine lw_e (oe_store (v := .agg #[.int .u64 0, .int .u64 0, .int .u64 0, .int .u64 0, .int .u64 0, .int .u64 0, .int .u64 0, .int .u64 0]) (vs := [.int .u64 0, .int .u64 0, .int .u64 0, .int .u64 0, .int .u64 0, .int .u64 0, .int .u64 0, .int .u64 0]) (l := [.int .u64 0, .int .u64 0, .int .u64 0, .int .u64 0, .int .u64 0, .int .u64 0, .int .u64 0, .int .u64 0]) (T rfl rfl) (T rfl rfl) sz27 rfl rfl rfl H222 rfl ?_)
    intro w223 s224 H225
    have E226 := below_st E19 N14 s224
    refine lw_v (.bool false) (dv_assign C) ?_
    refine lw_nil ?_
    refine rk_ret Try.func23 (v := .tuple #[.agg #[.int .u64 0, .int .u64 0, .int .u64 0, .int .u64 0, .int .u64 0, .int .u64 0, .int .u64 0, .int .u64 0], .bool false]) (res2 Try.results23 (rv_cells (l := [.int .u64 0, .int .u64 0, .int .u64 0, .int .u64 0, .int .u64 0, .int .u64 0, .int .u64 0, .int .u64 0]) agt27 sz27 rfl rfl H225 rfl) (rv_tmp rfl rfl)) ⟨_, rfl, ?_⟩
    have hS : ¬ (rOk x y ∧ rOk p q ∧ rFit (x * q) (y * p)) := by first | (intro hh; exact absurd hh.1 (by assumption)) | (intro hh; exact absurd hh.2.1 (by assumption)) | (intro hh; have h1 := hh.2.2.1; simp_all)
    exact ⟨(tu2 (ag8 (vi (wf3 hS)) (vi (wf2 hS)) (vi (wf1 hS)) (vi (wf0 hS)) (vi (wf3 hS)) (vi (wf2 hS)) (vi (wf1 hS)) (vi (wf0 hS))) (vf hS)), E226⟩

set_option maxHeartbeats 1000000 in
theorem sRatioDiv_ok {w : World} {x y p q : Int} (fx_ : fits x) (fy_ : fits y) (fp_ : fits p) (fq_ : fits q)  : Ct Try.prog 22 [.agg #[.int .u64 (wv3 x), .int .u64 (wv2 x), .int .u64 (wv1 x), .int .u64 (wv0 x), .int .u64 (wv3 y), .int .u64 (wv2 y), .int .u64 (wv1 y), .int .u64 (wv0 y)], .agg #[.int .u64 (wv3 p), .int .u64 (wv2 p), .int .u64 (wv1 p), .int .u64 (wv0 p), .int .u64 (wv3 q), .int .u64 (wv2 q), .int .u64 (wv1 q), .int .u64 (wv0 q)]] w fun v w1 => v = .tuple #[.agg #[.int .u64 (wv3 (pkz (rOk x y ∧ rOk p q ∧ rFit (x * q) (y * p)) (rUp (x * q) (y * p)))), .int .u64 (wv2 (pkz (rOk x y ∧ rOk p q ∧ rFit (x * q) (y * p)) (rUp (x * q) (y * p)))), .int .u64 (wv1 (pkz (rOk x y ∧ rOk p q ∧ rFit (x * q) (y * p)) (rUp (x * q) (y * p)))), .int .u64 (wv0 (pkz (rOk x y ∧ rOk p q ∧ rFit (x * q) (y * p)) (rUp (x * q) (y * p)))), .int .u64 (wv3 (pkz (rOk x y ∧ rOk p q ∧ rFit (x * q) (y * p)) (rDn (x * q) (y * p)))), .int .u64 (wv2 (pkz (rOk x y ∧ rOk p q ∧ rFit (x * q) (y * p)) (rDn (x * q) (y * p)))), .int .u64 (wv1 (pkz (rOk x y ∧ rOk p q ∧ rFit (x * q) (y * p)) (rDn (x * q) (y * p)))), .int .u64 (wv0 (pkz (rOk x y ∧ rOk p q ∧ rFit (x * q) (y * p)) (rDn (x * q) (y * p))))], .bool (decide (rOk x y ∧ rOk p q ∧ rFit (x * q) (y * p)))] ∧ Ext w w1 := by
  refine ct_run (n := 41) Try.func22 rfl Try.ntmps22 rfl ?_
  have E0 : Below w.heap.size w w := Below.refl _ _
  refine rk_seq ?_
  refine rk_reg ?_
  refine lw_e (oe_box (v := .agg #[.int .u64 (wv3 x), .int .u64 (wv2 x), .int .u64 (wv1 x), .int .u64 (wv0 x), .int .u64 (wv3 y), .int .u64 (wv2 y), .int .u64 (wv1 y), .int .u64 (wv0 y)]) (cs := #[.int .u64 (wv3 x), .int .u64 (wv2 x), .int .u64 (wv1 x), .int .u64 (wv0 x), .int .u64 (wv3 y), .int .u64 (wv2 y), .int .u64 (wv1 y), .int .u64 (wv0 y)]) (T rfl rfl) rfl ?_)
  intro b1 w2 n3
  have N4 : w.heap.size ≤ b1 := n3.eq ▸ E0.size
  have E5 := below_ext E0 E0.size n3.ext
  refine lw_e (oe_box (v := .agg #[.int .u64 (wv3 p), .int .u64 (wv2 p), .int .u64 (wv1 p), .int .u64 (wv0 p), .int .u64 (wv3 q), .int .u64 (wv2 q), .int .u64 (wv1 q), .int .u64 (wv0 q)]) (cs := #[.int .u64 (wv3 p), .int .u64 (wv2 p), .int .u64 (wv1 p), .int .u64 (wv0 p), .int .u64 (wv3 q), .int .u64 (wv2 q), .int .u64 (wv1 q), .int .u64 (wv0 q)]) (T rfl rfl) rfl ?_)
  intro b6 w7 n8
  have N9 : w.heap.size ≤ b6 := n8.eq ▸ E5.size
  have : b1 < b6 := n8.eq ▸ lt_of_blk n3.blk
  have E10 := below_ext E5 E5.size n8.ext
  refine lw_e (oe_alloc ze27 ?_)
  intro b11 w12 n13
  have N14 : w.heap.size ≤ b11 := n13.eq ▸ E10.size
  have : b6 < b11 := n13.eq ▸ lt_of_blk n8.blk
  have E15 := below_ext E10 E10.size n13.ext
  refine lw_v (.bool false) (dv_assign C) ?_
  refine lw_nil ?_
  refine rk_seq ?_
  refine rk_seq ?_
  refine rk_reg ?_
  have H16 := (n13.ext.blk (n8.ext.blk n3.blk))
  refine lw_v (.agg #[.int .u64 (wv3 x), .int .u64 (wv2 x), .int .u64 (wv1 x), .int .u64 (wv0 x), .int .u64 (wv3 y), .int .u64 (wv2 y), .int .u64 (wv1 y), .int .u64 (wv0 y)]) (dv_loads (l := [.int .u64 (wv3 x), .int .u64 (wv2 x), .int .u64 (wv1 x), .int .u64 (wv0 x), .int .u64 (wv3 y), .int .u64 (wv2 y), .int .u64 (wv1 y), .int .u64 (wv0 y)]) agt27 sz27 (T rfl rfl) H16 rfl) ?_
  refine lw_e (oe_callf (vs := [.agg #[.int .u64 (wv3 x), .int .u64 (wv2 x), .int .u64 (wv1 x), .int .u64 (wv0 x), .int .u64 (wv3 y), .int .u64 (wv2 y), .int .u64 (wv1 y), .int .u64 (wv0 y)]]) co50 (ar1 (T rfl rfl)) (sRatioOk_ok (x := x) (y := y) fx_ fy_ ) ?_)
  rintro _ w17 ⟨rfl, e18⟩
  have E19 := below_ext E15 E15.size e18
  refine lw_v (.bool (decide (¬ (rOk x y)))) (dv_notd (p := rOk x y) (T rfl rfl)) ?_
  refine lw_v (.bool (decide (¬ (rOk x y)))) (dv_move (T rfl rfl)) ?_
  by_cases hb20 : rOk x y
  · -- T
    have H21 := (e18.blk (n13.ext.blk n8.blk))
    refine lw_vy (.agg #[.int .u64 (wv3 p), .int .u64 (wv2 p), .int .u64 (wv1 p), .int .u64 (wv0 p), .int .u64 (wv3 q), .int .u64 (wv2 q), .int .u64 (wv1 q), .int .u64 (wv0 q)]) (d := 11) rfl rfl (congrArg Value.bool (decide_eq_false (not_not_intro hb20))) (dv_loads (l := [.int .u64 (wv3 p), .int .u64 (wv2 p), .int .u64 (wv1 p), .int .u64 (wv0 p), .int .u64 (wv3 q), .int .u64 (wv2 q), .int .u64 (wv1 q), .int .u64 (wv0 q)]) agt27 sz27 (T rfl rfl) H21 rfl) ?_
    refine lw_ey (d := 11) rfl rfl (congrArg Value.bool (decide_eq_false (not_not_intro hb20))) (oe_callf (vs := [.agg #[.int .u64 (wv3 p), .int .u64 (wv2 p), .int .u64 (wv1 p), .int .u64 (wv0 p), .int .u64 (wv3 q), .int .u64 (wv2 q), .int .u64 (wv1 q), .int .u64 (wv0 q)]]) co50 (ar1 (T rfl rfl)) (sRatioOk_ok (x := p) (y := q) fp_ fq_ ) ?_)
    rintro _ w22 ⟨rfl, e23⟩
    have E24 := below_ext E19 E19.size e23
    refine lw_vy (.bool (decide (¬ (rOk p q)))) (d := 11) rfl rfl (congrArg Value.bool (decide_eq_false (not_not_intro hb20))) (dv_notd (p := rOk p q) (T rfl rfl)) ?_
    refine lw_v (.bool (decide (¬ (rOk p q)))) (dv_pick_f (T rfl (congrArg Value.bool (decide_eq_false (not_not_intro hb20)))) (T rfl rfl)) ?_
    refine lw_v (.bool (decide (¬ (rOk p q)))) (dv_move (T rfl rfl)) ?_
    by_cases hb25 : rOk p q
    · -- TT
      refine lw_vy (.pointer (some ⟨b6, 0, none⟩)) (d := 16) rfl rfl (congrArg Value.bool (decide_eq_false (not_not_intro hb25))) (dv_fieldAddr (a := ⟨b6, 0, none⟩) (a' := ⟨b6, 0, none⟩) fo27_0 (T rfl rfl) rfl) ?_
      have H26 := (e23.blk H21)
      refine lw_vy (.agg #[.int .u64 (wv3 p), .int .u64 (wv2 p), .int .u64 (wv1 p), .int .u64 (wv0 p)]) (d := 16) rfl rfl (congrArg Value.bool (decide_eq_false (not_not_intro hb25))) (dv_loads (l := [.int .u64 (wv3 p), .int .u64 (wv2 p), .int .u64 (wv1 p), .int .u64 (wv0 p)]) agt25 sz25 (T rfl rfl) H26 rfl) ?_
      refine lw_vy (.agg #[.int .u64 0, .int .u64 0, .int .u64 0, .int .u64 0]) (d := 16) rfl rfl (congrArg Value.bool (decide_eq_false (not_not_intro hb25))) (dv_build (pv := []) (l := [.int .u64 0, .int .u64 0, .int .u64 0, .int .u64 0]) zc25 pl25 trivial rfl) ?_
      refine lw_vy (.bool (decide (([wv3 p, wv2 p, wv1 p, wv0 p] : List Int) = [0, 0, 0, 0]))) (d := 16) rfl rfl (congrArg Value.bool (decide_eq_false (not_not_intro hb25))) (dv_eqls (k := .u64) (la := [wv3 p, wv2 p, wv1 p, wv0 p]) (lb := [0, 0, 0, 0]) fl25 eg25 (T rfl rfl) (T rfl rfl) rfl rfl) ?_
      refine lw_v (.bool (decide (([wv3 p, wv2 p, wv1 p, wv0 p] : List Int) = [0, 0, 0, 0]))) (dv_pick_f (T rfl (congrArg Value.bool (decide_eq_false (not_not_intro hb25)))) (T rfl rfl)) ?_
      refine lw_nil ?_
      by_cases hb27 : ([wv3 p, wv2 p, wv1 p, wv0 p] : List Int) = [0, 0, 0, 0]
      · -- TTT
        have hz28 := (wl_zero fp_).1 hb27
        refine rk_ct (T rfl (congrArg Value.bool (decide_eq_true hb27))) ?_
        refine rk_seq ?_
        refine rk_reg ?_
        refine lw_v (.agg #[.int .u64 0, .int .u64 0, .int .u64 0, .int .u64 0, .int .u64 0, .int .u64 0, .int .u64 0, .int .u64 0]) (dv_build (pv := []) (l := [.int .u64 0, .int .u64 0, .int .u64 0, .int .u64 0, .int .u64 0, .int .u64 0, .int .u64 0, .int .u64 0]) zc27 pl27 trivial rfl) ?_
        have H29 := (e23.blk (e18.blk n13.blk))
        refine lw_e (oe_store (v := .agg #[.int .u64 0, .int .u64 0, .int .u64 0, .int .u64 0, .int .u64 0, .int .u64 0, .int .u64 0, .int .u64 0]) (vs := [.int .u64 0, .int .u64 0, .int .u64 0, .int .u64 0, .int .u64 0, .int .u64 0, .int .u64 0, .int .u64 0]) (l := [.int .u64 0, .int .u64 0, .int .u64 0, .int .u64 0, .int .u64 0, .int .u64 0, .int .u64 0, .int .u64 0]) (T rfl rfl) (T rfl rfl) sz27 rfl rfl rfl H29 rfl ?_)
        intro w30 s31 H32
        have E33 := below_st E24 N14 s31
        refine lw_v (.bool false) (dv_assign C) ?_
        refine lw_nil ?_
        refine rk_ret Try.func22 (v := .tuple #[.agg #[.int .u64 0, .int .u64 0, .int .u64 0, .int .u64 0, .int .u64 0, .int .u64 0, .int .u64 0, .int .u64 0], .bool false]) (res2 Try.results22 (rv_cells (l := [.int .u64 0, .int .u64 0, .int .u64 0, .int .u64 0, .int .u64 0, .int .u64 0, .int .u64 0, .int .u64 0]) agt27 sz27 rfl rfl H32 rfl) (rv_tmp rfl rfl)) ⟨_, rfl, ?_⟩
        have hS : ¬ (rOk x y ∧ rOk p q ∧ rFit (x * q) (y * p)) := by first | (intro hh; exact absurd hh.1 (by assumption)) | (intro hh; exact absurd hh.2.1 (by assumption)) | (intro hh; have h1 := hh.2.2.1; simp_all)
        exact ⟨(tu2 (ag8 (vi (wf3 hS)) (vi (wf2 hS)) (vi (wf1 hS)) (vi (wf0 hS)) (vi (wf3 hS)) (vi (wf2 hS)) (vi (wf1 hS)) (vi (wf0 hS))) (vf hS)), E33⟩
      · -- TTF
        have hz34 := mt (wl_zero fp_).2 hb27
        refine rk_cf (T rfl (congrArg Value.bool (decide_eq_false hb27))) ?_
        refine rk_skip ?_
        refine rk_seq ?_
        refine rk_reg ?_
        have H35 := (e23.blk (e18.blk H16))
        refine lw_v (.agg #[.int .u64 (wv3 x), .int .u64 (wv2 x), .int .u64 (wv1 x), .int .u64 (wv0 x), .int .u64 (wv3 y), .int .u64 (wv2 y), .int .u64 (wv1 y), .int .u64 (wv0 y)]) (dv_loads (l := [.int .u64 (wv3 x), .int .u64 (wv2 x), .int .u64 (wv1 x), .int .u64 (wv0 x), .int .u64 (wv3 y), .int .u64 (wv2 y), .int .u64 (wv1 y), .int .u64 (wv0 y)]) agt27 sz27 (T rfl rfl) H35 rfl) ?_
        refine lw_e (oe_callf (vs := [.agg #[.int .u64 (wv3 x), .int .u64 (wv2 x), .int .u64 (wv1 x), .int .u64 (wv0 x), .int .u64 (wv3 y), .int .u64 (wv2 y), .int .u64 (wv1 y), .int .u64 (wv0 y)]]) co52 (ar1 (T rfl rfl)) (sratio_ok fx_ fy_  ) ?_)
        rintro _ w46 ⟨nr36, A37, n38, c39, nr40, A41, n42, c43, rfl, e47, h44, h45⟩
        have E48 := below_ext E24 E24.size e47
        have lh44 := Num.len (by decide) h44
        have lh45 := Num.len (by decide) h45
        refine lw_e (oe_alloc ze64 ?_)
        intro b49 w50 n51
        have N52 : w.heap.size ≤ b49 := n51.eq ▸ E48.size
        have H53 := (e47.blk (e23.blk (e18.blk n13.blk)))
        have : b11 < b49 := n51.eq ▸ lt_of_blk H53
        have E54 := below_ext E48 E48.size n51.ext
        refine lw_e (oe_store (v := .agg #[.bool nr36, .slice A37 n38 c39, .bool nr40, .slice A41 n42 c43]) (vs := [.bool nr36, .slice A37 n38 c39, .bool nr40, .slice A41 n42 c43]) (l := [.bool nr36, .slice A37 n38 c39, .bool nr40, .slice A41 n42 c43]) (T rfl rfl) (T rfl rfl) sz64 rfl rfl rfl n51.blk rfl ?_)
        intro w55 s56 H57
        have E58 := below_st E54 N52 s56
        refine lw_nil ?_
        refine rk_seq ?_
        refine rk_reg ?_
        have H59 := (s56.blk (n51.ext.blk (e47.blk H26)) (by omega))
        refine lw_v (.agg #[.int .u64 (wv3 p), .int .u64 (wv2 p), .int .u64 (wv1 p), .int .u64 (wv0 p), .int .u64 (wv3 q), .int .u64 (wv2 q), .int .u64 (wv1 q), .int .u64 (wv0 q)]) (dv_loads (l := [.int .u64 (wv3 p), .int .u64 (wv2 p), .int .u64 (wv1 p), .int .u64 (wv0 p), .int .u64 (wv3 q), .int .u64 (wv2 q), .int .u64 (wv1 q), .int .u64 (wv0 q)]) agt27 sz27 (T rfl rfl) H59 rfl) ?_
        refine lw_e (oe_callf (vs := [.agg #[.int .u64 (wv3 p), .int .u64 (wv2 p), .int .u64 (wv1 p), .int .u64 (wv0 p), .int .u64 (wv3 q), .int .u64 (wv2 q), .int .u64 (wv1 q), .int .u64 (wv0 q)]]) co52 (ar1 (T rfl rfl)) (sratio_ok fp_ fq_  ) ?_)
        rintro _ w70 ⟨nr60, A61, n62, c63, nr64, A65, n66, c67, rfl, e71, h68, h69⟩
        have E72 := below_ext E58 E58.size e71
        have lh68 := Num.len (by decide) h68
        have lh69 := Num.len (by decide) h69
        refine lw_e (oe_alloc ze64 ?_)
        intro b73 w74 n75
        have N76 : w.heap.size ≤ b73 := n75.eq ▸ E72.size
        have H77 := (e71.blk H57)
        have : b49 < b73 := n75.eq ▸ lt_of_blk H77
        have E78 := below_ext E72 E72.size n75.ext
        refine lw_e (oe_store (v := .agg #[.bool nr60, .slice A61 n62 c63, .bool nr64, .slice A65 n66 c67]) (vs := [.bool nr60, .slice A61 n62 c63, .bool nr64, .slice A65 n66 c67]) (l := [.bool nr60, .slice A61 n62 c63, .bool nr64, .slice A65 n66 c67]) (T rfl rfl) (T rfl rfl) sz64 rfl rfl rfl n75.blk rfl ?_)
        intro w79 s80 H81
        have E82 := below_st E78 N76 s80
        refine lw_nil ?_
        refine rk_seq ?_
        refine rk_any (fun w => w.heap[b49]? = some (.cells #[.bool nr36, .slice A37 n38 c39, .bool nr40, .slice A41 n42 c43] 64) ∧ w.heap[b73]? = some (.cells #[.bool nr60, .slice A61 n62 c63, .bool nr64, .slice A65 n66 c67] 64)) [15] mo ?_
        intro w83 d84
        have E85 := below_ext E82 E82.size d84.ext
        have H86 := (d84.ext.blk (s80.blk (n75.ext.blk H77) (by omega)))
        have H87 := (d84.ext.blk H81)
        refine aw_pure 0 (.pointer (some ⟨b49, 0, none⟩)) rfl (by kernel_rfl) .none ⟨H86, H87⟩ (fun _ => dv_fieldAddr (a := ⟨b49, 0, none⟩) (a' := ⟨b49, 0, none⟩) fo64_0 (T rfl rfl) rfl) ?_
        refine aw_load 1 (.agg #[.bool nr36, .slice A37 n38 c39]) rfl (by kernel_rfl) .none ⟨H86, H87⟩ (fun _ s => dv_loads (l := [.bool nr36, .slice A37 n38 c39]) agt62 sz62 (T rfl rfl) s.1 rfl) ?_
        refine aw_pure 2 (.pointer (some ⟨b73, 2, none⟩)) rfl (by kernel_rfl) .none ⟨H86, H87⟩ (fun _ => dv_fieldAddr (a := ⟨b73, 0, none⟩) (a' := ⟨b73, 2, none⟩) fo64_1 (T rfl rfl) rfl) ?_
        refine aw_load 3 (.agg #[.bool nr64, .slice A65 n66 c67]) rfl (by kernel_rfl) .none ⟨H86, H87⟩ (fun _ s => dv_loads (l := [.bool nr64, .slice A65 n66 c67]) agt62 sz62 (T rfl rfl) s.2 rfl) ?_
        refine aw_pure 5 (.pointer (some ⟨b49, 2, none⟩)) rfl (by kernel_rfl) .none ⟨H86, H87⟩ (fun _ => dv_fieldAddr (a := ⟨b49, 0, none⟩) (a' := ⟨b49, 2, none⟩) fo64_1 (T rfl rfl) rfl) ?_
        refine aw_load 6 (.agg #[.bool nr40, .slice A41 n42 c43]) rfl (by kernel_rfl) .none ⟨H86, H87⟩ (fun _ s => dv_loads (l := [.bool nr40, .slice A41 n42 c43]) agt62 sz62 (T rfl rfl) s.1 rfl) ?_
        refine aw_pure 7 (.pointer (some ⟨b73, 0, none⟩)) rfl (by kernel_rfl) .none ⟨H86, H87⟩ (fun _ => dv_fieldAddr (a := ⟨b73, 0, none⟩) (a' := ⟨b73, 0, none⟩) fo64_0 (T rfl rfl) rfl) ?_
        refine aw_load 8 (.agg #[.bool nr60, .slice A61 n62 c63]) rfl (by kernel_rfl) .none ⟨H86, H87⟩ (fun _ s => dv_loads (l := [.bool nr60, .slice A61 n62 c63]) agt62 sz62 (T rfl rfl) s.2 rfl) ?_
        have h88 := ((((((h44.ext n51.ext).st s56 n51.blk (by decide)).ext e71).ext n75.ext).st s80 n75.blk (by decide)).ext d84.ext)
        have h89 := (((h69.ext n75.ext).st s80 n75.blk (by decide)).ext d84.ext)
        refine aw_one 4 rfl (by kernel_rfl) .none (oe_callf (vs := [.agg #[.bool nr36, .slice A37 n38 c39], .agg #[.bool nr64, .slice A65 n66 c67]]) co56 (ar2 (T rfl rfl) (T rfl rfl)) (l1Mul_ok h88 h89 (by first | decide | omega) (by first | decide | omega)) ?_)
        rintro _ w95 ⟨nr90, A91, n92, c93, rfl, e96, h94⟩
        have E97 := below_ext E85 E85.size e96
        have lh94 := Num.len (by decide) h94
        have H98 := (e96.blk H86)
        have H99 := (e96.blk H87)
        refine ⟨.inr ⟨H98, H99⟩, ?_⟩
        have h100 := (((((((h45.ext n51.ext).st s56 n51.blk (by decide)).ext e71).ext n75.ext).st s80 n75.blk (by decide)).ext d84.ext).ext e96)
        have h101 := ((((h68.ext n75.ext).st s80 n75.blk (by decide)).ext d84.ext).ext e96)
        refine aw_one 9 rfl (by kernel_rfl) .none (oe_callf (vs := [.agg #[.bool nr40, .slice A41 n42 c43], .agg #[.bool nr60, .slice A61 n62 c63]]) co56 (ar2 (T rfl rfl) (T rfl rfl)) (l1Mul_ok h100 h101 (by first | decide | omega) (by first | decide | omega)) ?_)
        rintro _ w107 ⟨nr102, A103, n104, c105, rfl, e108, h106⟩
        have E109 := below_ext E97 E97.size e108
        have lh106 := Num.len (by decide) h106
        have H110 := (e108.blk H98)
        have H111 := (e108.blk H99)
        refine ⟨.inr ⟨H110, H111⟩, ?_⟩
        have h112 := (h94.ext e108)
        refine aw_one 10 rfl (by kernel_rfl) .none (oe_callf (vs := [.agg #[.bool nr90, .slice A91 n92 c93], .agg #[.bool nr102, .slice A103 n104 c105]]) co45 (ar2 (T rfl rfl) (T rfl rfl)) (l2Make_ok h112 h106 (by first | decide | omega) (by first | decide | omega) (by have h1 : rOk x y := (by first | assumption | simpa using ‹_›); have h2 : rOk p q := (by first | assumption | simpa using ‹_›); exact Int.mul_ne_zero (Int.ne_of_gt h1.1) (by assumption))) ?_)
        rintro _ w123 ⟨nr113, A114, n115, c116, nr117, A118, n119, c120, rfl, e124, h121, h122⟩
        have E125 := below_ext E109 E109.size e124
        have lh121 := Num.len (by decide) h121
        have lh122 := Num.len (by decide) h122
        have H126 := (e124.blk H110)
        have H127 := (e124.blk H111)
        refine ⟨.inr ⟨H126, H127⟩, ?_⟩
        refine aw_one 11 rfl (by kernel_rfl) .none (oe_callf (vs := [.agg #[.bool nr113, .slice A114 n115 c116, .bool nr117, .slice A118 n119 c120]]) co44 (ar1 (T rfl rfl)) (l2Ratio_ok h121 h122 (by first | decide | omega) (by first | decide | omega) ) ?_)
        rintro _ w128 ⟨rfl, e129⟩
        have E130 := below_ext E125 E125.size e129
        have H131 := (e129.blk H126)
        have H132 := (e129.blk H127)
        refine ⟨.inr ⟨H131, H132⟩, ?_⟩
        refine aw_pure 12 (.agg #[.int .u64 (wv3 (pkz (fits (rUp (x * q) (y * p)) ∧ fits (rDn (x * q) (y * p))) (rUp (x * q) (y * p)))), .int .u64 (wv2 (pkz (fits (rUp (x * q) (y * p)) ∧ fits (rDn (x * q) (y * p))) (rUp (x * q) (y * p)))), .int .u64 (wv1 (pkz (fits (rUp (x * q) (y * p)) ∧ fits (rDn (x * q) (y * p))) (rUp (x * q) (y * p)))), .int .u64 (wv0 (pkz (fits (rUp (x * q) (y * p)) ∧ fits (rDn (x * q) (y * p))) (rUp (x * q) (y * p)))), .int .u64 (wv3 (pkz (fits (rUp (x * q) (y * p)) ∧ fits (rDn (x * q) (y * p))) (rDn (x * q) (y * p)))), .int .u64 (wv2 (pkz (fits (rUp (x * q) (y * p)) ∧ fits (rDn (x * q) (y * p))) (rDn (x * q) (y * p)))), .int .u64 (wv1 (pkz (fits (rUp (x * q) (y * p)) ∧ fits (rDn (x * q) (y * p))) (rDn (x * q) (y * p)))), .int .u64 (wv0 (pkz (fits (rUp (x * q) (y * p)) ∧ fits (rDn (x * q) (y * p))) (rDn (x * q) (y * p))))]) rfl (by kernel_rfl) .none ⟨H131, H132⟩ (fun _ => dv_extract (vs := #[.agg #[.int .u64 (wv3 (pkz (fits (rUp (x * q) (y * p)) ∧ fits (rDn (x * q) (y * p))) (rUp (x * q) (y * p)))), .int .u64 (wv2 (pkz (fits (rUp (x * q) (y * p)) ∧ fits (rDn (x * q) (y * p))) (rUp (x * q) (y * p)))), .int .u64 (wv1 (pkz (fits (rUp (x * q) (y * p)) ∧ fits (rDn (x * q) (y * p))) (rUp (x * q) (y * p)))), .int .u64 (wv0 (pkz (fits (rUp (x * q) (y * p)) ∧ fits (rDn (x * q) (y * p))) (rUp (x * q) (y * p)))), .int .u64 (wv3 (pkz (fits (rUp (x * q) (y * p)) ∧ fits (rDn (x * q) (y * p))) (rDn (x * q) (y * p)))), .int .u64 (wv2 (pkz (fits (rUp (x * q) (y * p)) ∧ fits (rDn (x * q) (y * p))) (rDn (x * q) (y * p)))), .int .u64 (wv1 (pkz (fits (rUp (x * q) (y * p)) ∧ fits (rDn (x * q) (y * p))) (rDn (x * q) (y * p)))), .int .u64 (wv0 (pkz (fits (rUp (x * q) (y * p)) ∧ fits (rDn (x * q) (y * p))) (rDn (x * q) (y * p))))], .bool (decide (fits (rUp (x * q) (y * p)) ∧ fits (rDn (x * q) (y * p))))]) (T rfl rfl) rfl) ?_
        refine aw_pure 13 (.bool (decide (fits (rUp (x * q) (y * p)) ∧ fits (rDn (x * q) (y * p))))) rfl (by kernel_rfl) .none ⟨H131, H132⟩ (fun _ => dv_extract (vs := #[.agg #[.int .u64 (wv3 (pkz (fits (rUp (x * q) (y * p)) ∧ fits (rDn (x * q) (y * p))) (rUp (x * q) (y * p)))), .int .u64 (wv2 (pkz (fits (rUp (x * q) (y * p)) ∧ fits (rDn (x * q) (y * p))) (rUp (x * q) (y * p)))), .int .u64 (wv1 (pkz (fits (rUp (x * q) (y * p)) ∧ fits (rDn (x * q) (y * p))) (rUp (x * q) (y * p)))), .int .u64 (wv0 (pkz (fits (rUp (x * q) (y * p)) ∧ fits (rDn (x * q) (y * p))) (rUp (x * q) (y * p)))), .int .u64 (wv3 (pkz (fits (rUp (x * q) (y * p)) ∧ fits (rDn (x * q) (y * p))) (rDn (x * q) (y * p)))), .int .u64 (wv2 (pkz (fits (rUp (x * q) (y * p)) ∧ fits (rDn (x * q) (y * p))) (rDn (x * q) (y * p)))), .int .u64 (wv1 (pkz (fits (rUp (x * q) (y * p)) ∧ fits (rDn (x * q) (y * p))) (rDn (x * q) (y * p)))), .int .u64 (wv0 (pkz (fits (rUp (x * q) (y * p)) ∧ fits (rDn (x * q) (y * p))) (rDn (x * q) (y * p))))], .bool (decide (fits (rUp (x * q) (y * p)) ∧ fits (rDn (x * q) (y * p))))]) (T rfl rfl) rfl) ?_
        have H133 := (e129.blk (e124.blk (e108.blk (e96.blk (d84.ext.blk (s80.blk (n75.ext.blk (e71.blk (s56.blk (n51.ext.blk H53) (by omega)))) (by omega)))))))
        refine aw_one 14 rfl (by kernel_rfl) .none (oe_store (v := .agg #[.int .u64 (wv3 (pkz (fits (rUp (x * q) (y * p)) ∧ fits (rDn (x * q) (y * p))) (rUp (x * q) (y * p)))), .int .u64 (wv2 (pkz (fits (rUp (x * q) (y * p)) ∧ fits (rDn (x * q) (y * p))) (rUp (x * q) (y * p)))), .int .u64 (wv1 (pkz (fits (rUp (x * q) (y * p)) ∧ fits (rDn (x * q) (y * p))) (rUp (x * q) (y * p)))), .int .u64 (wv0 (pkz (fits (rUp (x * q) (y * p)) ∧ fits (rDn (x * q) (y * p))) (rUp (x * q) (y * p)))), .int .u64 (wv3 (pkz (fits (rUp (x * q) (y * p)) ∧ fits (rDn (x * q) (y * p))) (rDn (x * q) (y * p)))), .int .u64 (wv2 (pkz (fits (rUp (x * q) (y * p)) ∧ fits (rDn (x * q) (y * p))) (rDn (x * q) (y * p)))), .int .u64 (wv1 (pkz (fits (rUp (x * q) (y * p)) ∧ fits (rDn (x * q) (y * p))) (rDn (x * q) (y * p)))), .int .u64 (wv0 (pkz (fits (rUp (x * q) (y * p)) ∧ fits (rDn (x * q) (y * p))) (rDn (x * q) (y * p))))]) (vs := [.int .u64 (wv3 (pkz (fits (rUp (x * q) (y * p)) ∧ fits (rDn (x * q) (y * p))) (rUp (x * q) (y * p)))), .int .u64 (wv2 (pkz (fits (rUp (x * q) (y * p)) ∧ fits (rDn (x * q) (y * p))) (rUp (x * q) (y * p)))), .int .u64 (wv1 (pkz (fits (rUp (x * q) (y * p)) ∧ fits (rDn (x * q) (y * p))) (rUp (x * q) (y * p)))), .int .u64 (wv0 (pkz (fits (rUp (x * q) (y * p)) ∧ fits (rDn (x * q) (y * p))) (rUp (x * q) (y * p)))), .int .u64 (wv3 (pkz (fits (rUp (x * q) (y * p)) ∧ fits (rDn (x * q) (y * p))) (rDn (x * q) (y * p)))), .int .u64 (wv2 (pkz (fits (rUp (x * q) (y * p)) ∧ fits (rDn (x * q) (y * p))) (rDn (x * q) (y * p)))), .int .u64 (wv1 (pkz (fits (rUp (x * q) (y * p)) ∧ fits (rDn (x * q) (y * p))) (rDn (x * q) (y * p)))), .int .u64 (wv0 (pkz (fits (rUp (x * q) (y * p)) ∧ fits (rDn (x * q) (y * p))) (rDn (x * q) (y * p))))]) (l := [.int .u64 (wv3 (pkz (fits (rUp (x * q) (y * p)) ∧ fits (rDn (x * q) (y * p))) (rUp (x * q) (y * p)))), .int .u64 (wv2 (pkz (fits (rUp (x * q) (y * p)) ∧ fits (rDn (x * q) (y * p))) (rUp (x * q) (y * p)))), .int .u64 (wv1 (pkz (fits (rUp (x * q) (y * p)) ∧ fits (rDn (x * q) (y * p))) (rUp (x * q) (y * p)))), .int .u64 (wv0 (pkz (fits (rUp (x * q) (y * p)) ∧ fits (rDn (x * q) (y * p))) (rUp (x * q) (y * p)))), .int .u64 (wv3 (pkz (fits (rUp (x * q) (y * p)) ∧ fits (rDn (x * q) (y * p))) (rDn (x * q) (y * p)))), .int .u64 (wv2 (pkz (fits (rUp (x * q) (y * p)) ∧ fits (rDn (x * q) (y * p))) (rDn (x * q) (y * p)))), .int .u64 (wv1 (pkz (fits (rUp (x * q) (y * p)) ∧ fits (rDn (x * q) (y * p))) (rDn (x * q) (y * p)))), .int .u64 (wv0 (pkz (fits (rUp (x * q) (y * p)) ∧ fits (rDn (x * q) (y * p))) (rDn (x * q) (y * p))))]) (T rfl rfl) (T rfl rfl) sz27 rfl rfl rfl H133 rfl ?_)
        intro w134 s135 H136
        have E137 := below_st E130 N14 s135
        have H138 := (s135.blk H131 (by omega))
        have H139 := (s135.blk H132 (by omega))
        refine ⟨.inr ⟨H138, H139⟩, ?_⟩
        refine aw_last 15 (.bool (decide (fits (rUp (x * q) (y * p)) ∧ fits (rDn (x * q) (y * p))))) rfl (by kernel_rfl) .none (fun _ => dv_assign (T rfl rfl)) ?_
        refine aw_done (by kernel_rfl) ?_
        refine rk_ret Try.func22 (v := .tuple #[.agg #[.int .u64 (wv3 (pkz (fits (rUp (x * q) (y * p)) ∧ fits (rDn (x * q) (y * p))) (rUp (x * q) (y * p)))), .int .u64 (wv2 (pkz (fits (rUp (x * q) (y * p)) ∧ fits (rDn (x * q) (y * p))) (rUp (x * q) (y * p)))), .int .u64 (wv1 (pkz (fits (rUp (x * q) (y * p)) ∧ fits (rDn (x * q) (y * p))) (rUp (x * q) (y * p)))), .int .u64 (wv0 (pkz (fits (rUp (x * q) (y * p)) ∧ fits (rDn (x * q) (y * p))) (rUp (x * q) (y * p)))), .int .u64 (wv3 (pkz (fits (rUp (x * q) (y * p)) ∧ fits (rDn (x * q) (y * p))) (rDn (x * q) (y * p)))), .int .u64 (wv2 (pkz (fits (rUp (x * q) (y * p)) ∧ fits (rDn (x * q) (y * p))) (rDn (x * q) (y * p)))), .int .u64 (wv1 (pkz (fits (rUp (x * q) (y * p)) ∧ fits (rDn (x * q) (y * p))) (rDn (x * q) (y * p)))), .int .u64 (wv0 (pkz (fits (rUp (x * q) (y * p)) ∧ fits (rDn (x * q) (y * p))) (rDn (x * q) (y * p))))], .bool (decide (fits (rUp (x * q) (y * p)) ∧ fits (rDn (x * q) (y * p))))]) (res2 Try.results22 (rv_cells (l := [.int .u64 (wv3 (pkz (fits (rUp (x * q) (y * p)) ∧ fits (rDn (x * q) (y * p))) (rUp (x * q) (y * p)))), .int .u64 (wv2 (pkz (fits (rUp (x * q) (y * p)) ∧ fits (rDn (x * q) (y * p))) (rUp (x * q) (y * p)))), .int .u64 (wv1 (pkz (fits (rUp (x * q) (y * p)) ∧ fits (rDn (x * q) (y * p))) (rUp (x * q) (y * p)))), .int .u64 (wv0 (pkz (fits (rUp (x * q) (y * p)) ∧ fits (rDn (x * q) (y * p))) (rUp (x * q) (y * p)))), .int .u64 (wv3 (pkz (fits (rUp (x * q) (y * p)) ∧ fits (rDn (x * q) (y * p))) (rDn (x * q) (y * p)))), .int .u64 (wv2 (pkz (fits (rUp (x * q) (y * p)) ∧ fits (rDn (x * q) (y * p))) (rDn (x * q) (y * p)))), .int .u64 (wv1 (pkz (fits (rUp (x * q) (y * p)) ∧ fits (rDn (x * q) (y * p))) (rDn (x * q) (y * p)))), .int .u64 (wv0 (pkz (fits (rUp (x * q) (y * p)) ∧ fits (rDn (x * q) (y * p))) (rDn (x * q) (y * p))))]) agt27 sz27 rfl rfl H136 rfl) (rv_tmp rfl rfl)) ⟨_, rfl, ?_⟩
        have hi : (fits (rUp (x * q) (y * p)) ∧ fits (rDn (x * q) (y * p))) ↔ (rOk x y ∧ rOk p q ∧ rFit (x * q) (y * p)) := by have h1 : rOk x y := (by first | assumption | simpa using ‹_›); have h2 : rOk p q := (by first | assumption | simpa using ‹_›); first | exact ⟨fun hh => ⟨h1, h2, hh⟩, fun hh => hh.2.2⟩ | exact ⟨fun hh => ⟨h1, h2, (Int.mul_ne_zero (Int.ne_of_gt h1.1) (by assumption)), hh⟩, fun hh => hh.2.2.2⟩
        exact ⟨(tu2 (ag8 (vi (by rw [pkz_iff hi])) (vi (by rw [pkz_iff hi])) (vi (by rw [pkz_iff hi])) (vi (by rw [pkz_iff hi])) (vi (by rw [pkz_iff hi])) (vi (by rw [pkz_iff hi])) (vi (by rw [pkz_iff hi])) (vi (by rw [pkz_iff hi]))) (vb hi)), E137⟩
    · -- TF
      refine lw_no (d := 16) rfl rfl (congrArg Value.bool (decide_eq_true hb25)) ?_
      refine lw_no (d := 16) rfl rfl (congrArg Value.bool (decide_eq_true hb25)) ?_
      refine lw_no (d := 16) rfl rfl (congrArg Value.bool (decide_eq_true hb25)) ?_
      refine lw_no (d := 16) rfl rfl (congrArg Value.bool (decide_eq_true hb25)) ?_
      refine lw_v (.bool true) (dv_pick_t (T rfl (congrArg Value.bool (decide_eq_true hb25))) C) ?_
      refine lw_nil ?_
      refine rk_ct (T rfl rfl) ?_
      refine rk_seq ?_
      refine rk_reg ?_
      refine lw_v (.agg #[.int .u64 0, .int .u64 0, .int .u64 0, .int .u64 0, .int .u64 0, .int .u64 0, .int .u64 0, .int .u64 0]) (dv_build (pv := []) (l := [.int .u64 0, .int .u64 0, .int .u64 0, .int .u64 0, .int .u64 0, .int .u64 0, .int .u64 0, .int .u64 0]) zc27 pl27 trivial rfl) ?_
      have H140 := (e23.blk (e18.blk n13.blk))
      refine lw_e (oe_store (v := .agg #[.int .u64 0, .int .u64 0, .int .u64 0, .int .u64 0, .int .u64 0, .int .u64 0, .int .u64 0, .int .u64 0]) (vs := [.int .u64 0, .int .u64 0, .int .u64 0, .int .u64 0, .int .u64 0, .int .u64 0, .int .u64 0, .int .u64 0]) (l := [.int .u64 0, .int .u64 0, .int .u64 0, .int .u64 0, .int .u64 0, .int .u64 0, .int .u64 0, .int .u64 0]) (T rfl rfl) (T rfl rfl) sz27 rfl rfl rfl H140 rfl ?_)
      intro w141 s142 H143
      have E144 := below_st E24 N14 s142
      refine lw_v (.bool false) (dv_assign C) ?_
      refine lw_nil ?_
      refine rk_ret Try.func22 (v := .tuple #[.agg #[.int .u64 0, .int .u64 0, .int .u64 0, .int .u64 0, .int .u64 0, .int .u64 0, .int .u64 0, .int .u64 0], .bool false]) (res2 Try.results22 (rv_cells (l := [.int .u64 0, .int .u64 0, .int .u64 0, .int .u64 0, .int .u64 0, .int .u64 0, .int .u64 0, .int .u64 0]) agt27 sz27 rfl rfl H143 rfl) (rv_tmp rfl rfl)) ⟨_, rfl, ?_⟩
      have hS : ¬ (rOk x y ∧ rOk p q ∧ rFit (x * q) (y * p)) := by first | (intro hh; exact absurd hh.1 (by assumption)) | (intro hh; exact absurd hh.2.1 (by assumption)) | (intro hh; have h1 := hh.2.2.1; simp_all)
      exact ⟨(tu2 (ag8 (vi (wf3 hS)) (vi (wf2 hS)) (vi (wf1 hS)) (vi (wf0 hS)) (vi (wf3 hS)) (vi (wf2 hS)) (vi (wf1 hS)) (vi (wf0 hS))) (vf hS)), E144⟩
  · -- F
    refine lw_no (d := 11) rfl rfl (congrArg Value.bool (decide_eq_true hb20)) ?_
    refine lw_no (d := 11) rfl rfl (congrArg Value.bool (decide_eq_true hb20)) ?_
    refine lw_no (d := 11) rfl rfl (congrArg Value.bool (decide_eq_true hb20)) ?_
    refine lw_v (.bool true) (dv_pick_t (T rfl (congrArg Value.bool (decide_eq_true hb20))) C) ?_
    refine lw_v (.bool true) (dv_move (T rfl rfl)) ?_
    refine lw_no (d := 16) rfl rfl (rfl) ?_
    refine lw_no (d := 16) rfl rfl (rfl) ?_
    refine lw_no (d := 16) rfl rfl (rfl) ?_
    refine lw_no (d := 16) rfl rfl (rfl) ?_
    refine lw_v (.bool true) (dv_pick_t (T rfl rfl) C) ?_
    refine lw_nil ?_
    refine rk_ct (T rfl rfl) ?_
    refine rk_seq ?_
    refine rk_reg ?_
    refine lw_v (.agg #[.int .u64 0, .int .u64 0, .int .u64 0, .int .u64 0, .int .u64 0, .int .u64 0, .int .u64 0, .int .u64 0]) (dv_build (pv := []) (l := [.int .u64 0, .int .u64 0, .int .u64 0, .int .u64 0, .int .u64 0, .int .u64 0, .int .u64 0, .int .u64 0]) zc27 pl27 trivial rfl) ?_
    have H145 := (e18.blk n13.blk)
    refine lw_e (oe_store (v := .agg #[.int .u64 0, .int .u64 0, .int .u64 0, .int .u64 0, .int .u64 0, .int .u64 0, .int .u64 0, .int .u64 0]) (vs := [.int .u64 0, .int .u64 0, .int .u64 0, .int .u64 0, .int .u64 0, .int .u64 0, .int .u64 0, .int .u64 0]) (l := [.int .u64 0, .int .u64 0, .int .u64 0, .int .u64 0, .int .u64 0, .int .u64 0, .int .u64 0, .int .u64 0]) (T rfl rfl) (T rfl rfl) sz27 rfl rfl rfl H145 rfl ?_)
    intro w146 s147 H148
    have E149 := below_st E19 N14 s147
    refine lw_v (.bool false) (dv_assign C) ?_
    refine lw_nil ?_
    refine rk_ret Try.func22 (v := .tuple #[.agg #[.int .u64 0, .int .u64 0, .int .u64 0, .int .u64 0, .int .u64 0, .int .u64 0, .int .u64 0, .int .u64 0], .bool false]) (res2 Try.results22 (rv_cells (l := [.int .u64 0, .int .u64 0, .int .u64 0, .int .u64 0, .int .u64 0, .int .u64 0, .int .u64 0, .int .u64 0]) agt27 sz27 rfl rfl H148 rfl) (rv_tmp rfl rfl)) ⟨_, rfl, ?_⟩
    have hS : ¬ (rOk x y ∧ rOk p q ∧ rFit (x * q) (y * p)) := by first | (intro hh; exact absurd hh.1 (by assumption)) | (intro hh; exact absurd hh.2.1 (by assumption)) | (intro hh; have h1 := hh.2.2.1; simp_all)
    exact ⟨(tu2 (ag8 (vi (wf3 hS)) (vi (wf2 hS)) (vi (wf1 hS)) (vi (wf0 hS)) (vi (wf3 hS)) (vi (wf2 hS)) (vi (wf1 hS)) (vi (wf0 hS))) (vf hS)), E149⟩

set_option maxHeartbeats 1000000 in
theorem lawRatioDiv_ok {w : World} {x y p q : Int} (fx_ : fits x) (fy_ : fits y) (fp_ : fits p) (fq_ : fits q)  : Ct Try.prog 5 [.agg #[.int .u64 (wv3 x), .int .u64 (wv2 x), .int .u64 (wv1 x), .int .u64 (wv0 x), .int .u64 (wv3 y), .int .u64 (wv2 y), .int .u64 (wv1 y), .int .u64 (wv0 y)], .agg #[.int .u64 (wv3 p), .int .u64 (wv2 p), .int .u64 (wv1 p), .int .u64 (wv0 p), .int .u64 (wv3 q), .int .u64 (wv2 q), .int .u64 (wv1 q), .int .u64 (wv0 q)]] w fun v w1 => v = .bool true ∧ Ext w w1 := by
  refine ct_run (n := 34) Try.func5 rfl Try.ntmps5 rfl ?_
  have E0 : Below w.heap.size w w := Below.refl _ _
  refine rk_seq ?_
  refine rk_reg ?_
  refine lw_e (oe_box (v := .agg #[.int .u64 (wv3 x), .int .u64 (wv2 x), .int .u64 (wv1 x), .int .u64 (wv0 x), .int .u64 (wv3 y), .int .u64 (wv2 y), .int .u64 (wv1 y), .int .u64 (wv0 y)]) (cs := #[.int .u64 (wv3 x), .int .u64 (wv2 x), .int .u64 (wv1 x), .int .u64 (wv0 x), .int .u64 (wv3 y), .int .u64 (wv2 y), .int .u64 (wv1 y), .int .u64 (wv0 y)]) (T rfl rfl) rfl ?_)
  intro b1 w2 n3
  have N4 : w.heap.size ≤ b1 := n3.eq ▸ E0.size
  have E5 := below_ext E0 E0.size n3.ext
  refine lw_e (oe_box (v := .agg #[.int .u64 (wv3 p), .int .u64 (wv2 p), .int .u64 (wv1 p), .int .u64 (wv0 p), .int .u64 (wv3 q), .int .u64 (wv2 q), .int .u64 (wv1 q), .int .u64 (wv0 q)]) (cs := #[.int .u64 (wv3 p), .int .u64 (wv2 p), .int .u64 (wv1 p), .int .u64 (wv0 p), .int .u64 (wv3 q), .int .u64 (wv2 q), .int .u64 (wv1 q), .int .u64 (wv0 q)]) (T rfl rfl) rfl ?_)
  intro b6 w7 n8
  have N9 : w.heap.size ≤ b6 := n8.eq ▸ E5.size
  have : b1 < b6 := n8.eq ▸ lt_of_blk n3.blk
  have E10 := below_ext E5 E5.size n8.ext
  refine lw_v (.bool false) (dv_assign C) ?_
  refine lw_nil ?_
  refine rk_seq ?_
  have H11 := (n8.ext.blk n3.blk)
  have : b1 < w7.heap.size := lt_of_blk H11
  have : b6 < w7.heap.size := lt_of_blk n8.blk
  have : w.heap.size ≤ w7.heap.size := E10.size
  refine rk_par2 [fun vq wq_ => vq = .agg #[.int .u64 (wv3 x), .int .u64 (wv2 x), .int .u64 (wv1 x), .int .u64 (wv0 x), .int .u64 (wv3 y), .int .u64 (wv2 y), .int .u64 (wv1 y), .int .u64 (wv0 y)], fun vq wq_ => vq = .agg #[.int .u64 (wv3 x), .int .u64 (wv2 x), .int .u64 (wv1 x), .int .u64 (wv0 x), .int .u64 (wv3 y), .int .u64 (wv2 y), .int .u64 (wv1 y), .int .u64 (wv0 y)], fun vq wq_ => vq = .agg #[.int .u64 (wv3 p), .int .u64 (wv2 p), .int .u64 (wv1 p), .int .u64 (wv0 p), .int .u64 (wv3 q), .int .u64 (wv2 q), .int .u64 (wv1 q), .int .u64 (wv0 q)], fun vq wq_ => vq = .agg #[.int .u64 (wv3 p), .int .u64 (wv2 p), .int .u64 (wv1 p), .int .u64 (wv0 p), .int .u64 (wv3 q), .int .u64 (wv2 q), .int .u64 (wv1 q), .int .u64 (wv0 q)], fun vq wq_ => vq = .tuple #[.agg #[.int .u64 (wv3 (pkz (rOk x y ∧ rOk p q ∧ rFit (x * q) (y * p)) (rUp (x * q) (y * p)))), .int .u64 (wv2 (pkz (rOk x y ∧ rOk p q ∧ rFit (x * q) (y * p)) (rUp (x * q) (y * p)))), .int .u64 (wv1 (pkz (rOk x y ∧ rOk p q ∧ rFit (x * q) (y * p)) (rUp (x * q) (y * p)))), .int .u64 (wv0 (pkz (rOk x y ∧ rOk p q ∧ rFit (x * q) (y * p)) (rUp (x * q) (y * p)))), .int .u64 (wv3 (pkz (rOk x y ∧ rOk p q ∧ rFit (x * q) (y * p)) (rDn (x * q) (y * p)))), .int .u64 (wv2 (pkz (rOk x y ∧ rOk p q ∧ rFit (x * q) (y * p)) (rDn (x * q) (y * p)))), .int .u64 (wv1 (pkz (rOk x y ∧ rOk p q ∧ rFit (x * q) (y * p)) (rDn (x * q) (y * p)))), .int .u64 (wv0 (pkz (rOk x y ∧ rOk p q ∧ rFit (x * q) (y * p)) (rDn (x * q) (y * p))))], .bool (decide (rOk x y ∧ rOk p q ∧ rFit (x * q) (y * p)))], fun vq wq_ => vq = .tuple #[.agg #[.int .u64 (wv3 (pkz (rOk x y ∧ rOk p q ∧ rFit (x * q) (y * p)) (rUp (x * q) (y * p)))), .int .u64 (wv2 (pkz (rOk x y ∧ rOk p q ∧ rFit (x * q) (y * p)) (rUp (x * q) (y * p)))), .int .u64 (wv1 (pkz (rOk x y ∧ rOk p q ∧ rFit (x * q) (y * p)) (rUp (x * q) (y * p)))), .int .u64 (wv0 (pkz (rOk x y ∧ rOk p q ∧ rFit (x * q) (y * p)) (rUp (x * q) (y * p)))), .int .u64 (wv3 (pkz (rOk x y ∧ rOk p q ∧ rFit (x * q) (y * p)) (rDn (x * q) (y * p)))), .int .u64 (wv2 (pkz (rOk x y ∧ rOk p q ∧ rFit (x * q) (y * p)) (rDn (x * q) (y * p)))), .int .u64 (wv1 (pkz (rOk x y ∧ rOk p q ∧ rFit (x * q) (y * p)) (rDn (x * q) (y * p)))), .int .u64 (wv0 (pkz (rOk x y ∧ rOk p q ∧ rFit (x * q) (y * p)) (rDn (x * q) (y * p))))], .bool (decide (rOk x y ∧ rOk p q ∧ rFit (x * q) (y * p)))], fun vq wq_ => vq = .agg #[.int .u64 (wv3 (pkz (rOk x y ∧ rOk p q ∧ rFit (x * q) (y * p)) (rUp (x * q) (y * p)))), .int .u64 (wv2 (pkz (rOk x y ∧ rOk p q ∧ rFit (x * q) (y * p)) (rUp (x * q) (y * p)))), .int .u64 (wv1 (pkz (rOk x y ∧ rOk p q ∧ rFit (x * q) (y * p)) (rUp (x * q) (y * p)))), .int .u64 (wv0 (pkz (rOk x y ∧ rOk p q ∧ rFit (x * q) (y * p)) (rUp (x * q) (y * p)))), .int .u64 (wv3 (pkz (rOk x y ∧ rOk p q ∧ rFit (x * q) (y * p)) (rDn (x * q) (y * p)))), .int .u64 (wv2 (pkz (rOk x y ∧ rOk p q ∧ rFit (x * q) (y * p)) (rDn (x * q) (y * p)))), .int .u64 (wv1 (pkz (rOk x y ∧ rOk p q ∧ rFit (x * q) (y * p)) (rDn (x * q) (y * p)))), .int .u64 (wv0 (pkz (rOk x y ∧ rOk p q ∧ rFit (x * q) (y * p)) (rDn (x * q) (y * p))))], fun vq wq_ => vq = .bool (decide (rOk x y ∧ rOk p q ∧ rFit (x * q) (y * p))), fun _ _ => True, fun _ _ => True, fun vq wq_ => vq = .bool (decide (rOk x y ∧ rOk p q ∧ rFit (x * q) (y * p)))] [⟨8, 9, 6, 27, #[.int .u64 0, .int .u64 0, .int .u64 0, .int .u64 0, .int .u64 0, .int .u64 0, .int .u64 0, .int .u64 0]⟩] [27] mo (by kernel_rfl) (by kernel_rfl) ?_ ?_ ?_ ?_ ?_
  · intro e he e2 he2 h; simp only [List.mem_cons, List.not_mem_nil, or_false] at he he2; rcases he with rfl <;> rcases he2 with rfl <;> first | rfl | exact absurd h (by decide)
  · exact ⟨⟨fun v w w2 e h => h, fun v w w2 b cs T fz s hb hT h => h⟩, ⟨fun v w w2 e h => h, fun v w w2 b cs T fz s hb hT h => h⟩, ⟨fun v w w2 e h => h, fun v w w2 b cs T fz s hb hT h => h⟩, ⟨fun v w w2 e h => h, fun v w w2 b cs T fz s hb hT h => h⟩, ⟨fun v w w2 e h => h, fun v w w2 b cs T fz s hb hT h => h⟩, ⟨fun v w w2 e h => h, fun v w w2 b cs T fz s hb hT h => h⟩, ⟨fun v w w2 e h => h, fun v w w2 b cs T fz s hb hT h => h⟩, ⟨fun v w w2 e h => h, fun v w w2 b cs T fz s hb hT h => h⟩, ⟨fun v w w2 e h => h, fun v w w2 b cs T fz s hb hT h => h⟩, ⟨fun v w w2 e h => h, fun v w w2 b cs T fz s hb hT h => h⟩, ⟨fun v w w2 e h => h, fun v w w2 b cs T fz s hb hT h => h⟩, trivial⟩
  · refine ⟨?_, ?_, ?_, ?_, ?_, ?_, ?_, ?_, ?_, ?_, ?_, trivial⟩
    · refine .inr ⟨by kernel_rfl, ?_⟩
      intro fr13 w12 e14 hF15 hD16
      have E17 := below_ext E10 E10.size e14
      have H18 := (e14.blk H11)
      exact DV.oe (dv_loads (l := [.int .u64 (wv3 x), .int .u64 (wv2 x), .int .u64 (wv1 x), .int .u64 (wv0 x), .int .u64 (wv3 y), .int .u64 (wv2 y), .int .u64 (wv1 y), .int .u64 (wv0 y)]) agt34 sz34 (T rfl (hF15 2 (by kernel_rfl))) H18 rfl) ⟨Below.refl _ _, rfl⟩
    · refine .inr ⟨by kernel_rfl, ?_⟩
      intro fr20 w19 e21 hF22 hD23
      have E24 := below_ext E10 E10.size e21
      have hv25 : fr20 10 = .agg #[.int .u64 (wv3 x), .int .u64 (wv2 x), .int .u64 (wv1 x), .int .u64 (wv0 x), .int .u64 (wv3 y), .int .u64 (wv2 y), .int .u64 (wv1 y), .int .u64 (wv0 y)] := hD23 0 _ (by kernel_rfl) rfl (by kernel_rfl)
      refine id (oe_callf (vs := [.agg #[.int .u64 (wv3 x), .int .u64 (wv2 x), .int .u64 (wv1 x), .int .u64 (wv0 x), .int .u64 (wv3 y), .int .u64 (wv2 y), .int .u64 (wv1 y), .int .u64 (wv0 y)]]) co20 (ar1 (T rfl hv25)) (toRatio_ok (x := x) (y := y)  ) ?_)
      rintro _ w26 ⟨rfl, e27⟩
      have E28 := below_ext E24 E24.size e27
      exact ⟨e27, rfl⟩
    · refine .inr ⟨by kernel_rfl, ?_⟩
      intro fr30 w29 e31 hF32 hD33
      have E34 := below_ext E10 E10.size e31
      have H35 := (e31.blk n8.blk)
      exact DV.oe (dv_loads (l := [.int .u64 (wv3 p), .int .u64 (wv2 p), .int .u64 (wv1 p), .int .u64 (wv0 p), .int .u64 (wv3 q), .int .u64 (wv2 q), .int .u64 (wv1 q), .int .u64 (wv0 q)]) agt34 sz34 (T rfl (hF32 3 (by kernel_rfl))) H35 rfl) ⟨Below.refl _ _, rfl⟩
    · refine .inr ⟨by kernel_rfl, ?_⟩
      intro fr37 w36 e38 hF39 hD40
      have E41 := below_ext E10 E10.size e38
      have hv42 : fr37 12 = .agg #[.int .u64 (wv3 p), .int .u64 (wv2 p), .int .u64 (wv1 p), .int .u64 (wv0 p), .int .u64 (wv3 q), .int .u64 (wv2 q), .int .u64 (wv1 q), .int .u64 (wv0 q)] := hD40 2 _ (by kernel_rfl) rfl (by kernel_rfl)
      refine id (oe_callf (vs := [.agg #[.int .u64 (wv3 p), .int .u64 (wv2 p), .int .u64 (wv1 p), .int .u64 (wv0 p), .int .u64 (wv3 q), .int .u64 (wv2 q), .int .u64 (wv1 q), .int .u64 (wv0 q)]]) co20 (ar1 (T rfl hv42)) (toRatio_ok (x := p) (y := q)  ) ?_)
      rintro _ w43 ⟨rfl, e44⟩
      have E45 := below_ext E41 E41.size e44
      exact ⟨e44, rfl⟩
    · refine .inr ⟨by kernel_rfl, ?_⟩
      intro fr47 w46 e48 hF49 hD50
      have E51 := below_ext E10 E10.size e48
      have hv52 : fr47 11 = .agg #[.int .u64 (wv3 x), .int .u64 (wv2 x), .int .u64 (wv1 x), .int .u64 (wv0 x), .int .u64 (wv3 y), .int .u64 (wv2 y), .int .u64 (wv1 y), .int .u64 (wv0 y)] := hD50 1 _ (by kernel_rfl) rfl (by kernel_rfl)
      have hv53 : fr47 13 = .agg #[.int .u64 (wv3 p), .int .u64 (wv2 p), .int .u64 (wv1 p), .int .u64 (wv0 p), .int .u64 (wv3 q), .int .u64 (wv2 q), .int .u64 (wv1 q), .int .u64 (wv0 q)] := hD50 3 _ (by kernel_rfl) rfl (by kernel_rfl)
      refine id (oe_callf (vs := [.agg #[.int .u64 (wv3 x), .int .u64 (wv2 x), .int .u64 (wv1 x), .int .u64 (wv0 x), .int .u64 (wv3 y), .int .u64 (wv2 y), .int .u64 (wv1 y), .int .u64 (wv0 y)], .agg #[.int .u64 (wv3 p), .int .u64 (wv2 p), .int .u64 (wv1 p), .int .u64 (wv0 p), .int .u64 (wv3 q), .int .u64 (wv2 q), .int .u64 (wv1 q), .int .u64 (wv0 q)]]) co22 (ar2 (T rfl hv52) (T rfl hv53)) (sRatioDiv_ok (x := x) (y := y) (p := p) (q := q) fx_ fy_ fp_ fq_ ) ?_)
      rintro _ w54 ⟨rfl, e55⟩
      have E56 := below_ext E51 E51.size e55
      exact ⟨e55, rfl⟩
    · refine .inr ⟨by kernel_rfl, ?_⟩
      intro fr58 w57 e59 hF60 hD61
      have E62 := below_ext E10 E10.size e59
      have hv63 : fr58 14 = .tuple #[.agg #[.int .u64 (wv3 (pkz (rOk x y ∧ rOk p q ∧ rFit (x * q) (y * p)) (rUp (x * q) (y * p)))), .int .u64 (wv2 (pkz (rOk x y ∧ rOk p q ∧ rFit (x * q) (y * p)) (rUp (x * q) (y * p)))), .int .u64 (wv1 (pkz (rOk x y ∧ rOk p q ∧ rFit (x * q) (y * p)) (rUp (x * q) (y * p)))), .int .u64 (wv0 (pkz (rOk x y ∧ rOk p q ∧ rFit (x * q) (y * p)) (rUp (x * q) (y * p)))), .int .u64 (wv3 (pkz (rOk x y ∧ rOk p q ∧ rFit (x * q) (y * p)) (rDn (x * q) (y * p)))), .int .u64 (wv2 (pkz (rOk x y ∧ rOk p q ∧ rFit (x * q) (y * p)) (rDn (x * q) (y * p)))), .int .u64 (wv1 (pkz (rOk x y ∧ rOk p q ∧ rFit (x * q) (y * p)) (rDn (x * q) (y * p)))), .int .u64 (wv0 (pkz (rOk x y ∧ rOk p q ∧ rFit (x * q) (y * p)) (rDn (x * q) (y * p))))], .bool (decide (rOk x y ∧ rOk p q ∧ rFit (x * q) (y * p)))] := hD61 4 _ (by kernel_rfl) rfl (by kernel_rfl)
      exact DV.oe (dv_move (T rfl hv63)) ⟨Below.refl _ _, rfl⟩
    · refine .inr ⟨by kernel_rfl, ?_⟩
      intro fr65 w64 e66 hF67 hD68
      have E69 := below_ext E10 E10.size e66
      have hv70 : fr65 9 = .tuple #[.agg #[.int .u64 (wv3 (pkz (rOk x y ∧ rOk p q ∧ rFit (x * q) (y * p)) (rUp (x * q) (y * p)))), .int .u64 (wv2 (pkz (rOk x y ∧ rOk p q ∧ rFit (x * q) (y * p)) (rUp (x * q) (y * p)))), .int .u64 (wv1 (pkz (rOk x y ∧ rOk p q ∧ rFit (x * q) (y * p)) (rUp (x * q) (y * p)))), .int .u64 (wv0 (pkz (rOk x y ∧ rOk p q ∧ rFit (x * q) (y * p)) (rUp (x * q) (y * p)))), .int .u64 (wv3 (pkz (rOk x y ∧ rOk p q ∧ rFit (x * q) (y * p)) (rDn (x * q) (y * p)))), .int .u64 (wv2 (pkz (rOk x y ∧ rOk p q ∧ rFit (x * q) (y * p)) (rDn (x * q) (y * p)))), .int .u64 (wv1 (pkz (rOk x y ∧ rOk p q ∧ rFit (x * q) (y * p)) (rDn (x * q) (y * p)))), .int .u64 (wv0 (pkz (rOk x y ∧ rOk p q ∧ rFit (x * q) (y * p)) (rDn (x * q) (y * p))))], .bool (decide (rOk x y ∧ rOk p q ∧ rFit (x * q) (y * p)))] := hD68 5 _ (by kernel_rfl) rfl (by kernel_rfl)
      exact DV.oe (dv_extract (vs := #[.agg #[.int .u64 (wv3 (pkz (rOk x y ∧ rOk p q ∧ rFit (x * q) (y * p)) (rUp (x * q) (y * p)))), .int .u64 (wv2 (pkz (rOk x y ∧ rOk p q ∧ rFit (x * q) (y * p)) (rUp (x * q) (y * p)))), .int .u64 (wv1 (pkz (rOk x y ∧ rOk p q ∧ rFit (x * q) (y * p)) (rUp (x * q) (y * p)))), .int .u64 (wv0 (pkz (rOk x y ∧ rOk p q ∧ rFit (x * q) (y * p)) (rUp (x * q) (y * p)))), .int .u64 (wv3 (pkz (rOk x y ∧ rOk p q ∧ rFit (x * q) (y * p)) (rDn (x * q) (y * p)))), .int .u64 (wv2 (pkz (rOk x y ∧ rOk p q ∧ rFit (x * q) (y * p)) (rDn (x * q) (y * p)))), .int .u64 (wv1 (pkz (rOk x y ∧ rOk p q ∧ rFit (x * q) (y * p)) (rDn (x * q) (y * p)))), .int .u64 (wv0 (pkz (rOk x y ∧ rOk p q ∧ rFit (x * q) (y * p)) (rDn (x * q) (y * p))))], .bool (decide (rOk x y ∧ rOk p q ∧ rFit (x * q) (y * p)))]) (T rfl hv70) rfl) ⟨Below.refl _ _, rfl⟩
    · refine .inr ⟨by kernel_rfl, ?_⟩
      intro fr72 w71 e73 hF74 hD75
      have E76 := below_ext E10 E10.size e73
      have hv77 : fr72 9 = .tuple #[.agg #[.int .u64 (wv3 (pkz (rOk x y ∧ rOk p q ∧ rFit (x * q) (y * p)) (rUp (x * q) (y * p)))), .int .u64 (wv2 (pkz (rOk x y ∧ rOk p q ∧ rFit (x * q) (y * p)) (rUp (x * q) (y * p)))), .int .u64 (wv1 (pkz (rOk x y ∧ rOk p q ∧ rFit (x * q) (y * p)) (rUp (x * q) (y * p)))), .int .u64 (wv0 (pkz (rOk x y ∧ rOk p q ∧ rFit (x * q) (y * p)) (rUp (x * q) (y * p)))), .int .u64 (wv3 (pkz (rOk x y ∧ rOk p q ∧ rFit (x * q) (y * p)) (rDn (x * q) (y * p)))), .int .u64 (wv2 (pkz (rOk x y ∧ rOk p q ∧ rFit (x * q) (y * p)) (rDn (x * q) (y * p)))), .int .u64 (wv1 (pkz (rOk x y ∧ rOk p q ∧ rFit (x * q) (y * p)) (rDn (x * q) (y * p)))), .int .u64 (wv0 (pkz (rOk x y ∧ rOk p q ∧ rFit (x * q) (y * p)) (rDn (x * q) (y * p))))], .bool (decide (rOk x y ∧ rOk p q ∧ rFit (x * q) (y * p)))] := hD75 5 _ (by kernel_rfl) rfl (by kernel_rfl)
      exact DV.oe (dv_extract (vs := #[.agg #[.int .u64 (wv3 (pkz (rOk x y ∧ rOk p q ∧ rFit (x * q) (y * p)) (rUp (x * q) (y * p)))), .int .u64 (wv2 (pkz (rOk x y ∧ rOk p q ∧ rFit (x * q) (y * p)) (rUp (x * q) (y * p)))), .int .u64 (wv1 (pkz (rOk x y ∧ rOk p q ∧ rFit (x * q) (y * p)) (rUp (x * q) (y * p)))), .int .u64 (wv0 (pkz (rOk x y ∧ rOk p q ∧ rFit (x * q) (y * p)) (rUp (x * q) (y * p)))), .int .u64 (wv3 (pkz (rOk x y ∧ rOk p q ∧ rFit (x * q) (y * p)) (rDn (x * q) (y * p)))), .int .u64 (wv2 (pkz (rOk x y ∧ rOk p q ∧ rFit (x * q) (y * p)) (rDn (x * q) (y * p)))), .int .u64 (wv1 (pkz (rOk x y ∧ rOk p q ∧ rFit (x * q) (y * p)) (rDn (x * q) (y * p)))), .int .u64 (wv0 (pkz (rOk x y ∧ rOk p q ∧ rFit (x * q) (y * p)) (rDn (x * q) (y * p))))], .bool (decide (rOk x y ∧ rOk p q ∧ rFit (x * q) (y * p)))]) (T rfl hv77) rfl) ⟨Below.refl _ _, rfl⟩
    · exact .inl (.inr ⟨by kernel_rfl, fun _ _ => trivial⟩)
    · exact .inl (.inl (by kernel_rfl))
    · refine .inr ⟨by kernel_rfl, ?_⟩
      intro fr93 w92 e94 hF95 hD96
      have E97 := below_ext E10 E10.size e94
      have hv98 : fr93 16 = .bool (decide (rOk x y ∧ rOk p q ∧ rFit (x * q) (y * p))) := hD96 7 _ (by kernel_rfl) rfl (by kernel_rfl)
      exact DV.oe (dv_assign (T rfl hv98)) ⟨Below.refl _ _, rfl⟩
  · refine ⟨⟨⟨_, rfl, fun _ _ => oe_alloc ze27 fun b w hn => ⟨b, rfl, hn⟩⟩, ⟨_, rfl, ?_⟩⟩, trivial⟩
    · intro fr79 w78 b83 e80 hF81 hD82 hA84 hB85
      have E86 := below_ext E10 E10.size e80
      have hv87 : fr79 15 = .agg #[.int .u64 (wv3 (pkz (rOk x y ∧ rOk p q ∧ rFit (x * q) (y * p)) (rUp (x * q) (y * p)))), .int .u64 (wv2 (pkz (rOk x y ∧ rOk p q ∧ rFit (x * q) (y * p)) (rUp (x * q) (y * p)))), .int .u64 (wv1 (pkz (rOk x y ∧ rOk p q ∧ rFit (x * q) (y * p)) (rUp (x * q) (y * p)))), .int .u64 (wv0 (pkz (rOk x y ∧ rOk p q ∧ rFit (x * q) (y * p)) (rUp (x * q) (y * p)))), .int .u64 (wv3 (pkz (rOk x y ∧ rOk p q ∧ rFit (x * q) (y * p)) (rDn (x * q) (y * p)))), .int .u64 (wv2 (pkz (rOk x y ∧ rOk p q ∧ rFit (x * q) (y * p)) (rDn (x * q) (y * p)))), .int .u64 (wv1 (pkz (rOk x y ∧ rOk p q ∧ rFit (x * q) (y * p)) (rDn (x * q) (y * p)))), .int .u64 (wv0 (pkz (rOk x y ∧ rOk p q ∧ rFit (x * q) (y * p)) (rDn (x * q) (y * p))))] := hD82 6 _ (by kernel_rfl) rfl (by kernel_rfl)
      refine id (oe_store (v := .agg #[.int .u64 (wv3 (pkz (rOk x y ∧ rOk p q ∧ rFit (x * q) (y * p)) (rUp (x * q) (y * p)))), .int .u64 (wv2 (pkz (rOk x y ∧ rOk p q ∧ rFit (x * q) (y * p)) (rUp (x * q) (y * p)))), .int .u64 (wv1 (pkz (rOk x y ∧ rOk p q ∧ rFit (x * q) (y * p)) (rUp (x * q) (y * p)))), .int .u64 (wv0 (pkz (rOk x y ∧ rOk p q ∧ rFit (x * q) (y * p)) (rUp (x * q) (y * p)))), .int .u64 (wv3 (pkz (rOk x y ∧ rOk p q ∧ rFit (x * q) (y * p)) (rDn (x * q) (y * p)))), .int .u64 (wv2 (pkz (rOk x y ∧ rOk p q ∧ rFit (x * q) (y * p)) (rDn (x * q) (y * p)))), .int .u64 (wv1 (pkz (rOk x y ∧ rOk p q ∧ rFit (x * q) (y * p)) (rDn (x * q) (y * p)))), .int .u64 (wv0 (pkz (rOk x y ∧ rOk p q ∧ rFit (x * q) (y * p)) (rDn (x * q) (y * p))))]) (vs := [.int .u64 (wv3 (pkz (rOk x y ∧ rOk p q ∧ rFit (x * q) (y * p)) (rUp (x * q) (y * p)))), .int .u64 (wv2 (pkz (rOk x y ∧ rOk p q ∧ rFit (x * q) (y * p)) (rUp (x * q) (y * p)))), .int .u64 (wv1 (pkz (rOk x y ∧ rOk p q ∧ rFit (x * q) (y * p)) (rUp (x * q) (y * p)))), .int .u64 (wv0 (pkz (rOk x y ∧ rOk p q ∧ rFit (x * q) (y * p)) (rUp (x * q) (y * p)))), .int .u64 (wv3 (pkz (rOk x y ∧ rOk p q ∧ rFit (x * q) (y * p)) (rDn (x * q) (y * p)))), .int .u64 (wv2 (pkz (rOk x y ∧ rOk p q ∧ rFit (x * q) (y * p)) (rDn (x * q) (y * p)))), .int .u64 (wv1 (pkz (rOk x y ∧ rOk p q ∧ rFit (x * q) (y * p)) (rDn (x * q) (y * p)))), .int .u64 (wv0 (pkz (rOk x y ∧ rOk p q ∧ rFit (x * q) (y * p)) (rDn (x * q) (y * p))))]) (l := [.int .u64 (wv3 (pkz (rOk x y ∧ rOk p q ∧ rFit (x * q) (y * p)) (rUp (x * q) (y * p)))), .int .u64 (wv2 (pkz (rOk x y ∧ rOk p q ∧ rFit (x * q) (y * p)) (rUp (x * q) (y * p)))), .int .u64 (wv1 (pkz (rOk x y ∧ rOk p q ∧ rFit (x * q) (y * p)) (rUp (x * q) (y * p)))), .int .u64 (wv0 (pkz (rOk x y ∧ rOk p q ∧ rFit (x * q) (y * p)) (rUp (x * q) (y * p)))), .int .u64 (wv3 (pkz (rOk x y ∧ rOk p q ∧ rFit (x * q) (y * p)) (rDn (x * q) (y * p)))), .int .u64 (wv2 (pkz (rOk x y ∧ rOk p q ∧ rFit (x * q) (y * p)) (rDn (x * q) (y * p)))), .int .u64 (wv1 (pkz (rOk x y ∧ rOk p q ∧ rFit (x * q) (y * p)) (rDn (x * q) (y * p)))), .int .u64 (wv0 (pkz (rOk x y ∧ rOk p q ∧ rFit (x * q) (y * p)) (rDn (x * q) (y * p))))]) (T rfl hA84) (T rfl hv87) sz27 rfl rfl rfl hB85 rfl ?_)
      intro w88 s89 H90
      exact ⟨s89, H90.trans (congrArg (fun v : Value => some (Obj.cells v.cells 27)) (show fr79 15 = _ from hv87).symm)⟩
  intro fr100 w99 e101 hF102 hP103 hM104 hN105
  have E106 := below_ext E10 E10.size e101
  obtain ⟨_, _, _, _, _, _, p107, _, _, _, p108, _⟩ := hP103
  have hv109 : fr100 15 = .agg #[.int .u64 (wv3 (pkz (rOk x y ∧ rOk p q ∧ rFit (x * q) (y * p)) (rUp (x * q) (y * p)))), .int .u64 (wv2 (pkz (rOk x y ∧ rOk p q ∧ rFit (x * q) (y * p)) (rUp (x * q) (y * p)))), .int .u64 (wv1 (pkz (rOk x y ∧ rOk p q ∧ rFit (x * q) (y * p)) (rUp (x * q) (y * p)))), .int .u64 (wv0 (pkz (rOk x y ∧ rOk p q ∧ rFit (x * q) (y * p)) (rUp (x * q) (y * p)))), .int .u64 (wv3 (pkz (rOk x y ∧ rOk p q ∧ rFit (x * q) (y * p)) (rDn (x * q) (y * p)))), .int .u64 (wv2 (pkz (rOk x y ∧ rOk p q ∧ rFit (x * q) (y * p)) (rDn (x * q) (y * p)))), .int .u64 (wv1 (pkz (rOk x y ∧ rOk p q ∧ rFit (x * q) (y * p)) (rDn (x * q) (y * p)))), .int .u64 (wv0 (pkz (rOk x y ∧ rOk p q ∧ rFit (x * q) (y * p)) (rDn (x * q) (y * p))))] := p107.resolve_left (nst (by kernel_rfl))
  have hv110 : fr100 6 = .bool (decide (rOk x y ∧ rOk p q ∧ rFit (x * q) (y * p))) := p108.resolve_left (nst (by kernel_rfl))
  obtain ⟨⟨b111, hA112, hB113, hC114⟩, _⟩ := hM104
  have H115 : w99.heap[b111]? = some (.cells #[.int .u64 (wv3 (pkz (rOk x y ∧ rOk p q ∧ rFit (x * q) (y * p)) (rUp (x * q) (y * p)))), .int .u64 (wv2 (pkz (rOk x y ∧ rOk p q ∧ rFit (x * q) (y * p)) (rUp (x * q) (y * p)))), .int .u64 (wv1 (pkz (rOk x y ∧ rOk p q ∧ rFit (x * q) (y * p)) (rUp (x * q) (y * p)))), .int .u64 (wv0 (pkz (rOk x y ∧ rOk p q ∧ rFit (x * q) (y * p)) (rUp (x * q) (y * p)))), .int .u64 (wv3 (pkz (rOk x y ∧ rOk p q ∧ rFit (x * q) (y * p)) (rDn (x * q) (y * p)))), .int .u64 (wv2 (pkz (rOk x y ∧ rOk p q ∧ rFit (x * q) (y * p)) (rDn (x * q) (y * p)))), .int .u64 (wv1 (pkz (rOk x y ∧ rOk p q ∧ rFit (x * q) (y * p)) (rDn (x * q) (y * p)))), .int .u64 (wv0 (pkz (rOk x y ∧ rOk p q ∧ rFit (x * q) (y * p)) (rDn (x * q) (y * p))))] 27) := hC114.trans (congrArg (fun v : Value => some (Obj.cells v.cells 27)) hv109)
  have N116 : w.heap.size ≤ b111 := by omega
  refine rk_seq ?_
  have H117 := (e101.blk H11)
  have : b1 < w99.heap.size := lt_of_blk H117
  have H118 := (e101.blk n8.blk)
  have : b6 < w99.heap.size := lt_of_blk H118
  have : b111 < w99.heap.size := lt_of_blk H115
  have : w.heap.size ≤ w99.heap.size := E106.size
  refine rk_par2 [fun vq wq_ => vq = .agg #[.int .u64 (wv3 x), .int .u64 (wv2 x), .int .u64 (wv1 x), .int .u64 (wv0 x), .int .u64 (wv3 y), .int .u64 (wv2 y), .int .u64 (wv1 y), .int .u64 (wv0 y)], fun vq wq_ => vq = .agg #[.int .u64 (wv3 x), .int .u64 (wv2 x), .int .u64 (wv1 x), .int .u64 (wv0 x), .int .u64 (wv3 y), .int .u64 (wv2 y), .int .u64 (wv1 y), .int .u64 (wv0 y)], fun vq wq_ => vq = .agg #[.int .u64 (wv3 p), .int .u64 (wv2 p), .int .u64 (wv1 p), .int .u64 (wv0 p), .int .u64 (wv3 q), .int .u64 (wv2 q), .int .u64 (wv1 q), .int .u64 (wv0 q)], fun vq wq_ => vq = .agg #[.int .u64 (wv3 p), .int .u64 (wv2 p), .int .u64 (wv1 p), .int .u64 (wv0 p), .int .u64 (wv3 q), .int .u64 (wv2 q), .int .u64 (wv1 q), .int .u64 (wv0 q)], fun vq wq_ => vq = .tuple #[.agg #[.int .u64 (wv3 (pkz (rOk x y ∧ rOk p q ∧ rFit (x * q) (y * p)) (rUp (x * q) (y * p)))), .int .u64 (wv2 (pkz (rOk x y ∧ rOk p q ∧ rFit (x * q) (y * p)) (rUp (x * q) (y * p)))), .int .u64 (wv1 (pkz (rOk x y ∧ rOk p q ∧ rFit (x * q) (y * p)) (rUp (x * q) (y * p)))), .int .u64 (wv0 (pkz (rOk x y ∧ rOk p q ∧ rFit (x * q) (y * p)) (rUp (x * q) (y * p)))), .int .u64 (wv3 (pkz (rOk x y ∧ rOk p q ∧ rFit (x * q) (y * p)) (rDn (x * q) (y * p)))), .int .u64 (wv2 (pkz (rOk x y ∧ rOk p q ∧ rFit (x * q) (y * p)) (rDn (x * q) (y * p)))), .int .u64 (wv1 (pkz (rOk x y ∧ rOk p q ∧ rFit (x * q) (y * p)) (rDn (x * q) (y * p)))), .int .u64 (wv0 (pkz (rOk x y ∧ rOk p q ∧ rFit (x * q) (y * p)) (rDn (x * q) (y * p))))], .bool (decide (rOk x y ∧ rOk p q ∧ rFit (x * q) (y * p)))], fun vq wq_ => vq = .tuple #[.agg #[.int .u64 (wv3 (pkz (rOk x y ∧ rOk p q ∧ rFit (x * q) (y * p)) (rUp (x * q) (y * p)))), .int .u64 (wv2 (pkz (rOk x y ∧ rOk p q ∧ rFit (x * q) (y * p)) (rUp (x * q) (y * p)))), .int .u64 (wv1 (pkz (rOk x y ∧ rOk p q ∧ rFit (x * q) (y * p)) (rUp (x * q) (y * p)))), .int .u64 (wv0 (pkz (rOk x y ∧ rOk p q ∧ rFit (x * q) (y * p)) (rUp (x * q) (y * p)))), .int .u64 (wv3 (pkz (rOk x y ∧ rOk p q ∧ rFit (x * q) (y * p)) (rDn (x * q) (y * p)))), .int .u64 (wv2 (pkz (rOk x y ∧ rOk p q ∧ rFit (x * q) (y * p)) (rDn (x * q) (y * p)))), .int .u64 (wv1 (pkz (rOk x y ∧ rOk p q ∧ rFit (x * q) (y * p)) (rDn (x * q) (y * p)))), .int .u64 (wv0 (pkz (rOk x y ∧ rOk p q ∧ rFit (x * q) (y * p)) (rDn (x * q) (y * p))))], .bool (decide (rOk x y ∧ rOk p q ∧ rFit (x * q) (y * p)))], fun vq wq_ => vq = .agg #[.int .u64 (wv3 (pkz (rOk x y ∧ rOk p q ∧ rFit (x * q) (y * p)) (rUp (x * q) (y * p)))), .int .u64 (wv2 (pkz (rOk x y ∧ rOk p q ∧ rFit (x * q) (y * p)) (rUp (x * q) (y * p)))), .int .u64 (wv1 (pkz (rOk x y ∧ rOk p q ∧ rFit (x * q) (y * p)) (rUp (x * q) (y * p)))), .int .u64 (wv0 (pkz (rOk x y ∧ rOk p q ∧ rFit (x * q) (y * p)) (rUp (x * q) (y * p)))), .int .u64 (wv3 (pkz (rOk x y ∧ rOk p q ∧ rFit (x * q) (y * p)) (rDn (x * q) (y * p)))), .int .u64 (wv2 (pkz (rOk x y ∧ rOk p q ∧ rFit (x * q) (y * p)) (rDn (x * q) (y * p)))), .int .u64 (wv1 (pkz (rOk x y ∧ rOk p q ∧ rFit (x * q) (y * p)) (rDn (x * q) (y * p)))), .int .u64 (wv0 (pkz (rOk x y ∧ rOk p q ∧ rFit (x * q) (y * p)) (rDn (x * q) (y * p))))], fun vq wq_ => vq = .bool (decide (rOk x y ∧ rOk p q ∧ rFit (x * q) (y * p))), fun _ _ => True, fun _ _ => True, fun vq wq_ => vq = .bool (decide (rOk x y ∧ rOk p q ∧ rFit (x * q) (y * p)))] [⟨8, 9, 6, 27, #[.int .u64 0, .int .u64 0, .int .u64 0, .int .u64 0, .int .u64 0, .int .u64 0, .int .u64 0, .int .u64 0]⟩] [27] mo (by kernel_rfl) (by kernel_rfl) ?_ ?_ ?_ ?_ ?_
  · intro e he e2 he2 h; simp only [List.mem_cons, List.not_mem_nil, or_false] at he he2; rcases he with rfl <;> rcases he2 with rfl <;> first | rfl | exact absurd h (by decide)
  · exact ⟨⟨fun v w w2 e h => h, fun v w w2 b cs T fz s hb hT h => h⟩, ⟨fun v w w2 e h => h, fun v w w2 b cs T fz s hb hT h => h⟩, ⟨fun v w w2 e h => h, fun v w w2 b cs T fz s hb hT h => h⟩, ⟨fun v w w2 e h => h, fun v w w2 b cs T fz s hb hT h => h⟩, ⟨fun v w w2 e h => h, fun v w w2 b cs T fz s hb hT h => h⟩, ⟨fun v w w2 e h => h, fun v w w2 b cs T fz s hb hT h => h⟩, ⟨fun v w w2 e h => h, fun v w w2 b cs T fz s hb hT h => h⟩, ⟨fun v w w2 e h => h, fun v w w2 b cs T fz s hb hT h => h⟩, ⟨fun v w w2 e h => h, fun v w w2 b cs T fz s hb hT h => h⟩, ⟨fun v w w2 e h => h, fun v w w2 b cs T fz s hb hT h => h⟩, ⟨fun v w w2 e h => h, fun v w w2 b cs T fz s hb hT h => h⟩, trivial⟩
  · refine ⟨?_, ?_, ?_, ?_, ?_, ?_, ?_, ?_, ?_, ?_, ?_, trivial⟩
    · refine .inr ⟨by kernel_rfl, ?_⟩
      intro fr120 w119 e121 hF122 hD123
      have E124 := below_ext E106 E106.size e121
      have H125 := (e121.blk H117)
      exact DV.oe (dv_loads (l := [.int .u64 (wv3 x), .int .u64 (wv2 x), .int .u64 (wv1 x), .int .u64 (wv0 x), .int .u64 (wv3 y), .int .u64 (wv2 y), .int .u64 (wv1 y), .int .u64 (wv0 y)]) agt34 sz34 (T rfl ((hF122 2 (by kernel_rfl)).trans (hF102 2 rfl))) H125 rfl) ⟨Below.refl _ _, rfl⟩
    · refine .inr ⟨by kernel_rfl, ?_⟩
      intro fr127 w126 e128 hF129 hD130
      have E131 := below_ext E106 E106.size e128
      have hv132 : fr127 18 = .agg #[.int .u64 (wv3 x), .int .u64 (wv2 x), .int .u64 (wv1 x), .int .u64 (wv0 x), .int .u64 (wv3 y), .int .u64 (wv2 y), .int .u64 (wv1 y), .int .u64 (wv0 y)] := hD130 0 _ (by kernel_rfl) rfl (by kernel_rfl)
      refine id (oe_callf (vs := [.agg #[.int .u64 (wv3 x), .int .u64 (wv2 x), .int .u64 (wv1 x), .int .u64 (wv0 x), .int .u64 (wv3 y), .int .u64 (wv2 y), .int .u64 (wv1 y), .int .u64 (wv0 y)]]) co20 (ar1 (T rfl hv132)) (toRatio_ok (x := x) (y := y)  ) ?_)
      rintro _ w133 ⟨rfl, e134⟩
      have E135 := below_ext E131 E131.size e134
      exact ⟨e134, rfl⟩
    · refine .inr ⟨by kernel_rfl, ?_⟩
      intro fr137 w136 e138 hF139 hD140
      have E141 := below_ext E106 E106.size e138
      have H142 := (e138.blk H118)
      exact DV.oe (dv_loads (l := [.int .u64 (wv3 p), .int .u64 (wv2 p), .int .u64 (wv1 p), .int .u64 (wv0 p), .int .u64 (wv3 q), .int .u64 (wv2 q), .int .u64 (wv1 q), .int .u64 (wv0 q)]) agt34 sz34 (T rfl ((hF139 3 (by kernel_rfl)).trans (hF102 3 rfl))) H142 rfl) ⟨Below.refl _ _, rfl⟩
    · refine .inr ⟨by kernel_rfl, ?_⟩
      intro fr144 w143 e145 hF146 hD147
      have E148 := below_ext E106 E106.size e145
      have hv149 : fr144 20 = .agg #[.int .u64 (wv3 p), .int .u64 (wv2 p), .int .u64 (wv1 p), .int .u64 (wv0 p), .int .u64 (wv3 q), .int .u64 (wv2 q), .int .u64 (wv1 q), .int .u64 (wv0 q)] := hD147 2 _ (by kernel_rfl) rfl (by kernel_rfl)
      refine id (oe_callf (vs := [.agg #[.int .u64 (wv3 p), .int .u64 (wv2 p), .int .u64 (wv1 p), .int .u64 (wv0 p), .int .u64 (wv3 q), .int .u64 (wv2 q), .int .u64 (wv1 q), .int .u64 (wv0 q)]]) co20 (ar1 (T rfl hv149)) (toRatio_ok (x := p) (y := q)  ) ?_)
      rintro _ w150 ⟨rfl, e151⟩
      have E152 := below_ext E148 E148.size e151
      exact ⟨e151, rfl⟩
    · refine .inr ⟨by kernel_rfl, ?_⟩
      intro fr154 w153 e155 hF156 hD157
      have E158 := below_ext E106 E106.size e155
      have hv159 : fr154 19 = .agg #[.int .u64 (wv3 x), .int .u64 (wv2 x), .int .u64 (wv1 x), .int .u64 (wv0 x), .int .u64 (wv3 y), .int .u64 (wv2 y), .int .u64 (wv1 y), .int .u64 (wv0 y)] := hD157 1 _ (by kernel_rfl) rfl (by kernel_rfl)
      have hv160 : fr154 21 = .agg #[.int .u64 (wv3 p), .int .u64 (wv2 p), .int .u64 (wv1 p), .int .u64 (wv0 p), .int .u64 (wv3 q), .int .u64 (wv2 q), .int .u64 (wv1 q), .int .u64 (wv0 q)] := hD157 3 _ (by kernel_rfl) rfl (by kernel_rfl)
      refine id (oe_callf (vs := [.agg #[.int .u64 (wv3 x), .int .u64 (wv2 x), .int .u64 (wv1 x), .int .u64 (wv0 x), .int .u64 (wv3 y), .int .u64 (wv2 y), .int .u64 (wv1 y), .int .u64 (wv0 y)], .agg #[.int .u64 (wv3 p), .int .u64 (wv2 p), .int .u64 (wv1 p), .int .u64 (wv0 p), .int .u64 (wv3 q), .int .u64 (wv2 q), .int .u64 (wv1 q), .int .u64 (wv0 q)]]) co23 (ar2 (T rfl hv159) (T rfl hv160)) (iRatioDiv_ok (x := x) (y := y) (p := p) (q := q) fx_ fy_ fp_ fq_ ) ?_)
      rintro _ w161 ⟨rfl, e162⟩
      have E163 := below_ext E158 E158.size e162
      exact ⟨e162, rfl⟩
    · refine .inr ⟨by kernel_rfl, ?_⟩
      intro fr165 w164 e166 hF167 hD168
      have E169 := below_ext E106 E106.size e166
      have hv170 : fr165 22 = .tuple #[.agg #[.int .u64 (wv3 (pkz (rOk x y ∧ rOk p q ∧ rFit (x * q) (y * p)) (rUp (x * q) (y * p)))), .int .u64 (wv2 (pkz (rOk x y ∧ rOk p q ∧ rFit (x * q) (y * p)) (rUp (x * q) (y * p)))), .int .u64 (wv1 (pkz (rOk x y ∧ rOk p q ∧ rFit (x * q) (y * p)) (rUp (x * q) (y * p)))), .int .u64 (wv0 (pkz (rOk x y ∧ rOk p q ∧ rFit (x * q) (y * p)) (rUp (x * q) (y * p)))), .int .u64 (wv3 (pkz (rOk x y ∧ rOk p q ∧ rFit (x * q) (y * p)) (rDn (x * q) (y * p)))), .int .u64 (wv2 (pkz (rOk x y ∧ rOk p q ∧ rFit (x * q) (y * p)) (rDn (x * q) (y * p)))), .int .u64 (wv1 (pkz (rOk x y ∧ rOk p q ∧ rFit (x * q) (y * p)) (rDn (x * q) (y * p)))), .int .u64 (wv0 (pkz (rOk x y ∧ rOk p q ∧ rFit (x * q) (y * p)) (rDn (x * q) (y * p))))], .bool (decide (rOk x y ∧ rOk p q ∧ rFit (x * q) (y * p)))] := hD168 4 _ (by kernel_rfl) rfl (by kernel_rfl)
      exact DV.oe (dv_move (T rfl hv170)) ⟨Below.refl _ _, rfl⟩
    · refine .inr ⟨by kernel_rfl, ?_⟩
      intro fr172 w171 e173 hF174 hD175
      have E176 := below_ext E106 E106.size e173
      have hv177 : fr172 17 = .tuple #[.agg #[.int .u64 (wv3 (pkz (rOk x y ∧ rOk p q ∧ rFit (x * q) (y * p)) (rUp (x * q) (y * p)))), .int .u64 (wv2 (pkz (rOk x y ∧ rOk p q ∧ rFit (x * q) (y * p)) (rUp (x * q) (y * p)))), .int .u64 (wv1 (pkz (rOk x y ∧ rOk p q ∧ rFit (x * q) (y * p)) (rUp (x * q) (y * p)))), .int .u64 (wv0 (pkz (rOk x y ∧ rOk p q ∧ rFit (x * q) (y * p)) (rUp (x * q) (y * p)))), .int .u64 (wv3 (pkz (rOk x y ∧ rOk p q ∧ rFit (x * q) (y * p)) (rDn (x * q) (y * p)))), .int .u64 (wv2 (pkz (rOk x y ∧ rOk p q ∧ rFit (x * q) (y * p)) (rDn (x * q) (y * p)))), .int .u64 (wv1 (pkz (rOk x y ∧ rOk p q ∧ rFit (x * q) (y * p)) (rDn (x * q) (y * p)))), .int .u64 (wv0 (pkz (rOk x y ∧ rOk p q ∧ rFit (x * q) (y * p)) (rDn (x * q) (y * p))))], .bool (decide (rOk x y ∧ rOk p q ∧ rFit (x * q) (y * p)))] := hD175 5 _ (by kernel_rfl) rfl (by kernel_rfl)
      exact DV.oe (dv_extract (vs := #[.agg #[.int .u64 (wv3 (pkz (rOk x y ∧ rOk p q ∧ rFit (x * q) (y * p)) (rUp (x * q) (y * p)))), .int .u64 (wv2 (pkz (rOk x y ∧ rOk p q ∧ rFit (x * q) (y * p)) (rUp (x * q) (y * p)))), .int .u64 (wv1 (pkz (rOk x y ∧ rOk p q ∧ rFit (x * q) (y * p)) (rUp (x * q) (y * p)))), .int .u64 (wv0 (pkz (rOk x y ∧ rOk p q ∧ rFit (x * q) (y * p)) (rUp (x * q) (y * p)))), .int .u64 (wv3 (pkz (rOk x y ∧ rOk p q ∧ rFit (x * q) (y * p)) (rDn (x * q) (y * p)))), .int .u64 (wv2 (pkz (rOk x y ∧ rOk p q ∧ rFit (x * q) (y * p)) (rDn (x * q) (y * p)))), .int .u64 (wv1 (pkz (rOk x y ∧ rOk p q ∧ rFit (x * q) (y * p)) (rDn (x * q) (y * p)))), .int .u64 (wv0 (pkz (rOk x y ∧ rOk p q ∧ rFit (x * q) (y * p)) (rDn (x * q) (y * p))))], .bool (decide (rOk x y ∧ rOk p q ∧ rFit (x * q) (y * p)))]) (T rfl hv177) rfl) ⟨Below.refl _ _, rfl⟩
    · refine .inr ⟨by kernel_rfl, ?_⟩
      intro fr179 w178 e180 hF181 hD182
      have E183 := below_ext E106 E106.size e180
      have hv184 : fr179 17 = .tuple #[.agg #[.int .u64 (wv3 (pkz (rOk x y ∧ rOk p q ∧ rFit (x * q) (y * p)) (rUp (x * q) (y * p)))), .int .u64 (wv2 (pkz (rOk x y ∧ rOk p q ∧ rFit (x * q) (y * p)) (rUp (x * q) (y * p)))), .int .u64 (wv1 (pkz (rOk x y ∧ rOk p q ∧ rFit (x * q) (y * p)) (rUp (x * q) (y * p)))), .int .u64 (wv0 (pkz (rOk x y ∧ rOk p q ∧ rFit (x * q) (y * p)) (rUp (x * q) (y * p)))), .int .u64 (wv3 (pkz (rOk x y ∧ rOk p q ∧ rFit (x * q) (y * p)) (rDn (x * q) (y * p)))), .int .u64 (wv2 (pkz (rOk x y ∧ rOk p q ∧ rFit (x * q) (y * p)) (rDn (x * q) (y * p)))), .int .u64 (wv1 (pkz (rOk x y ∧ rOk p q ∧ rFit (x * q) (y * p)) (rDn (x * q) (y * p)))), .int .u64 (wv0 (pkz (rOk x y ∧ rOk p q ∧ rFit (x * q) (y * p)) (rDn (x * q) (y * p))))], .bool (decide (rOk x y ∧ rOk p q ∧ rFit (x * q) (y * p)))] := hD182 5 _ (by kernel_rfl) rfl (by kernel_rfl)
      exact DV.oe (dv_extract (vs := #[.agg #[.int .u64 (wv3 (pkz (rOk x y ∧ rOk p q ∧ rFit (x * q) (y * p)) (rUp (x * q) (y * p)))), .int .u64 (wv2 (pkz (rOk x y ∧ rOk p q ∧ rFit (x * q) (y * p)) (rUp (x * q) (y * p)))), .int .u64 (wv1 (pkz (rOk x y ∧ rOk p q ∧ rFit (x * q) (y * p)) (rUp (x * q) (y * p)))), .int .u64 (wv0 (pkz (rOk x y ∧ rOk p q ∧ rFit (x * q) (y * p)) (rUp (x * q) (y * p)))), .int .u64 (wv3 (pkz (rOk x y ∧ rOk p q ∧ rFit (x * q) (y * p)) (rDn (x * q) (y * p)))), .int .u64 (wv2 (pkz (rOk x y ∧ rOk p q ∧ rFit (x * q) (y * p)) (rDn (x * q) (y * p)))), .int .u64 (wv1 (pkz (rOk x y ∧ rOk p q ∧ rFit (x * q) (y * p)) (rDn (x * q) (y * p)))), .int .u64 (wv0 (pkz (rOk x y ∧ rOk p q ∧ rFit (x * q) (y * p)) (rDn (x * q) (y * p))))], .bool (decide (rOk x y ∧ rOk p q ∧ rFit (x * q) (y * p)))]) (T rfl hv184) rfl) ⟨Below.refl _ _, rfl⟩
    · exact .inl (.inr ⟨by kernel_rfl, fun _ _ => trivial⟩)
    · exact .inl (.inl (by kernel_rfl))
    · refine .inr ⟨by kernel_rfl, ?_⟩
      intro fr200 w199 e201 hF202 hD203
      have E204 := below_ext E106 E106.size e201
      have hv205 : fr200 24 = .bool (decide (rOk x y ∧ rOk p q ∧ rFit (x * q) (y * p))) := hD203 7 _ (by kernel_rfl) rfl (by kernel_rfl)
      exact DV.oe (dv_assign (T rfl hv205)) ⟨Below.refl _ _, rfl⟩
  · refine ⟨⟨⟨_, rfl, fun _ _ => oe_alloc ze27 fun b w hn => ⟨b, rfl, hn⟩⟩, ⟨_, rfl, ?_⟩⟩, trivial⟩
    · intro fr186 w185 b190 e187 hF188 hD189 hA191 hB192
      have E193 := below_ext E106 E106.size e187
      have hv194 : fr186 23 = .agg #[.int .u64 (wv3 (pkz (rOk x y ∧ rOk p q ∧ rFit (x * q) (y * p)) (rUp (x * q) (y * p)))), .int .u64 (wv2 (pkz (rOk x y ∧ rOk p q ∧ rFit (x * q) (y * p)) (rUp (x * q) (y * p)))), .int .u64 (wv1 (pkz (rOk x y ∧ rOk p q ∧ rFit (x * q) (y * p)) (rUp (x * q) (y * p)))), .int .u64 (wv0 (pkz (rOk x y ∧ rOk p q ∧ rFit (x * q) (y * p)) (rUp (x * q) (y * p)))), .int .u64 (wv3 (pkz (rOk x y ∧ rOk p q ∧ rFit (x * q) (y * p)) (rDn (x * q) (y * p)))), .int .u64 (wv2 (pkz (rOk x y ∧ rOk p q ∧ rFit (x * q) (y * p)) (rDn (x * q) (y * p)))), .int .u64 (wv1 (pkz (rOk x y ∧ rOk p q ∧ rFit (x * q) (y * p)) (rDn (x * q) (y * p)))), .int .u64 (wv0 (pkz (rOk x y ∧ rOk p q ∧ rFit (x * q) (y * p)) (rDn (x * q) (y * p))))] := hD189 6 _ (by kernel_rfl) rfl (by kernel_rfl)
      refine id (oe_store (v := .agg #[.int .u64 (wv3 (pkz (rOk x y ∧ rOk p q ∧ rFit (x * q) (y * p)) (rUp (x * q) (y * p)))), .int .u64 (wv2 (pkz (rOk x y ∧ rOk p q ∧ rFit (x * q) (y * p)) (rUp (x * q) (y * p)))), .int .u64 (wv1 (pkz (rOk x y ∧ rOk p q ∧ rFit (x * q) (y * p)) (rUp (x * q) (y * p)))), .int .u64 (wv0 (pkz (rOk x y ∧ rOk p q ∧ rFit (x * q) (y * p)) (rUp (x * q) (y * p)))), .int .u64 (wv3 (pkz (rOk x y ∧ rOk p q ∧ rFit (x * q) (y * p)) (rDn (x * q) (y * p)))), .int .u64 (wv2 (pkz (rOk x y ∧ rOk p q ∧ rFit (x * q) (y * p)) (rDn (x * q) (y * p)))), .int .u64 (wv1 (pkz (rOk x y ∧ rOk p q ∧ rFit (x * q) (y * p)) (rDn (x * q) (y * p)))), .int .u64 (wv0 (pkz (rOk x y ∧ rOk p q ∧ rFit (x * q) (y * p)) (rDn (x * q) (y * p))))]) (vs := [.int .u64 (wv3 (pkz (rOk x y ∧ rOk p q ∧ rFit (x * q) (y * p)) (rUp (x * q) (y * p)))), .int .u64 (wv2 (pkz (rOk x y ∧ rOk p q ∧ rFit (x * q) (y * p)) (rUp (x * q) (y * p)))), .int .u64 (wv1 (pkz (rOk x y ∧ rOk p q ∧ rFit (x * q) (y * p)) (rUp (x * q) (y * p)))), .int .u64 (wv0 (pkz (rOk x y ∧ rOk p q ∧ rFit (x * q) (y * p)) (rUp (x * q) (y * p)))), .int .u64 (wv3 (pkz (rOk x y ∧ rOk p q ∧ rFit (x * q) (y * p)) (rDn (x * q) (y * p)))), .int .u64 (wv2 (pkz (rOk x y ∧ rOk p q ∧ rFit (x * q) (y * p)) (rDn (x * q) (y * p)))), .int .u64 (wv1 (pkz (rOk x y ∧ rOk p q ∧ rFit (x * q) (y * p)) (rDn (x * q) (y * p)))), .int .u64 (wv0 (pkz (rOk x y ∧ rOk p q ∧ rFit (x * q) (y * p)) (rDn (x * q) (y * p))))]) (l := [.int .u64 (wv3 (pkz (rOk x y ∧ rOk p q ∧ rFit (x * q) (y * p)) (rUp (x * q) (y * p)))), .int .u64 (wv2 (pkz (rOk x y ∧ rOk p q ∧ rFit (x * q) (y * p)) (rUp (x * q) (y * p)))), .int .u64 (wv1 (pkz (rOk x y ∧ rOk p q ∧ rFit (x * q) (y * p)) (rUp (x * q) (y * p)))), .int .u64 (wv0 (pkz (rOk x y ∧ rOk p q ∧ rFit (x * q) (y * p)) (rUp (x * q) (y * p)))), .int .u64 (wv3 (pkz (rOk x y ∧ rOk p q ∧ rFit (x * q) (y * p)) (rDn (x * q) (y * p)))), .int .u64 (wv2 (pkz (rOk x y ∧ rOk p q ∧ rFit (x * q) (y * p)) (rDn (x * q) (y * p)))), .int .u64 (wv1 (pkz (rOk x y ∧ rOk p q ∧ rFit (x * q) (y * p)) (rDn (x * q) (y * p)))), .int .u64 (wv0 (pkz (rOk x y ∧ rOk p q ∧ rFit (x * q) (y * p)) (rDn (x * q) (y * p))))]) (T rfl hA191) (T rfl hv194) sz27 rfl rfl rfl hB192 rfl ?_)
      intro w195 s196 H197
      exact ⟨s196, H197.trans (congrArg (fun v : Value => some (Obj.cells v.cells 27)) (show fr186 23 = _ from hv194).symm)⟩
  intro fr207 w206 e208 hF209 hP210 hM211 hN212
  have E213 := below_ext E106 E106.size e208
  obtain ⟨_, _, _, _, _, _, p214, _, _, _, p215, _⟩ := hP210
  have hv216 : fr207 23 = .agg #[.int .u64 (wv3 (pkz (rOk x y ∧ rOk p q ∧ rFit (x * q) (y * p)) (rUp (x * q) (y * p)))), .int .u64 (wv2 (pkz (rOk x y ∧ rOk p q ∧ rFit (x * q) (y * p)) (rUp (x * q) (y * p)))), .int .u64 (wv1 (pkz (rOk x y ∧ rOk p q ∧ rFit (x * q) (y * p)) (rUp (x * q) (y * p)))), .int .u64 (wv0 (pkz (rOk x y ∧ rOk p q ∧ rFit (x * q) (y * p)) (rUp (x * q) (y * p)))), .int .u64 (wv3 (pkz (rOk x y ∧ rOk p q ∧ rFit (x * q) (y * p)) (rDn (x * q) (y * p)))), .int .u64 (wv2 (pkz (rOk x y ∧ rOk p q ∧ rFit (x * q) (y * p)) (rDn (x * q) (y * p)))), .int .u64 (wv1 (pkz (rOk x y ∧ rOk p q ∧ rFit (x * q) (y * p)) (rDn (x * q) (y * p)))), .int .u64 (wv0 (pkz (rOk x y ∧ rOk p q ∧ rFit (x * q) (y * p)) (rDn (x * q) (y * p))))] := p214.resolve_left (nst (by kernel_rfl))
  have hv217 : fr207 8 = .bool (decide (rOk x y ∧ rOk p q ∧ rFit (x * q) (y * p))) := p215.resolve_left (nst (by kernel_rfl))
  obtain ⟨⟨b218, hA219, hB220, hC221⟩, _⟩ := hM211
  have H222 : w206.heap[b218]? = some (.cells #[.int .u64 (wv3 (pkz (rOk x y ∧ rOk p q ∧ rFit (x * q) (y * p)) (rUp (x * q) (y * p)))), .int .u64 (wv2 (pkz (rOk x y ∧ rOk p q ∧ rFit (x * q) (y * p)) (rUp (x * q) (y * p)))), .int .u64 (wv1 (pkz (rOk x y ∧ rOk p q ∧ rFit (x * q) (y * p)) (rUp (x * q) (y * p)))), .int .u64 (wv0 (pkz (rOk x y ∧ rOk p q ∧ rFit (x * q) (y * p)) (rUp (x * q) (y * p)))), .int .u64 (wv3 (pkz (rOk x y ∧ rOk p q ∧ rFit (x * q) (y * p)) (rDn (x * q) (y * p)))), .int .u64 (wv2 (pkz (rOk x y ∧ rOk p q ∧ rFit (x * q) (y * p)) (rDn (x * q) (y * p)))), .int .u64 (wv1 (pkz (rOk x y ∧ rOk p q ∧ rFit (x * q) (y * p)) (rDn (x * q) (y * p)))), .int .u64 (wv0 (pkz (rOk x y ∧ rOk p q ∧ rFit (x * q) (y * p)) (rDn (x * q) (y * p))))] 27) := hC221.trans (congrArg (fun v : Value => some (Obj.cells v.cells 27)) hv216)
  have N223 : w.heap.size ≤ b218 := by omega
  refine rk_seq ?_
  refine rk_seq ?_
  refine rk_reg ?_
  refine lw_v (.agg #[.int .u64 (wv3 (pkz (rOk x y ∧ rOk p q ∧ rFit (x * q) (y * p)) (rUp (x * q) (y * p)))), .int .u64 (wv2 (pkz (rOk x y ∧ rOk p q ∧ rFit (x * q) (y * p)) (rUp (x * q) (y * p)))), .int .u64 (wv1 (pkz (rOk x y ∧ rOk p q ∧ rFit (x * q) (y * p)) (rUp (x * q) (y * p)))), .int .u64 (wv0 (pkz (rOk x y ∧ rOk p q ∧ rFit (x * q) (y * p)) (rUp (x * q) (y * p)))), .int .u64 (wv3 (pkz (rOk x y ∧ rOk p q ∧ rFit (x * q) (y * p)) (rDn (x * q) (y * p)))), .int .u64 (wv2 (pkz (rOk x y ∧ rOk p q ∧ rFit (x * q) (y * p)) (rDn (x * q) (y * p)))), .int .u64 (wv1 (pkz (rOk x y ∧ rOk p q ∧ rFit (x * q) (y * p)) (rDn (x * q) (y * p)))), .int .u64 (wv0 (pkz (rOk x y ∧ rOk p q ∧ rFit (x * q) (y * p)) (rDn (x * q) (y * p))))]) (dv_loads (l := [.int .u64 (wv3 (pkz (rOk x y ∧ rOk p q ∧ rFit (x * q) (y * p)) (rUp (x * q) (y * p)))), .int .u64 (wv2 (pkz (rOk x y ∧ rOk p q ∧ rFit (x * q) (y * p)) (rUp (x * q) (y * p)))), .int .u64 (wv1 (pkz (rOk x y ∧ rOk p q ∧ rFit (x * q) (y * p)) (rUp (x * q) (y * p)))), .int .u64 (wv0 (pkz (rOk x y ∧ rOk p q ∧ rFit (x * q) (y * p)) (rUp (x * q) (y * p)))), .int .u64 (wv3 (pkz (rOk x y ∧ rOk p q ∧ rFit (x * q) (y * p)) (rDn (x * q) (y * p)))), .int .u64 (wv2 (pkz (rOk x y ∧ rOk p q ∧ rFit (x * q) (y * p)) (rDn (x * q) (y * p)))), .int .u64 (wv1 (pkz (rOk x y ∧ rOk p q ∧ rFit (x * q) (y * p)) (rDn (x * q) (y * p)))), .int .u64 (wv0 (pkz (rOk x y ∧ rOk p q ∧ rFit (x * q) (y * p)) (rDn (x * q) (y * p))))]) agt27 sz27 (T rfl hA219) H222 rfl) ?_
  have H224 := (e208.blk H115)
  refine lw_v (.agg #[.int .u64 (wv3 (pkz (rOk x y ∧ rOk p q ∧ rFit (x * q) (y * p)) (rUp (x * q) (y * p)))), .int .u64 (wv2 (pkz (rOk x y ∧ rOk p q ∧ rFit (x * q) (y * p)) (rUp (x * q) (y * p)))), .int .u64 (wv1 (pkz (rOk x y ∧ rOk p q ∧ rFit (x * q) (y * p)) (rUp (x * q) (y * p)))), .int .u64 (wv0 (pkz (rOk x y ∧ rOk p q ∧ rFit (x * q) (y * p)) (rUp (x * q) (y * p)))), .int .u64 (wv3 (pkz (rOk x y ∧ rOk p q ∧ rFit (x * q) (y * p)) (rDn (x * q) (y * p)))), .int .u64 (wv2 (pkz (rOk x y ∧ rOk p q ∧ rFit (x * q) (y * p)) (rDn (x * q) (y * p)))), .int .u64 (wv1 (pkz (rOk x y ∧ rOk p q ∧ rFit (x * q) (y * p)) (rDn (x * q) (y * p)))), .int .u64 (wv0 (pkz (rOk x y ∧ rOk p q ∧ rFit (x * q) (y * p)) (rDn (x * q) (y * p))))]) (dv_loads (l := [.int .u64 (wv3 (pkz (rOk x y ∧ rOk p q ∧ rFit (x * q) (y * p)) (rUp (x * q) (y * p)))), .int .u64 (wv2 (pkz (rOk x y ∧ rOk p q ∧ rFit (x * q) (y * p)) (rUp (x * q) (y * p)))), .int .u64 (wv1 (pkz (rOk x y ∧ rOk p q ∧ rFit (x * q) (y * p)) (rUp (x * q) (y * p)))), .int .u64 (wv0 (pkz (rOk x y ∧ rOk p q ∧ rFit (x * q) (y * p)) (rUp (x * q) (y * p)))), .int .u64 (wv3 (pkz (rOk x y ∧ rOk p q ∧ rFit (x * q) (y * p)) (rDn (x * q) (y * p)))), .int .u64 (wv2 (pkz (rOk x y ∧ rOk p q ∧ rFit (x * q) (y * p)) (rDn (x * q) (y * p)))), .int .u64 (wv1 (pkz (rOk x y ∧ rOk p q ∧ rFit (x * q) (y * p)) (rDn (x * q) (y * p)))), .int .u64 (wv0 (pkz (rOk x y ∧ rOk p q ∧ rFit (x * q) (y * p)) (rDn (x * q) (y * p))))]) agt27 sz27 (T rfl ((hF209 5 rfl).trans hA112)) H224 rfl) ?_
  refine lw_e (oe_callf (vs := [.agg #[.int .u64 (wv3 (pkz (rOk x y ∧ rOk p q ∧ rFit (x * q) (y * p)) (rUp (x * q) (y * p)))), .int .u64 (wv2 (pkz (rOk x y ∧ rOk p q ∧ rFit (x * q) (y * p)) (rUp (x * q) (y * p)))), .int .u64 (wv1 (pkz (rOk x y ∧ rOk p q ∧ rFit (x * q) (y * p)) (rUp (x * q) (y * p)))), .int .u64 (wv0 (pkz (rOk x y ∧ rOk p q ∧ rFit (x * q) (y * p)) (rUp (x * q) (y * p)))), .int .u64 (wv3 (pkz (rOk x y ∧ rOk p q ∧ rFit (x * q) (y * p)) (rDn (x * q) (y * p)))), .int .u64 (wv2 (pkz (rOk x y ∧ rOk p q ∧ rFit (x * q) (y * p)) (rDn (x * q) (y * p)))), .int .u64 (wv1 (pkz (rOk x y ∧ rOk p q ∧ rFit (x * q) (y * p)) (rDn (x * q) (y * p)))), .int .u64 (wv0 (pkz (rOk x y ∧ rOk p q ∧ rFit (x * q) (y * p)) (rDn (x * q) (y * p))))], .agg #[.int .u64 (wv3 (pkz (rOk x y ∧ rOk p q ∧ rFit (x * q) (y * p)) (rUp (x * q) (y * p)))), .int .u64 (wv2 (pkz (rOk x y ∧ rOk p q ∧ rFit (x * q) (y * p)) (rUp (x * q) (y * p)))), .int .u64 (wv1 (pkz (rOk x y ∧ rOk p q ∧ rFit (x * q) (y * p)) (rUp (x * q) (y * p)))), .int .u64 (wv0 (pkz (rOk x y ∧ rOk p q ∧ rFit (x * q) (y * p)) (rUp (x * q) (y * p)))), .int .u64 (wv3 (pkz (rOk x y ∧ rOk p q ∧ rFit (x * q) (y * p)) (rDn (x * q) (y * p)))), .int .u64 (wv2 (pkz (rOk x y ∧ rOk p q ∧ rFit (x * q) (y * p)) (rDn (x * q) (y * p)))), .int .u64 (wv1 (pkz (rOk x y ∧ rOk p q ∧ rFit (x * q) (y * p)) (rDn (x * q) (y * p)))), .int .u64 (wv0 (pkz (rOk x y ∧ rOk p q ∧ rFit (x * q) (y * p)) (rDn (x * q) (y * p))))]]) co18 (ar2 (T rfl rfl) (T rfl rfl)) (eqRatio_ok (x := pkz (rOk x y ∧ rOk p q ∧ rFit (x * q) (y * p)) (rUp (x * q) (y * p))) (y := pkz (rOk x y ∧ rOk p q ∧ rFit (x * q) (y * p)) (rDn (x * q) (y * p))) (p := pkz (rOk x y ∧ rOk p q ∧ rFit (x * q) (y * p)) (rUp (x * q) (y * p))) (q := pkz (rOk x y ∧ rOk p q ∧ rFit (x * q) (y * p)) (rDn (x * q) (y * p))) (fits_pkz fun h => h.2.2.2.1) (fits_pkz fun h => h.2.2.2.2) (fits_pkz fun h => h.2.2.2.1) (fits_pkz fun h => h.2.2.2.2) ) ?_)
  rintro _ w225 ⟨rfl, e226⟩
  have E227 := below_ext E213 E213.size e226
  refine lw_v (.bool (decide (¬ ((pkz (rOk x y ∧ rOk p q ∧ rFit (x * q) (y * p)) (rUp (x * q) (y * p))) = (pkz (rOk x y ∧ rOk p q ∧ rFit (x * q) (y * p)) (rUp (x * q) (y * p))) ∧ (pkz (rOk x y ∧ rOk p q ∧ rFit (x * q) (y * p)) (rDn (x * q) (y * p))) = (pkz (rOk x y ∧ rOk p q ∧ rFit (x * q) (y * p)) (rDn (x * q) (y * p))))))) (dv_notd (p := (pkz (rOk x y ∧ rOk p q ∧ rFit (x * q) (y * p)) (rUp (x * q) (y * p))) = (pkz (rOk x y ∧ rOk p q ∧ rFit (x * q) (y * p)) (rUp (x * q) (y * p))) ∧ (pkz (rOk x y ∧ rOk p q ∧ rFit (x * q) (y * p)) (rDn (x * q) (y * p))) = (pkz (rOk x y ∧ rOk p q ∧ rFit (x * q) (y * p)) (rDn (x * q) (y * p)))) (T rfl rfl)) ?_
  refine lw_v (.bool (decide (¬ ((pkz (rOk x y ∧ rOk p q ∧ rFit (x * q) (y * p)) (rUp (x * q) (y * p))) = (pkz (rOk x y ∧ rOk p q ∧ rFit (x * q) (y * p)) (rUp (x * q) (y * p))) ∧ (pkz (rOk x y ∧ rOk p q ∧ rFit (x * q) (y * p)) (rDn (x * q) (y * p))) = (pkz (rOk x y ∧ rOk p q ∧ rFit (x * q) (y * p)) (rDn (x * q) (y * p))))))) (dv_move (T rfl rfl)) ?_
  by_cases hb228 : (pkz (rOk x y ∧ rOk p q ∧ rFit (x * q) (y * p)) (rUp (x * q) (y * p))) = (pkz (rOk x y ∧ rOk p q ∧ rFit (x * q) (y * p)) (rUp (x * q) (y * p))) ∧ (pkz (rOk x y ∧ rOk p q ∧ rFit (x * q) (y * p)) (rDn (x * q) (y * p))) = (pkz (rOk x y ∧ rOk p q ∧ rFit (x * q) (y * p)) (rDn (x * q) (y * p)))
  · -- T
    refine lw_vy (.bool (decide (rOk x y ∧ rOk p q ∧ rFit (x * q) (y * p)))) (d := 29) rfl rfl (congrArg Value.bool (decide_eq_false (not_not_intro hb228))) (dv_move (T rfl hv217)) ?_
    refine lw_vy (.bool (decide (rOk x y ∧ rOk p q ∧ rFit (x * q) (y * p)))) (d := 29) rfl rfl (congrArg Value.bool (decide_eq_false (not_not_intro hb228))) (dv_move (T rfl ((hF209 6 rfl).trans hv110))) ?_
    refine lw_vy (.bool ((decide (rOk x y ∧ rOk p q ∧ rFit (x * q) (y * p))) != (decide (rOk x y ∧ rOk p q ∧ rFit (x * q) (y * p))))) (d := 29) rfl rfl (congrArg Value.bool (decide_eq_false (not_not_intro hb228))) (dv_neqb (a := decide (rOk x y ∧ rOk p q ∧ rFit (x * q) (y * p))) (b := decide (rOk x y ∧ rOk p q ∧ rFit (x * q) (y * p))) ub4 (T rfl rfl) (T rfl rfl)) ?_
    refine lw_v (.bool ((decide (rOk x y ∧ rOk p q ∧ rFit (x * q) (y * p))) != (decide (rOk x y ∧ rOk p q ∧ rFit (x * q) (y * p))))) (dv_pick_f (T rfl (congrArg Value.bool (decide_eq_false (not_not_intro hb228)))) (T rfl rfl)) ?_
    refine lw_nil ?_
    rcases Bool.eq_false_or_eq_true ((decide (rOk x y ∧ rOk p q ∧ rFit (x * q) (y * p))) != (decide (rOk x y ∧ rOk p q ∧ rFit (x * q) (y * p)))) with hb229 | hb229
    · -- TT
      refine rk_ct (T rfl (congrArg Value.bool hb229)) ?_
      refine rk_seq ?_
      refine rk_reg ?_
      refine lw_v (.bool false) (dv_assign C) ?_
      refine lw_nil ?_
      refine rk_ret Try.func5 (v := .bool false) (res1 Try.results5 (rv_tmp rfl rfl)) ⟨_, rfl, ?_⟩
      exact ⟨(by exfalso; grind), E227⟩
    · -- TF
      refine rk_cf (T rfl (congrArg Value.bool hb229)) ?_
      refine rk_skip ?_
      refine rk_seq ?_
      refine rk_reg ?_
      refine lw_v (.bool true) (dv_assign C) ?_
      refine lw_nil ?_
      refine rk_ret Try.func5 (v := .bool true) (res1 Try.results5 (rv_tmp rfl rfl)) ⟨_, rfl, ?_⟩
      exact ⟨rfl, E227⟩
  · -- F
    refine lw_no (d := 29) rfl rfl (congrArg Value.bool (decide_eq_true hb228)) ?_
    refine lw_no (d := 29) rfl rfl (congrArg Value.bool (decide_eq_true hb228)) ?_
    refine lw_no (d := 29) rfl rfl (congrArg Value.bool (decide_eq_true hb228)) ?_
    refine lw_v (.bool true) (dv_pick_t (T rfl (congrArg Value.bool (decide_eq_true hb228))) C) ?_
    refine lw_nil ?_
    refine rk_ct (T rfl rfl) ?_
    refine rk_seq ?_
    refine rk_reg ?_
    refine lw_v (.bool false) (dv_assign C) ?_
    refine lw_nil ?_
    refine rk_ret Try.func5 (v := .bool false) (res1 Try.results5 (rv_tmp rfl rfl)) ⟨_, rfl, ?_⟩
    exact ⟨(by exfalso; grind), E227⟩

theorem lawRatioDiv_w {w : World} {x3 x2 x1 x0 y3 y2 y1 y0 p3 p2 p1 p0 q3 q2 q1 q0 : Int} (hx3 : 0 ≤ x3 ∧ x3 < 18446744073709551616) (hx2 : 0 ≤ x2 ∧ x2 < 18446744073709551616) (hx1 : 0 ≤ x1 ∧ x1 < 18446744073709551616) (hx0 : 0 ≤ x0 ∧ x0 < 18446744073709551616) (hy3 : 0 ≤ y3 ∧ y3 < 18446744073709551616) (hy2 : 0 ≤ y2 ∧ y2 < 18446744073709551616) (hy1 : 0 ≤ y1 ∧ y1 < 18446744073709551616) (hy0 : 0 ≤ y0 ∧ y0 < 18446744073709551616) (hp3 : 0 ≤ p3 ∧ p3 < 18446744073709551616) (hp2 : 0 ≤ p2 ∧ p2 < 18446744073709551616) (hp1 : 0 ≤ p1 ∧ p1 < 18446744073709551616) (hp0 : 0 ≤ p0 ∧ p0 < 18446744073709551616) (hq3 : 0 ≤ q3 ∧ q3 < 18446744073709551616) (hq2 : 0 ≤ q2 ∧ q2 < 18446744073709551616) (hq1 : 0 ≤ q1 ∧ q1 < 18446744073709551616) (hq0 : 0 ≤ q0 ∧ q0 < 18446744073709551616) : Ct Try.prog 5 [.agg #[.int .u64 x3, .int .u64 x2, .int .u64 x1, .int .u64 x0, .int .u64 y3, .int .u64 y2, .int .u64 y1, .int .u64 y0], .agg #[.int .u64 p3, .int .u64 p2, .int .u64 p1, .int .u64 p0, .int .u64 q3, .int .u64 q2, .int .u64 q1, .int .u64 q0]] w fun v w1 => v = .bool true ∧ Ext w w1 := by
  obtain ⟨x, fx, rfl, rfl, rfl, rfl⟩ := words_z hx3 hx2 hx1 hx0
  obtain ⟨y, fy, rfl, rfl, rfl, rfl⟩ := words_z hy3 hy2 hy1 hy0
  obtain ⟨p, fp, rfl, rfl, rfl, rfl⟩ := words_z hp3 hp2 hp1 hp0
  obtain ⟨q, fq, rfl, rfl, rfl, rfl⟩ := words_z hq3 hq2 hq1 hq0
  exact lawRatioDiv_ok fx fy fp fq
end Go.Proofs.Ytpnjkjahfklfnaa.W
