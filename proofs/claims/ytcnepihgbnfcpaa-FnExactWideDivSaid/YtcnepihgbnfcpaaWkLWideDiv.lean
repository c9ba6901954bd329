/- WkLWideDiv: walks, written by a program of this session. -/
import Derived.Test.YtcnepihgbnfcpaaWk19
set_option linter.unusedVariables false
set_option linter.unusedSimpArgs false
namespace Go.Proofs.Ytcnepihgbnfcpaa.W
open Go Go.RowKit Go.Proofs.Ytcnepihgbnfcpaa.Fw
attribute [local irreducible] RunK LW AW DV OE Ct
theorem agt24 : aggB Try.prog 24 = some true := by kernel_rfl
theorem co16 : callOk Try.prog 16 = true := by kernel_rfl
theorem co18 : callOk Try.prog 18 = true := by kernel_rfl
theorem co19 : callOk Try.prog 19 = true := by kernel_rfl
theorem co20 : callOk Try.prog 20 = true := by kernel_rfl
theorem sz24 : sizeB Try.prog 24 = some 4 := by kernel_rfl
set_option maxHeartbeats 1000000 in
theorem lawWideDiv_ok {w : World} {x y : Int} (fx_ : fits x) (fy_ : fits y)  : Ct Try.prog 4 [.agg #[.int .u64 (wv3 x), .int .u64 (wv2 x), .int .u64 (wv1 x), .int .u64 (wv0 x)], .agg #[.int .u64 (wv3 y), .int .u64 (wv2 y), .int .u64 (wv1 y), .int .u64 (wv0 y)]] w fun v w1 => v = .bool true ∧ Ext w w1 := by
  refine ct_run (n := 44) Try.func4 rfl Try.ntmps4 rfl ?_
  have E0 : Below w.heap.size w w := Below.refl _ _
  refine rk_seq ?_
  refine rk_reg ?_
  refine lw_e (oe_box (v := .agg #[.int .u64 (wv3 x), .int .u64 (wv2 x), .int .u64 (wv1 x), .int .u64 (wv0 x)]) (cs := #[.int .u64 (wv3 x), .int .u64 (wv2 x), .int .u64 (wv1 x), .int .u64 (wv0 x)]) (T rfl rfl) rfl ?_)
  intro b1 w2 n3
  have N4 : w.heap.size ≤ b1 := n3.eq ▸ E0.size
  have E5 := below_ext E0 E0.size n3.ext
  refine lw_e (oe_box (v := .agg #[.int .u64 (wv3 y), .int .u64 (wv2 y), .int .u64 (wv1 y), .int .u64 (wv0 y)]) (cs := #[.int .u64 (wv3 y), .int .u64 (wv2 y), .int .u64 (wv1 y), .int .u64 (wv0 y)]) (T rfl rfl) rfl ?_)
  intro b6 w7 n8
  have N9 : w.heap.size ≤ b6 := n8.eq ▸ E5.size
  have : b1 < b6 := n8.eq ▸ lt_of_blk n3.blk
  have E10 := below_ext E5 E5.size n8.ext
  refine lw_v (.bool false) (dv_assign C) ?_
  refine lw_nil ?_
  refine rk_seq ?_
  have H11 := (n8.ext.blk n3.blk)
  have : b1 < w7.heap.size := lt_of_blk H11
  have : b6 < w7.heap.size := lt_of_blk n8.blk
  have : w.heap.size ≤ w7.heap.size := E10.size
  refine rk_par2 [fun vq wq_ => vq = .agg #[.int .u64 (wv3 x), .int .u64 (wv2 x), .int .u64 (wv1 x), .int .u64 (wv0 x)], fun vq wq_ => vq = .agg #[.int .u64 (wv3 x), .int .u64 (wv2 x), .int .u64 (wv1 x), .int .u64 (wv0 x)], fun vq wq_ => vq = .agg #[.int .u64 (wv3 y), .int .u64 (wv2 y), .int .u64 (wv1 y), .int .u64 (wv0 y)], fun vq wq_ => vq = .agg #[.int .u64 (wv3 y), .int .u64 (wv2 y), .int .u64 (wv1 y), .int .u64 (wv0 y)], fun vq wq_ => vq = .tuple #[.agg #[.int .u64 (wv3 (pkz (dOk x y) (x / y))), .int .u64 (wv2 (pkz (dOk x y) (x / y))), .int .u64 (wv1 (pkz (dOk x y) (x / y))), .int .u64 (wv0 (pkz (dOk x y) (x / y)))], .agg #[.int .u64 (wv3 (pkz (dOk x y) (x % y))), .int .u64 (wv2 (pkz (dOk x y) (x % y))), .int .u64 (wv1 (pkz (dOk x y) (x % y))), .int .u64 (wv0 (pkz (dOk x y) (x % y)))], .bool (decide (dOk x y))], fun vq wq_ => vq = .tuple #[.agg #[.int .u64 (wv3 (pkz (dOk x y) (x / y))), .int .u64 (wv2 (pkz (dOk x y) (x / y))), .int .u64 (wv1 (pkz (dOk x y) (x / y))), .int .u64 (wv0 (pkz (dOk x y) (x / y)))], .agg #[.int .u64 (wv3 (pkz (dOk x y) (x % y))), .int .u64 (wv2 (pkz (dOk x y) (x % y))), .int .u64 (wv1 (pkz (dOk x y) (x % y))), .int .u64 (wv0 (pkz (dOk x y) (x % y)))], .bool (decide (dOk x y))], fun vq wq_ => vq = .agg #[.int .u64 (wv3 (pkz (dOk x y) (x / y))), .int .u64 (wv2 (pkz (dOk x y) (x / y))), .int .u64 (wv1 (pkz (dOk x y) (x / y))), .int .u64 (wv0 (pkz (dOk x y) (x / y)))], fun vq wq_ => vq = .agg #[.int .u64 (wv3 (pkz (dOk x y) (x % y))), .int .u64 (wv2 (pkz (dOk x y) (x % y))), .int .u64 (wv1 (pkz (dOk x y) (x % y))), .int .u64 (wv0 (pkz (dOk x y) (x % y)))], fun vq wq_ => vq = .bool (decide (dOk x y)), fun _ _ => True, fun _ _ => True, fun _ _ => True, fun _ _ => True, fun vq wq_ => vq = .bool (decide (dOk x y))] [⟨9, 11, 6, 26, #[.int .u64 0, .int .u64 0, .int .u64 0, .int .u64 0]⟩, ⟨10, 12, 7, 26, #[.int .u64 0, .int .u64 0, .int .u64 0, .int .u64 0]⟩] [26] mo (by kernel_rfl) (by kernel_rfl) ?_ ?_ ?_ ?_ ?_
  · intro e he e2 he2 h; simp only [List.mem_cons, List.not_mem_nil, or_false] at he he2; rcases he with rfl | rfl <;> rcases he2 with rfl | rfl <;> first | rfl | exact absurd h (by decide)
  · exact ⟨⟨fun v w w2 e h => h, fun v w w2 b cs T fz s hb hT h => h⟩, ⟨fun v w w2 e h => h, fun v w w2 b cs T fz s hb hT h => h⟩, ⟨fun v w w2 e h => h, fun v w w2 b cs T fz s hb hT h => h⟩, ⟨fun v w w2 e h => h, fun v w w2 b cs T fz s hb hT h => h⟩, ⟨fun v w w2 e h => h, fun v w w2 b cs T fz s hb hT h => h⟩, ⟨fun v w w2 e h => h, fun v w w2 b cs T fz s hb hT h => h⟩, ⟨fun v w w2 e h => h, fun v w w2 b cs T fz s hb hT h => h⟩, ⟨fun v w w2 e h => h, fun v w w2 b cs T fz s hb hT h => h⟩, ⟨fun v w w2 e h => h, fun v w w2 b cs T fz s hb hT h => h⟩, ⟨fun v w w2 e h => h, fun v w w2 b cs T fz s hb hT h => h⟩, ⟨fun v w w2 e h => h, fun v w w2 b cs T fz s hb hT h => h⟩, ⟨fun v w w2 e h => h, fun v w w2 b cs T fz s hb hT h => h⟩, ⟨fun v w w2 e h => h, fun v w w2 b cs T fz s hb hT h => h⟩, ⟨fun v w w2 e h => h, fun v w w2 b cs T fz s hb hT h => h⟩, trivial⟩
  · refine ⟨?_, ?_, ?_, ?_, ?_, ?_, ?_, ?_, ?_, ?_, ?_, ?_, ?_, ?_, trivial⟩
    · refine .inr ⟨by kernel_rfl, ?_⟩
      intro fr13 w12 e14 hF15 hD16
      have E17 := below_ext E10 E10.size e14
      have H18 := (e14.blk H11)
      exact DV.oe (dv_loads (l := [.int .u64 (wv3 x), .int .u64 (wv2 x), .int .u64 (wv1 x), .int .u64 (wv0 x)]) agt24 sz24 (T rfl (hF15 2 (by kernel_rfl))) H18 rfl) ⟨Below.refl _ _, rfl⟩
    · refine .inr ⟨by kernel_rfl, ?_⟩
      intro fr20 w19 e21 hF22 hD23
      have E24 := below_ext E10 E10.size e21
      have hv25 : fr20 12 = .agg #[.int .u64 (wv3 x), .int .u64 (wv2 x), .int .u64 (wv1 x), .int .u64 (wv0 x)] := hD23 0 _ (by kernel_rfl) rfl (by kernel_rfl)
      refine id (oe_callf (vs := [.agg #[.int .u64 (wv3 x), .int .u64 (wv2 x), .int .u64 (wv1 x), .int .u64 (wv0 x)]]) co16 (ar1 (T rfl hv25)) (toWide_ok (z := x)  ) ?_)
      rintro _ w26 ⟨rfl, e27⟩
      have E28 := below_ext E24 E24.size e27
      exact ⟨e27, rfl⟩
    · refine .inr ⟨by kernel_rfl, ?_⟩
      intro fr30 w29 e31 hF32 hD33
      have E34 := below_ext E10 E10.size e31
      have H35 := (e31.blk n8.blk)
      exact DV.oe (dv_loads (l := [.int .u64 (wv3 y), .int .u64 (wv2 y), .int .u64 (wv1 y), .int .u64 (wv0 y)]) agt24 sz24 (T rfl (hF32 3 (by kernel_rfl))) H35 rfl) ⟨Below.refl _ _, rfl⟩
    · refine .inr ⟨by kernel_rfl, ?_⟩
      intro fr37 w36 e38 hF39 hD40
      have E41 := below_ext E10 E10.size e38
      have hv42 : fr37 14 = .agg #[.int .u64 (wv3 y), .int .u64 (wv2 y), .int .u64 (wv1 y), .int .u64 (wv0 y)] := hD40 2 _ (by kernel_rfl) rfl (by kernel_rfl)
      refine id (oe_callf (vs := [.agg #[.int .u64 (wv3 y), .int .u64 (wv2 y), .int .u64 (wv1 y), .int .u64 (wv0 y)]]) co16 (ar1 (T rfl hv42)) (toWide_ok (z := y)  ) ?_)
      rintro _ w43 ⟨rfl, e44⟩
      have E45 := below_ext E41 E41.size e44
      exact ⟨e44, rfl⟩
    · refine .inr ⟨by kernel_rfl, ?_⟩
      intro fr47 w46 e48 hF49 hD50
      have E51 := below_ext E10 E10.size e48
      have hv52 : fr47 13 = .agg #[.int .u64 (wv3 x), .int .u64 (wv2 x), .int .u64 (wv1 x), .int .u64 (wv0 x)] := hD50 1 _ (by kernel_rfl) rfl (by kernel_rfl)
      have hv53 : fr47 15 = .agg #[.int .u64 (wv3 y), .int .u64 (wv2 y), .int .u64 (wv1 y), .int .u64 (wv0 y)] := hD50 3 _ (by kernel_rfl) rfl (by kernel_rfl)
      refine id (oe_callf (vs := [.agg #[.int .u64 (wv3 x), .int .u64 (wv2 x), .int .u64 (wv1 x), .int .u64 (wv0 x)], .agg #[.int .u64 (wv3 y), .int .u64 (wv2 y), .int .u64 (wv1 y), .int .u64 (wv0 y)]]) co18 (ar2 (T rfl hv52) (T rfl hv53)) (sWideDiv_ok (x := x) (y := y) fx_ fy_ ) ?_)
      rintro _ w54 ⟨rfl, e55⟩
      have E56 := below_ext E51 E51.size e55
      exact ⟨e55, rfl⟩
    · refine .inr ⟨by kernel_rfl, ?_⟩
      intro fr58 w57 e59 hF60 hD61
      have E62 := below_ext E10 E10.size e59
      have hv63 : fr58 16 = .tuple #[.agg #[.int .u64 (wv3 (pkz (dOk x y) (x / y))), .int .u64 (wv2 (pkz (dOk x y) (x / y))), .int .u64 (wv1 (pkz (dOk x y) (x / y))), .int .u64 (wv0 (pkz (dOk x y) (x / y)))], .agg #[.int .u64 (wv3 (pkz (dOk x y) (x % y))), .int .u64 (wv2 (pkz (dOk x y) (x % y))), .int .u64 (wv1 (pkz (dOk x y) (x % y))), .int .u64 (wv0 (pkz (dOk x y) (x % y)))], .bool (decide (dOk x y))] := hD61 4 _ (by kernel_rfl) rfl (by kernel_rfl)
      exact DV.oe (dv_move (T rfl hv63)) ⟨Below.refl _ _, rfl⟩
    · refine .inr ⟨by kernel_rfl, ?_⟩
      intro fr65 w64 e66 hF67 hD68
      have E69 := below_ext E10 E10.size e66
      have hv70 : fr65 11 = .tuple #[.agg #[.int .u64 (wv3 (pkz (dOk x y) (x / y))), .int .u64 (wv2 (pkz (dOk x y) (x / y))), .int .u64 (wv1 (pkz (dOk x y) (x / y))), .int .u64 (wv0 (pkz (dOk x y) (x / y)))], .agg #[.int .u64 (wv3 (pkz (dOk x y) (x % y))), .int .u64 (wv2 (pkz (dOk x y) (x % y))), .int .u64 (wv1 (pkz (dOk x y) (x % y))), .int .u64 (wv0 (pkz (dOk x y) (x % y)))], .bool (decide (dOk x y))] := hD68 5 _ (by kernel_rfl) rfl (by kernel_rfl)
      exact DV.oe (dv_extract (vs := #[.agg #[.int .u64 (wv3 (pkz (dOk x y) (x / y))), .int .u64 (wv2 (pkz (dOk x y) (x / y))), .int .u64 (wv1 (pkz (dOk x y) (x / y))), .int .u64 (wv0 (pkz (dOk x y) (x / y)))], .agg #[.int .u64 (wv3 (pkz (dOk x y) (x % y))), .int .u64 (wv2 (pkz (dOk x y) (x % y))), .int .u64 (wv1 (pkz (dOk x y) (x % y))), .int .u64 (wv0 (pkz (dOk x y) (x % y)))], .bool (decide (dOk x y))]) (T rfl hv70) rfl) ⟨Below.refl _ _, rfl⟩
    · refine .inr ⟨by kernel_rfl, ?_⟩
      intro fr72 w71 e73 hF74 hD75
      have E76 := below_ext E10 E10.size e73
      have hv77 : fr72 11 = .tuple #[.agg #[.int .u64 (wv3 (pkz (dOk x y) (x / y))), .int .u64 (wv2 (pkz (dOk x y) (x / y))), .int .u64 (wv1 (pkz (dOk x y) (x / y))), .int .u64 (wv0 (pkz (dOk x y) (x / y)))], .agg #[.int .u64 (wv3 (pkz (dOk x y) (x % y))), .int .u64 (wv2 (pkz (dOk x y) (x % y))), .int .u64 (wv1 (pkz (dOk x y) (x % y))), .int .u64 (wv0 (pkz (dOk x y) (x % y)))], .bool (decide (dOk x y))] := hD75 5 _ (by kernel_rfl) rfl (by kernel_rfl)
      exact DV.oe (dv_extract (vs := #[.agg #[.int .u64 (wv3 (pkz (dOk x y) (x / y))), .int .u64 (wv2 (pkz (dOk x y) (x / y))), .int .u64 (wv1 (pkz (dOk x y) (x / y))), .int .u64 (wv0 (pkz (dOk x y) (x / y)))], .agg #[.int .u64 (wv3 (pkz (dOk x y) (x % y))), .int .u64 (wv2 (pkz (dOk x y) (x % y))), .int .u64 (wv1 (pkz (dOk x y) (x % y))), .int .u64 (wv0 (pkz (dOk x y) (x % y)))], .bool (decide (dOk x y))]) (T rfl hv77) rfl) ⟨Below.refl _ _, rfl⟩
    · refine .inr ⟨by kernel_rfl, ?_⟩
      intro fr79 w78 e80 hF81 hD82
      have E83 := below_ext E10 E10.size e80
      have hv84 : fr79 11 = .tuple #[.agg #[.int .u64 (wv3 (pkz (dOk x y) (x / y))), .int .u64 (wv2 (pkz (dOk x y) (x / y))), .int .u64 (wv1 (pkz (dOk x y) (x / y))), .int .u64 (wv0 (pkz (dOk x y) (x / y)))], .agg #[.int .u64 (wv3 (pkz (dOk x y) (x % y))), .int .u64 (wv2 (pkz (dOk x y) (x % y))), .int .u64 (wv1 (pkz (dOk x y) (x % y))), .int .u64 (wv0 (pkz (dOk x y) (x % y)))], .bool (decide (dOk x y))] := hD82 5 _ (by kernel_rfl) rfl (by kernel_rfl)
      exact DV.oe (dv_extract (vs := #[.agg #[.int .u64 (wv3 (pkz (dOk x y) (x / y))), .int .u64 (wv2 (pkz (dOk x y) (x / y))), .int .u64 (wv1 (pkz (dOk x y) (x / y))), .int .u64 (wv0 (pkz (dOk x y) (x / y)))], .agg #[.int .u64 (wv3 (pkz (dOk x y) (x % y))), .int .u64 (wv2 (pkz (dOk x y) (x % y))), .int .u64 (wv1 (pkz (dOk x y) (x % y))), .int .u64 (wv0 (pkz (dOk x y) (x % y)))], .bool (decide (dOk x y))]) (T rfl hv84) rfl) ⟨Below.refl _ _, rfl⟩
    · exact .inl (.inr ⟨by kernel_rfl, fun _ _ => trivial⟩)
    · exact .inl (.inr ⟨by kernel_rfl, fun _ _ => trivial⟩)
    · exact .inl (.inl (by kernel_rfl))
    · exact .inl (.inl (by kernel_rfl))
    · refine .inr ⟨by kernel_rfl, ?_⟩
      intro fr114 w113 e115 hF116 hD117
      have E118 := below_ext E10 E10.size e115
      have hv119 : fr114 19 = .bool (decide (dOk x y)) := hD117 8 _ (by kernel_rfl) rfl (by kernel_rfl)
      exact DV.oe (dv_assign (T rfl hv119)) ⟨Below.refl _ _, rfl⟩
  · refine ⟨⟨⟨_, rfl, fun _ _ => oe_alloc ze26 fun b w hn => ⟨b, rfl, hn⟩⟩, ⟨_, rfl, ?_⟩⟩, ⟨⟨_, rfl, fun _ _ => oe_alloc ze26 fun b w hn => ⟨b, rfl, hn⟩⟩, ⟨_, rfl, ?_⟩⟩, trivial⟩
    · intro fr86 w85 b90 e87 hF88 hD89 hA91 hB92
      have E93 := below_ext E10 E10.size e87
      have hv94 : fr86 17 = .agg #[.int .u64 (wv3 (pkz (dOk x y) (x / y))), .int .u64 (wv2 (pkz (dOk x y) (x / y))), .int .u64 (wv1 (pkz (dOk x y) (x / y))), .int .u64 (wv0 (pkz (dOk x y) (x / y)))] := hD89 6 _ (by kernel_rfl) rfl (by kernel_rfl)
      refine id (oe_store (v := .agg #[.int .u64 (wv3 (pkz (dOk x y) (x / y))), .int .u64 (wv2 (pkz (dOk x y) (x / y))), .int .u64 (wv1 (pkz (dOk x y) (x / y))), .int .u64 (wv0 (pkz (dOk x y) (x / y)))]) (vs := [.int .u64 (wv3 (pkz (dOk x y) (x / y))), .int .u64 (wv2 (pkz (dOk x y) (x / y))), .int .u64 (wv1 (pkz (dOk x y) (x / y))), .int .u64 (wv0 (pkz (dOk x y) (x / y)))]) (l := [.int .u64 (wv3 (pkz (dOk x y) (x / y))), .int .u64 (wv2 (pkz (dOk x y) (x / y))), .int .u64 (wv1 (pkz (dOk x y) (x / y))), .int .u64 (wv0 (pkz (dOk x y) (x / y)))]) (T rfl hA91) (T rfl hv94) sz26 rfl rfl rfl hB92 rfl ?_)
      intro w95 s96 H97
      exact ⟨s96, H97.trans (congrArg (fun v : Value => some (Obj.cells v.cells 26)) (show fr86 17 = _ from hv94).symm)⟩
    · intro fr100 w99 b104 e101 hF102 hD103 hA105 hB106
      have E107 := below_ext E10 E10.size e101
      have hv108 : fr100 18 = .agg #[.int .u64 (wv3 (pkz (dOk x y) (x % y))), .int .u64 (wv2 (pkz (dOk x y) (x % y))), .int .u64 (wv1 (pkz (dOk x y) (x % y))), .int .u64 (wv0 (pkz (dOk x y) (x % y)))] := hD103 7 _ (by kernel_rfl) rfl (by kernel_rfl)
      refine id (oe_store (v := .agg #[.int .u64 (wv3 (pkz (dOk x y) (x % y))), .int .u64 (wv2 (pkz (dOk x y) (x % y))), .int .u64 (wv1 (pkz (dOk x y) (x % y))), .int .u64 (wv0 (pkz (dOk x y) (x % y)))]) (vs := [.int .u64 (wv3 (pkz (dOk x y) (x % y))), .int .u64 (wv2 (pkz (dOk x y) (x % y))), .int .u64 (wv1 (pkz (dOk x y) (x % y))), .int .u64 (wv0 (pkz (dOk x y) (x % y)))]) (l := [.int .u64 (wv3 (pkz (dOk x y) (x % y))), .int .u64 (wv2 (pkz (dOk x y) (x % y))), .int .u64 (wv1 (pkz (dOk x y) (x % y))), .int .u64 (wv0 (pkz (dOk x y) (x % y)))]) (T rfl hA105) (T rfl hv108) sz26 rfl rfl rfl hB106 rfl ?_)
      intro w109 s110 H111
      exact ⟨s110, H111.trans (congrArg (fun v : Value => some (Obj.cells v.cells 26)) (show fr100 18 = _ from hv108).symm)⟩
  intro fr121 w120 e122 hF123 hP124 hM125 hN126
  have E127 := below_ext E10 E10.size e122
  obtain ⟨_, _, _, _, _, _, p128, p129, _, _, _, _, _, p130, _⟩ := hP124
  have hv131 : fr121 17 = .agg #[.int .u64 (wv3 (pkz (dOk x y) (x / y))), .int .u64 (wv2 (pkz (dOk x y) (x / y))), .int .u64 (wv1 (pkz (dOk x y) (x / y))), .int .u64 (wv0 (pkz (dOk x y) (x / y)))] := p128.resolve_left (nst (by kernel_rfl))
  have hv132 : fr121 18 = .agg #[.int .u64 (wv3 (pkz (dOk x y) (x % y))), .int .u64 (wv2 (pkz (dOk x y) (x % y))), .int .u64 (wv1 (pkz (dOk x y) (x % y))), .int .u64 (wv0 (pkz (dOk x y) (x % y)))] := p129.resolve_left (nst (by kernel_rfl))
  have hv133 : fr121 7 = .bool (decide (dOk x y)) := p130.resolve_left (nst (by kernel_rfl))
  obtain ⟨⟨b134, hA135, hB136, hC137⟩, ⟨b138, hA139, hB140, hC141⟩, _⟩ := hM125
  have H142 : w120.heap[b134]? = some (.cells #[.int .u64 (wv3 (pkz (dOk x y) (x / y))), .int .u64 (wv2 (pkz (dOk x y) (x / y))), .int .u64 (wv1 (pkz (dOk x y) (x / y))), .int .u64 (wv0 (pkz (dOk x y) (x / y)))] 26) := hC137.trans (congrArg (fun v : Value => some (Obj.cells v.cells 26)) hv131)
  have N143 : w.heap.size ≤ b134 := by omega
  have H144 : w120.heap[b138]? = some (.cells #[.int .u64 (wv3 (pkz (dOk x y) (x % y))), .int .u64 (wv2 (pkz (dOk x y) (x % y))), .int .u64 (wv1 (pkz (dOk x y) (x % y))), .int .u64 (wv0 (pkz (dOk x y) (x % y)))] 26) := hC141.trans (congrArg (fun v : Value => some (Obj.cells v.cells 26)) hv132)
  have N145 : w.heap.size ≤ b138 := by omega
  have : b138 ≠ b134 := fun hh => hN126 _ (.tail _ (.head _)) _ (.head _) (by decide) (hA139.trans ((congrArg (fun q => Value.pointer (some ⟨q, 0, none⟩)) hh).trans hA135.symm))
  refine rk_seq ?_
  have H146 := (e122.blk H11)
  have : b1 < w120.heap.size := lt_of_blk H146
  have H147 := (e122.blk n8.blk)
  have : b6 < w120.heap.size := lt_of_blk H147
  have : b134 < w120.heap.size := lt_of_blk H142
  have : b138 < w120.heap.size := lt_of_blk H144
  have : w.heap.size ≤ w120.heap.size := E127.size
  refine rk_par2 [fun vq wq_ => vq = .agg #[.int .u64 (wv3 x), .int .u64 (wv2 x), .int .u64 (wv1 x), .int .u64 (wv0 x)], fun vq wq_ => vq = .agg #[.int .u64 (wv3 x), .int .u64 (wv2 x), .int .u64 (wv1 x), .int .u64 (wv0 x)], fun vq wq_ => vq = .agg #[.int .u64 (wv3 y), .int .u64 (wv2 y), .int .u64 (wv1 y), .int .u64 (wv0 y)], fun vq wq_ => vq = .agg #[.int .u64 (wv3 y), .int .u64 (wv2 y), .int .u64 (wv1 y), .int .u64 (wv0 y)], fun vq wq_ => vq = .tuple #[.agg #[.int .u64 (wv3 (pkz (dOk x y) (x / y))), .int .u64 (wv2 (pkz (dOk x y) (x / y))), .int .u64 (wv1 (pkz (dOk x y) (x / y))), .int .u64 (wv0 (pkz (dOk x y) (x / y)))], .agg #[.int .u64 (wv3 (pkz (dOk x y) (x % y))), .int .u64 (wv2 (pkz (dOk x y) (x % y))), .int .u64 (wv1 (pkz (dOk x y) (x % y))), .int .u64 (wv0 (pkz (dOk x y) (x % y)))], .bool (decide (dOk x y))], fun vq wq_ => vq = .tuple #[.agg #[.int .u64 (wv3 (pkz (dOk x y) (x / y))), .int .u64 (wv2 (pkz (dOk x y) (x / y))), .int .u64 (wv1 (pkz (dOk x y) (x / y))), .int .u64 (wv0 (pkz (dOk x y) (x / y)))], .agg #[.int .u64 (wv3 (pkz (dOk x y) (x % y))), .int .u64 (wv2 (pkz (dOk x y) (x % y))), .int .u64 (wv1 (pkz (dOk x y) (x % y))), .int .u64 (wv0 (pkz (dOk x y) (x % y)))], .bool (decide (dOk x y))], fun vq wq_ => vq = .agg #[.int .u64 (wv3 (pkz (dOk x y) (x / y))), .int .u64 (wv2 (pkz (dOk x y) (x / y))), .int .u64 (wv1 (pkz (dOk x y) (x / y))), .int .u64 (wv0 (pkz (dOk x y) (x / y)))], fun vq wq_ => vq = .agg #[.int .u64 (wv3 (pkz (dOk x y) (x % y))), .int .u64 (wv2 (pkz (dOk x y) (x % y))), .int .u64 (wv1 (pkz (dOk x y) (x % y))), .int .u64 (wv0 (pkz (dOk x y) (x % y)))], fun vq wq_ => vq = .bool (decide (dOk x y)), fun _ _ => True, fun _ _ => True, fun _ _ => True, fun _ _ => True, fun vq wq_ => vq = .bool (decide (dOk x y))] [⟨9, 11, 6, 26, #[.int .u64 0, .int .u64 0, .int .u64 0, .int .u64 0]⟩, ⟨10, 12, 7, 26, #[.int .u64 0, .int .u64 0, .int .u64 0, .int .u64 0]⟩] [26] mo (by kernel_rfl) (by kernel_rfl) ?_ ?_ ?_ ?_ ?_
  · intro e he e2 he2 h; simp only [List.mem_cons, List.not_mem_nil, or_false] at he he2; rcases he with rfl | rfl <;> rcases he2 with rfl | rfl <;> first | rfl | exact absurd h (by decide)
  · exact ⟨⟨fun v w w2 e h => h, fun v w w2 b cs T fz s hb hT h => h⟩, ⟨fun v w w2 e h => h, fun v w w2 b cs T fz s hb hT h => h⟩, ⟨fun v w w2 e h => h, fun v w w2 b cs T fz s hb hT h => h⟩, ⟨fun v w w2 e h => h, fun v w w2 b cs T fz s hb hT h => h⟩, ⟨fun v w w2 e h => h, fun v w w2 b cs T fz s hb hT h => h⟩, ⟨fun v w w2 e h => h, fun v w w2 b cs T fz s hb hT h => h⟩, ⟨fun v w w2 e h => h, fun v w w2 b cs T fz s hb hT h => h⟩, ⟨fun v w w2 e h => h, fun v w w2 b cs T fz s hb hT h => h⟩, ⟨fun v w w2 e h => h, fun v w w2 b cs T fz s hb hT h => h⟩, ⟨fun v w w2 e h => h, fun v w w2 b cs T fz s hb hT h => h⟩, ⟨fun v w w2 e h => h, fun v w w2 b cs T fz s hb hT h => h⟩, ⟨fun v w w2 e h => h, fun v w w2 b cs T fz s hb hT h => h⟩, ⟨fun v w w2 e h => h, fun v w w2 b cs T fz s hb hT h => h⟩, ⟨fun v w w2 e h => h, fun v w w2 b cs T fz s hb hT h => h⟩, trivial⟩
  · refine ⟨?_, ?_, ?_, ?_, ?_, ?_, ?_, ?_, ?_, ?_, ?_, ?_, ?_, ?_, trivial⟩
    · refine .inr ⟨by kernel_rfl, ?_⟩
      intro fr149 w148 e150 hF151 hD152
      have E153 := below_ext E127 E127.size e150
      have H154 := (e150.blk H146)
      exact DV.oe (dv_loads (l := [.int .u64 (wv3 x), .int .u64 (wv2 x), .int .u64 (wv1 x), .int .u64 (wv0 x)]) agt24 sz24 (T rfl ((hF151 2 (by kernel_rfl)).trans (hF123 2 rfl))) H154 rfl) ⟨Below.refl _ _, rfl⟩
    · refine .inr ⟨by kernel_rfl, ?_⟩
      intro fr156 w155 e157 hF158 hD159
      have E160 := below_ext E127 E127.size e157
      have hv161 : fr156 21 = .agg #[.int .u64 (wv3 x), .int .u64 (wv2 x), .int .u64 (wv1 x), .int .u64 (wv0 x)] := hD159 0 _ (by kernel_rfl) rfl (by kernel_rfl)
      refine id (oe_callf (vs := [.agg #[.int .u64 (wv3 x), .int .u64 (wv2 x), .int .u64 (wv1 x), .int .u64 (wv0 x)]]) co16 (ar1 (T rfl hv161)) (toWide_ok (z := x)  ) ?_)
      rintro _ w162 ⟨rfl, e163⟩
      have E164 := below_ext E160 E160.size e163
      exact ⟨e163, rfl⟩
    · refine .inr ⟨by kernel_rfl, ?_⟩
      intro fr166 w165 e167 hF168 hD169
      have E170 := below_ext E127 E127.size e167
      have H171 := (e167.blk H147)
      exact DV.oe (dv_loads (l := [.int .u64 (wv3 y), .int .u64 (wv2 y), .int .u64 (wv1 y), .int .u64 (wv0 y)]) agt24 sz24 (T rfl ((hF168 3 (by kernel_rfl)).trans (hF123 3 rfl))) H171 rfl) ⟨Below.refl _ _, rfl⟩
    · refine .inr ⟨by kernel_rfl, ?_⟩
      intro fr173 w172 e174 hF175 hD176
      have E177 := below_ext E127 E127.size e174
      have hv178 : fr173 23 = .agg #[.int .u64 (wv3 y), .int .u64 (wv2 y), .int .u64 (wv1 y), .int .u64 (wv0 y)] := hD176 2 _ (by kernel_rfl) rfl (by kernel_rfl)
      refine id (oe_callf (vs := [.agg #[.int .u64 (wv3 y), .int .u64 (wv2 y), .int .u64 (wv1 y), .int .u64 (wv0 y)]]) co16 (ar1 (T rfl hv178)) (toWide_ok (z := y)  ) ?_)
      rintro _ w179 ⟨rfl, e180⟩
      have E181 := below_ext E177 E177.size e180
      exact ⟨e180, rfl⟩
    · refine .inr ⟨by kernel_rfl, ?_⟩
      intro fr183 w182 e184 hF185 hD186
      have E187 := below_ext E127 E127.size e184
      have hv188 : fr183 22 = .agg #[.int .u64 (wv3 x), .int .u64 (wv2 x), .int .u64 (wv1 x), .int .u64 (wv0 x)] := hD186 1 _ (by kernel_rfl) rfl (by kernel_rfl)
      have hv189 : fr183 24 = .agg #[.int .u64 (wv3 y), .int .u64 (wv2 y), .int .u64 (wv1 y), .int .u64 (wv0 y)] := hD186 3 _ (by kernel_rfl) rfl (by kernel_rfl)
      refine id (oe_callf (vs := [.agg #[.int .u64 (wv3 x), .int .u64 (wv2 x), .int .u64 (wv1 x), .int .u64 (wv0 x)], .agg #[.int .u64 (wv3 y), .int .u64 (wv2 y), .int .u64 (wv1 y), .int .u64 (wv0 y)]]) co19 (ar2 (T rfl hv188) (T rfl hv189)) (iWideDiv_ok (x := x) (y := y) fx_ fy_ ) ?_)
      rintro _ w190 ⟨rfl, e191⟩
      have E192 := below_ext E187 E187.size e191
      exact ⟨e191, rfl⟩
    · refine .inr ⟨by kernel_rfl, ?_⟩
      intro fr194 w193 e195 hF196 hD197
      have E198 := below_ext E127 E127.size e195
      have hv199 : fr194 25 = .tuple #[.agg #[.int .u64 (wv3 (pkz (dOk x y) (x / y))), .int .u64 (wv2 (pkz (dOk x y) (x / y))), .int .u64 (wv1 (pkz (dOk x y) (x / y))), .int .u64 (wv0 (pkz (dOk x y) (x / y)))], .agg #[.int .u64 (wv3 (pkz (dOk x y) (x % y))), .int .u64 (wv2 (pkz (dOk x y) (x % y))), .int .u64 (wv1 (pkz (dOk x y) (x % y))), .int .u64 (wv0 (pkz (dOk x y) (x % y)))], .bool (decide (dOk x y))] := hD197 4 _ (by kernel_rfl) rfl (by kernel_rfl)
      exact DV.oe (dv_move (T rfl hv199)) ⟨Below.refl _ _, rfl⟩
    · refine .inr ⟨by kernel_rfl, ?_⟩
      intro fr201 w200 e202 hF203 hD204
      have E205 := below_ext E127 E127.size e202
      have hv206 : fr201 20 = .tuple #[.agg #[.int .u64 (wv3 (pkz (dOk x y) (x / y))), .int .u64 (wv2 (pkz (dOk x y) (x / y))), .int .u64 (wv1 (pkz (dOk x y) (x / y))), .int .u64 (wv0 (pkz (dOk x y) (x / y)))], .agg #[.int .u64 (wv3 (pkz (dOk x y) (x % y))), .int .u64 (wv2 (pkz (dOk x y) (x % y))), .int .u64 (wv1 (pkz (dOk x y) (x % y))), .int .u64 (wv0 (pkz (dOk x y) (x % y)))], .bool (decide (dOk x y))] := hD204 5 _ (by kernel_rfl) rfl (by kernel_rfl)
      exact DV.oe (dv_extract (vs := #[.agg #[.int .u64 (wv3 (pkz (dOk x y) (x / y))), .int .u64 (wv2 (pkz (dOk x y) (x / y))), .int .u64 (wv1 (pkz (dOk x y) (x / y))), .int .u64 (wv0 (pkz (dOk x y) (x / y)))], .agg #[.int .u64 (wv3 (pkz (dOk x y) (x % y))), .int .u64 (wv2 (pkz (dOk x y) (x % y))), .int .u64 (wv1 (pkz (dOk x y) (x % y))), .int .u64 (wv0 (pkz (dOk x y) (x % y)))], .bool (decide (dOk x y))]) (T rfl hv206) rfl) ⟨Below.refl _ _, rfl⟩
    · refine .inr ⟨by kernel_rfl, ?_⟩
      intro fr208 w207 e209 hF210 hD211
      have E212 := below_ext E127 E127.size e209
      have hv213 : fr208 20 = .tuple #[.agg #[.int .u64 (wv3 (pkz (dOk x y) (x / y))), .int .u64 (wv2 (pkz (dOk x y) (x / y))), .int .u64 (wv1 (pkz (dOk x y) (x / y))), .int .u64 (wv0 (pkz (dOk x y) (x / y)))], .agg #[.int .u64 (wv3 (pkz (dOk x y) (x % y))), .int .u64 (wv2 (pkz (dOk x y) (x % y))), .int .u64 (wv1 (pkz (dOk x y) (x % y))), .int .u64 (wv0 (pkz (dOk x y) (x % y)))], .bool (decide (dOk x y))] := hD211 5 _ (by kernel_rfl) rfl (by kernel_rfl)
      exact DV.oe (dv_extract (vs := #[.agg #[.int .u64 (wv3 (pkz (dOk x y) (x / y))), .int .u64 (wv2 (pkz (dOk x y) (x / y))), .int .u64 (wv1 (pkz (dOk x y) (x / y))), .int .u64 (wv0 (pkz (dOk x y) (x / y)))], .agg #[.int .u64 (wv3 (pkz (dOk x y) (x % y))), .int .u64 (wv2 (pkz (dOk x y) (x % y))), .int .u64 (wv1 (pkz (dOk x y) (x % y))), .int .u64 (wv0 (pkz (dOk x y) (x % y)))], .bool (decide (dOk x y))]) (T rfl hv213) rfl) ⟨Below.refl _ _, rfl⟩
    · refine .inr ⟨by kernel_rfl, ?_⟩
      intro fr215 w214 e216 hF217 hD218
      have E219 := below_ext E127 E127.size e216
      have hv220 : fr215 20 = .tuple #[.agg #[.int .u64 (wv3 (pkz (dOk x y) (x / y))), .int .u64 (wv2 (pkz (dOk x y) (x / y))), .int .u64 (wv1 (pkz (dOk x y) (x / y))), .int .u64 (wv0 (pkz (dOk x y) (x / y)))], .agg #[.int .u64 (wv3 (pkz (dOk x y) (x % y))), .int .u64 (wv2 (pkz (dOk x y) (x % y))), .int .u64 (wv1 (pkz (dOk x y) (x % y))), .int .u64 (wv0 (pkz (dOk x y) (x % y)))], .bool (decide (dOk x y))] := hD218 5 _ (by kernel_rfl) rfl (by kernel_rfl)
      exact DV.oe (dv_extract (vs := #[.agg #[.int .u64 (wv3 (pkz (dOk x y) (x / y))), .int .u64 (wv2 (pkz (dOk x y) (x / y))), .int .u64 (wv1 (pkz (dOk x y) (x / y))), .int .u64 (wv0 (pkz (dOk x y) (x / y)))], .agg #[.int .u64 (wv3 (pkz (dOk x y) (x % y))), .int .u64 (wv2 (pkz (dOk x y) (x % y))), .int .u64 (wv1 (pkz (dOk x y) (x % y))), .int .u64 (wv0 (pkz (dOk x y) (x % y)))], .bool (decide (dOk x y))]) (T rfl hv220) rfl) ⟨Below.refl _ _, rfl⟩
    · exact .inl (.inr ⟨by kernel_rfl, fun _ _ => trivial⟩)
    · exact .inl (.inr ⟨by kernel_rfl, fun _ _ => trivial⟩)
    · exact .inl (.inl (by kernel_rfl))
    · exact .inl (.inl (by kernel_rfl))
    · refine .inr ⟨by kernel_rfl, ?_⟩
      intro fr250 w249 e251 hF252 hD253
      have E254 := below_ext E127 E127.size e251
      have hv255 : fr250 28 = .bool (decide (dOk x y)) := hD253 8 _ (by kernel_rfl) rfl (by kernel_rfl)
      exact DV.oe (dv_assign (T rfl hv255)) ⟨Below.refl _ _, rfl⟩
  · refine ⟨⟨⟨_, rfl, fun _ _ => oe_alloc ze26 fun b w hn => ⟨b, rfl, hn⟩⟩, ⟨_, rfl, ?_⟩⟩, ⟨⟨_, rfl, fun _ _ => oe_alloc ze26 fun b w hn => ⟨b, rfl, hn⟩⟩, ⟨_, rfl, ?_⟩⟩, trivial⟩
    · intro fr222 w221 b226 e223 hF224 hD225 hA227 hB228
      have E229 := below_ext E127 E127.size e223
      have hv230 : fr222 26 = .agg #[.int .u64 (wv3 (pkz (dOk x y) (x / y))), .int .u64 (wv2 (pkz (dOk x y) (x / y))), .int .u64 (wv1 (pkz (dOk x y) (x / y))), .int .u64 (wv0 (pkz (dOk x y) (x / y)))] := hD225 6 _ (by kernel_rfl) rfl (by kernel_rfl)
      refine id (oe_store (v := .agg #[.int .u64 (wv3 (pkz (dOk x y) (x / y))), .int .u64 (wv2 (pkz (dOk x y) (x / y))), .int .u64 (wv1 (pkz (dOk x y) (x / y))), .int .u64 (wv0 (pkz (dOk x y) (x / y)))]) (vs := [.int .u64 (wv3 (pkz (dOk x y) (x / y))), .int .u64 (wv2 (pkz (dOk x y) (x / y))), .int .u64 (wv1 (pkz (dOk x y) (x / y))), .int .u64 (wv0 (pkz (dOk x y) (x / y)))]) (l := [.int .u64 (wv3 (pkz (dOk x y) (x / y))), .int .u64 (wv2 (pkz (dOk x y) (x / y))), .int .u64 (wv1 (pkz (dOk x y) (x / y))), .int .u64 (wv0 (pkz (dOk x y) (x / y)))]) (T rfl hA227) (T rfl hv230) sz26 rfl rfl rfl hB228 rfl ?_)
      intro w231 s232 H233
      exact ⟨s232, H233.trans (congrArg (fun v : Value => some (Obj.cells v.cells 26)) (show fr222 26 = _ from hv230).symm)⟩
    · intro fr236 w235 b240 e237 hF238 hD239 hA241 hB242
      have E243 := below_ext E127 E127.size e237
      have hv244 : fr236 27 = .agg #[.int .u64 (wv3 (pkz (dOk x y) (x % y))), .int .u64 (wv2 (pkz (dOk x y) (x % y))), .int .u64 (wv1 (pkz (dOk x y) (x % y))), .int .u64 (wv0 (pkz (dOk x y) (x % y)))] := hD239 7 _ (by kernel_rfl) rfl (by kernel_rfl)
      refine id (oe_store (v := .agg #[.int .u64 (wv3 (pkz (dOk x y) (x % y))), .int .u64 (wv2 (pkz (dOk x y) (x % y))), .int .u64 (wv1 (pkz (dOk x y) (x % y))), .int .u64 (wv0 (pkz (dOk x y) (x % y)))]) (vs := [.int .u64 (wv3 (pkz (dOk x y) (x % y))), .int .u64 (wv2 (pkz (dOk x y) (x % y))), .int .u64 (wv1 (pkz (dOk x y) (x % y))), .int .u64 (wv0 (pkz (dOk x y) (x % y)))]) (l := [.int .u64 (wv3 (pkz (dOk x y) (x % y))), .int .u64 (wv2 (pkz (dOk x y) (x % y))), .int .u64 (wv1 (pkz (dOk x y) (x % y))), .int .u64 (wv0 (pkz (dOk x y) (x % y)))]) (T rfl hA241) (T rfl hv244) sz26 rfl rfl rfl hB242 rfl ?_)
      intro w245 s246 H247
      exact ⟨s246, H247.trans (congrArg (fun v : Value => some (Obj.cells v.cells 26)) (show fr236 27 = _ from hv244).symm)⟩
  intro fr257 w256 e258 hF259 hP260 hM261 hN262
  have E263 := below_ext E127 E127.size e258
  obtain ⟨_, _, _, _, _, _, p264, p265, _, _, _, _, _, p266, _⟩ := hP260
  have hv267 : fr257 26 = .agg #[.int .u64 (wv3 (pkz (dOk x y) (x / y))), .int .u64 (wv2 (pkz (dOk x y) (x / y))), .int .u64 (wv1 (pkz (dOk x y) (x / y))), .int .u64 (wv0 (pkz (dOk x y) (x / y)))] := p264.resolve_left (nst (by kernel_rfl))
  have hv268 : fr257 27 = .agg #[.int .u64 (wv3 (pkz (dOk x y) (x % y))), .int .u64 (wv2 (pkz (dOk x y) (x % y))), .int .u64 (wv1 (pkz (dOk x y) (x % y))), .int .u64 (wv0 (pkz (dOk x y) (x % y)))] := p265.resolve_left (nst (by kernel_rfl))
  have hv269 : fr257 10 = .bool (decide (dOk x y)) := p266.resolve_left (nst (by kernel_rfl))
  obtain ⟨⟨b270, hA271, hB272, hC273⟩, ⟨b274, hA275, hB276, hC277⟩, _⟩ := hM261
  have H278 : w256.heap[b270]? = some (.cells #[.int .u64 (wv3 (pkz (dOk x y) (x / y))), .int .u64 (wv2 (pkz (dOk x y) (x / y))), .int .u64 (wv1 (pkz (dOk x y) (x / y))), .int .u64 (wv0 (pkz (dOk x y) (x / y)))] 26) := hC273.trans (congrArg (fun v : Value => some (Obj.cells v.cells 26)) hv267)
  have N279 : w.heap.size ≤ b270 := by omega
  have H280 : w256.heap[b274]? = some (.cells #[.int .u64 (wv3 (pkz (dOk x y) (x % y))), .int .u64 (wv2 (pkz (dOk x y) (x % y))), .int .u64 (wv1 (pkz (dOk x y) (x % y))), .int .u64 (wv0 (pkz (dOk x y) (x % y)))] 26) := hC277.trans (congrArg (fun v : Value => some (Obj.cells v.cells 26)) hv268)
  have N281 : w.heap.size ≤ b274 := by omega
  have : b274 ≠ b270 := fun hh => hN262 _ (.tail _ (.head _)) _ (.head _) (by decide) (hA275.trans ((congrArg (fun q => Value.pointer (some ⟨q, 0, none⟩)) hh).trans hA271.symm))
  refine rk_seq ?_
  refine rk_seq ?_
  refine rk_reg ?_
  refine lw_v (.agg #[.int .u64 (wv3 (pkz (dOk x y) (x / y))), .int .u64 (wv2 (pkz (dOk x y) (x / y))), .int .u64 (wv1 (pkz (dOk x y) (x / y))), .int .u64 (wv0 (pkz (dOk x y) (x / y)))]) (dv_loads (l := [.int .u64 (wv3 (pkz (dOk x y) (x / y))), .int .u64 (wv2 (pkz (dOk x y) (x / y))), .int .u64 (wv1 (pkz (dOk x y) (x / y))), .int .u64 (wv0 (pkz (dOk x y) (x / y)))]) agt26 sz26 (T rfl hA271) H278 rfl) ?_
  have H282 := (e258.blk H142)
  refine lw_v (.agg #[.int .u64 (wv3 (pkz (dOk x y) (x / y))), .int .u64 (wv2 (pkz (dOk x y) (x / y))), .int .u64 (wv1 (pkz (dOk x y) (x / y))), .int .u64 (wv0 (pkz (dOk x y) (x / y)))]) (dv_loads (l := [.int .u64 (wv3 (pkz (dOk x y) (x / y))), .int .u64 (wv2 (pkz (dOk x y) (x / y))), .int .u64 (wv1 (pkz (dOk x y) (x / y))), .int .u64 (wv0 (pkz (dOk x y) (x / y)))]) agt26 sz26 (T rfl ((hF259 5 rfl).trans hA135)) H282 rfl) ?_
  refine lw_e (oe_callf (vs := [.agg #[.int .u64 (wv3 (pkz (dOk x y) (x / y))), .int .u64 (wv2 (pkz (dOk x y) (x / y))), .int .u64 (wv1 (pkz (dOk x y) (x / y))), .int .u64 (wv0 (pkz (dOk x y) (x / y)))], .agg #[.int .u64 (wv3 (pkz (dOk x y) (x / y))), .int .u64 (wv2 (pkz (dOk x y) (x / y))), .int .u64 (wv1 (pkz (dOk x y) (x / y))), .int .u64 (wv0 (pkz (dOk x y) (x / y)))]]) co20 (ar2 (T rfl rfl) (T rfl rfl)) (eqWide_ok (x := pkz (dOk x y) (x / y)) (y := pkz (dOk x y) (x / y)) (fits_pkz fun h => h.2.1) (fits_pkz fun h => h.2.1) ) ?_)
  rintro _ w283 ⟨rfl, e284⟩
  have E285 := below_ext E263 E263.size e284
  refine lw_v (.bool (decide (¬ ((pkz (dOk x y) (x / y)) = (pkz (dOk x y) (x / y)))))) (dv_notd (p := (pkz (dOk x y) (x / y)) = (pkz (dOk x y) (x / y))) (T rfl rfl)) ?_
  refine lw_v (.bool (decide (¬ ((pkz (dOk x y) (x / y)) = (pkz (dOk x y) (x / y)))))) (dv_move (T rfl rfl)) ?_
  by_cases hb286 : (pkz (dOk x y) (x / y)) = (pkz (dOk x y) (x / y))
  · -- T
    have H287 := (e284.blk H280)
    refine lw_vy (.agg #[.int .u64 (wv3 (pkz (dOk x y) (x % y))), .int .u64 (wv2 (pkz (dOk x y) (x % y))), .int .u64 (wv1 (pkz (dOk x y) (x % y))), .int .u64 (wv0 (pkz (dOk x y) (x % y)))]) (d := 33) rfl rfl (congrArg Value.bool (decide_eq_false (not_not_intro hb286))) (dv_loads (l := [.int .u64 (wv3 (pkz (dOk x y) (x % y))), .int .u64 (wv2 (pkz (dOk x y) (x % y))), .int .u64 (wv1 (pkz (dOk x y) (x % y))), .int .u64 (wv0 (pkz (dOk x y) (x % y)))]) agt26 sz26 (T rfl hA275) H287 rfl) ?_
    have H288 := (e284.blk (e258.blk H144))
    refine lw_vy (.agg #[.int .u64 (wv3 (pkz (dOk x y) (x % y))), .int .u64 (wv2 (pkz (dOk x y) (x % y))), .int .u64 (wv1 (pkz (dOk x y) (x % y))), .int .u64 (wv0 (pkz (dOk x y) (x % y)))]) (d := 33) rfl rfl (congrArg Value.bool (decide_eq_false (not_not_intro hb286))) (dv_loads (l := [.int .u64 (wv3 (pkz (dOk x y) (x % y))), .int .u64 (wv2 (pkz (dOk x y) (x % y))), .int .u64 (wv1 (pkz (dOk x y) (x % y))), .int .u64 (wv0 (pkz (dOk x y) (x % y)))]) agt26 sz26 (T rfl ((hF259 6 rfl).trans hA139)) H288 rfl) ?_
    refine lw_ey (d := 33) rfl rfl (congrArg Value.bool (decide_eq_false (not_not_intro hb286))) (oe_callf (vs := [.agg #[.int .u64 (wv3 (pkz (dOk x y) (x % y))), .int .u64 (wv2 (pkz (dOk x y) (x % y))), .int .u64 (wv1 (pkz (dOk x y) (x % y))), .int .u64 (wv0 (pkz (dOk x y) (x % y)))], .agg #[.int .u64 (wv3 (pkz (dOk x y) (x % y))), .int .u64 (wv2 (pkz (dOk x y) (x % y))), .int .u64 (wv1 (pkz (dOk x y) (x % y))), .int .u64 (wv0 (pkz (dOk x y) (x % y)))]]) co20 (ar2 (T rfl rfl) (T rfl rfl)) (eqWide_ok (x := pkz (dOk x y) (x % y)) (y := pkz (dOk x y) (x % y)) (fits_pkz fun h => h.2.2) (fits_pkz fun h => h.2.2) ) ?_)
    rintro _ w289 ⟨rfl, e290⟩
    have E291 := below_ext E285 E285.size e290
    refine lw_vy (.bool (decide (¬ ((pkz (dOk x y) (x % y)) = (pkz (dOk x y) (x % y)))))) (d := 33) rfl rfl (congrArg Value.bool (decide_eq_false (not_not_intro hb286))) (dv_notd (p := (pkz (dOk x y) (x % y)) = (pkz (dOk x y) (x % y))) (T rfl rfl)) ?_
    refine lw_v (.bool (decide (¬ ((pkz (dOk x y) (x % y)) = (pkz (dOk x y) (x % y)))))) (dv_pick_f (T rfl (congrArg Value.bool (decide_eq_false (not_not_intro hb286)))) (T rfl rfl)) ?_
    refine lw_v (.bool (decide (¬ ((pkz (dOk x y) (x % y)) = (pkz (dOk x y) (x % y)))))) (dv_move (T rfl rfl)) ?_
    by_cases hb292 : (pkz (dOk x y) (x % y)) = (pkz (dOk x y) (x % y))
    · -- TT
      refine lw_vy (.bool (decide (dOk x y))) (d := 39) rfl rfl (congrArg Value.bool (decide_eq_false (not_not_intro hb292))) (dv_move (T rfl hv269)) ?_
      refine lw_vy (.bool (decide (dOk x y))) (d := 39) rfl rfl (congrArg Value.bool (decide_eq_false (not_not_intro hb292))) (dv_move (T rfl ((hF259 7 rfl).trans hv133))) ?_
      refine lw_vy (.bool ((decide (dOk x y)) != (decide (dOk x y)))) (d := 39) rfl rfl (congrArg Value.bool (decide_eq_false (not_not_intro hb292))) (dv_neqb (a := decide (dOk x y)) (b := decide (dOk x y)) ub4 (T rfl rfl) (T rfl rfl)) ?_
      refine lw_v (.bool ((decide (dOk x y)) != (decide (dOk x y)))) (dv_pick_f (T rfl (congrArg Value.bool (decide_eq_false (not_not_intro hb292)))) (T rfl rfl)) ?_
      refine lw_nil ?_
      rcases Bool.eq_false_or_eq_true ((decide (dOk x y)) != (decide (dOk x y))) with hb293 | hb293
      · -- TTT
        refine rk_ct (T rfl (congrArg Value.bool hb293)) ?_
        refine rk_seq ?_
        refine rk_reg ?_
        refine lw_v (.bool false) (dv_assign C) ?_
        refine lw_nil ?_
        refine rk_ret Try.func4 (v := .bool false) (res1 Try.results4 (rv_tmp rfl rfl)) ⟨_, rfl, ?_⟩
        exact ⟨(by exfalso; grind), E291⟩
      · -- TTF
        refine rk_cf (T rfl (congrArg Value.bool hb293)) ?_
        refine rk_skip ?_
        refine rk_seq ?_
        refine rk_reg ?_
        refine lw_v (.bool true) (dv_assign C) ?_
        refine lw_nil ?_
        refine rk_ret Try.func4 (v := .bool true) (res1 Try.results4 (rv_tmp rfl rfl)) ⟨_, rfl, ?_⟩
        exact ⟨rfl, E291⟩
    · -- TF
      refine lw_no (d := 39) rfl rfl (congrArg Value.bool (decide_eq_true hb292)) ?_
      refine lw_no (d := 39) rfl rfl (congrArg Value.bool (decide_eq_true hb292)) ?_
      refine lw_no (d := 39) rfl rfl (congrArg Value.bool (decide_eq_true hb292)) ?_
      refine lw_v (.bool true) (dv_pick_t (T rfl (congrArg Value.bool (decide_eq_true hb292))) C) ?_
      refine lw_nil ?_
      refine rk_ct (T rfl rfl) ?_
      refine rk_seq ?_
      refine rk_reg ?_
      refine lw_v (.bool false) (dv_assign C) ?_
      refine lw_nil ?_
      refine rk_ret Try.func4 (v := .bool false) (res1 Try.results4 (rv_tmp rfl rfl)) ⟨_, rfl, ?_⟩
      exact ⟨(by exfalso; grind), E291⟩
  · -- F
    refine lw_no (d := 33) rfl rfl (congrArg Value.bool (decide_eq_true hb286)) ?_
    refine lw_no (d := 33) rfl rfl (congrArg Value.bool (decide_eq_true hb286)) ?_
    refine lw_no (d := 33) rfl rfl (congrArg Value.bool (decide_eq_true hb286)) ?_
    refine lw_no (d := 33) rfl rfl (congrArg Value.bool (decide_eq_true hb286)) ?_
    refine lw_v (.bool true) (dv_pick_t (T rfl (congrArg Value.bool (decide_eq_true hb286))) C) ?_
    refine lw_v (.bool true) (dv_move (T rfl rfl)) ?_
    refine lw_no (d := 39) rfl rfl (rfl) ?_
    refine lw_no (d := 39) rfl rfl (rfl) ?_
    refine lw_no (d := 39) rfl rfl (rfl) ?_
    refine lw_v (.bool true) (dv_pick_t (T rfl rfl) C) ?_
    refine lw_nil ?_
    refine rk_ct (T rfl rfl) ?_
    refine rk_seq ?_
    refine rk_reg ?_
    refine lw_v (.bool false) (dv_assign C) ?_
    refine lw_nil ?_
    refine rk_ret Try.func4 (v := .bool false) (res1 Try.results4 (rv_tmp rfl rfl)) ⟨_, rfl, ?_⟩
    exact ⟨(by exfalso; grind), E285⟩

theorem lawWideDiv_w {w : World} {x3 x2 x1 x0 y3 y2 y1 y0 : Int} (hx3 : 0 ≤ x3 ∧ x3 < 18446744073709551616) (hx2 : 0 ≤ x2 ∧ x2 < 18446744073709551616) (hx1 : 0 ≤ x1 ∧ x1 < 18446744073709551616) (hx0 : 0 ≤ x0 ∧ x0 < 18446744073709551616) (hy3 : 0 ≤ y3 ∧ y3 < 18446744073709551616) (hy2 : 0 ≤ y2 ∧ y2 < 18446744073709551616) (hy1 : 0 ≤ y1 ∧ y1 < 18446744073709551616) (hy0 : 0 ≤ y0 ∧ y0 < 18446744073709551616) : Ct Try.prog 4 [.agg #[.int .u64 x3, .int .u64 x2, .int .u64 x1, .int .u64 x0], .agg #[.int .u64 y3, .int .u64 y2, .int .u64 y1, .int .u64 y0]] w fun v w1 => v = .bool true ∧ Ext w w1 := by
  obtain ⟨x, fx, rfl, rfl, rfl, rfl⟩ := words_z hx3 hx2 hx1 hx0
  obtain ⟨y, fy, rfl, rfl, rfl, rfl⟩ := words_z hy3 hy2 hy1 hy0
  exact lawWideDiv_ok fx fy
end Go.Proofs.Ytcnepihgbnfcpaa.W
