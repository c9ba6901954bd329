/- Walks and plain mathematics, packed by a program of this session: declarations that the rows reach. -/
import Derived.Test.YtdanhdbanfpghaaQMiddlee
set_option linter.unusedVariables false
set_option linter.unusedSimpArgs false
namespace Go.Proofs.Ytdanhdbanfpghaa.W
open Go Go.RowKit Go.Proofs.Ytdanhdbanfpghaa.Fw
attribute [local irreducible] RunK LW AW DV OE Ct
theorem co102 : callOk Try.prog 102 = true := by kernel_rfl
theorem co38 : callOk Try.prog 38 = true := by kernel_rfl
theorem co39 : callOk Try.prog 39 = true := by kernel_rfl
theorem co40 : callOk Try.prog 40 = true := by kernel_rfl
theorem co96 : callOk Try.prog 96 = true := by kernel_rfl
theorem co97 : callOk Try.prog 97 = true := by kernel_rfl
set_option maxHeartbeats 1000000 in
theorem iMiddle_ok {w : World} {x y u p q r : Int} (fx_ : fits x) (fy_ : fits y) (fu_ : fits u) (fp_ : fits p) (fq_ : fits q) (fr_ : fits r)  : Ct Try.prog 39 [.agg #[.int .u64 (wv3 x), .int .u64 (wv2 x), .int .u64 (wv1 x), .int .u64 (wv0 x), .int .u64 (wv3 y), .int .u64 (wv2 y), .int .u64 (wv1 y), .int .u64 (wv0 y), .int .u64 (wv3 u), .int .u64 (wv2 u), .int .u64 (wv1 u), .int .u64 (wv0 u)], .agg #[.int .u64 (wv3 p), .int .u64 (wv2 p), .int .u64 (wv1 p), .int .u64 (wv0 p), .int .u64 (wv3 q), .int .u64 (wv2 q), .int .u64 (wv1 q), .int .u64 (wv0 q), .int .u64 (wv3 r), .int .u64 (wv2 r), .int .u64 (wv1 r), .int .u64 (wv0 r)]] w fun v w1 => v = .tuple #[.agg #[.int .u64 (wv3 (mdX x y u p q r)), .int .u64 (wv2 (mdX x y u p q r)), .int .u64 (wv1 (mdX x y u p q r)), .int .u64 (wv0 (mdX x y u p q r)), .int .u64 (wv3 (mdY x y u p q r)), .int .u64 (wv2 (mdY x y u p q r)), .int .u64 (wv1 (mdY x y u p q r)), .int .u64 (wv0 (mdY x y u p q r)), .int .u64 (wv3 (mdW x y u p q r)), .int .u64 (wv2 (mdW x y u p q r)), .int .u64 (wv1 (mdW x y u p q r)), .int .u64 (wv0 (mdW x y u p q r))], .bool (decide (mdS x y u p q r))] ∧ Ext w w1 := by
 refine ct_run (n := 51) Try.func39 rfl Try.ntmps39 rfl ?_
 have E0 : Below w.heap.size w w := Below.refl _ _
 refine rk_seq ?_
 refine rk_reg ?_
 refine lw_e (oe_box (v := .agg #[.int .u64 (wv3 x), .int .u64 (wv2 x), .int .u64 (wv1 x), .int .u64 (wv0 x), .int .u64 (wv3 y), .int .u64 (wv2 y), .int .u64 (wv1 y), .int .u64 (wv0 y), .int .u64 (wv3 u), .int .u64 (wv2 u), .int .u64 (wv1 u), .int .u64 (wv0 u)]) (cs := #[.int .u64 (wv3 x), .int .u64 (wv2 x), .int .u64 (wv1 x), .int .u64 (wv0 x), .int .u64 (wv3 y), .int .u64 (wv2 y), .int .u64 (wv1 y), .int .u64 (wv0 y), .int .u64 (wv3 u), .int .u64 (wv2 u), .int .u64 (wv1 u), .int .u64 (wv0 u)]) (T rfl rfl) rfl ?_)
 intro b1 w2 n3
 have N4 : w.heap.size ≤ b1 := n3.eq ▸ E0.size
 have E5 := below_ext E0 E0.size n3.ext
 refine lw_e (oe_box (v := .agg #[.int .u64 (wv3 p), .int .u64 (wv2 p), .int .u64 (wv1 p), .int .u64 (wv0 p), .int .u64 (wv3 q), .int .u64 (wv2 q), .int .u64 (wv1 q), .int .u64 (wv0 q), .int .u64 (wv3 r), .int .u64 (wv2 r), .int .u64 (wv1 r), .int .u64 (wv0 r)]) (cs := #[.int .u64 (wv3 p), .int .u64 (wv2 p), .int .u64 (wv1 p), .int .u64 (wv0 p), .int .u64 (wv3 q), .int .u64 (wv2 q), .int .u64 (wv1 q), .int .u64 (wv0 q), .int .u64 (wv3 r), .int .u64 (wv2 r), .int .u64 (wv1 r), .int .u64 (wv0 r)]) (T rfl rfl) rfl ?_)
 intro b6 w7 n8
 have N9 : w.heap.size ≤ b6 := n8.eq ▸ E5.size
 have : b1 < b6 := n8.eq ▸ lt_of_blk n3.blk
 have E10 := below_ext E5 E5.size n8.ext
 refine lw_e (oe_alloc ze37 ?_)
 intro b11 w12 n13
 have N14 : w.heap.size ≤ b11 := n13.eq ▸ E10.size
 have : b6 < b11 := n13.eq ▸ lt_of_blk n8.blk
 have E15 := below_ext E10 E10.size n13.ext
 refine lw_v (.bool false) (dv_assign C) ?_
 refine lw_nil ?_
 refine rk_seq ?_
 refine rk_seq ?_
 refine rk_reg ?_
 have H16 := (n13.ext.blk (n8.ext.blk n3.blk))
 refine lw_v (.agg #[.int .u64 (wv3 x), .int .u64 (wv2 x), .int .u64 (wv1 x), .int .u64 (wv0 x), .int .u64 (wv3 y), .int .u64 (wv2 y), .int .u64 (wv1 y), .int .u64 (wv0 y), .int .u64 (wv3 u), .int .u64 (wv2 u), .int .u64 (wv1 u), .int .u64 (wv0 u)]) (dv_loads (l := [.int .u64 (wv3 x), .int .u64 (wv2 x), .int .u64 (wv1 x), .int .u64 (wv0 x), .int .u64 (wv3 y), .int .u64 (wv2 y), .int .u64 (wv1 y), .int .u64 (wv0 y), .int .u64 (wv3 u), .int .u64 (wv2 u), .int .u64 (wv1 u), .int .u64 (wv0 u)]) agt37 sz37 (T rfl rfl) H16 rfl) ?_
 have H17 := (n13.ext.blk n8.blk)
 refine lw_v (.agg #[.int .u64 (wv3 p), .int .u64 (wv2 p), .int .u64 (wv1 p), .int .u64 (wv0 p), .int .u64 (wv3 q), .int .u64 (wv2 q), .int .u64 (wv1 q), .int .u64 (wv0 q), .int .u64 (wv3 r), .int .u64 (wv2 r), .int .u64 (wv1 r), .int .u64 (wv0 r)]) (dv_loads (l := [.int .u64 (wv3 p), .int .u64 (wv2 p), .int .u64 (wv1 p), .int .u64 (wv0 p), .int .u64 (wv3 q), .int .u64 (wv2 q), .int .u64 (wv1 q), .int .u64 (wv0 q), .int .u64 (wv3 r), .int .u64 (wv2 r), .int .u64 (wv1 r), .int .u64 (wv0 r)]) agt37 sz37 (T rfl rfl) H17 rfl) ?_
 refine lw_e (oe_buildSlice (pv := [(0, .agg #[.int .u64 (wv3 x), .int .u64 (wv2 x), .int .u64 (wv1 x), .int .u64 (wv0 x), .int .u64 (wv3 y), .int .u64 (wv2 y), .int .u64 (wv1 y), .int .u64 (wv0 y), .int .u64 (wv3 u), .int .u64 (wv2 u), .int .u64 (wv1 u), .int .u64 (wv0 u)]), (1, .agg #[.int .u64 (wv3 p), .int .u64 (wv2 p), .int .u64 (wv1 p), .int .u64 (wv0 p), .int .u64 (wv3 q), .int .u64 (wv2 q), .int .u64 (wv1 q), .int .u64 (wv0 q), .int .u64 (wv3 r), .int .u64 (wv2 r), .int .u64 (wv1 r), .int .u64 (wv0 r)])]) (init := [.int .u64 0, .int .u64 0, .int .u64 0, .int .u64 0, .int .u64 0, .int .u64 0, .int .u64 0, .int .u64 0, .int .u64 0, .int .u64 0, .int .u64 0, .int .u64 0, .int .u64 0, .int .u64 0, .int .u64 0, .int .u64 0, .int .u64 0, .int .u64 0, .int .u64 0, .int .u64 0, .int .u64 0, .int .u64 0, .int .u64 0, .int .u64 0]) (l := [.int .u64 (wv3 x), .int .u64 (wv2 x), .int .u64 (wv1 x), .int .u64 (wv0 x), .int .u64 (wv3 y), .int .u64 (wv2 y), .int .u64 (wv1 y), .int .u64 (wv0 y), .int .u64 (wv3 u), .int .u64 (wv2 u), .int .u64 (wv1 u), .int .u64 (wv0 u), .int .u64 (wv3 p), .int .u64 (wv2 p), .int .u64 (wv1 p), .int .u64 (wv0 p), .int .u64 (wv3 q), .int .u64 (wv2 q), .int .u64 (wv1 q), .int .u64 (wv0 q), .int .u64 (wv3 r), .int .u64 (wv2 r), .int .u64 (wv1 r), .int .u64 (wv0 r)]) us156 sz37 rfl rfl zc37 (by kernel_rfl) ⟨rfl, (T rfl rfl), ⟨rfl, (T rfl rfl), trivial⟩⟩ rfl ?_)
 intro b18 w19 n20
 have N21 : w.heap.size ≤ b18 := n20.eq ▸ E15.size
 have : b11 < b18 := n20.eq ▸ lt_of_blk n13.blk
 have E22 := below_ext E15 E15.size n20.ext
 refine lw_e (oe_callf (vs := [.slice (some ⟨b18, 0, none⟩) 2 2]) co71 (ar1 (T rfl rfl)) (areP2_ok fx_ fy_ fu_ fp_ fq_ fr_ n20.blk) ?_)
 rintro _ w23 ⟨rfl, e24⟩
 have E25 := below_ext E22 E22.size e24
 refine lw_v (.bool (decide (¬ (pOk x y u ∧ pOk p q r)))) (dv_notd (p := pOk x y u ∧ pOk p q r) (T rfl rfl)) ?_
 refine lw_nil ?_
 by_cases hb26 : pOk x y u ∧ pOk p q r
 · refine rk_cf (T rfl (congrArg Value.bool (decide_eq_false (not_not_intro hb26)))) ?_
   refine rk_skip ?_
   refine rk_seq ?_
   have H27 := (e24.blk (n20.ext.blk H16))
   have : b1 < w23.heap.size := lt_of_blk H27
   have H28 := (e24.blk (n20.ext.blk H17))
   have : b6 < w23.heap.size := lt_of_blk H28
   have H29 := (e24.blk (n20.ext.blk n13.blk))
   have : b11 < w23.heap.size := lt_of_blk H29
   have H30 := (e24.blk n20.blk)
   have : b18 < w23.heap.size := lt_of_blk H30
   have : w.heap.size ≤ w23.heap.size := E25.size
   refine rk_par2 [fun vq wq_ => vq = .agg #[.int .u64 (wv3 x), .int .u64 (wv2 x), .int .u64 (wv1 x), .int .u64 (wv0 x), .int .u64 (wv3 y), .int .u64 (wv2 y), .int .u64 (wv1 y), .int .u64 (wv0 y), .int .u64 (wv3 u), .int .u64 (wv2 u), .int .u64 (wv1 u), .int .u64 (wv0 u)], fun vq wq_ => ∃ (nr45 : Bool) (A46 : Option Addr) (n47 : Nat) (c48 : Nat) (nr49 : Bool) (A50 : Option Addr) (n51 : Nat) (c52 : Nat) (nr53 : Bool) (A54 : Option Addr) (n55 : Nat) (c56 : Nat), vq = .agg #[.bool nr45, .slice A46 n47 c48, .bool nr49, .slice A50 n51 c52, .bool nr53, .slice A54 n55 c56] ∧ Num 64 29 .u64 wq_ nr45 A46 n47 c48 x 256 ∧ Num 64 29 .u64 wq_ nr49 A50 n51 c52 y 256 ∧ Num 64 29 .u64 wq_ nr53 A54 n55 c56 u 256, fun vq wq_ => vq = .agg #[.int .u64 (wv3 p), .int .u64 (wv2 p), .int .u64 (wv1 p), .int .u64 (wv0 p), .int .u64 (wv3 q), .int .u64 (wv2 q), .int .u64 (wv1 q), .int .u64 (wv0 q), .int .u64 (wv3 r), .int .u64 (wv2 r), .int .u64 (wv1 r), .int .u64 (wv0 r)], fun vq wq_ => ∃ (nr77 : Bool) (A78 : Option Addr) (n79 : Nat) (c80 : Nat) (nr81 : Bool) (A82 : Option Addr) (n83 : Nat) (c84 : Nat) (nr85 : Bool) (A86 : Option Addr) (n87 : Nat) (c88 : Nat), vq = .agg #[.bool nr77, .slice A78 n79 c80, .bool nr81, .slice A82 n83 c84, .bool nr85, .slice A86 n87 c88] ∧ Num 64 29 .u64 wq_ nr77 A78 n79 c80 p 256 ∧ Num 64 29 .u64 wq_ nr81 A82 n83 c84 q 256 ∧ Num 64 29 .u64 wq_ nr85 A86 n87 c88 r 256, fun _ _ => True, fun _ _ => True, fun _ _ => True, fun _ _ => True] [⟨4, 6, 1, 122, #[.bool false, .slice none 0 0, .bool false, .slice none 0 0, .bool false, .slice none 0 0]⟩, ⟨5, 7, 3, 122, #[.bool false, .slice none 0 0, .bool false, .slice none 0 0, .bool false, .slice none 0 0]⟩] [122] mo (by kernel_rfl) (by kernel_rfl) ?_ ?_ ?_ ?_ ?_
   · intro e he e2 he2 h; simp only [List.mem_cons, List.not_mem_nil, or_false] at he he2; rcases he with rfl | rfl <;> rcases he2 with rfl | rfl <;> first | rfl | exact absurd h (by decide)
   · exact ⟨⟨fun v w w2 e h => h, fun v w w2 b cs T fz s hb hT h => h⟩, ⟨fun v w w2 e ⟨nr45, A46, n47, c48, nr49, A50, n51, c52, nr53, A54, n55, c56, hv, h0_, h1_, h2_⟩ => ⟨nr45, A46, n47, c48, nr49, A50, n51, c52, nr53, A54, n55, c56, hv, h0_.ext e, h1_.ext e, h2_.ext e⟩, fun v w w2 b cs T fz s hb hT ⟨nr45, A46, n47, c48, nr49, A50, n51, c52, nr53, A54, n55, c56, hv, h0_, h1_, h2_⟩ => ⟨nr45, A46, n47, c48, nr49, A50, n51, c52, nr53, A54, n55, c56, hv, h0_.st s hb (ts_ne hT (by decide)), h1_.st s hb (ts_ne hT (by decide)), h2_.st s hb (ts_ne hT (by decide))⟩⟩, ⟨fun v w w2 e h => h, fun v w w2 b cs T fz s hb hT h => h⟩, ⟨fun v w w2 e ⟨nr77, A78, n79, c80, nr81, A82, n83, c84, nr85, A86, n87, c88, hv, h0_, h1_, h2_⟩ => ⟨nr77, A78, n79, c80, nr81, A82, n83, c84, nr85, A86, n87, c88, hv, h0_.ext e, h1_.ext e, h2_.ext e⟩, fun v w w2 b cs T fz s hb hT ⟨nr77, A78, n79, c80, nr81, A82, n83, c84, nr85, A86, n87, c88, hv, h0_, h1_, h2_⟩ => ⟨nr77, A78, n79, c80, nr81, A82, n83, c84, nr85, A86, n87, c88, hv, h0_.st s hb (ts_ne hT (by decide)), h1_.st s hb (ts_ne hT (by decide)), h2_.st s hb (ts_ne hT (by decide))⟩⟩, ⟨fun v w w2 e h => h, fun v w w2 b cs T fz s hb hT h => h⟩, ⟨fun v w w2 e h => h, fun v w w2 b cs T fz s hb hT h => h⟩, ⟨fun v w w2 e h => h, fun v w w2 b cs T fz s hb hT h => h⟩, ⟨fun v w w2 e h => h, fun v w w2 b cs T fz s hb hT h => h⟩, trivial⟩
   · refine ⟨?_, ?_, ?_, ?_, ?_, ?_, ?_, ?_, trivial⟩
     · refine .inr ⟨by kernel_rfl, ?_⟩
       intro fr32 w31 e33 hF34 hD35
       have E36 := below_ext E25 E25.size e33
       have H37 := (e33.blk H27)
       exact DV.oe (dv_loads (l := [.int .u64 (wv3 x), .int .u64 (wv2 x), .int .u64 (wv1 x), .int .u64 (wv0 x), .int .u64 (wv3 y), .int .u64 (wv2 y), .int .u64 (wv1 y), .int .u64 (wv0 y), .int .u64 (wv3 u), .int .u64 (wv2 u), .int .u64 (wv1 u), .int .u64 (wv0 u)]) agt37 sz37 (T rfl (hF34 2 (by kernel_rfl))) H37 rfl) ⟨Below.refl _ _, rfl⟩
     · refine .inr ⟨by kernel_rfl, ?_⟩
       intro fr39 w38 e40 hF41 hD42
       have E43 := below_ext E25 E25.size e40
       have hv44 : fr39 14 = .agg #[.int .u64 (wv3 x), .int .u64 (wv2 x), .int .u64 (wv1 x), .int .u64 (wv0 x), .int .u64 (wv3 y), .int .u64 (wv2 y), .int .u64 (wv1 y), .int .u64 (wv0 y), .int .u64 (wv3 u), .int .u64 (wv2 u), .int .u64 (wv1 u), .int .u64 (wv0 u)] := hD42 0 _ (by kernel_rfl) rfl (by kernel_rfl)
       refine id (oe_callf (vs := [.agg #[.int .u64 (wv3 x), .int .u64 (wv2 x), .int .u64 (wv1 x), .int .u64 (wv0 x), .int .u64 (wv3 y), .int .u64 (wv2 y), .int .u64 (wv1 y), .int .u64 (wv0 y), .int .u64 (wv3 u), .int .u64 (wv2 u), .int .u64 (wv1 u), .int .u64 (wv0 u)]]) co90 (ar1 (T rfl hv44)) (spot_ok fx_ fy_ fu_  ) ?_)
       rintro _ w60 ⟨nr45, A46, n47, c48, nr49, A50, n51, c52, nr53, A54, n55, c56, rfl, e61, h57, h58, h59⟩
       have E62 := below_ext E43 E43.size e61
       have lh57 := Num.len (by decide) h57
       have lh58 := Num.len (by decide) h58
       have lh59 := Num.len (by decide) h59
       exact ⟨e61, nr45, A46, n47, c48, nr49, A50, n51, c52, nr53, A54, n55, c56, rfl, h57, h58, h59⟩
     · refine .inr ⟨by kernel_rfl, ?_⟩
       intro fr64 w63 e65 hF66 hD67
       have E68 := below_ext E25 E25.size e65
       have H69 := (e65.blk H28)
       exact DV.oe (dv_loads (l := [.int .u64 (wv3 p), .int .u64 (wv2 p), .int .u64 (wv1 p), .int .u64 (wv0 p), .int .u64 (wv3 q), .int .u64 (wv2 q), .int .u64 (wv1 q), .int .u64 (wv0 q), .int .u64 (wv3 r), .int .u64 (wv2 r), .int .u64 (wv1 r), .int .u64 (wv0 r)]) agt37 sz37 (T rfl (hF66 3 (by kernel_rfl))) H69 rfl) ⟨Below.refl _ _, rfl⟩
     · refine .inr ⟨by kernel_rfl, ?_⟩
       intro fr71 w70 e72 hF73 hD74
       have E75 := below_ext E25 E25.size e72
       have hv76 : fr71 16 = .agg #[.int .u64 (wv3 p), .int .u64 (wv2 p), .int .u64 (wv1 p), .int .u64 (wv0 p), .int .u64 (wv3 q), .int .u64 (wv2 q), .int .u64 (wv1 q), .int .u64 (wv0 q), .int .u64 (wv3 r), .int .u64 (wv2 r), .int .u64 (wv1 r), .int .u64 (wv0 r)] := hD74 2 _ (by kernel_rfl) rfl (by kernel_rfl)
       refine id (oe_callf (vs := [.agg #[.int .u64 (wv3 p), .int .u64 (wv2 p), .int .u64 (wv1 p), .int .u64 (wv0 p), .int .u64 (wv3 q), .int .u64 (wv2 q), .int .u64 (wv1 q), .int .u64 (wv0 q), .int .u64 (wv3 r), .int .u64 (wv2 r), .int .u64 (wv1 r), .int .u64 (wv0 r)]]) co90 (ar1 (T rfl hv76)) (spot_ok fp_ fq_ fr_  ) ?_)
       rintro _ w92 ⟨nr77, A78, n79, c80, nr81, A82, n83, c84, nr85, A86, n87, c88, rfl, e93, h89, h90, h91⟩
       have E94 := below_ext E75 E75.size e93
       have lh89 := Num.len (by decide) h89
       have lh90 := Num.len (by decide) h90
       have lh91 := Num.len (by decide) h91
       exact ⟨e93, nr77, A78, n79, c80, nr81, A82, n83, c84, nr85, A86, n87, c88, rfl, h89, h90, h91⟩
     · exact .inl (.inr ⟨by kernel_rfl, fun _ _ => trivial⟩)
     · exact .inl (.inr ⟨by kernel_rfl, fun _ _ => trivial⟩)
     · exact .inl (.inl (by kernel_rfl))
     · exact .inl (.inl (by kernel_rfl))
   · refine ⟨⟨⟨_, rfl, fun _ _ => oe_alloc ze122 fun b w hn => ⟨b, rfl, hn⟩⟩, ⟨_, rfl, ?_⟩⟩, ⟨⟨_, rfl, fun _ _ => oe_alloc ze122 fun b w hn => ⟨b, rfl, hn⟩⟩, ⟨_, rfl, ?_⟩⟩, trivial⟩
     · intro fr96 w95 b100 e97 hF98 hD99 hA101 hB102
       have E103 := below_ext E25 E25.size e97
       obtain ⟨nr104, A105, n106, c107, nr108, A109, n110, c111, nr112, A113, n114, c115, hv116, hp117, hp118, hp119⟩ : ∃ (nr45 : Bool) (A46 : Option Addr) (n47 : Nat) (c48 : Nat) (nr49 : Bool) (A50 : Option Addr) (n51 : Nat) (c52 : Nat) (nr53 : Bool) (A54 : Option Addr) (n55 : Nat) (c56 : Nat), fr96 15 = .agg #[.bool nr45, .slice A46 n47 c48, .bool nr49, .slice A50 n51 c52, .bool nr53, .slice A54 n55 c56] ∧ Num 64 29 .u64 w95 nr45 A46 n47 c48 x 256 ∧ Num 64 29 .u64 w95 nr49 A50 n51 c52 y 256 ∧ Num 64 29 .u64 w95 nr53 A54 n55 c56 u 256 := hD99 1 _ (by kernel_rfl) rfl (by kernel_rfl)
       have lhp117 := Num.len (by decide) hp117
       have lhp118 := Num.len (by decide) hp118
       have lhp119 := Num.len (by decide) hp119
       refine id (oe_store (v := .agg #[.bool nr104, .slice A105 n106 c107, .bool nr108, .slice A109 n110 c111, .bool nr112, .slice A113 n114 c115]) (vs := [.bool nr104, .slice A105 n106 c107, .bool nr108, .slice A109 n110 c111, .bool nr112, .slice A113 n114 c115]) (l := [.bool nr104, .slice A105 n106 c107, .bool nr108, .slice A109 n110 c111, .bool nr112, .slice A113 n114 c115]) (T rfl hA101) (T rfl hv116) sz122 rfl rfl rfl hB102 rfl ?_)
       intro w120 s121 H122
       exact ⟨s121, H122.trans (congrArg (fun v : Value => some (Obj.cells v.cells 122)) (show fr96 15 = _ from hv116).symm)⟩
     · intro fr125 w124 b129 e126 hF127 hD128 hA130 hB131
       have E132 := below_ext E25 E25.size e126
       obtain ⟨nr133, A134, n135, c136, nr137, A138, n139, c140, nr141, A142, n143, c144, hv145, hp146, hp147, hp148⟩ : ∃ (nr77 : Bool) (A78 : Option Addr) (n79 : Nat) (c80 : Nat) (nr81 : Bool) (A82 : Option Addr) (n83 : Nat) (c84 : Nat) (nr85 : Bool) (A86 : Option Addr) (n87 : Nat) (c88 : Nat), fr125 17 = .agg #[.bool nr77, .slice A78 n79 c80, .bool nr81, .slice A82 n83 c84, .bool nr85, .slice A86 n87 c88] ∧ Num 64 29 .u64 w124 nr77 A78 n79 c80 p 256 ∧ Num 64 29 .u64 w124 nr81 A82 n83 c84 q 256 ∧ Num 64 29 .u64 w124 nr85 A86 n87 c88 r 256 := hD128 3 _ (by kernel_rfl) rfl (by kernel_rfl)
       have lhp146 := Num.len (by decide) hp146
       have lhp147 := Num.len (by decide) hp147
       have lhp148 := Num.len (by decide) hp148
       refine id (oe_store (v := .agg #[.bool nr133, .slice A134 n135 c136, .bool nr137, .slice A138 n139 c140, .bool nr141, .slice A142 n143 c144]) (vs := [.bool nr133, .slice A134 n135 c136, .bool nr137, .slice A138 n139 c140, .bool nr141, .slice A142 n143 c144]) (l := [.bool nr133, .slice A134 n135 c136, .bool nr137, .slice A138 n139 c140, .bool nr141, .slice A142 n143 c144]) (T rfl hA130) (T rfl hv145) sz122 rfl rfl rfl hB131 rfl ?_)
       intro w149 s150 H151
       exact ⟨s150, H151.trans (congrArg (fun v : Value => some (Obj.cells v.cells 122)) (show fr125 17 = _ from hv145).symm)⟩
   intro fr154 w153 e155 hF156 hP157 hM158 hN159
   have E160 := below_ext E25 E25.size e155
   obtain ⟨_, p161, _, p162, _, _, _, _, _⟩ := hP157
   obtain ⟨nr163, A164, n165, c166, nr167, A168, n169, c170, nr171, A172, n173, c174, hv175, hp176, hp177, hp178⟩ : ∃ (nr45 : Bool) (A46 : Option Addr) (n47 : Nat) (c48 : Nat) (nr49 : Bool) (A50 : Option Addr) (n51 : Nat) (c52 : Nat) (nr53 : Bool) (A54 : Option Addr) (n55 : Nat) (c56 : Nat), fr154 15 = .agg #[.bool nr45, .slice A46 n47 c48, .bool nr49, .slice A50 n51 c52, .bool nr53, .slice A54 n55 c56] ∧ Num 64 29 .u64 w153 nr45 A46 n47 c48 x 256 ∧ Num 64 29 .u64 w153 nr49 A50 n51 c52 y 256 ∧ Num 64 29 .u64 w153 nr53 A54 n55 c56 u 256 := p161.resolve_left (nst (by kernel_rfl))
   have lhp176 := Num.len (by decide) hp176
   have lhp177 := Num.len (by decide) hp177
   have lhp178 := Num.len (by decide) hp178
   obtain ⟨nr179, A180, n181, c182, nr183, A184, n185, c186, nr187, A188, n189, c190, hv191, hp192, hp193, hp194⟩ : ∃ (nr77 : Bool) (A78 : Option Addr) (n79 : Nat) (c80 : Nat) (nr81 : Bool) (A82 : Option Addr) (n83 : Nat) (c84 : Nat) (nr85 : Bool) (A86 : Option Addr) (n87 : Nat) (c88 : Nat), fr154 17 = .agg #[.bool nr77, .slice A78 n79 c80, .bool nr81, .slice A82 n83 c84, .bool nr85, .slice A86 n87 c88] ∧ Num 64 29 .u64 w153 nr77 A78 n79 c80 p 256 ∧ Num 64 29 .u64 w153 nr81 A82 n83 c84 q 256 ∧ Num 64 29 .u64 w153 nr85 A86 n87 c88 r 256 := p162.resolve_left (nst (by kernel_rfl))
   have lhp192 := Num.len (by decide) hp192
   have lhp193 := Num.len (by decide) hp193
   have lhp194 := Num.len (by decide) hp194
   obtain ⟨⟨b195, hA196, hB197, hC198⟩, ⟨b199, hA200, hB201, hC202⟩, _⟩ := hM158
   have H203 : w153.heap[b195]? = some (.cells #[.bool nr163, .slice A164 n165 c166, .bool nr167, .slice A168 n169 c170, .bool nr171, .slice A172 n173 c174] 122) := hC198.trans (congrArg (fun v : Value => some (Obj.cells v.cells 122)) hv175)
   have N204 : w.heap.size ≤ b195 := by omega
   have H205 : w153.heap[b199]? = some (.cells #[.bool nr179, .slice A180 n181 c182, .bool nr183, .slice A184 n185 c186, .bool nr187, .slice A188 n189 c190] 122) := hC202.trans (congrArg (fun v : Value => some (Obj.cells v.cells 122)) hv191)
   have N206 : w.heap.size ≤ b199 := by omega
   have : b199 ≠ b195 := fun hh => hN159 _ (.tail _ (.head _)) _ (.head _) (by decide) (hA200.trans ((congrArg (fun q => Value.pointer (some ⟨q, 0, none⟩)) hh).trans hA196.symm))
   refine rk_seq ?_
   refine rk_any (fun w => w.heap[b195]? = some (.cells #[.bool nr163, .slice A164 n165 c166, .bool nr167, .slice A168 n169 c170, .bool nr171, .slice A172 n173 c174] 122) ∧ w.heap[b199]? = some (.cells #[.bool nr179, .slice A180 n181 c182, .bool nr183, .slice A184 n185 c186, .bool nr187, .slice A188 n189 c190] 122)) [34] mo ?_
   intro w207 d208
   have E209 := below_ext E160 E160.size d208.ext
   have H210 := (d208.ext.blk H203)
   have H211 := (d208.ext.blk H205)
   refine aw_pure 0 (.pointer (some ⟨b195, 0, none⟩)) rfl (by kernel_rfl) .none ⟨H210, H211⟩ (fun _ => dv_fieldAddr (a := ⟨b195, 0, none⟩) (a' := ⟨b195, 0, none⟩) fo122_0 (T rfl hA196) rfl) ?_
   refine aw_load 1 (.agg #[.bool nr163, .slice A164 n165 c166]) rfl (by kernel_rfl) .none ⟨H210, H211⟩ (fun _ s => dv_loads (l := [.bool nr163, .slice A164 n165 c166]) agt120 sz120 (T rfl rfl) s.1 rfl) ?_
   refine aw_pure 2 (.pointer (some ⟨b199, 4, none⟩)) rfl (by kernel_rfl) .none ⟨H210, H211⟩ (fun _ => dv_fieldAddr (a := ⟨b199, 0, none⟩) (a' := ⟨b199, 4, none⟩) fo122_2 (T rfl hA200) rfl) ?_
   refine aw_load 3 (.agg #[.bool nr187, .slice A188 n189 c190]) rfl (by kernel_rfl) .none ⟨H210, H211⟩ (fun _ s => dv_loads (l := [.bool nr187, .slice A188 n189 c190]) agt120 sz120 (T rfl rfl) s.2 rfl) ?_
   refine aw_pure 5 (.pointer (some ⟨b199, 0, none⟩)) rfl (by kernel_rfl) .none ⟨H210, H211⟩ (fun _ => dv_fieldAddr (a := ⟨b199, 0, none⟩) (a' := ⟨b199, 0, none⟩) fo122_0 (T rfl hA200) rfl) ?_
   refine aw_load 6 (.agg #[.bool nr179, .slice A180 n181 c182]) rfl (by kernel_rfl) .none ⟨H210, H211⟩ (fun _ s => dv_loads (l := [.bool nr179, .slice A180 n181 c182]) agt120 sz120 (T rfl rfl) s.2 rfl) ?_
   refine aw_pure 7 (.pointer (some ⟨b195, 4, none⟩)) rfl (by kernel_rfl) .none ⟨H210, H211⟩ (fun _ => dv_fieldAddr (a := ⟨b195, 0, none⟩) (a' := ⟨b195, 4, none⟩) fo122_2 (T rfl hA196) rfl) ?_
   refine aw_load 8 (.agg #[.bool nr171, .slice A172 n173 c174]) rfl (by kernel_rfl) .none ⟨H210, H211⟩ (fun _ s => dv_loads (l := [.bool nr171, .slice A172 n173 c174]) agt120 sz120 (T rfl rfl) s.1 rfl) ?_
   refine aw_pure 11 (.pointer (some ⟨b195, 2, none⟩)) rfl (by kernel_rfl) .none ⟨H210, H211⟩ (fun _ => dv_fieldAddr (a := ⟨b195, 0, none⟩) (a' := ⟨b195, 2, none⟩) fo122_1 (T rfl hA196) rfl) ?_
   refine aw_load 12 (.agg #[.bool nr167, .slice A168 n169 c170]) rfl (by kernel_rfl) .none ⟨H210, H211⟩ (fun _ s => dv_loads (l := [.bool nr167, .slice A168 n169 c170]) agt120 sz120 (T rfl rfl) s.1 rfl) ?_
   refine aw_pure 13 (.pointer (some ⟨b199, 4, none⟩)) rfl (by kernel_rfl) .none ⟨H210, H211⟩ (fun _ => dv_fieldAddr (a := ⟨b199, 0, none⟩) (a' := ⟨b199, 4, none⟩) fo122_2 (T rfl hA200) rfl) ?_
   refine aw_load 14 (.agg #[.bool nr187, .slice A188 n189 c190]) rfl (by kernel_rfl) .none ⟨H210, H211⟩ (fun _ s => dv_loads (l := [.bool nr187, .slice A188 n189 c190]) agt120 sz120 (T rfl rfl) s.2 rfl) ?_
   refine aw_pure 16 (.pointer (some ⟨b199, 2, none⟩)) rfl (by kernel_rfl) .none ⟨H210, H211⟩ (fun _ => dv_fieldAddr (a := ⟨b199, 0, none⟩) (a' := ⟨b199, 2, none⟩) fo122_1 (T rfl hA200) rfl) ?_
   refine aw_load 17 (.agg #[.bool nr183, .slice A184 n185 c186]) rfl (by kernel_rfl) .none ⟨H210, H211⟩ (fun _ s => dv_loads (l := [.bool nr183, .slice A184 n185 c186]) agt120 sz120 (T rfl rfl) s.2 rfl) ?_
   refine aw_pure 18 (.pointer (some ⟨b195, 4, none⟩)) rfl (by kernel_rfl) .none ⟨H210, H211⟩ (fun _ => dv_fieldAddr (a := ⟨b195, 0, none⟩) (a' := ⟨b195, 4, none⟩) fo122_2 (T rfl hA196) rfl) ?_
   refine aw_load 19 (.agg #[.bool nr171, .slice A172 n173 c174]) rfl (by kernel_rfl) .none ⟨H210, H211⟩ (fun _ s => dv_loads (l := [.bool nr171, .slice A172 n173 c174]) agt120 sz120 (T rfl rfl) s.1 rfl) ?_
   refine aw_pure 22 (.pointer (some ⟨b195, 4, none⟩)) rfl (by kernel_rfl) .none ⟨H210, H211⟩ (fun _ => dv_fieldAddr (a := ⟨b195, 0, none⟩) (a' := ⟨b195, 4, none⟩) fo122_2 (T rfl hA196) rfl) ?_
   refine aw_load 23 (.agg #[.bool nr171, .slice A172 n173 c174]) rfl (by kernel_rfl) .none ⟨H210, H211⟩ (fun _ s => dv_loads (l := [.bool nr171, .slice A172 n173 c174]) agt120 sz120 (T rfl rfl) s.1 rfl) ?_
   refine aw_pure 24 (.pointer (some ⟨b199, 4, none⟩)) rfl (by kernel_rfl) .none ⟨H210, H211⟩ (fun _ => dv_fieldAddr (a := ⟨b199, 0, none⟩) (a' := ⟨b199, 4, none⟩) fo122_2 (T rfl hA200) rfl) ?_
   refine aw_load 25 (.agg #[.bool nr187, .slice A188 n189 c190]) rfl (by kernel_rfl) .none ⟨H210, H211⟩ (fun _ s => dv_loads (l := [.bool nr187, .slice A188 n189 c190]) agt120 sz120 (T rfl rfl) s.2 rfl) ?_
   have h212 := (hp176.ext d208.ext)
   have h213 := (hp194.ext d208.ext)
   refine aw_one 4 rfl (by kernel_rfl) .none (oe_callf (vs := [.agg #[.bool nr163, .slice A164 n165 c166], .agg #[.bool nr187, .slice A188 n189 c190]]) co93 (ar2 (T rfl rfl) (T rfl rfl)) (nby_ok h212 h213 (by first | decide | omega) (by first | decide | omega)) ?_)
   rintro _ w219 ⟨nr214, A215, n216, c217, rfl, e220, h218⟩
   have E221 := below_ext E209 E209.size e220
   have lh218 := Num.len (by decide) h218
   have H222 := (e220.blk H210)
   have H223 := (e220.blk H211)
   refine ⟨.inr ⟨H222, H223⟩, ?_⟩
   have h224 := ((hp192.ext d208.ext).ext e220)
   have h225 := ((hp178.ext d208.ext).ext e220)
   refine aw_one 9 rfl (by kernel_rfl) .none (oe_callf (vs := [.agg #[.bool nr179, .slice A180 n181 c182], .agg #[.bool nr171, .slice A172 n173 c174]]) co93 (ar2 (T rfl rfl) (T rfl rfl)) (nby_ok h224 h225 (by first | decide | omega) (by first | decide | omega)) ?_)
   rintro _ w231 ⟨nr226, A227, n228, c229, rfl, e232, h230⟩
   have E233 := below_ext E221 E221.size e232
   have lh230 := Num.len (by decide) h230
   have H234 := (e232.blk H222)
   have H235 := (e232.blk H223)
   refine ⟨.inr ⟨H234, H235⟩, ?_⟩
   have h236 := (h218.ext e232)
   refine aw_one 10 rfl (by kernel_rfl) .none (oe_callf (vs := [.agg #[.bool nr214, .slice A215 n216 c217], .agg #[.bool nr226, .slice A227 n228 c229]]) co101 (ar2 (T rfl rfl) (T rfl rfl)) (plus_ok h236 h230 (by first | decide | omega) (by first | decide | omega)) ?_)
   rintro _ w242 ⟨nr237, A238, n239, c240, rfl, e243, h241⟩
   have E244 := below_ext E233 E233.size e243
   have lh241 := Num.len (by decide) h241
   obtain ⟨zz245, hz246⟩ : ∃ q_ : Int, q_ = (x * r) + (p * u) := ⟨_, rfl⟩
   rw [← hz246] at h241
   have H247 := (e243.blk H234)
   have H248 := (e243.blk H235)
   refine ⟨.inr ⟨H247, H248⟩, ?_⟩
   have h249 := ((((hp177.ext d208.ext).ext e220).ext e232).ext e243)
   have h250 := (((h213.ext e220).ext e232).ext e243)
   refine aw_one 15 rfl (by kernel_rfl) .none (oe_callf (vs := [.agg #[.bool nr167, .slice A168 n169 c170], .agg #[.bool nr187, .slice A188 n189 c190]]) co93 (ar2 (T rfl rfl) (T rfl rfl)) (nby_ok h249 h250 (by first | decide | omega) (by first | decide | omega)) ?_)
   rintro _ w256 ⟨nr251, A252, n253, c254, rfl, e257, h255⟩
   have E258 := below_ext E244 E244.size e257
   have lh255 := Num.len (by decide) h255
   have H259 := (e257.blk H247)
   have H260 := (e257.blk H248)
   refine ⟨.inr ⟨H259, H260⟩, ?_⟩
   have h261 := (((((hp193.ext d208.ext).ext e220).ext e232).ext e243).ext e257)
   have h262 := (((h225.ext e232).ext e243).ext e257)
   refine aw_one 20 rfl (by kernel_rfl) .none (oe_callf (vs := [.agg #[.bool nr183, .slice A184 n185 c186], .agg #[.bool nr171, .slice A172 n173 c174]]) co93 (ar2 (T rfl rfl) (T rfl rfl)) (nby_ok h261 h262 (by first | decide | omega) (by first | decide | omega)) ?_)
   rintro _ w268 ⟨nr263, A264, n265, c266, rfl, e269, h267⟩
   have E270 := below_ext E258 E258.size e269
   have lh267 := Num.len (by decide) h267
   have H271 := (e269.blk H259)
   have H272 := (e269.blk H260)
   refine ⟨.inr ⟨H271, H272⟩, ?_⟩
   have h273 := (h255.ext e269)
   refine aw_one 21 rfl (by kernel_rfl) .none (oe_callf (vs := [.agg #[.bool nr251, .slice A252 n253 c254], .agg #[.bool nr263, .slice A264 n265 c266]]) co101 (ar2 (T rfl rfl) (T rfl rfl)) (plus_ok h273 h267 (by first | decide | omega) (by first | decide | omega)) ?_)
   rintro _ w279 ⟨nr274, A275, n276, c277, rfl, e280, h278⟩
   have E281 := below_ext E270 E270.size e280
   have lh278 := Num.len (by decide) h278
   obtain ⟨zz282, hz283⟩ : ∃ q_ : Int, q_ = (y * r) + (q * u) := ⟨_, rfl⟩
   rw [← hz283] at h278
   have H284 := (e280.blk H271)
   have H285 := (e280.blk H272)
   refine ⟨.inr ⟨H284, H285⟩, ?_⟩
   have h286 := ((h262.ext e269).ext e280)
   have h287 := (((h250.ext e257).ext e269).ext e280)
   refine aw_one 26 rfl (by kernel_rfl) .none (oe_callf (vs := [.agg #[.bool nr171, .slice A172 n173 c174], .agg #[.bool nr187, .slice A188 n189 c190]]) co93 (ar2 (T rfl rfl) (T rfl rfl)) (nby_ok h286 h287 (by first | decide | omega) (by first | decide | omega)) ?_)
   rintro _ w293 ⟨nr288, A289, n290, c291, rfl, e294, h292⟩
   have E295 := below_ext E281 E281.size e294
   have lh292 := Num.len (by decide) h292
   have H296 := (e294.blk H284)
   have H297 := (e294.blk H285)
   refine ⟨.inr ⟨H296, H297⟩, ?_⟩
   refine aw_one 27 rfl (by kernel_rfl) .none (oe_callf (vs := [.int .i64 2]) co92 (ar1 C) (whole_ok  (by omega)) ?_)
   rintro _ w303 ⟨nr298, A299, n300, c301, rfl, e304, h302⟩
   have E305 := below_ext E295 E295.size e304
   have lh302 := Num.len (by decide) h302
   have H306 := (e304.blk H296)
   have H307 := (e304.blk H297)
   refine ⟨.inr ⟨H306, H307⟩, ?_⟩
   have h308 := (h292.ext e304)
   refine aw_one 28 rfl (by kernel_rfl) .none (oe_callf (vs := [.agg #[.bool nr288, .slice A289 n290 c291], .agg #[.bool nr298, .slice A299 n300 c301]]) co93 (ar2 (T rfl rfl) (T rfl rfl)) (nby_ok h308 h302 (by first | decide | omega) (by first | decide | omega)) ?_)
   rintro _ w314 ⟨nr309, A310, n311, c312, rfl, e315, h313⟩
   have E316 := below_ext E305 E305.size e315
   have lh313 := Num.len (by decide) h313
   have H317 := (e315.blk H306)
   have H318 := (e315.blk H307)
   refine ⟨.inr ⟨H317, H318⟩, ?_⟩
   refine aw_pure 29 (.agg #[.bool nr237, .slice A238 n239 c240, .bool nr274, .slice A275 n276 c277, .bool nr309, .slice A310 n311 c312]) rfl (by kernel_rfl) .none ⟨H317, H318⟩ (fun _ => dv_build (pv := [(0, .agg #[.bool nr237, .slice A238 n239 c240]), (1, .agg #[.bool nr274, .slice A275 n276 c277]), (2, .agg #[.bool nr309, .slice A310 n311 c312])]) (l := [.bool nr237, .slice A238 n239 c240, .bool nr274, .slice A275 n276 c277, .bool nr309, .slice A310 n311 c312]) zc122 pl122 ⟨rfl, (T rfl rfl), ⟨rfl, (T rfl rfl), ⟨rfl, (T rfl rfl), trivial⟩⟩⟩ rfl) ?_
   have h319 := ((((((h241.ext e257).ext e269).ext e280).ext e294).ext e304).ext e315)
   have h320 := (((h278.ext e294).ext e304).ext e315)
   refine aw_one 30 rfl (by kernel_rfl) .none (oe_callf (vs := [.agg #[.bool nr237, .slice A238 n239 c240, .bool nr274, .slice A275 n276 c277, .bool nr309, .slice A310 n311 c312]]) co102 (ar1 (T rfl rfl)) (spoint_ok h319 h320 h313 (by first | decide | omega) (by first | decide | omega) (by first | decide | omega) ) ?_)
   rintro _ w321 ⟨rfl, e322⟩
   have E323 := below_ext E316 E316.size e322
   have H324 := (e322.blk H317)
   have H325 := (e322.blk H318)
   refine ⟨.inr ⟨H324, H325⟩, ?_⟩
   refine aw_pure 31 (.agg #[.int .u64 (wv3 (pkz (pFit zz245 zz282 ((u * r) * 2)) (pPt zz245 zz282 ((u * r) * 2) zz245))), .int .u64 (wv2 (pkz (pFit zz245 zz282 ((u * r) * 2)) (pPt zz245 zz282 ((u * r) * 2) zz245))), .int .u64 (wv1 (pkz (pFit zz245 zz282 ((u * r) * 2)) (pPt zz245 zz282 ((u * r) * 2) zz245))), .int .u64 (wv0 (pkz (pFit zz245 zz282 ((u * r) * 2)) (pPt zz245 zz282 ((u * r) * 2) zz245))), .int .u64 (wv3 (pkz (pFit zz245 zz282 ((u * r) * 2)) (pPt zz245 zz282 ((u * r) * 2) zz282))), .int .u64 (wv2 (pkz (pFit zz245 zz282 ((u * r) * 2)) (pPt zz245 zz282 ((u * r) * 2) zz282))), .int .u64 (wv1 (pkz (pFit zz245 zz282 ((u * r) * 2)) (pPt zz245 zz282 ((u * r) * 2) zz282))), .int .u64 (wv0 (pkz (pFit zz245 zz282 ((u * r) * 2)) (pPt zz245 zz282 ((u * r) * 2) zz282))), .int .u64 (wv3 (pkz (pFit zz245 zz282 ((u * r) * 2)) (pPt zz245 zz282 ((u * r) * 2) ((u * r) * 2)))), .int .u64 (wv2 (pkz (pFit zz245 zz282 ((u * r) * 2)) (pPt zz245 zz282 ((u * r) * 2) ((u * r) * 2)))), .int .u64 (wv1 (pkz (pFit zz245 zz282 ((u * r) * 2)) (pPt zz245 zz282 ((u * r) * 2) ((u * r) * 2)))), .int .u64 (wv0 (pkz (pFit zz245 zz282 ((u * r) * 2)) (pPt zz245 zz282 ((u * r) * 2) ((u * r) * 2))))]) rfl (by kernel_rfl) .none ⟨H324, H325⟩ (fun _ => dv_extract (vs := #[.agg #[.int .u64 (wv3 (pkz (pFit zz245 zz282 ((u * r) * 2)) (pPt zz245 zz282 ((u * r) * 2) zz245))), .int .u64 (wv2 (pkz (pFit zz245 zz282 ((u * r) * 2)) (pPt zz245 zz282 ((u * r) * 2) zz245))), .int .u64 (wv1 (pkz (pFit zz245 zz282 ((u * r) * 2)) (pPt zz245 zz282 ((u * r) * 2) zz245))), .int .u64 (wv0 (pkz (pFit zz245 zz282 ((u * r) * 2)) (pPt zz245 zz282 ((u * r) * 2) zz245))), .int .u64 (wv3 (pkz (pFit zz245 zz282 ((u * r) * 2)) (pPt zz245 zz282 ((u * r) * 2) zz282))), .int .u64 (wv2 (pkz (pFit zz245 zz282 ((u * r) * 2)) (pPt zz245 zz282 ((u * r) * 2) zz282))), .int .u64 (wv1 (pkz (pFit zz245 zz282 ((u * r) * 2)) (pPt zz245 zz282 ((u * r) * 2) zz282))), .int .u64 (wv0 (pkz (pFit zz245 zz282 ((u * r) * 2)) (pPt zz245 zz282 ((u * r) * 2) zz282))), .int .u64 (wv3 (pkz (pFit zz245 zz282 ((u * r) * 2)) (pPt zz245 zz282 ((u * r) * 2) ((u * r) * 2)))), .int .u64 (wv2 (pkz (pFit zz245 zz282 ((u * r) * 2)) (pPt zz245 zz282 ((u * r) * 2) ((u * r) * 2)))), .int .u64 (wv1 (pkz (pFit zz245 zz282 ((u * r) * 2)) (pPt zz245 zz282 ((u * r) * 2) ((u * r) * 2)))), .int .u64 (wv0 (pkz (pFit zz245 zz282 ((u * r) * 2)) (pPt zz245 zz282 ((u * r) * 2) ((u * r) * 2))))], .bool (decide (pFit zz245 zz282 ((u * r) * 2)))]) (T rfl rfl) rfl) ?_
   refine aw_pure 32 (.bool (decide (pFit zz245 zz282 ((u * r) * 2)))) rfl (by kernel_rfl) .none ⟨H324, H325⟩ (fun _ => dv_extract (vs := #[.agg #[.int .u64 (wv3 (pkz (pFit zz245 zz282 ((u * r) * 2)) (pPt zz245 zz282 ((u * r) * 2) zz245))), .int .u64 (wv2 (pkz (pFit zz245 zz282 ((u * r) * 2)) (pPt zz245 zz282 ((u * r) * 2) zz245))), .int .u64 (wv1 (pkz (pFit zz245 zz282 ((u * r) * 2)) (pPt zz245 zz282 ((u * r) * 2) zz245))), .int .u64 (wv0 (pkz (pFit zz245 zz282 ((u * r) * 2)) (pPt zz245 zz282 ((u * r) * 2) zz245))), .int .u64 (wv3 (pkz (pFit zz245 zz282 ((u * r) * 2)) (pPt zz245 zz282 ((u * r) * 2) zz282))), .int .u64 (wv2 (pkz (pFit zz245 zz282 ((u * r) * 2)) (pPt zz245 zz282 ((u * r) * 2) zz282))), .int .u64 (wv1 (pkz (pFit zz245 zz282 ((u * r) * 2)) (pPt zz245 zz282 ((u * r) * 2) zz282))), .int .u64 (wv0 (pkz (pFit zz245 zz282 ((u * r) * 2)) (pPt zz245 zz282 ((u * r) * 2) zz282))), .int .u64 (wv3 (pkz (pFit zz245 zz282 ((u * r) * 2)) (pPt zz245 zz282 ((u * r) * 2) ((u * r) * 2)))), .int .u64 (wv2 (pkz (pFit zz245 zz282 ((u * r) * 2)) (pPt zz245 zz282 ((u * r) * 2) ((u * r) * 2)))), .int .u64 (wv1 (pkz (pFit zz245 zz282 ((u * r) * 2)) (pPt zz245 zz282 ((u * r) * 2) ((u * r) * 2)))), .int .u64 (wv0 (pkz (pFit zz245 zz282 ((u * r) * 2)) (pPt zz245 zz282 ((u * r) * 2) ((u * r) * 2))))], .bool (decide (pFit zz245 zz282 ((u * r) * 2)))]) (T rfl rfl) rfl) ?_
   have H326 := (e322.blk (e315.blk (e304.blk (e294.blk (e280.blk (e269.blk (e257.blk (e243.blk (e232.blk (e220.blk (d208.ext.blk (e155.blk H29))))))))))))
   refine aw_one 33 rfl (by kernel_rfl) .none (oe_store (v := .agg #[.int .u64 (wv3 (pkz (pFit zz245 zz282 ((u * r) * 2)) (pPt zz245 zz282 ((u * r) * 2) zz245))), .int .u64 (wv2 (pkz (pFit zz245 zz282 ((u * r) * 2)) (pPt zz245 zz282 ((u * r) * 2) zz245))), .int .u64 (wv1 (pkz (pFit zz245 zz282 ((u * r) * 2)) (pPt zz245 zz282 ((u * r) * 2) zz245))), .int .u64 (wv0 (pkz (pFit zz245 zz282 ((u * r) * 2)) (pPt zz245 zz282 ((u * r) * 2) zz245))), .int .u64 (wv3 (pkz (pFit zz245 zz282 ((u * r) * 2)) (pPt zz245 zz282 ((u * r) * 2) zz282))), .int .u64 (wv2 (pkz (pFit zz245 zz282 ((u * r) * 2)) (pPt zz245 zz282 ((u * r) * 2) zz282))), .int .u64 (wv1 (pkz (pFit zz245 zz282 ((u * r) * 2)) (pPt zz245 zz282 ((u * r) * 2) zz282))), .int .u64 (wv0 (pkz (pFit zz245 zz282 ((u * r) * 2)) (pPt zz245 zz282 ((u * r) * 2) zz282))), .int .u64 (wv3 (pkz (pFit zz245 zz282 ((u * r) * 2)) (pPt zz245 zz282 ((u * r) * 2) ((u * r) * 2)))), .int .u64 (wv2 (pkz (pFit zz245 zz282 ((u * r) * 2)) (pPt zz245 zz282 ((u * r) * 2) ((u * r) * 2)))), .int .u64 (wv1 (pkz (pFit zz245 zz282 ((u * r) * 2)) (pPt zz245 zz282 ((u * r) * 2) ((u * r) * 2)))), .int .u64 (wv0 (pkz (pFit zz245 zz282 ((u * r) * 2)) (pPt zz245 zz282 ((u * r) * 2) ((u * r) * 2))))]) (vs := [.int .u64 (wv3 (pkz (pFit zz245 zz282 ((u * r) * 2)) (pPt zz245 zz282 ((u * r) * 2) zz245))), .int .u64 (wv2 (pkz (pFit zz245 zz282 ((u * r) * 2)) (pPt zz245 zz282 ((u * r) * 2) zz245))), .int .u64 (wv1 (pkz (pFit zz245 zz282 ((u * r) * 2)) (pPt zz245 zz282 ((u * r) * 2) zz245))), .int .u64 (wv0 (pkz (pFit zz245 zz282 ((u * r) * 2)) (pPt zz245 zz282 ((u * r) * 2) zz245))), .int .u64 (wv3 (pkz (pFit zz245 zz282 ((u * r) * 2)) (pPt zz245 zz282 ((u * r) * 2) zz282))), .int .u64 (wv2 (pkz (pFit zz245 zz282 ((u * r) * 2)) (pPt zz245 zz282 ((u * r) * 2) zz282))), .int .u64 (wv1 (pkz (pFit zz245 zz282 ((u * r) * 2)) (pPt zz245 zz282 ((u * r) * 2) zz282))), .int .u64 (wv0 (pkz (pFit zz245 zz282 ((u * r) * 2)) (pPt zz245 zz282 ((u * r) * 2) zz282))), .int .u64 (wv3 (pkz (pFit zz245 zz282 ((u * r) * 2)) (pPt zz245 zz282 ((u * r) * 2) ((u * r) * 2)))), .int .u64 (wv2 (pkz (pFit zz245 zz282 ((u * r) * 2)) (pPt zz245 zz282 ((u * r) * 2) ((u * r) * 2)))), .int .u64 (wv1 (pkz (pFit zz245 zz282 ((u * r) * 2)) (pPt zz245 zz282 ((u * r) * 2) ((u * r) * 2)))), .int .u64 (wv0 (pkz (pFit zz245 zz282 ((u * r) * 2)) (pPt zz245 zz282 ((u * r) * 2) ((u * r) * 2))))]) (l := [.int .u64 (wv3 (pkz (pFit zz245 zz282 ((u * r) * 2)) (pPt zz245 zz282 ((u * r) * 2) zz245))), .int .u64 (wv2 (pkz (pFit zz245 zz282 ((u * r) * 2)) (pPt zz245 zz282 ((u * r) * 2) zz245))), .int .u64 (wv1 (pkz (pFit zz245 zz282 ((u * r) * 2)) (pPt zz245 zz282 ((u * r) * 2) zz245))), .int .u64 (wv0 (pkz (pFit zz245 zz282 ((u * r) * 2)) (pPt zz245 zz282 ((u * r) * 2) zz245))), .int .u64 (wv3 (pkz (pFit zz245 zz282 ((u * r) * 2)) (pPt zz245 zz282 ((u * r) * 2) zz282))), .int .u64 (wv2 (pkz (pFit zz245 zz282 ((u * r) * 2)) (pPt zz245 zz282 ((u * r) * 2) zz282))), .int .u64 (wv1 (pkz (pFit zz245 zz282 ((u * r) * 2)) (pPt zz245 zz282 ((u * r) * 2) zz282))), .int .u64 (wv0 (pkz (pFit zz245 zz282 ((u * r) * 2)) (pPt zz245 zz282 ((u * r) * 2) zz282))), .int .u64 (wv3 (pkz (pFit zz245 zz282 ((u * r) * 2)) (pPt zz245 zz282 ((u * r) * 2) ((u * r) * 2)))), .int .u64 (wv2 (pkz (pFit zz245 zz282 ((u * r) * 2)) (pPt zz245 zz282 ((u * r) * 2) ((u * r) * 2)))), .int .u64 (wv1 (pkz (pFit zz245 zz282 ((u * r) * 2)) (pPt zz245 zz282 ((u * r) * 2) ((u * r) * 2)))), .int .u64 (wv0 (pkz (pFit zz245 zz282 ((u * r) * 2)) (pPt zz245 zz282 ((u * r) * 2) ((u * r) * 2))))]) (T rfl (hF156 4 rfl)) (T rfl rfl) sz37 rfl rfl rfl H326 rfl ?_)
   intro w327 s328 H329
   have E330 := below_st E323 N14 s328
   have H331 := (s328.blk H324 (by omega))
   have H332 := (s328.blk H325 (by omega))
   refine ⟨.inr ⟨H331, H332⟩, ?_⟩
   refine aw_last 34 (.bool (decide (pFit zz245 zz282 ((u * r) * 2)))) rfl (by kernel_rfl) .none (fun _ => dv_assign (T rfl rfl)) ?_
   refine aw_done (by kernel_rfl) ?_
   refine rk_ret Try.func39 (v := .tuple #[.agg #[.int .u64 (wv3 (pkz (pFit zz245 zz282 ((u * r) * 2)) (pPt zz245 zz282 ((u * r) * 2) zz245))), .int .u64 (wv2 (pkz (pFit zz245 zz282 ((u * r) * 2)) (pPt zz245 zz282 ((u * r) * 2) zz245))), .int .u64 (wv1 (pkz (pFit zz245 zz282 ((u * r) * 2)) (pPt zz245 zz282 ((u * r) * 2) zz245))), .int .u64 (wv0 (pkz (pFit zz245 zz282 ((u * r) * 2)) (pPt zz245 zz282 ((u * r) * 2) zz245))), .int .u64 (wv3 (pkz (pFit zz245 zz282 ((u * r) * 2)) (pPt zz245 zz282 ((u * r) * 2) zz282))), .int .u64 (wv2 (pkz (pFit zz245 zz282 ((u * r) * 2)) (pPt zz245 zz282 ((u * r) * 2) zz282))), .int .u64 (wv1 (pkz (pFit zz245 zz282 ((u * r) * 2)) (pPt zz245 zz282 ((u * r) * 2) zz282))), .int .u64 (wv0 (pkz (pFit zz245 zz282 ((u * r) * 2)) (pPt zz245 zz282 ((u * r) * 2) zz282))), .int .u64 (wv3 (pkz (pFit zz245 zz282 ((u * r) * 2)) (pPt zz245 zz282 ((u * r) * 2) ((u * r) * 2)))), .int .u64 (wv2 (pkz (pFit zz245 zz282 ((u * r) * 2)) (pPt zz245 zz282 ((u * r) * 2) ((u * r) * 2)))), .int .u64 (wv1 (pkz (pFit zz245 zz282 ((u * r) * 2)) (pPt zz245 zz282 ((u * r) * 2) ((u * r) * 2)))), .int .u64 (wv0 (pkz (pFit zz245 zz282 ((u * r) * 2)) (pPt zz245 zz282 ((u * r) * 2) ((u * r) * 2))))], .bool (decide (pFit zz245 zz282 ((u * r) * 2)))]) (res2 Try.results39 (rv_cells (l := [.int .u64 (wv3 (pkz (pFit zz245 zz282 ((u * r) * 2)) (pPt zz245 zz282 ((u * r) * 2) zz245))), .int .u64 (wv2 (pkz (pFit zz245 zz282 ((u * r) * 2)) (pPt zz245 zz282 ((u * r) * 2) zz245))), .int .u64 (wv1 (pkz (pFit zz245 zz282 ((u * r) * 2)) (pPt zz245 zz282 ((u * r) * 2) zz245))), .int .u64 (wv0 (pkz (pFit zz245 zz282 ((u * r) * 2)) (pPt zz245 zz282 ((u * r) * 2) zz245))), .int .u64 (wv3 (pkz (pFit zz245 zz282 ((u * r) * 2)) (pPt zz245 zz282 ((u * r) * 2) zz282))), .int .u64 (wv2 (pkz (pFit zz245 zz282 ((u * r) * 2)) (pPt zz245 zz282 ((u * r) * 2) zz282))), .int .u64 (wv1 (pkz (pFit zz245 zz282 ((u * r) * 2)) (pPt zz245 zz282 ((u * r) * 2) zz282))), .int .u64 (wv0 (pkz (pFit zz245 zz282 ((u * r) * 2)) (pPt zz245 zz282 ((u * r) * 2) zz282))), .int .u64 (wv3 (pkz (pFit zz245 zz282 ((u * r) * 2)) (pPt zz245 zz282 ((u * r) * 2) ((u * r) * 2)))), .int .u64 (wv2 (pkz (pFit zz245 zz282 ((u * r) * 2)) (pPt zz245 zz282 ((u * r) * 2) ((u * r) * 2)))), .int .u64 (wv1 (pkz (pFit zz245 zz282 ((u * r) * 2)) (pPt zz245 zz282 ((u * r) * 2) ((u * r) * 2)))), .int .u64 (wv0 (pkz (pFit zz245 zz282 ((u * r) * 2)) (pPt zz245 zz282 ((u * r) * 2) ((u * r) * 2))))]) agt37 sz37 rfl (hF156 4 rfl) H329 rfl) (rv_tmp rfl rfl)) ⟨_, rfl, ?_⟩
   subst hz283
   subst hz246
   have h1 : pOk x y u := (by first | assumption | exact (‹pOk x y u ∧ pOk p q r›).1)
   have h2 : pOk p q r := (by first | assumption | exact (‹pOk x y u ∧ pOk p q r›).2)
   have h3 : u * r * 2 ≠ 0 := (Int.ne_of_gt (Int.mul_pos (Int.mul_pos h1.1 h2.1) (by decide)))
   exact ⟨(tu2 (ag12 (vi (congrArg wv3 (pkz_iff ⟨fun hh => ⟨h1, h2, hh⟩, fun hh => hh.2.2⟩))) (vi (congrArg wv2 (pkz_iff ⟨fun hh => ⟨h1, h2, hh⟩, fun hh => hh.2.2⟩))) (vi (congrArg wv1 (pkz_iff ⟨fun hh => ⟨h1, h2, hh⟩, fun hh => hh.2.2⟩))) (vi (congrArg wv0 (pkz_iff ⟨fun hh => ⟨h1, h2, hh⟩, fun hh => hh.2.2⟩))) (vi (congrArg wv3 (pkz_iff ⟨fun hh => ⟨h1, h2, hh⟩, fun hh => hh.2.2⟩))) (vi (congrArg wv2 (pkz_iff ⟨fun hh => ⟨h1, h2, hh⟩, fun hh => hh.2.2⟩))) (vi (congrArg wv1 (pkz_iff ⟨fun hh => ⟨h1, h2, hh⟩, fun hh => hh.2.2⟩))) (vi (congrArg wv0 (pkz_iff ⟨fun hh => ⟨h1, h2, hh⟩, fun hh => hh.2.2⟩))) (vi (congrArg wv3 (pkz_iff ⟨fun hh => ⟨h1, h2, hh⟩, fun hh => hh.2.2⟩))) (vi (congrArg wv2 (pkz_iff ⟨fun hh => ⟨h1, h2, hh⟩, fun hh => hh.2.2⟩))) (vi (congrArg wv1 (pkz_iff ⟨fun hh => ⟨h1, h2, hh⟩, fun hh => hh.2.2⟩))) (vi (congrArg wv0 (pkz_iff ⟨fun hh => ⟨h1, h2, hh⟩, fun hh => hh.2.2⟩)))) (vb ⟨fun hh => ⟨h1, h2, hh⟩, fun hh => hh.2.2⟩)), E330⟩
 · refine rk_ct (T rfl (congrArg Value.bool (decide_eq_true hb26))) ?_
   refine rk_seq ?_
   refine rk_reg ?_
   refine lw_v (.agg #[.int .u64 0, .int .u64 0, .int .u64 0, .int .u64 0, .int .u64 0, .int .u64 0, .int .u64 0, .int .u64 0, .int .u64 0, .int .u64 0, .int .u64 0, .int .u64 0]) (dv_build (pv := []) (l := [.int .u64 0, .int .u64 0, .int .u64 0, .int .u64 0, .int .u64 0, .int .u64 0, .int .u64 0, .int .u64 0, .int .u64 0, .int .u64 0, .int .u64 0, .int .u64 0]) zc37 pl37 trivial rfl) ?_
   have H333 := (e24.blk (n20.ext.blk n13.blk))
   refine lw_e (oe_store (v := .agg #[.int .u64 0, .int .u64 0, .int .u64 0, .int .u64 0, .int .u64 0, .int .u64 0, .int .u64 0, .int .u64 0, .int .u64 0, .int .u64 0, .int .u64 0, .int .u64 0]) (vs := [.int .u64 0, .int .u64 0, .int .u64 0, .int .u64 0, .int .u64 0, .int .u64 0, .int .u64 0, .int .u64 0, .int .u64 0, .int .u64 0, .int .u64 0, .int .u64 0]) (l := [.int .u64 0, .int .u64 0, .int .u64 0, .int .u64 0, .int .u64 0, .int .u64 0, .int .u64 0, .int .u64 0, .int .u64 0, .int .u64 0, .int .u64 0, .int .u64 0]) (T rfl rfl) (T rfl rfl) sz37 rfl rfl rfl H333 rfl ?_)
   intro w334 s335 H336
   have E337 := below_st E25 N14 s335
   refine lw_v (.bool false) (dv_assign C) ?_
   refine lw_nil ?_
   refine rk_ret Try.func39 (v := .tuple #[.agg #[.int .u64 0, .int .u64 0, .int .u64 0, .int .u64 0, .int .u64 0, .int .u64 0, .int .u64 0, .int .u64 0, .int .u64 0, .int .u64 0, .int .u64 0, .int .u64 0], .bool false]) (res2 Try.results39 (rv_cells (l := [.int .u64 0, .int .u64 0, .int .u64 0, .int .u64 0, .int .u64 0, .int .u64 0, .int .u64 0, .int .u64 0, .int .u64 0, .int .u64 0, .int .u64 0, .int .u64 0]) agt37 sz37 rfl rfl H336 rfl) (rv_tmp rfl rfl)) ⟨_, rfl, ?_⟩
   have hS : ¬ (mdS x y u p q r) := by first | (intro hh; exact absurd hh.1 (by assumption)) | (intro hh; exact absurd hh.2.1 (by assumption)) | (intro hh; exact absurd (⟨hh.1, hh.2.1⟩ : _ ∧ _) (by assumption))
   exact ⟨(tu2 (ag12 (vi (wf3 hS)) (vi (wf2 hS)) (vi (wf1 hS)) (vi (wf0 hS)) (vi (wf3 hS)) (vi (wf2 hS)) (vi (wf1 hS)) (vi (wf0 hS)) (vi (wf3 hS)) (vi (wf2 hS)) (vi (wf1 hS)) (vi (wf0 hS))) (vf hS)), E337⟩
set_option maxHeartbeats 1000000 in
theorem sMiddle_ok {w : World} {x y u p q r : Int} (fx_ : fits x) (fy_ : fits y) (fu_ : fits u) (fp_ : fits p) (fq_ : fits q) (fr_ : fits r)  : Ct Try.prog 38 [.agg #[.int .u64 (wv3 x), .int .u64 (wv2 x), .int .u64 (wv1 x), .int .u64 (wv0 x), .int .u64 (wv3 y), .int .u64 (wv2 y), .int .u64 (wv1 y), .int .u64 (wv0 y), .int .u64 (wv3 u), .int .u64 (wv2 u), .int .u64 (wv1 u), .int .u64 (wv0 u)], .agg #[.int .u64 (wv3 p), .int .u64 (wv2 p), .int .u64 (wv1 p), .int .u64 (wv0 p), .int .u64 (wv3 q), .int .u64 (wv2 q), .int .u64 (wv1 q), .int .u64 (wv0 q), .int .u64 (wv3 r), .int .u64 (wv2 r), .int .u64 (wv1 r), .int .u64 (wv0 r)]] w fun v w1 => v = .tuple #[.agg #[.int .u64 (wv3 (mdX x y u p q r)), .int .u64 (wv2 (mdX x y u p q r)), .int .u64 (wv1 (mdX x y u p q r)), .int .u64 (wv0 (mdX x y u p q r)), .int .u64 (wv3 (mdY x y u p q r)), .int .u64 (wv2 (mdY x y u p q r)), .int .u64 (wv1 (mdY x y u p q r)), .int .u64 (wv0 (mdY x y u p q r)), .int .u64 (wv3 (mdW x y u p q r)), .int .u64 (wv2 (mdW x y u p q r)), .int .u64 (wv1 (mdW x y u p q r)), .int .u64 (wv0 (mdW x y u p q r))], .bool (decide (mdS x y u p q r))] ∧ Ext w w1 := by
 refine ct_run (n := 54) Try.func38 rfl Try.ntmps38 rfl ?_
 have E0 : Below w.heap.size w w := Below.refl _ _
 refine rk_seq ?_
 refine rk_reg ?_
 refine lw_e (oe_box (v := .agg #[.int .u64 (wv3 x), .int .u64 (wv2 x), .int .u64 (wv1 x), .int .u64 (wv0 x), .int .u64 (wv3 y), .int .u64 (wv2 y), .int .u64 (wv1 y), .int .u64 (wv0 y), .int .u64 (wv3 u), .int .u64 (wv2 u), .int .u64 (wv1 u), .int .u64 (wv0 u)]) (cs := #[.int .u64 (wv3 x), .int .u64 (wv2 x), .int .u64 (wv1 x), .int .u64 (wv0 x), .int .u64 (wv3 y), .int .u64 (wv2 y), .int .u64 (wv1 y), .int .u64 (wv0 y), .int .u64 (wv3 u), .int .u64 (wv2 u), .int .u64 (wv1 u), .int .u64 (wv0 u)]) (T rfl rfl) rfl ?_)
 intro b1 w2 n3
 have N4 : w.heap.size ≤ b1 := n3.eq ▸ E0.size
 have E5 := below_ext E0 E0.size n3.ext
 refine lw_e (oe_box (v := .agg #[.int .u64 (wv3 p), .int .u64 (wv2 p), .int .u64 (wv1 p), .int .u64 (wv0 p), .int .u64 (wv3 q), .int .u64 (wv2 q), .int .u64 (wv1 q), .int .u64 (wv0 q), .int .u64 (wv3 r), .int .u64 (wv2 r), .int .u64 (wv1 r), .int .u64 (wv0 r)]) (cs := #[.int .u64 (wv3 p), .int .u64 (wv2 p), .int .u64 (wv1 p), .int .u64 (wv0 p), .int .u64 (wv3 q), .int .u64 (wv2 q), .int .u64 (wv1 q), .int .u64 (wv0 q), .int .u64 (wv3 r), .int .u64 (wv2 r), .int .u64 (wv1 r), .int .u64 (wv0 r)]) (T rfl rfl) rfl ?_)
 intro b6 w7 n8
 have N9 : w.heap.size ≤ b6 := n8.eq ▸ E5.size
 have : b1 < b6 := n8.eq ▸ lt_of_blk n3.blk
 have E10 := below_ext E5 E5.size n8.ext
 refine lw_e (oe_alloc ze37 ?_)
 intro b11 w12 n13
 have N14 : w.heap.size ≤ b11 := n13.eq ▸ E10.size
 have : b6 < b11 := n13.eq ▸ lt_of_blk n8.blk
 have E15 := below_ext E10 E10.size n13.ext
 refine lw_v (.bool false) (dv_assign C) ?_
 refine lw_nil ?_
 refine rk_seq ?_
 refine rk_seq ?_
 refine rk_reg ?_
 have H16 := (n13.ext.blk (n8.ext.blk n3.blk))
 refine lw_v (.agg #[.int .u64 (wv3 x), .int .u64 (wv2 x), .int .u64 (wv1 x), .int .u64 (wv0 x), .int .u64 (wv3 y), .int .u64 (wv2 y), .int .u64 (wv1 y), .int .u64 (wv0 y), .int .u64 (wv3 u), .int .u64 (wv2 u), .int .u64 (wv1 u), .int .u64 (wv0 u)]) (dv_loads (l := [.int .u64 (wv3 x), .int .u64 (wv2 x), .int .u64 (wv1 x), .int .u64 (wv0 x), .int .u64 (wv3 y), .int .u64 (wv2 y), .int .u64 (wv1 y), .int .u64 (wv0 y), .int .u64 (wv3 u), .int .u64 (wv2 u), .int .u64 (wv1 u), .int .u64 (wv0 u)]) agt37 sz37 (T rfl rfl) H16 rfl) ?_
 refine lw_e (oe_callf (vs := [.agg #[.int .u64 (wv3 x), .int .u64 (wv2 x), .int .u64 (wv1 x), .int .u64 (wv0 x), .int .u64 (wv3 y), .int .u64 (wv2 y), .int .u64 (wv1 y), .int .u64 (wv0 y), .int .u64 (wv3 u), .int .u64 (wv2 u), .int .u64 (wv1 u), .int .u64 (wv0 u)]]) co67 (ar1 (T rfl rfl)) (sPointOk_ok (x := x) (y := y) (u := u) fx_ fy_ fu_ ) ?_)
 rintro _ w17 ⟨rfl, e18⟩
 have E19 := below_ext E15 E15.size e18
 refine lw_v (.bool (decide (¬ (pOk x y u)))) (dv_notd (p := pOk x y u) (T rfl rfl)) ?_
 refine lw_v (.bool (decide (¬ (pOk x y u)))) (dv_move (T rfl rfl)) ?_
 by_cases hb20 : pOk x y u
 · have H21 := (e18.blk (n13.ext.blk n8.blk))
   refine lw_vy (.agg #[.int .u64 (wv3 p), .int .u64 (wv2 p), .int .u64 (wv1 p), .int .u64 (wv0 p), .int .u64 (wv3 q), .int .u64 (wv2 q), .int .u64 (wv1 q), .int .u64 (wv0 q), .int .u64 (wv3 r), .int .u64 (wv2 r), .int .u64 (wv1 r), .int .u64 (wv0 r)]) (d := 11) rfl rfl (congrArg Value.bool (decide_eq_false (not_not_intro hb20))) (dv_loads (l := [.int .u64 (wv3 p), .int .u64 (wv2 p), .int .u64 (wv1 p), .int .u64 (wv0 p), .int .u64 (wv3 q), .int .u64 (wv2 q), .int .u64 (wv1 q), .int .u64 (wv0 q), .int .u64 (wv3 r), .int .u64 (wv2 r), .int .u64 (wv1 r), .int .u64 (wv0 r)]) agt37 sz37 (T rfl rfl) H21 rfl) ?_
   refine lw_ey (d := 11) rfl rfl (congrArg Value.bool (decide_eq_false (not_not_intro hb20))) (oe_callf (vs := [.agg #[.int .u64 (wv3 p), .int .u64 (wv2 p), .int .u64 (wv1 p), .int .u64 (wv0 p), .int .u64 (wv3 q), .int .u64 (wv2 q), .int .u64 (wv1 q), .int .u64 (wv0 q), .int .u64 (wv3 r), .int .u64 (wv2 r), .int .u64 (wv1 r), .int .u64 (wv0 r)]]) co67 (ar1 (T rfl rfl)) (sPointOk_ok (x := p) (y := q) (u := r) fp_ fq_ fr_ ) ?_)
   rintro _ w22 ⟨rfl, e23⟩
   have E24 := below_ext E19 E19.size e23
   refine lw_vy (.bool (decide (¬ (pOk p q r)))) (d := 11) rfl rfl (congrArg Value.bool (decide_eq_false (not_not_intro hb20))) (dv_notd (p := pOk p q r) (T rfl rfl)) ?_
   refine lw_v (.bool (decide (¬ (pOk p q r)))) (dv_pick_f (T rfl (congrArg Value.bool (decide_eq_false (not_not_intro hb20)))) (T rfl rfl)) ?_
   refine lw_nil ?_
   by_cases hb25 : pOk p q r
   · refine rk_cf (T rfl (congrArg Value.bool (decide_eq_false (not_not_intro hb25)))) ?_
     refine rk_skip ?_
     refine rk_seq ?_
     refine rk_reg ?_
     have H26 := (e23.blk (e18.blk H16))
     refine lw_v (.agg #[.int .u64 (wv3 x), .int .u64 (wv2 x), .int .u64 (wv1 x), .int .u64 (wv0 x), .int .u64 (wv3 y), .int .u64 (wv2 y), .int .u64 (wv1 y), .int .u64 (wv0 y), .int .u64 (wv3 u), .int .u64 (wv2 u), .int .u64 (wv1 u), .int .u64 (wv0 u)]) (dv_loads (l := [.int .u64 (wv3 x), .int .u64 (wv2 x), .int .u64 (wv1 x), .int .u64 (wv0 x), .int .u64 (wv3 y), .int .u64 (wv2 y), .int .u64 (wv1 y), .int .u64 (wv0 y), .int .u64 (wv3 u), .int .u64 (wv2 u), .int .u64 (wv1 u), .int .u64 (wv0 u)]) agt37 sz37 (T rfl rfl) H26 rfl) ?_
     refine lw_e (oe_callf (vs := [.agg #[.int .u64 (wv3 x), .int .u64 (wv2 x), .int .u64 (wv1 x), .int .u64 (wv0 x), .int .u64 (wv3 y), .int .u64 (wv2 y), .int .u64 (wv1 y), .int .u64 (wv0 y), .int .u64 (wv3 u), .int .u64 (wv2 u), .int .u64 (wv1 u), .int .u64 (wv0 u)]]) co69 (ar1 (T rfl rfl)) (l3Of_ok fx_ fy_ fu_  ) ?_)
     rintro _ w42 ⟨nr27, A28, n29, c30, nr31, A32, n33, c34, nr35, A36, n37, c38, rfl, e43, h39, h40, h41⟩
     have E44 := below_ext E24 E24.size e43
     have lh39 := Num.len (by decide) h39
     have lh40 := Num.len (by decide) h40
     have lh41 := Num.len (by decide) h41
     refine lw_e (oe_alloc ze102 ?_)
     intro b45 w46 n47
     have N48 : w.heap.size ≤ b45 := n47.eq ▸ E44.size
     have H49 := (e43.blk (e23.blk (e18.blk n13.blk)))
     have : b11 < b45 := n47.eq ▸ lt_of_blk H49
     have E50 := below_ext E44 E44.size n47.ext
     refine lw_e (oe_store (v := .agg #[.bool nr27, .slice A28 n29 c30, .bool nr31, .slice A32 n33 c34, .bool nr35, .slice A36 n37 c38]) (vs := [.bool nr27, .slice A28 n29 c30, .bool nr31, .slice A32 n33 c34, .bool nr35, .slice A36 n37 c38]) (l := [.bool nr27, .slice A28 n29 c30, .bool nr31, .slice A32 n33 c34, .bool nr35, .slice A36 n37 c38]) (T rfl rfl) (T rfl rfl) sz102 rfl rfl rfl n47.blk rfl ?_)
     intro w51 s52 H53
     have E54 := below_st E50 N48 s52
     refine lw_nil ?_
     refine rk_seq ?_
     refine rk_reg ?_
     have H55 := (s52.blk (n47.ext.blk (e43.blk (e23.blk H21))) (by omega))
     refine lw_v (.agg #[.int .u64 (wv3 p), .int .u64 (wv2 p), .int .u64 (wv1 p), .int .u64 (wv0 p), .int .u64 (wv3 q), .int .u64 (wv2 q), .int .u64 (wv1 q), .int .u64 (wv0 q), .int .u64 (wv3 r), .int .u64 (wv2 r), .int .u64 (wv1 r), .int .u64 (wv0 r)]) (dv_loads (l := [.int .u64 (wv3 p), .int .u64 (wv2 p), .int .u64 (wv1 p), .int .u64 (wv0 p), .int .u64 (wv3 q), .int .u64 (wv2 q), .int .u64 (wv1 q), .int .u64 (wv0 q), .int .u64 (wv3 r), .int .u64 (wv2 r), .int .u64 (wv1 r), .int .u64 (wv0 r)]) agt37 sz37 (T rfl rfl) H55 rfl) ?_
     refine lw_e (oe_callf (vs := [.agg #[.int .u64 (wv3 p), .int .u64 (wv2 p), .int .u64 (wv1 p), .int .u64 (wv0 p), .int .u64 (wv3 q), .int .u64 (wv2 q), .int .u64 (wv1 q), .int .u64 (wv0 q), .int .u64 (wv3 r), .int .u64 (wv2 r), .int .u64 (wv1 r), .int .u64 (wv0 r)]]) co69 (ar1 (T rfl rfl)) (l3Of_ok fp_ fq_ fr_  ) ?_)
     rintro _ w71 ⟨nr56, A57, n58, c59, nr60, A61, n62, c63, nr64, A65, n66, c67, rfl, e72, h68, h69, h70⟩
     have E73 := below_ext E54 E54.size e72
     have lh68 := Num.len (by decide) h68
     have lh69 := Num.len (by decide) h69
     have lh70 := Num.len (by decide) h70
     refine lw_e (oe_alloc ze102 ?_)
     intro b74 w75 n76
     have N77 : w.heap.size ≤ b74 := n76.eq ▸ E73.size
     have H78 := (e72.blk H53)
     have : b45 < b74 := n76.eq ▸ lt_of_blk H78
     have E79 := below_ext E73 E73.size n76.ext
     refine lw_e (oe_store (v := .agg #[.bool nr56, .slice A57 n58 c59, .bool nr60, .slice A61 n62 c63, .bool nr64, .slice A65 n66 c67]) (vs := [.bool nr56, .slice A57 n58 c59, .bool nr60, .slice A61 n62 c63, .bool nr64, .slice A65 n66 c67]) (l := [.bool nr56, .slice A57 n58 c59, .bool nr60, .slice A61 n62 c63, .bool nr64, .slice A65 n66 c67]) (T rfl rfl) (T rfl rfl) sz102 rfl rfl rfl n76.blk rfl ?_)
     intro w80 s81 H82
     have E83 := below_st E79 N77 s81
     refine lw_nil ?_
     refine rk_seq ?_
     refine rk_any (fun w => w.heap[b45]? = some (.cells #[.bool nr27, .slice A28 n29 c30, .bool nr31, .slice A32 n33 c34, .bool nr35, .slice A36 n37 c38] 102) ∧ w.heap[b74]? = some (.cells #[.bool nr56, .slice A57 n58 c59, .bool nr60, .slice A61 n62 c63, .bool nr64, .slice A65 n66 c67] 102)) [34] mo ?_
     intro w84 d85
     have E86 := below_ext E83 E83.size d85.ext
     have H87 := (d85.ext.blk (s81.blk (n76.ext.blk H78) (by omega)))
     have H88 := (d85.ext.blk H82)
     refine aw_pure 0 (.pointer (some ⟨b45, 0, none⟩)) rfl (by kernel_rfl) .none ⟨H87, H88⟩ (fun _ => dv_fieldAddr (a := ⟨b45, 0, none⟩) (a' := ⟨b45, 0, none⟩) fo102_0 (T rfl rfl) rfl) ?_
     refine aw_load 1 (.agg #[.bool nr27, .slice A28 n29 c30]) rfl (by kernel_rfl) .none ⟨H87, H88⟩ (fun _ s => dv_loads (l := [.bool nr27, .slice A28 n29 c30]) agt100 sz100 (T rfl rfl) s.1 rfl) ?_
     refine aw_pure 2 (.pointer (some ⟨b74, 4, none⟩)) rfl (by kernel_rfl) .none ⟨H87, H88⟩ (fun _ => dv_fieldAddr (a := ⟨b74, 0, none⟩) (a' := ⟨b74, 4, none⟩) fo102_2 (T rfl rfl) rfl) ?_
     refine aw_load 3 (.agg #[.bool nr64, .slice A65 n66 c67]) rfl (by kernel_rfl) .none ⟨H87, H88⟩ (fun _ s => dv_loads (l := [.bool nr64, .slice A65 n66 c67]) agt100 sz100 (T rfl rfl) s.2 rfl) ?_
     refine aw_pure 5 (.pointer (some ⟨b74, 0, none⟩)) rfl (by kernel_rfl) .none ⟨H87, H88⟩ (fun _ => dv_fieldAddr (a := ⟨b74, 0, none⟩) (a' := ⟨b74, 0, none⟩) fo102_0 (T rfl rfl) rfl) ?_
     refine aw_load 6 (.agg #[.bool nr56, .slice A57 n58 c59]) rfl (by kernel_rfl) .none ⟨H87, H88⟩ (fun _ s => dv_loads (l := [.bool nr56, .slice A57 n58 c59]) agt100 sz100 (T rfl rfl) s.2 rfl) ?_
     refine aw_pure 7 (.pointer (some ⟨b45, 4, none⟩)) rfl (by kernel_rfl) .none ⟨H87, H88⟩ (fun _ => dv_fieldAddr (a := ⟨b45, 0, none⟩) (a' := ⟨b45, 4, none⟩) fo102_2 (T rfl rfl) rfl) ?_
     refine aw_load 8 (.agg #[.bool nr35, .slice A36 n37 c38]) rfl (by kernel_rfl) .none ⟨H87, H88⟩ (fun _ s => dv_loads (l := [.bool nr35, .slice A36 n37 c38]) agt100 sz100 (T rfl rfl) s.1 rfl) ?_
     refine aw_pure 11 (.pointer (some ⟨b45, 2, none⟩)) rfl (by kernel_rfl) .none ⟨H87, H88⟩ (fun _ => dv_fieldAddr (a := ⟨b45, 0, none⟩) (a' := ⟨b45, 2, none⟩) fo102_1 (T rfl rfl) rfl) ?_
     refine aw_load 12 (.agg #[.bool nr31, .slice A32 n33 c34]) rfl (by kernel_rfl) .none ⟨H87, H88⟩ (fun _ s => dv_loads (l := [.bool nr31, .slice A32 n33 c34]) agt100 sz100 (T rfl rfl) s.1 rfl) ?_
     refine aw_pure 13 (.pointer (some ⟨b74, 4, none⟩)) rfl (by kernel_rfl) .none ⟨H87, H88⟩ (fun _ => dv_fieldAddr (a := ⟨b74, 0, none⟩) (a' := ⟨b74, 4, none⟩) fo102_2 (T rfl rfl) rfl) ?_
     refine aw_load 14 (.agg #[.bool nr64, .slice A65 n66 c67]) rfl (by kernel_rfl) .none ⟨H87, H88⟩ (fun _ s => dv_loads (l := [.bool nr64, .slice A65 n66 c67]) agt100 sz100 (T rfl rfl) s.2 rfl) ?_
     refine aw_pure 16 (.pointer (some ⟨b74, 2, none⟩)) rfl (by kernel_rfl) .none ⟨H87, H88⟩ (fun _ => dv_fieldAddr (a := ⟨b74, 0, none⟩) (a' := ⟨b74, 2, none⟩) fo102_1 (T rfl rfl) rfl) ?_
     refine aw_load 17 (.agg #[.bool nr60, .slice A61 n62 c63]) rfl (by kernel_rfl) .none ⟨H87, H88⟩ (fun _ s => dv_loads (l := [.bool nr60, .slice A61 n62 c63]) agt100 sz100 (T rfl rfl) s.2 rfl) ?_
     refine aw_pure 18 (.pointer (some ⟨b45, 4, none⟩)) rfl (by kernel_rfl) .none ⟨H87, H88⟩ (fun _ => dv_fieldAddr (a := ⟨b45, 0, none⟩) (a' := ⟨b45, 4, none⟩) fo102_2 (T rfl rfl) rfl) ?_
     refine aw_load 19 (.agg #[.bool nr35, .slice A36 n37 c38]) rfl (by kernel_rfl) .none ⟨H87, H88⟩ (fun _ s => dv_loads (l := [.bool nr35, .slice A36 n37 c38]) agt100 sz100 (T rfl rfl) s.1 rfl) ?_
     refine aw_pure 23 (.pointer (some ⟨b45, 4, none⟩)) rfl (by kernel_rfl) .none ⟨H87, H88⟩ (fun _ => dv_fieldAddr (a := ⟨b45, 0, none⟩) (a' := ⟨b45, 4, none⟩) fo102_2 (T rfl rfl) rfl) ?_
     refine aw_load 24 (.agg #[.bool nr35, .slice A36 n37 c38]) rfl (by kernel_rfl) .none ⟨H87, H88⟩ (fun _ s => dv_loads (l := [.bool nr35, .slice A36 n37 c38]) agt100 sz100 (T rfl rfl) s.1 rfl) ?_
     refine aw_pure 25 (.pointer (some ⟨b74, 4, none⟩)) rfl (by kernel_rfl) .none ⟨H87, H88⟩ (fun _ => dv_fieldAddr (a := ⟨b74, 0, none⟩) (a' := ⟨b74, 4, none⟩) fo102_2 (T rfl rfl) rfl) ?_
     refine aw_load 26 (.agg #[.bool nr64, .slice A65 n66 c67]) rfl (by kernel_rfl) .none ⟨H87, H88⟩ (fun _ s => dv_loads (l := [.bool nr64, .slice A65 n66 c67]) agt100 sz100 (T rfl rfl) s.2 rfl) ?_
     have h89 := ((((((h39.ext n47.ext).st s52 n47.blk (by decide)).ext e72).ext n76.ext).st s81 n76.blk (by decide)).ext d85.ext)
     have h90 := (((h70.ext n76.ext).st s81 n76.blk (by decide)).ext d85.ext)
     refine aw_one 4 rfl (by kernel_rfl) .none (oe_callf (vs := [.agg #[.bool nr27, .slice A28 n29 c30], .agg #[.bool nr64, .slice A65 n66 c67]]) co99 (ar2 (T rfl rfl) (T rfl rfl)) (l1Mul_ok h89 h90 (by first | decide | omega) (by first | decide | omega)) ?_)
     rintro _ w96 ⟨nr91, A92, n93, c94, rfl, e97, h95⟩
     have E98 := below_ext E86 E86.size e97
     have lh95 := Num.len (by decide) h95
     have H99 := (e97.blk H87)
     have H100 := (e97.blk H88)
     refine ⟨.inr ⟨H99, H100⟩, ?_⟩
     have h101 := ((((h68.ext n76.ext).st s81 n76.blk (by decide)).ext d85.ext).ext e97)
     have h102 := (((((((h41.ext n47.ext).st s52 n47.blk (by decide)).ext e72).ext n76.ext).st s81 n76.blk (by decide)).ext d85.ext).ext e97)
     refine aw_one 9 rfl (by kernel_rfl) .none (oe_callf (vs := [.agg #[.bool nr56, .slice A57 n58 c59], .agg #[.bool nr35, .slice A36 n37 c38]]) co99 (ar2 (T rfl rfl) (T rfl rfl)) (l1Mul_ok h101 h102 (by first | decide | omega) (by first | decide | omega)) ?_)
     rintro _ w108 ⟨nr103, A104, n105, c106, rfl, e109, h107⟩
     have E110 := below_ext E98 E98.size e109
     have lh107 := Num.len (by decide) h107
     have H111 := (e109.blk H99)
     have H112 := (e109.blk H100)
     refine ⟨.inr ⟨H111, H112⟩, ?_⟩
     have h113 := (h95.ext e109)
     refine aw_one 10 rfl (by kernel_rfl) .none (oe_callf (vs := [.agg #[.bool nr91, .slice A92 n93 c94], .agg #[.bool nr103, .slice A104 n105 c106]]) co98 (ar2 (T rfl rfl) (T rfl rfl)) (l1Add_ok h113 h107 (by first | decide | omega) (by first | decide | omega)) ?_)
     rintro _ w119 ⟨nr114, A115, n116, c117, rfl, e120, h118⟩
     have E121 := below_ext E110 E110.size e120
     have lh118 := Num.len (by decide) h118
     obtain ⟨zz122, hz123⟩ : ∃ q_ : Int, q_ = (x * r) + (p * u) := ⟨_, rfl⟩
     rw [← hz123] at h118
     have H124 := (e120.blk H111)
     have H125 := (e120.blk H112)
     refine ⟨.inr ⟨H124, H125⟩, ?_⟩
     have h126 := (((((((((h40.ext n47.ext).st s52 n47.blk (by decide)).ext e72).ext n76.ext).st s81 n76.blk (by decide)).ext d85.ext).ext e97).ext e109).ext e120)
     have h127 := (((h90.ext e97).ext e109).ext e120)
     refine aw_one 15 rfl (by kernel_rfl) .none (oe_callf (vs := [.agg #[.bool nr31, .slice A32 n33 c34], .agg #[.bool nr64, .slice A65 n66 c67]]) co99 (ar2 (T rfl rfl) (T rfl rfl)) (l1Mul_ok h126 h127 (by first | decide | omega) (by first | decide | omega)) ?_)
     rintro _ w133 ⟨nr128, A129, n130, c131, rfl, e134, h132⟩
     have E135 := below_ext E121 E121.size e134
     have lh132 := Num.len (by decide) h132
     have H136 := (e134.blk H124)
     have H137 := (e134.blk H125)
     refine ⟨.inr ⟨H136, H137⟩, ?_⟩
     have h138 := (((((((h69.ext n76.ext).st s81 n76.blk (by decide)).ext d85.ext).ext e97).ext e109).ext e120).ext e134)
     have h139 := (((h102.ext e109).ext e120).ext e134)
     refine aw_one 20 rfl (by kernel_rfl) .none (oe_callf (vs := [.agg #[.bool nr60, .slice A61 n62 c63], .agg #[.bool nr35, .slice A36 n37 c38]]) co99 (ar2 (T rfl rfl) (T rfl rfl)) (l1Mul_ok h138 h139 (by first | decide | omega) (by first | decide | omega)) ?_)
     rintro _ w145 ⟨nr140, A141, n142, c143, rfl, e146, h144⟩
     have E147 := below_ext E135 E135.size e146
     have lh144 := Num.len (by decide) h144
     have H148 := (e146.blk H136)
     have H149 := (e146.blk H137)
     refine ⟨.inr ⟨H148, H149⟩, ?_⟩
     have h150 := (h132.ext e146)
     refine aw_one 21 rfl (by kernel_rfl) .none (oe_callf (vs := [.agg #[.bool nr128, .slice A129 n130 c131], .agg #[.bool nr140, .slice A141 n142 c143]]) co98 (ar2 (T rfl rfl) (T rfl rfl)) (l1Add_ok h150 h144 (by first | decide | omega) (by first | decide | omega)) ?_)
     rintro _ w156 ⟨nr151, A152, n153, c154, rfl, e157, h155⟩
     have E158 := below_ext E147 E147.size e157
     have lh155 := Num.len (by decide) h155
     obtain ⟨zz159, hz160⟩ : ∃ q_ : Int, q_ = (y * r) + (q * u) := ⟨_, rfl⟩
     rw [← hz160] at h155
     have H161 := (e157.blk H148)
     have H162 := (e157.blk H149)
     refine ⟨.inr ⟨H161, H162⟩, ?_⟩
     refine aw_one 22 rfl (by kernel_rfl) .none (oe_callf (vs := [.int .i64 2]) co100 (ar1 C) (l1Int_ok  (by omega)) ?_)
     rintro _ w168 ⟨nr163, A164, n165, c166, rfl, e169, h167⟩
     have E170 := below_ext E158 E158.size e169
     have lh167 := Num.len (by decide) h167
     have H171 := (e169.blk H161)
     have H172 := (e169.blk H162)
     refine ⟨.inr ⟨H171, H172⟩, ?_⟩
     have h173 := (((h139.ext e146).ext e157).ext e169)
     have h174 := ((((h127.ext e134).ext e146).ext e157).ext e169)
     refine aw_one 27 rfl (by kernel_rfl) .none (oe_callf (vs := [.agg #[.bool nr35, .slice A36 n37 c38], .agg #[.bool nr64, .slice A65 n66 c67]]) co99 (ar2 (T rfl rfl) (T rfl rfl)) (l1Mul_ok h173 h174 (by first | decide | omega) (by first | decide | omega)) ?_)
     rintro _ w180 ⟨nr175, A176, n177, c178, rfl, e181, h179⟩
     have E182 := below_ext E170 E170.size e181
     have lh179 := Num.len (by decide) h179
     have H183 := (e181.blk H171)
     have H184 := (e181.blk H172)
     refine ⟨.inr ⟨H183, H184⟩, ?_⟩
     have h185 := (h167.ext e181)
     refine aw_one 28 rfl (by kernel_rfl) .none (oe_callf (vs := [.agg #[.bool nr163, .slice A164 n165 c166], .agg #[.bool nr175, .slice A176 n177 c178]]) co99 (ar2 (T rfl rfl) (T rfl rfl)) (l1Mul_ok h185 h179 (by first | decide | omega) (by first | decide | omega)) ?_)
     rintro _ w191 ⟨nr186, A187, n188, c189, rfl, e192, h190⟩
     have E193 := below_ext E182 E182.size e192
     have lh190 := Num.len (by decide) h190
     have H194 := (e192.blk H183)
     have H195 := (e192.blk H184)
     refine ⟨.inr ⟨H194, H195⟩, ?_⟩
     have h196 := ((((((h118.ext e134).ext e146).ext e157).ext e169).ext e181).ext e192)
     have h197 := (((h155.ext e169).ext e181).ext e192)
     refine aw_one 29 rfl (by kernel_rfl) .none (oe_callf (vs := [.agg #[.bool nr114, .slice A115 n116 c117], .agg #[.bool nr151, .slice A152 n153 c154], .agg #[.bool nr186, .slice A187 n188 c189]]) co97 (ar3 (T rfl rfl) (T rfl rfl) (T rfl rfl)) (l3Make_ok h196 h197 h190 (by first | decide | omega) (by first | decide | omega) (by first | decide | omega) (by subst hz160; subst hz123; have h1 : pOk x y u := (by first | assumption | exact (‹pOk x y u ∧ pOk p q r›).1); have h2 : pOk p q r := (by first | assumption | exact (‹pOk x y u ∧ pOk p q r›).2); have h3 : u * r * 2 ≠ 0 := (Int.ne_of_gt (Int.mul_pos (Int.mul_pos h1.1 h2.1) (by decide))); first | exact h3 | (rw [Int.mul_comm 2 (u * r)]; exact h3))) ?_)
     rintro _ w213 ⟨nr198, A199, n200, c201, nr202, A203, n204, c205, nr206, A207, n208, c209, rfl, e214, h210, h211, h212⟩
     have E215 := below_ext E193 E193.size e214
     have lh210 := Num.len (by decide) h210
     have lh211 := Num.len (by decide) h211
     have lh212 := Num.len (by decide) h212
     obtain ⟨zz216, hz217⟩ : ∃ q_ : Int, q_ = pPt zz122 zz159 (2 * (u * r)) zz122 := ⟨_, rfl⟩
     rw [← hz217] at h210
     obtain ⟨zz218, hz219⟩ : ∃ q_ : Int, q_ = pPt zz122 zz159 (2 * (u * r)) zz159 := ⟨_, rfl⟩
     rw [← hz219] at h211
     obtain ⟨zz220, hz221⟩ : ∃ q_ : Int, q_ = pPt zz122 zz159 (2 * (u * r)) (2 * (u * r)) := ⟨_, rfl⟩
     rw [← hz221] at h212
     have H222 := (e214.blk H194)
     have H223 := (e214.blk H195)
     refine ⟨.inr ⟨H222, H223⟩, ?_⟩
     refine aw_one 30 rfl (by kernel_rfl) .none (oe_callf (vs := [.agg #[.bool nr198, .slice A199 n200 c201, .bool nr202, .slice A203 n204 c205, .bool nr206, .slice A207 n208 c209]]) co96 (ar1 (T rfl rfl)) (l3Point_ok h210 h211 h212 (by first | decide | omega) (by first | decide | omega) (by first | decide | omega) ) ?_)
     rintro _ w224 ⟨rfl, e225⟩
     have E226 := below_ext E215 E215.size e225
     have H227 := (e225.blk H222)
     have H228 := (e225.blk H223)
     refine ⟨.inr ⟨H227, H228⟩, ?_⟩
     refine aw_pure 31 (.agg #[.int .u64 (wv3 (pkz (sm3 zz216 zz218 zz220) zz216)), .int .u64 (wv2 (pkz (sm3 zz216 zz218 zz220) zz216)), .int .u64 (wv1 (pkz (sm3 zz216 zz218 zz220) zz216)), .int .u64 (wv0 (pkz (sm3 zz216 zz218 zz220) zz216)), .int .u64 (wv3 (pkz (sm3 zz216 zz218 zz220) zz218)), .int .u64 (wv2 (pkz (sm3 zz216 zz218 zz220) zz218)), .int .u64 (wv1 (pkz (sm3 zz216 zz218 zz220) zz218)), .int .u64 (wv0 (pkz (sm3 zz216 zz218 zz220) zz218)), .int .u64 (wv3 (pkz (sm3 zz216 zz218 zz220) zz220)), .int .u64 (wv2 (pkz (sm3 zz216 zz218 zz220) zz220)), .int .u64 (wv1 (pkz (sm3 zz216 zz218 zz220) zz220)), .int .u64 (wv0 (pkz (sm3 zz216 zz218 zz220) zz220))]) rfl (by kernel_rfl) .none ⟨H227, H228⟩ (fun _ => dv_extract (vs := #[.agg #[.int .u64 (wv3 (pkz (sm3 zz216 zz218 zz220) zz216)), .int .u64 (wv2 (pkz (sm3 zz216 zz218 zz220) zz216)), .int .u64 (wv1 (pkz (sm3 zz216 zz218 zz220) zz216)), .int .u64 (wv0 (pkz (sm3 zz216 zz218 zz220) zz216)), .int .u64 (wv3 (pkz (sm3 zz216 zz218 zz220) zz218)), .int .u64 (wv2 (pkz (sm3 zz216 zz218 zz220) zz218)), .int .u64 (wv1 (pkz (sm3 zz216 zz218 zz220) zz218)), .int .u64 (wv0 (pkz (sm3 zz216 zz218 zz220) zz218)), .int .u64 (wv3 (pkz (sm3 zz216 zz218 zz220) zz220)), .int .u64 (wv2 (pkz (sm3 zz216 zz218 zz220) zz220)), .int .u64 (wv1 (pkz (sm3 zz216 zz218 zz220) zz220)), .int .u64 (wv0 (pkz (sm3 zz216 zz218 zz220) zz220))], .bool (decide (sm3 zz216 zz218 zz220))]) (T rfl rfl) rfl) ?_
     refine aw_pure 32 (.bool (decide (sm3 zz216 zz218 zz220))) rfl (by kernel_rfl) .none ⟨H227, H228⟩ (fun _ => dv_extract (vs := #[.agg #[.int .u64 (wv3 (pkz (sm3 zz216 zz218 zz220) zz216)), .int .u64 (wv2 (pkz (sm3 zz216 zz218 zz220) zz216)), .int .u64 (wv1 (pkz (sm3 zz216 zz218 zz220) zz216)), .int .u64 (wv0 (pkz (sm3 zz216 zz218 zz220) zz216)), .int .u64 (wv3 (pkz (sm3 zz216 zz218 zz220) zz218)), .int .u64 (wv2 (pkz (sm3 zz216 zz218 zz220) zz218)), .int .u64 (wv1 (pkz (sm3 zz216 zz218 zz220) zz218)), .int .u64 (wv0 (pkz (sm3 zz216 zz218 zz220) zz218)), .int .u64 (wv3 (pkz (sm3 zz216 zz218 zz220) zz220)), .int .u64 (wv2 (pkz (sm3 zz216 zz218 zz220) zz220)), .int .u64 (wv1 (pkz (sm3 zz216 zz218 zz220) zz220)), .int .u64 (wv0 (pkz (sm3 zz216 zz218 zz220) zz220))], .bool (decide (sm3 zz216 zz218 zz220))]) (T rfl rfl) rfl) ?_
     have H229 := (e225.blk (e214.blk (e192.blk (e181.blk (e169.blk (e157.blk (e146.blk (e134.blk (e120.blk (e109.blk (e97.blk (d85.ext.blk (s81.blk (n76.ext.blk (e72.blk (s52.blk (n47.ext.blk H49) (by omega)))) (by omega))))))))))))))
     refine aw_one 33 rfl (by kernel_rfl) .none (oe_store (v := .agg #[.int .u64 (wv3 (pkz (sm3 zz216 zz218 zz220) zz216)), .int .u64 (wv2 (pkz (sm3 zz216 zz218 zz220) zz216)), .int .u64 (wv1 (pkz (sm3 zz216 zz218 zz220) zz216)), .int .u64 (wv0 (pkz (sm3 zz216 zz218 zz220) zz216)), .int .u64 (wv3 (pkz (sm3 zz216 zz218 zz220) zz218)), .int .u64 (wv2 (pkz (sm3 zz216 zz218 zz220) zz218)), .int .u64 (wv1 (pkz (sm3 zz216 zz218 zz220) zz218)), .int .u64 (wv0 (pkz (sm3 zz216 zz218 zz220) zz218)), .int .u64 (wv3 (pkz (sm3 zz216 zz218 zz220) zz220)), .int .u64 (wv2 (pkz (sm3 zz216 zz218 zz220) zz220)), .int .u64 (wv1 (pkz (sm3 zz216 zz218 zz220) zz220)), .int .u64 (wv0 (pkz (sm3 zz216 zz218 zz220) zz220))]) (vs := [.int .u64 (wv3 (pkz (sm3 zz216 zz218 zz220) zz216)), .int .u64 (wv2 (pkz (sm3 zz216 zz218 zz220) zz216)), .int .u64 (wv1 (pkz (sm3 zz216 zz218 zz220) zz216)), .int .u64 (wv0 (pkz (sm3 zz216 zz218 zz220) zz216)), .int .u64 (wv3 (pkz (sm3 zz216 zz218 zz220) zz218)), .int .u64 (wv2 (pkz (sm3 zz216 zz218 zz220) zz218)), .int .u64 (wv1 (pkz (sm3 zz216 zz218 zz220) zz218)), .int .u64 (wv0 (pkz (sm3 zz216 zz218 zz220) zz218)), .int .u64 (wv3 (pkz (sm3 zz216 zz218 zz220) zz220)), .int .u64 (wv2 (pkz (sm3 zz216 zz218 zz220) zz220)), .int .u64 (wv1 (pkz (sm3 zz216 zz218 zz220) zz220)), .int .u64 (wv0 (pkz (sm3 zz216 zz218 zz220) zz220))]) (l := [.int .u64 (wv3 (pkz (sm3 zz216 zz218 zz220) zz216)), .int .u64 (wv2 (pkz (sm3 zz216 zz218 zz220) zz216)), .int .u64 (wv1 (pkz (sm3 zz216 zz218 zz220) zz216)), .int .u64 (wv0 (pkz (sm3 zz216 zz218 zz220) zz216)), .int .u64 (wv3 (pkz (sm3 zz216 zz218 zz220) zz218)), .int .u64 (wv2 (pkz (sm3 zz216 zz218 zz220) zz218)), .int .u64 (wv1 (pkz (sm3 zz216 zz218 zz220) zz218)), .int .u64 (wv0 (pkz (sm3 zz216 zz218 zz220) zz218)), .int .u64 (wv3 (pkz (sm3 zz216 zz218 zz220) zz220)), .int .u64 (wv2 (pkz (sm3 zz216 zz218 zz220) zz220)), .int .u64 (wv1 (pkz (sm3 zz216 zz218 zz220) zz220)), .int .u64 (wv0 (pkz (sm3 zz216 zz218 zz220) zz220))]) (T rfl rfl) (T rfl rfl) sz37 rfl rfl rfl H229 rfl ?_)
     intro w230 s231 H232
     have E233 := below_st E226 N14 s231
     have H234 := (s231.blk H227 (by omega))
     have H235 := (s231.blk H228 (by omega))
     refine ⟨.inr ⟨H234, H235⟩, ?_⟩
     refine aw_last 34 (.bool (decide (sm3 zz216 zz218 zz220))) rfl (by kernel_rfl) .none (fun _ => dv_assign (T rfl rfl)) ?_
     refine aw_done (by kernel_rfl) ?_
     refine rk_ret Try.func38 (v := .tuple #[.agg #[.int .u64 (wv3 (pkz (sm3 zz216 zz218 zz220) zz216)), .int .u64 (wv2 (pkz (sm3 zz216 zz218 zz220) zz216)), .int .u64 (wv1 (pkz (sm3 zz216 zz218 zz220) zz216)), .int .u64 (wv0 (pkz (sm3 zz216 zz218 zz220) zz216)), .int .u64 (wv3 (pkz (sm3 zz216 zz218 zz220) zz218)), .int .u64 (wv2 (pkz (sm3 zz216 zz218 zz220) zz218)), .int .u64 (wv1 (pkz (sm3 zz216 zz218 zz220) zz218)), .int .u64 (wv0 (pkz (sm3 zz216 zz218 zz220) zz218)), .int .u64 (wv3 (pkz (sm3 zz216 zz218 zz220) zz220)), .int .u64 (wv2 (pkz (sm3 zz216 zz218 zz220) zz220)), .int .u64 (wv1 (pkz (sm3 zz216 zz218 zz220) zz220)), .int .u64 (wv0 (pkz (sm3 zz216 zz218 zz220) zz220))], .bool (decide (sm3 zz216 zz218 zz220))]) (res2 Try.results38 (rv_cells (l := [.int .u64 (wv3 (pkz (sm3 zz216 zz218 zz220) zz216)), .int .u64 (wv2 (pkz (sm3 zz216 zz218 zz220) zz216)), .int .u64 (wv1 (pkz (sm3 zz216 zz218 zz220) zz216)), .int .u64 (wv0 (pkz (sm3 zz216 zz218 zz220) zz216)), .int .u64 (wv3 (pkz (sm3 zz216 zz218 zz220) zz218)), .int .u64 (wv2 (pkz (sm3 zz216 zz218 zz220) zz218)), .int .u64 (wv1 (pkz (sm3 zz216 zz218 zz220) zz218)), .int .u64 (wv0 (pkz (sm3 zz216 zz218 zz220) zz218)), .int .u64 (wv3 (pkz (sm3 zz216 zz218 zz220) zz220)), .int .u64 (wv2 (pkz (sm3 zz216 zz218 zz220) zz220)), .int .u64 (wv1 (pkz (sm3 zz216 zz218 zz220) zz220)), .int .u64 (wv0 (pkz (sm3 zz216 zz218 zz220) zz220))]) agt37 sz37 rfl rfl H232 rfl) (rv_tmp rfl rfl)) ⟨_, rfl, ?_⟩
     subst hz221
     subst hz219
     subst hz217
     subst hz160
     subst hz123
     have hw2 : 2 * (u * r) = u * r * 2 := Int.mul_comm ..
     have h1 : pOk x y u := (by first | assumption | exact (‹pOk x y u ∧ pOk p q r›).1)
     have h2 : pOk p q r := (by first | assumption | exact (‹pOk x y u ∧ pOk p q r›).2)
     rw [hw2]
     have h3 : u * r * 2 ≠ 0 := (Int.ne_of_gt (Int.mul_pos (Int.mul_pos h1.1 h2.1) (by decide)))
     exact ⟨(tu2 (ag12 (vi (congrArg wv3 (pkz_iff ⟨fun hh => ⟨h1, h2, h3, hh⟩, fun hh => hh.2.2.2⟩))) (vi (congrArg wv2 (pkz_iff ⟨fun hh => ⟨h1, h2, h3, hh⟩, fun hh => hh.2.2.2⟩))) (vi (congrArg wv1 (pkz_iff ⟨fun hh => ⟨h1, h2, h3, hh⟩, fun hh => hh.2.2.2⟩))) (vi (congrArg wv0 (pkz_iff ⟨fun hh => ⟨h1, h2, h3, hh⟩, fun hh => hh.2.2.2⟩))) (vi (congrArg wv3 (pkz_iff ⟨fun hh => ⟨h1, h2, h3, hh⟩, fun hh => hh.2.2.2⟩))) (vi (congrArg wv2 (pkz_iff ⟨fun hh => ⟨h1, h2, h3, hh⟩, fun hh => hh.2.2.2⟩))) (vi (congrArg wv1 (pkz_iff ⟨fun hh => ⟨h1, h2, h3, hh⟩, fun hh => hh.2.2.2⟩))) (vi (congrArg wv0 (pkz_iff ⟨fun hh => ⟨h1, h2, h3, hh⟩, fun hh => hh.2.2.2⟩))) (vi (congrArg wv3 (pkz_iff ⟨fun hh => ⟨h1, h2, h3, hh⟩, fun hh => hh.2.2.2⟩))) (vi (congrArg wv2 (pkz_iff ⟨fun hh => ⟨h1, h2, h3, hh⟩, fun hh => hh.2.2.2⟩))) (vi (congrArg wv1 (pkz_iff ⟨fun hh => ⟨h1, h2, h3, hh⟩, fun hh => hh.2.2.2⟩))) (vi (congrArg wv0 (pkz_iff ⟨fun hh => ⟨h1, h2, h3, hh⟩, fun hh => hh.2.2.2⟩)))) (vb ⟨fun hh => ⟨h1, h2, h3, hh⟩, fun hh => hh.2.2.2⟩)), E233⟩
   · refine rk_ct (T rfl (congrArg Value.bool (decide_eq_true hb25))) ?_
     refine rk_seq ?_
     refine rk_reg ?_
     refine lw_v (.agg #[.int .u64 0, .int .u64 0, .int .u64 0, .int .u64 0, .int .u64 0, .int .u64 0, .int .u64 0, .int .u64 0, .int .u64 0, .int .u64 0, .int .u64 0, .int .u64 0]) (dv_build (pv := []) (l := [.int .u64 0, .int .u64 0, .int .u64 0, .int .u64 0, .int .u64 0, .int .u64 0, .int .u64 0, .int .u64 0, .int .u64 0, .int .u64 0, .int .u64 0, .int .u64 0]) zc37 pl37 trivial rfl) ?_
     have H236 := (e23.blk (e18.blk n13.blk))
     refine lw_e (oe_store (v := .agg #[.int .u64 0, .int .u64 0, .int .u64 0, .int .u64 0, .int .u64 0, .int .u64 0, .int .u64 0, .int .u64 0, .int .u64 0, .int .u64 0, .int .u64 0, .int .u64 0]) (vs := [.int .u64 0, .int .u64 0, .int .u64 0, .int .u64 0, .int .u64 0, .int .u64 0, .int .u64 0, .int .u64 0, .int .u64 0, .int .u64 0, .int .u64 0, .int .u64 0]) (l := [.int .u64 0, .int .u64 0, .int .u64 0, .int .u64 0, .int .u64 0, .int .u64 0, .int .u64 0, .int .u64 0, .int .u64 0, .int .u64 0, .int .u64 0, .int .u64 0]) (T rfl rfl) (T rfl rfl) sz37 rfl rfl rfl H236 rfl ?_)
     intro w237 s238 H239
     have E240 := below_st E24 N14 s238
     refine lw_v (.bool false) (dv_assign C) ?_
     refine lw_nil ?_
     refine rk_ret Try.func38 (v := .tuple #[.agg #[.int .u64 0, .int .u64 0, .int .u64 0, .int .u64 0, .int .u64 0, .int .u64 0, .int .u64 0, .int .u64 0, .int .u64 0, .int .u64 0, .int .u64 0, .int .u64 0], .bool false]) (res2 Try.results38 (rv_cells (l := [.int .u64 0, .int .u64 0, .int .u64 0, .int .u64 0, .int .u64 0, .int .u64 0, .int .u64 0, .int .u64 0, .int .u64 0, .int .u64 0, .int .u64 0, .int .u64 0]) agt37 sz37 rfl rfl H239 rfl) (rv_tmp rfl rfl)) ⟨_, rfl, ?_⟩
     have hS : ¬ (mdS x y u p q r) := by first | (intro hh; exact absurd hh.1 (by assumption)) | (intro hh; exact absurd hh.2.1 (by assumption)) | (intro hh; exact absurd (⟨hh.1, hh.2.1⟩ : _ ∧ _) (by assumption))
     exact ⟨(tu2 (ag12 (vi (wf3 hS)) (vi (wf2 hS)) (vi (wf1 hS)) (vi (wf0 hS)) (vi (wf3 hS)) (vi (wf2 hS)) (vi (wf1 hS)) (vi (wf0 hS)) (vi (wf3 hS)) (vi (wf2 hS)) (vi (wf1 hS)) (vi (wf0 hS))) (vf hS)), E240⟩
 · refine lw_no (d := 11) rfl rfl (congrArg Value.bool (decide_eq_true hb20)) ?_
   refine lw_no (d := 11) rfl rfl (congrArg Value.bool (decide_eq_true hb20)) ?_
   refine lw_no (d := 11) rfl rfl (congrArg Value.bool (decide_eq_true hb20)) ?_
   refine lw_v (.bool true) (dv_pick_t (T rfl (congrArg Value.bool (decide_eq_true hb20))) C) ?_
   refine lw_nil ?_
   refine rk_ct (T rfl rfl) ?_
   refine rk_seq ?_
   refine rk_reg ?_
   refine lw_v (.agg #[.int .u64 0, .int .u64 0, .int .u64 0, .int .u64 0, .int .u64 0, .int .u64 0, .int .u64 0, .int .u64 0, .int .u64 0, .int .u64 0, .int .u64 0, .int .u64 0]) (dv_build (pv := []) (l := [.int .u64 0, .int .u64 0, .int .u64 0, .int .u64 0, .int .u64 0, .int .u64 0, .int .u64 0, .int .u64 0, .int .u64 0, .int .u64 0, .int .u64 0, .int .u64 0]) zc37 pl37 trivial rfl) ?_
   have H241 := (e18.blk n13.blk)
   refine lw_e (oe_store (v := .agg #[.int .u64 0, .int .u64 0, .int .u64 0, .int .u64 0, .int .u64 0, .int .u64 0, .int .u64 0, .int .u64 0, .int .u64 0, .int .u64 0, .int .u64 0, .int .u64 0]) (vs := [.int .u64 0, .int .u64 0, .int .u64 0, .int .u64 0, .int .u64 0, .int .u64 0, .int .u64 0, .int .u64 0, .int .u64 0, .int .u64 0, .int .u64 0, .int .u64 0]) (l := [.int .u64 0, .int .u64 0, .int .u64 0, .int .u64 0, .int .u64 0, .int .u64 0, .int .u64 0, .int .u64 0, .int .u64 0, .int .u64 0, .int .u64 0, .int .u64 0]) (T rfl rfl) (T rfl rfl) sz37 rfl rfl rfl H241 rfl ?_)
   intro w242 s243 H244
   have E245 := below_st E19 N14 s243
   refine lw_v (.bool false) (dv_assign C) ?_
   refine lw_nil ?_
   refine rk_ret Try.func38 (v := .tuple #[.agg #[.int .u64 0, .int .u64 0, .int .u64 0, .int .u64 0, .int .u64 0, .int .u64 0, .int .u64 0, .int .u64 0, .int .u64 0, .int .u64 0, .int .u64 0, .int .u64 0], .bool false]) (res2 Try.results38 (rv_cells (l := [.int .u64 0, .int .u64 0, .int .u64 0, .int .u64 0, .int .u64 0, .int .u64 0, .int .u64 0, .int .u64 0, .int .u64 0, .int .u64 0, .int .u64 0, .int .u64 0]) agt37 sz37 rfl rfl H244 rfl) (rv_tmp rfl rfl)) ⟨_, rfl, ?_⟩
   have hS : ¬ (mdS x y u p q r) := by first | (intro hh; exact absurd hh.1 (by assumption)) | (intro hh; exact absurd hh.2.1 (by assumption)) | (intro hh; exact absurd (⟨hh.1, hh.2.1⟩ : _ ∧ _) (by assumption))
   exact ⟨(tu2 (ag12 (vi (wf3 hS)) (vi (wf2 hS)) (vi (wf1 hS)) (vi (wf0 hS)) (vi (wf3 hS)) (vi (wf2 hS)) (vi (wf1 hS)) (vi (wf0 hS)) (vi (wf3 hS)) (vi (wf2 hS)) (vi (wf1 hS)) (vi (wf0 hS))) (vf hS)), E245⟩
set_option maxHeartbeats 1000000 in
theorem lawMiddle_ok {w : World} {x y u p q r : Int} (fx_ : fits x) (fy_ : fits y) (fu_ : fits u) (fp_ : fits p) (fq_ : fits q) (fr_ : fits r)  : Ct Try.prog 9 [.agg #[.int .u64 (wv3 x), .int .u64 (wv2 x), .int .u64 (wv1 x), .int .u64 (wv0 x), .int .u64 (wv3 y), .int .u64 (wv2 y), .int .u64 (wv1 y), .int .u64 (wv0 y), .int .u64 (wv3 u), .int .u64 (wv2 u), .int .u64 (wv1 u), .int .u64 (wv0 u)], .agg #[.int .u64 (wv3 p), .int .u64 (wv2 p), .int .u64 (wv1 p), .int .u64 (wv0 p), .int .u64 (wv3 q), .int .u64 (wv2 q), .int .u64 (wv1 q), .int .u64 (wv0 q), .int .u64 (wv3 r), .int .u64 (wv2 r), .int .u64 (wv1 r), .int .u64 (wv0 r)]] w fun v w1 => v = .bool true ∧ Ext w w1 := by
 refine ct_run (n := 34) Try.func9 rfl Try.ntmps9 rfl ?_
 have E0 : Below w.heap.size w w := Below.refl _ _
 refine rk_seq ?_
 refine rk_reg ?_
 refine lw_e (oe_box (v := .agg #[.int .u64 (wv3 x), .int .u64 (wv2 x), .int .u64 (wv1 x), .int .u64 (wv0 x), .int .u64 (wv3 y), .int .u64 (wv2 y), .int .u64 (wv1 y), .int .u64 (wv0 y), .int .u64 (wv3 u), .int .u64 (wv2 u), .int .u64 (wv1 u), .int .u64 (wv0 u)]) (cs := #[.int .u64 (wv3 x), .int .u64 (wv2 x), .int .u64 (wv1 x), .int .u64 (wv0 x), .int .u64 (wv3 y), .int .u64 (wv2 y), .int .u64 (wv1 y), .int .u64 (wv0 y), .int .u64 (wv3 u), .int .u64 (wv2 u), .int .u64 (wv1 u), .int .u64 (wv0 u)]) (T rfl rfl) rfl ?_)
 intro b1 w2 n3
 have N4 : w.heap.size ≤ b1 := n3.eq ▸ E0.size
 have E5 := below_ext E0 E0.size n3.ext
 refine lw_e (oe_box (v := .agg #[.int .u64 (wv3 p), .int .u64 (wv2 p), .int .u64 (wv1 p), .int .u64 (wv0 p), .int .u64 (wv3 q), .int .u64 (wv2 q), .int .u64 (wv1 q), .int .u64 (wv0 q), .int .u64 (wv3 r), .int .u64 (wv2 r), .int .u64 (wv1 r), .int .u64 (wv0 r)]) (cs := #[.int .u64 (wv3 p), .int .u64 (wv2 p), .int .u64 (wv1 p), .int .u64 (wv0 p), .int .u64 (wv3 q), .int .u64 (wv2 q), .int .u64 (wv1 q), .int .u64 (wv0 q), .int .u64 (wv3 r), .int .u64 (wv2 r), .int .u64 (wv1 r), .int .u64 (wv0 r)]) (T rfl rfl) rfl ?_)
 intro b6 w7 n8
 have N9 : w.heap.size ≤ b6 := n8.eq ▸ E5.size
 have : b1 < b6 := n8.eq ▸ lt_of_blk n3.blk
 have E10 := below_ext E5 E5.size n8.ext
 refine lw_v (.bool false) (dv_assign C) ?_
 refine lw_nil ?_
 refine rk_seq ?_
 have H11 := (n8.ext.blk n3.blk)
 have : b1 < w7.heap.size := lt_of_blk H11
 have : b6 < w7.heap.size := lt_of_blk n8.blk
 have : w.heap.size ≤ w7.heap.size := E10.size
 refine rk_par2 [fun vq wq_ => vq = .agg #[.int .u64 (wv3 x), .int .u64 (wv2 x), .int .u64 (wv1 x), .int .u64 (wv0 x), .int .u64 (wv3 y), .int .u64 (wv2 y), .int .u64 (wv1 y), .int .u64 (wv0 y), .int .u64 (wv3 u), .int .u64 (wv2 u), .int .u64 (wv1 u), .int .u64 (wv0 u)], fun vq wq_ => vq = .agg #[.int .u64 (wv3 x), .int .u64 (wv2 x), .int .u64 (wv1 x), .int .u64 (wv0 x), .int .u64 (wv3 y), .int .u64 (wv2 y), .int .u64 (wv1 y), .int .u64 (wv0 y), .int .u64 (wv3 u), .int .u64 (wv2 u), .int .u64 (wv1 u), .int .u64 (wv0 u)], fun vq wq_ => vq = .agg #[.int .u64 (wv3 p), .int .u64 (wv2 p), .int .u64 (wv1 p), .int .u64 (wv0 p), .int .u64 (wv3 q), .int .u64 (wv2 q), .int .u64 (wv1 q), .int .u64 (wv0 q), .int .u64 (wv3 r), .int .u64 (wv2 r), .int .u64 (wv1 r), .int .u64 (wv0 r)], fun vq wq_ => vq = .agg #[.int .u64 (wv3 p), .int .u64 (wv2 p), .int .u64 (wv1 p), .int .u64 (wv0 p), .int .u64 (wv3 q), .int .u64 (wv2 q), .int .u64 (wv1 q), .int .u64 (wv0 q), .int .u64 (wv3 r), .int .u64 (wv2 r), .int .u64 (wv1 r), .int .u64 (wv0 r)], fun vq wq_ => vq = .tuple #[.agg #[.int .u64 (wv3 (mdX x y u p q r)), .int .u64 (wv2 (mdX x y u p q r)), .int .u64 (wv1 (mdX x y u p q r)), .int .u64 (wv0 (mdX x y u p q r)), .int .u64 (wv3 (mdY x y u p q r)), .int .u64 (wv2 (mdY x y u p q r)), .int .u64 (wv1 (mdY x y u p q r)), .int .u64 (wv0 (mdY x y u p q r)), .int .u64 (wv3 (mdW x y u p q r)), .int .u64 (wv2 (mdW x y u p q r)), .int .u64 (wv1 (mdW x y u p q r)), .int .u64 (wv0 (mdW x y u p q r))], .bool (decide (mdS x y u p q r))], fun vq wq_ => vq = .tuple #[.agg #[.int .u64 (wv3 (mdX x y u p q r)), .int .u64 (wv2 (mdX x y u p q r)), .int .u64 (wv1 (mdX x y u p q r)), .int .u64 (wv0 (mdX x y u p q r)), .int .u64 (wv3 (mdY x y u p q r)), .int .u64 (wv2 (mdY x y u p q r)), .int .u64 (wv1 (mdY x y u p q r)), .int .u64 (wv0 (mdY x y u p q r)), .int .u64 (wv3 (mdW x y u p q r)), .int .u64 (wv2 (mdW x y u p q r)), .int .u64 (wv1 (mdW x y u p q r)), .int .u64 (wv0 (mdW x y u p q r))], .bool (decide (mdS x y u p q r))], fun vq wq_ => vq = .agg #[.int .u64 (wv3 (mdX x y u p q r)), .int .u64 (wv2 (mdX x y u p q r)), .int .u64 (wv1 (mdX x y u p q r)), .int .u64 (wv0 (mdX x y u p q r)), .int .u64 (wv3 (mdY x y u p q r)), .int .u64 (wv2 (mdY x y u p q r)), .int .u64 (wv1 (mdY x y u p q r)), .int .u64 (wv0 (mdY x y u p q r)), .int .u64 (wv3 (mdW x y u p q r)), .int .u64 (wv2 (mdW x y u p q r)), .int .u64 (wv1 (mdW x y u p q r)), .int .u64 (wv0 (mdW x y u p q r))], fun vq wq_ => vq = .bool (decide (mdS x y u p q r)), fun _ _ => True, fun _ _ => True, fun vq wq_ => vq = .bool (decide (mdS x y u p q r))] [⟨8, 9, 6, 37, #[.int .u64 0, .int .u64 0, .int .u64 0, .int .u64 0, .int .u64 0, .int .u64 0, .int .u64 0, .int .u64 0, .int .u64 0, .int .u64 0, .int .u64 0, .int .u64 0]⟩] [37] mo (by kernel_rfl) (by kernel_rfl) ?_ ?_ ?_ ?_ ?_
 · intro e he e2 he2 h; simp only [List.mem_cons, List.not_mem_nil, or_false] at he he2; rcases he with rfl <;> rcases he2 with rfl <;> first | rfl | exact absurd h (by decide)
 · exact ⟨⟨fun v w w2 e h => h, fun v w w2 b cs T fz s hb hT h => h⟩, ⟨fun v w w2 e h => h, fun v w w2 b cs T fz s hb hT h => h⟩, ⟨fun v w w2 e h => h, fun v w w2 b cs T fz s hb hT h => h⟩, ⟨fun v w w2 e h => h, fun v w w2 b cs T fz s hb hT h => h⟩, ⟨fun v w w2 e h => h, fun v w w2 b cs T fz s hb hT h => h⟩, ⟨fun v w w2 e h => h, fun v w w2 b cs T fz s hb hT h => h⟩, ⟨fun v w w2 e h => h, fun v w w2 b cs T fz s hb hT h => h⟩, ⟨fun v w w2 e h => h, fun v w w2 b cs T fz s hb hT h => h⟩, ⟨fun v w w2 e h => h, fun v w w2 b cs T fz s hb hT h => h⟩, ⟨fun v w w2 e h => h, fun v w w2 b cs T fz s hb hT h => h⟩, ⟨fun v w w2 e h => h, fun v w w2 b cs T fz s hb hT h => h⟩, trivial⟩
 · refine ⟨?_, ?_, ?_, ?_, ?_, ?_, ?_, ?_, ?_, ?_, ?_, trivial⟩
   · refine .inr ⟨by kernel_rfl, ?_⟩
     intro fr13 w12 e14 hF15 hD16
     have E17 := below_ext E10 E10.size e14
     have H18 := (e14.blk H11)
     exact DV.oe (dv_loads (l := [.int .u64 (wv3 x), .int .u64 (wv2 x), .int .u64 (wv1 x), .int .u64 (wv0 x), .int .u64 (wv3 y), .int .u64 (wv2 y), .int .u64 (wv1 y), .int .u64 (wv0 y), .int .u64 (wv3 u), .int .u64 (wv2 u), .int .u64 (wv1 u), .int .u64 (wv0 u)]) agt33 sz33 (T rfl (hF15 2 (by kernel_rfl))) H18 rfl) ⟨Below.refl _ _, rfl⟩
   · refine .inr ⟨by kernel_rfl, ?_⟩
     intro fr20 w19 e21 hF22 hD23
     have E24 := below_ext E10 E10.size e21
     have hv25 : fr20 10 = .agg #[.int .u64 (wv3 x), .int .u64 (wv2 x), .int .u64 (wv1 x), .int .u64 (wv0 x), .int .u64 (wv3 y), .int .u64 (wv2 y), .int .u64 (wv1 y), .int .u64 (wv0 y), .int .u64 (wv3 u), .int .u64 (wv2 u), .int .u64 (wv1 u), .int .u64 (wv0 u)] := hD23 0 _ (by kernel_rfl) rfl (by kernel_rfl)
     refine id (oe_callf (vs := [.agg #[.int .u64 (wv3 x), .int .u64 (wv2 x), .int .u64 (wv1 x), .int .u64 (wv0 x), .int .u64 (wv3 y), .int .u64 (wv2 y), .int .u64 (wv1 y), .int .u64 (wv0 y), .int .u64 (wv3 u), .int .u64 (wv2 u), .int .u64 (wv1 u), .int .u64 (wv0 u)]]) co21 (ar1 (T rfl hv25)) (toPoint_ok (x := x) (y := y) (u := u)  ) ?_)
     rintro _ w26 ⟨rfl, e27⟩
     have E28 := below_ext E24 E24.size e27
     exact ⟨e27, rfl⟩
   · refine .inr ⟨by kernel_rfl, ?_⟩
     intro fr30 w29 e31 hF32 hD33
     have E34 := below_ext E10 E10.size e31
     have H35 := (e31.blk n8.blk)
     exact DV.oe (dv_loads (l := [.int .u64 (wv3 p), .int .u64 (wv2 p), .int .u64 (wv1 p), .int .u64 (wv0 p), .int .u64 (wv3 q), .int .u64 (wv2 q), .int .u64 (wv1 q), .int .u64 (wv0 q), .int .u64 (wv3 r), .int .u64 (wv2 r), .int .u64 (wv1 r), .int .u64 (wv0 r)]) agt33 sz33 (T rfl (hF32 3 (by kernel_rfl))) H35 rfl) ⟨Below.refl _ _, rfl⟩
   · refine .inr ⟨by kernel_rfl, ?_⟩
     intro fr37 w36 e38 hF39 hD40
     have E41 := below_ext E10 E10.size e38
     have hv42 : fr37 12 = .agg #[.int .u64 (wv3 p), .int .u64 (wv2 p), .int .u64 (wv1 p), .int .u64 (wv0 p), .int .u64 (wv3 q), .int .u64 (wv2 q), .int .u64 (wv1 q), .int .u64 (wv0 q), .int .u64 (wv3 r), .int .u64 (wv2 r), .int .u64 (wv1 r), .int .u64 (wv0 r)] := hD40 2 _ (by kernel_rfl) rfl (by kernel_rfl)
     refine id (oe_callf (vs := [.agg #[.int .u64 (wv3 p), .int .u64 (wv2 p), .int .u64 (wv1 p), .int .u64 (wv0 p), .int .u64 (wv3 q), .int .u64 (wv2 q), .int .u64 (wv1 q), .int .u64 (wv0 q), .int .u64 (wv3 r), .int .u64 (wv2 r), .int .u64 (wv1 r), .int .u64 (wv0 r)]]) co21 (ar1 (T rfl hv42)) (toPoint_ok (x := p) (y := q) (u := r)  ) ?_)
     rintro _ w43 ⟨rfl, e44⟩
     have E45 := below_ext E41 E41.size e44
     exact ⟨e44, rfl⟩
   · refine .inr ⟨by kernel_rfl, ?_⟩
     intro fr47 w46 e48 hF49 hD50
     have E51 := below_ext E10 E10.size e48
     have hv52 : fr47 11 = .agg #[.int .u64 (wv3 x), .int .u64 (wv2 x), .int .u64 (wv1 x), .int .u64 (wv0 x), .int .u64 (wv3 y), .int .u64 (wv2 y), .int .u64 (wv1 y), .int .u64 (wv0 y), .int .u64 (wv3 u), .int .u64 (wv2 u), .int .u64 (wv1 u), .int .u64 (wv0 u)] := hD50 1 _ (by kernel_rfl) rfl (by kernel_rfl)
     have hv53 : fr47 13 = .agg #[.int .u64 (wv3 p), .int .u64 (wv2 p), .int .u64 (wv1 p), .int .u64 (wv0 p), .int .u64 (wv3 q), .int .u64 (wv2 q), .int .u64 (wv1 q), .int .u64 (wv0 q), .int .u64 (wv3 r), .int .u64 (wv2 r), .int .u64 (wv1 r), .int .u64 (wv0 r)] := hD50 3 _ (by kernel_rfl) rfl (by kernel_rfl)
     refine id (oe_callf (vs := [.agg #[.int .u64 (wv3 x), .int .u64 (wv2 x), .int .u64 (wv1 x), .int .u64 (wv0 x), .int .u64 (wv3 y), .int .u64 (wv2 y), .int .u64 (wv1 y), .int .u64 (wv0 y), .int .u64 (wv3 u), .int .u64 (wv2 u), .int .u64 (wv1 u), .int .u64 (wv0 u)], .agg #[.int .u64 (wv3 p), .int .u64 (wv2 p), .int .u64 (wv1 p), .int .u64 (wv0 p), .int .u64 (wv3 q), .int .u64 (wv2 q), .int .u64 (wv1 q), .int .u64 (wv0 q), .int .u64 (wv3 r), .int .u64 (wv2 r), .int .u64 (wv1 r), .int .u64 (wv0 r)]]) co38 (ar2 (T rfl hv52) (T rfl hv53)) (sMiddle_ok (x := x) (y := y) (u := u) (p := p) (q := q) (r := r) fx_ fy_ fu_ fp_ fq_ fr_ ) ?_)
     rintro _ w54 ⟨rfl, e55⟩
     have E56 := below_ext E51 E51.size e55
     exact ⟨e55, rfl⟩
   · refine .inr ⟨by kernel_rfl, ?_⟩
     intro fr58 w57 e59 hF60 hD61
     have E62 := below_ext E10 E10.size e59
     have hv63 : fr58 14 = .tuple #[.agg #[.int .u64 (wv3 (mdX x y u p q r)), .int .u64 (wv2 (mdX x y u p q r)), .int .u64 (wv1 (mdX x y u p q r)), .int .u64 (wv0 (mdX x y u p q r)), .int .u64 (wv3 (mdY x y u p q r)), .int .u64 (wv2 (mdY x y u p q r)), .int .u64 (wv1 (mdY x y u p q r)), .int .u64 (wv0 (mdY x y u p q r)), .int .u64 (wv3 (mdW x y u p q r)), .int .u64 (wv2 (mdW x y u p q r)), .int .u64 (wv1 (mdW x y u p q r)), .int .u64 (wv0 (mdW x y u p q r))], .bool (decide (mdS x y u p q r))] := hD61 4 _ (by kernel_rfl) rfl (by kernel_rfl)
     exact DV.oe (dv_move (T rfl hv63)) ⟨Below.refl _ _, rfl⟩
   · refine .inr ⟨by kernel_rfl, ?_⟩
     intro fr65 w64 e66 hF67 hD68
     have E69 := below_ext E10 E10.size e66
     have hv70 : fr65 9 = .tuple #[.agg #[.int .u64 (wv3 (mdX x y u p q r)), .int .u64 (wv2 (mdX x y u p q r)), .int .u64 (wv1 (mdX x y u p q r)), .int .u64 (wv0 (mdX x y u p q r)), .int .u64 (wv3 (mdY x y u p q r)), .int .u64 (wv2 (mdY x y u p q r)), .int .u64 (wv1 (mdY x y u p q r)), .int .u64 (wv0 (mdY x y u p q r)), .int .u64 (wv3 (mdW x y u p q r)), .int .u64 (wv2 (mdW x y u p q r)), .int .u64 (wv1 (mdW x y u p q r)), .int .u64 (wv0 (mdW x y u p q r))], .bool (decide (mdS x y u p q r))] := hD68 5 _ (by kernel_rfl) rfl (by kernel_rfl)
     exact DV.oe (dv_extract (vs := #[.agg #[.int .u64 (wv3 (mdX x y u p q r)), .int .u64 (wv2 (mdX x y u p q r)), .int .u64 (wv1 (mdX x y u p q r)), .int .u64 (wv0 (mdX x y u p q r)), .int .u64 (wv3 (mdY x y u p q r)), .int .u64 (wv2 (mdY x y u p q r)), .int .u64 (wv1 (mdY x y u p q r)), .int .u64 (wv0 (mdY x y u p q r)), .int .u64 (wv3 (mdW x y u p q r)), .int .u64 (wv2 (mdW x y u p q r)), .int .u64 (wv1 (mdW x y u p q r)), .int .u64 (wv0 (mdW x y u p q r))], .bool (decide (mdS x y u p q r))]) (T rfl hv70) rfl) ⟨Below.refl _ _, rfl⟩
   · refine .inr ⟨by kernel_rfl, ?_⟩
     intro fr72 w71 e73 hF74 hD75
     have E76 := below_ext E10 E10.size e73
     have hv77 : fr72 9 = .tuple #[.agg #[.int .u64 (wv3 (mdX x y u p q r)), .int .u64 (wv2 (mdX x y u p q r)), .int .u64 (wv1 (mdX x y u p q r)), .int .u64 (wv0 (mdX x y u p q r)), .int .u64 (wv3 (mdY x y u p q r)), .int .u64 (wv2 (mdY x y u p q r)), .int .u64 (wv1 (mdY x y u p q r)), .int .u64 (wv0 (mdY x y u p q r)), .int .u64 (wv3 (mdW x y u p q r)), .int .u64 (wv2 (mdW x y u p q r)), .int .u64 (wv1 (mdW x y u p q r)), .int .u64 (wv0 (mdW x y u p q r))], .bool (decide (mdS x y u p q r))] := hD75 5 _ (by kernel_rfl) rfl (by kernel_rfl)
     exact DV.oe (dv_extract (vs := #[.agg #[.int .u64 (wv3 (mdX x y u p q r)), .int .u64 (wv2 (mdX x y u p q r)), .int .u64 (wv1 (mdX x y u p q r)), .int .u64 (wv0 (mdX x y u p q r)), .int .u64 (wv3 (mdY x y u p q r)), .int .u64 (wv2 (mdY x y u p q r)), .int .u64 (wv1 (mdY x y u p q r)), .int .u64 (wv0 (mdY x y u p q r)), .int .u64 (wv3 (mdW x y u p q r)), .int .u64 (wv2 (mdW x y u p q r)), .int .u64 (wv1 (mdW x y u p q r)), .int .u64 (wv0 (mdW x y u p q r))], .bool (decide (mdS x y u p q r))]) (T rfl hv77) rfl) ⟨Below.refl _ _, rfl⟩
   · exact .inl (.inr ⟨by kernel_rfl, fun _ _ => trivial⟩)
   · exact .inl (.inl (by kernel_rfl))
   · refine .inr ⟨by kernel_rfl, ?_⟩
     intro fr93 w92 e94 hF95 hD96
     have E97 := below_ext E10 E10.size e94
     have hv98 : fr93 16 = .bool (decide (mdS x y u p q r)) := hD96 7 _ (by kernel_rfl) rfl (by kernel_rfl)
     exact DV.oe (dv_assign (T rfl hv98)) ⟨Below.refl _ _, rfl⟩
 · refine ⟨⟨⟨_, rfl, fun _ _ => oe_alloc ze37 fun b w hn => ⟨b, rfl, hn⟩⟩, ⟨_, rfl, ?_⟩⟩, trivial⟩
   · intro fr79 w78 b83 e80 hF81 hD82 hA84 hB85
     have E86 := below_ext E10 E10.size e80
     have hv87 : fr79 15 = .agg #[.int .u64 (wv3 (mdX x y u p q r)), .int .u64 (wv2 (mdX x y u p q r)), .int .u64 (wv1 (mdX x y u p q r)), .int .u64 (wv0 (mdX x y u p q r)), .int .u64 (wv3 (mdY x y u p q r)), .int .u64 (wv2 (mdY x y u p q r)), .int .u64 (wv1 (mdY x y u p q r)), .int .u64 (wv0 (mdY x y u p q r)), .int .u64 (wv3 (mdW x y u p q r)), .int .u64 (wv2 (mdW x y u p q r)), .int .u64 (wv1 (mdW x y u p q r)), .int .u64 (wv0 (mdW x y u p q r))] := hD82 6 _ (by kernel_rfl) rfl (by kernel_rfl)
     refine id (oe_store (v := .agg #[.int .u64 (wv3 (mdX x y u p q r)), .int .u64 (wv2 (mdX x y u p q r)), .int .u64 (wv1 (mdX x y u p q r)), .int .u64 (wv0 (mdX x y u p q r)), .int .u64 (wv3 (mdY x y u p q r)), .int .u64 (wv2 (mdY x y u p q r)), .int .u64 (wv1 (mdY x y u p q r)), .int .u64 (wv0 (mdY x y u p q r)), .int .u64 (wv3 (mdW x y u p q r)), .int .u64 (wv2 (mdW x y u p q r)), .int .u64 (wv1 (mdW x y u p q r)), .int .u64 (wv0 (mdW x y u p q r))]) (vs := [.int .u64 (wv3 (mdX x y u p q r)), .int .u64 (wv2 (mdX x y u p q r)), .int .u64 (wv1 (mdX x y u p q r)), .int .u64 (wv0 (mdX x y u p q r)), .int .u64 (wv3 (mdY x y u p q r)), .int .u64 (wv2 (mdY x y u p q r)), .int .u64 (wv1 (mdY x y u p q r)), .int .u64 (wv0 (mdY x y u p q r)), .int .u64 (wv3 (mdW x y u p q r)), .int .u64 (wv2 (mdW x y u p q r)), .int .u64 (wv1 (mdW x y u p q r)), .int .u64 (wv0 (mdW x y u p q r))]) (l := [.int .u64 (wv3 (mdX x y u p q r)), .int .u64 (wv2 (mdX x y u p q r)), .int .u64 (wv1 (mdX x y u p q r)), .int .u64 (wv0 (mdX x y u p q r)), .int .u64 (wv3 (mdY x y u p q r)), .int .u64 (wv2 (mdY x y u p q r)), .int .u64 (wv1 (mdY x y u p q r)), .int .u64 (wv0 (mdY x y u p q r)), .int .u64 (wv3 (mdW x y u p q r)), .int .u64 (wv2 (mdW x y u p q r)), .int .u64 (wv1 (mdW x y u p q r)), .int .u64 (wv0 (mdW x y u p q r))]) (T rfl hA84) (T rfl hv87) sz37 rfl rfl rfl hB85 rfl ?_)
     intro w88 s89 H90
     exact ⟨s89, H90.trans (congrArg (fun v : Value => some (Obj.cells v.cells 37)) (show fr79 15 = _ from hv87).symm)⟩
 intro fr100 w99 e101 hF102 hP103 hM104 hN105
 have E106 := below_ext E10 E10.size e101
 obtain ⟨_, _, _, _, _, _, p107, _, _, _, p108, _⟩ := hP103
 have hv109 : fr100 15 = .agg #[.int .u64 (wv3 (mdX x y u p q r)), .int .u64 (wv2 (mdX x y u p q r)), .int .u64 (wv1 (mdX x y u p q r)), .int .u64 (wv0 (mdX x y u p q r)), .int .u64 (wv3 (mdY x y u p q r)), .int .u64 (wv2 (mdY x y u p q r)), .int .u64 (wv1 (mdY x y u p q r)), .int .u64 (wv0 (mdY x y u p q r)), .int .u64 (wv3 (mdW x y u p q r)), .int .u64 (wv2 (mdW x y u p q r)), .int .u64 (wv1 (mdW x y u p q r)), .int .u64 (wv0 (mdW x y u p q r))] := p107.resolve_left (nst (by kernel_rfl))
 have hv110 : fr100 6 = .bool (decide (mdS x y u p q r)) := p108.resolve_left (nst (by kernel_rfl))
 obtain ⟨⟨b111, hA112, hB113, hC114⟩, _⟩ := hM104
 have H115 : w99.heap[b111]? = some (.cells #[.int .u64 (wv3 (mdX x y u p q r)), .int .u64 (wv2 (mdX x y u p q r)), .int .u64 (wv1 (mdX x y u p q r)), .int .u64 (wv0 (mdX x y u p q r)), .int .u64 (wv3 (mdY x y u p q r)), .int .u64 (wv2 (mdY x y u p q r)), .int .u64 (wv1 (mdY x y u p q r)), .int .u64 (wv0 (mdY x y u p q r)), .int .u64 (wv3 (mdW x y u p q r)), .int .u64 (wv2 (mdW x y u p q r)), .int .u64 (wv1 (mdW x y u p q r)), .int .u64 (wv0 (mdW x y u p q r))] 37) := hC114.trans (congrArg (fun v : Value => some (Obj.cells v.cells 37)) hv109)
 have N116 : w.heap.size ≤ b111 := by omega
 refine rk_seq ?_
 have H117 := (e101.blk H11)
 have : b1 < w99.heap.size := lt_of_blk H117
 have H118 := (e101.blk n8.blk)
 have : b6 < w99.heap.size := lt_of_blk H118
 have : b111 < w99.heap.size := lt_of_blk H115
 have : w.heap.size ≤ w99.heap.size := E106.size
 refine rk_par2 [fun vq wq_ => vq = .agg #[.int .u64 (wv3 x), .int .u64 (wv2 x), .int .u64 (wv1 x), .int .u64 (wv0 x), .int .u64 (wv3 y), .int .u64 (wv2 y), .int .u64 (wv1 y), .int .u64 (wv0 y), .int .u64 (wv3 u), .int .u64 (wv2 u), .int .u64 (wv1 u), .int .u64 (wv0 u)], fun vq wq_ => vq = .agg #[.int .u64 (wv3 x), .int .u64 (wv2 x), .int .u64 (wv1 x), .int .u64 (wv0 x), .int .u64 (wv3 y), .int .u64 (wv2 y), .int .u64 (wv1 y), .int .u64 (wv0 y), .int .u64 (wv3 u), .int .u64 (wv2 u), .int .u64 (wv1 u), .int .u64 (wv0 u)], fun vq wq_ => vq = .agg #[.int .u64 (wv3 p), .int .u64 (wv2 p), .int .u64 (wv1 p), .int .u64 (wv0 p), .int .u64 (wv3 q), .int .u64 (wv2 q), .int .u64 (wv1 q), .int .u64 (wv0 q), .int .u64 (wv3 r), .int .u64 (wv2 r), .int .u64 (wv1 r), .int .u64 (wv0 r)], fun vq wq_ => vq = .agg #[.int .u64 (wv3 p), .int .u64 (wv2 p), .int .u64 (wv1 p), .int .u64 (wv0 p), .int .u64 (wv3 q), .int .u64 (wv2 q), .int .u64 (wv1 q), .int .u64 (wv0 q), .int .u64 (wv3 r), .int .u64 (wv2 r), .int .u64 (wv1 r), .int .u64 (wv0 r)], fun vq wq_ => vq = .tuple #[.agg #[.int .u64 (wv3 (mdX x y u p q r)), .int .u64 (wv2 (mdX x y u p q r)), .int .u64 (wv1 (mdX x y u p q r)), .int .u64 (wv0 (mdX x y u p q r)), .int .u64 (wv3 (mdY x y u p q r)), .int .u64 (wv2 (mdY x y u p q r)), .int .u64 (wv1 (mdY x y u p q r)), .int .u64 (wv0 (mdY x y u p q r)), .int .u64 (wv3 (mdW x y u p q r)), .int .u64 (wv2 (mdW x y u p q r)), .int .u64 (wv1 (mdW x y u p q r)), .int .u64 (wv0 (mdW x y u p q r))], .bool (decide (mdS x y u p q r))], fun vq wq_ => vq = .tuple #[.agg #[.int .u64 (wv3 (mdX x y u p q r)), .int .u64 (wv2 (mdX x y u p q r)), .int .u64 (wv1 (mdX x y u p q r)), .int .u64 (wv0 (mdX x y u p q r)), .int .u64 (wv3 (mdY x y u p q r)), .int .u64 (wv2 (mdY x y u p q r)), .int .u64 (wv1 (mdY x y u p q r)), .int .u64 (wv0 (mdY x y u p q r)), .int .u64 (wv3 (mdW x y u p q r)), .int .u64 (wv2 (mdW x y u p q r)), .int .u64 (wv1 (mdW x y u p q r)), .int .u64 (wv0 (mdW x y u p q r))], .bool (decide (mdS x y u p q r))], fun vq wq_ => vq = .agg #[.int .u64 (wv3 (mdX x y u p q r)), .int .u64 (wv2 (mdX x y u p q r)), .int .u64 (wv1 (mdX x y u p q r)), .int .u64 (wv0 (mdX x y u p q r)), .int .u64 (wv3 (mdY x y u p q r)), .int .u64 (wv2 (mdY x y u p q r)), .int .u64 (wv1 (mdY x y u p q r)), .int .u64 (wv0 (mdY x y u p q r)), .int .u64 (wv3 (mdW x y u p q r)), .int .u64 (wv2 (mdW x y u p q r)), .int .u64 (wv1 (mdW x y u p q r)), .int .u64 (wv0 (mdW x y u p q r))], fun vq wq_ => vq = .bool (decide (mdS x y u p q r)), fun _ _ => True, fun _ _ => True, fun vq wq_ => vq = .bool (decide (mdS x y u p q r))] [⟨8, 9, 6, 37, #[.int .u64 0, .int .u64 0, .int .u64 0, .int .u64 0, .int .u64 0, .int .u64 0, .int .u64 0, .int .u64 0, .int .u64 0, .int .u64 0, .int .u64 0, .int .u64 0]⟩] [37] mo (by kernel_rfl) (by kernel_rfl) ?_ ?_ ?_ ?_ ?_
 · intro e he e2 he2 h; simp only [List.mem_cons, List.not_mem_nil, or_false] at he he2; rcases he with rfl <;> rcases he2 with rfl <;> first | rfl | exact absurd h (by decide)
 · exact ⟨⟨fun v w w2 e h => h, fun v w w2 b cs T fz s hb hT h => h⟩, ⟨fun v w w2 e h => h, fun v w w2 b cs T fz s hb hT h => h⟩, ⟨fun v w w2 e h => h, fun v w w2 b cs T fz s hb hT h => h⟩, ⟨fun v w w2 e h => h, fun v w w2 b cs T fz s hb hT h => h⟩, ⟨fun v w w2 e h => h, fun v w w2 b cs T fz s hb hT h => h⟩, ⟨fun v w w2 e h => h, fun v w w2 b cs T fz s hb hT h => h⟩, ⟨fun v w w2 e h => h, fun v w w2 b cs T fz s hb hT h => h⟩, ⟨fun v w w2 e h => h, fun v w w2 b cs T fz s hb hT h => h⟩, ⟨fun v w w2 e h => h, fun v w w2 b cs T fz s hb hT h => h⟩, ⟨fun v w w2 e h => h, fun v w w2 b cs T fz s hb hT h => h⟩, ⟨fun v w w2 e h => h, fun v w w2 b cs T fz s hb hT h => h⟩, trivial⟩
 · refine ⟨?_, ?_, ?_, ?_, ?_, ?_, ?_, ?_, ?_, ?_, ?_, trivial⟩
   · refine .inr ⟨by kernel_rfl, ?_⟩
     intro fr120 w119 e121 hF122 hD123
     have E124 := below_ext E106 E106.size e121
     have H125 := (e121.blk H117)
     exact DV.oe (dv_loads (l := [.int .u64 (wv3 x), .int .u64 (wv2 x), .int .u64 (wv1 x), .int .u64 (wv0 x), .int .u64 (wv3 y), .int .u64 (wv2 y), .int .u64 (wv1 y), .int .u64 (wv0 y), .int .u64 (wv3 u), .int .u64 (wv2 u), .int .u64 (wv1 u), .int .u64 (wv0 u)]) agt33 sz33 (T rfl ((hF122 2 (by kernel_rfl)).trans (hF102 2 rfl))) H125 rfl) ⟨Below.refl _ _, rfl⟩
   · refine .inr ⟨by kernel_rfl, ?_⟩
     intro fr127 w126 e128 hF129 hD130
     have E131 := below_ext E106 E106.size e128
     have hv132 : fr127 18 = .agg #[.int .u64 (wv3 x), .int .u64 (wv2 x), .int .u64 (wv1 x), .int .u64 (wv0 x), .int .u64 (wv3 y), .int .u64 (wv2 y), .int .u64 (wv1 y), .int .u64 (wv0 y), .int .u64 (wv3 u), .int .u64 (wv2 u), .int .u64 (wv1 u), .int .u64 (wv0 u)] := hD130 0 _ (by kernel_rfl) rfl (by kernel_rfl)
     refine id (oe_callf (vs := [.agg #[.int .u64 (wv3 x), .int .u64 (wv2 x), .int .u64 (wv1 x), .int .u64 (wv0 x), .int .u64 (wv3 y), .int .u64 (wv2 y), .int .u64 (wv1 y), .int .u64 (wv0 y), .int .u64 (wv3 u), .int .u64 (wv2 u), .int .u64 (wv1 u), .int .u64 (wv0 u)]]) co21 (ar1 (T rfl hv132)) (toPoint_ok (x := x) (y := y) (u := u)  ) ?_)
     rintro _ w133 ⟨rfl, e134⟩
     have E135 := below_ext E131 E131.size e134
     exact ⟨e134, rfl⟩
   · refine .inr ⟨by kernel_rfl, ?_⟩
     intro fr137 w136 e138 hF139 hD140
     have E141 := below_ext E106 E106.size e138
     have H142 := (e138.blk H118)
     exact DV.oe (dv_loads (l := [.int .u64 (wv3 p), .int .u64 (wv2 p), .int .u64 (wv1 p), .int .u64 (wv0 p), .int .u64 (wv3 q), .int .u64 (wv2 q), .int .u64 (wv1 q), .int .u64 (wv0 q), .int .u64 (wv3 r), .int .u64 (wv2 r), .int .u64 (wv1 r), .int .u64 (wv0 r)]) agt33 sz33 (T rfl ((hF139 3 (by kernel_rfl)).trans (hF102 3 rfl))) H142 rfl) ⟨Below.refl _ _, rfl⟩
   · refine .inr ⟨by kernel_rfl, ?_⟩
     intro fr144 w143 e145 hF146 hD147
     have E148 := below_ext E106 E106.size e145
     have hv149 : fr144 20 = .agg #[.int .u64 (wv3 p), .int .u64 (wv2 p), .int .u64 (wv1 p), .int .u64 (wv0 p), .int .u64 (wv3 q), .int .u64 (wv2 q), .int .u64 (wv1 q), .int .u64 (wv0 q), .int .u64 (wv3 r), .int .u64 (wv2 r), .int .u64 (wv1 r), .int .u64 (wv0 r)] := hD147 2 _ (by kernel_rfl) rfl (by kernel_rfl)
     refine id (oe_callf (vs := [.agg #[.int .u64 (wv3 p), .int .u64 (wv2 p), .int .u64 (wv1 p), .int .u64 (wv0 p), .int .u64 (wv3 q), .int .u64 (wv2 q), .int .u64 (wv1 q), .int .u64 (wv0 q), .int .u64 (wv3 r), .int .u64 (wv2 r), .int .u64 (wv1 r), .int .u64 (wv0 r)]]) co21 (ar1 (T rfl hv149)) (toPoint_ok (x := p) (y := q) (u := r)  ) ?_)
     rintro _ w150 ⟨rfl, e151⟩
     have E152 := below_ext E148 E148.size e151
     exact ⟨e151, rfl⟩
   · refine .inr ⟨by kernel_rfl, ?_⟩
     intro fr154 w153 e155 hF156 hD157
     have E158 := below_ext E106 E106.size e155
     have hv159 : fr154 19 = .agg #[.int .u64 (wv3 x), .int .u64 (wv2 x), .int .u64 (wv1 x), .int .u64 (wv0 x), .int .u64 (wv3 y), .int .u64 (wv2 y), .int .u64 (wv1 y), .int .u64 (wv0 y), .int .u64 (wv3 u), .int .u64 (wv2 u), .int .u64 (wv1 u), .int .u64 (wv0 u)] := hD157 1 _ (by kernel_rfl) rfl (by kernel_rfl)
     have hv160 : fr154 21 = .agg #[.int .u64 (wv3 p), .int .u64 (wv2 p), .int .u64 (wv1 p), .int .u64 (wv0 p), .int .u64 (wv3 q), .int .u64 (wv2 q), .int .u64 (wv1 q), .int .u64 (wv0 q), .int .u64 (wv3 r), .int .u64 (wv2 r), .int .u64 (wv1 r), .int .u64 (wv0 r)] := hD157 3 _ (by kernel_rfl) rfl (by kernel_rfl)
     refine id (oe_callf (vs := [.agg #[.int .u64 (wv3 x), .int .u64 (wv2 x), .int .u64 (wv1 x), .int .u64 (wv0 x), .int .u64 (wv3 y), .int .u64 (wv2 y), .int .u64 (wv1 y), .int .u64 (wv0 y), .int .u64 (wv3 u), .int .u64 (wv2 u), .int .u64 (wv1 u), .int .u64 (wv0 u)], .agg #[.int .u64 (wv3 p), .int .u64 (wv2 p), .int .u64 (wv1 p), .int .u64 (wv0 p), .int .u64 (wv3 q), .int .u64 (wv2 q), .int .u64 (wv1 q), .int .u64 (wv0 q), .int .u64 (wv3 r), .int .u64 (wv2 r), .int .u64 (wv1 r), .int .u64 (wv0 r)]]) co39 (ar2 (T rfl hv159) (T rfl hv160)) (iMiddle_ok (x := x) (y := y) (u := u) (p := p) (q := q) (r := r) fx_ fy_ fu_ fp_ fq_ fr_ ) ?_)
     rintro _ w161 ⟨rfl, e162⟩
     have E163 := below_ext E158 E158.size e162
     exact ⟨e162, rfl⟩
   · refine .inr ⟨by kernel_rfl, ?_⟩
     intro fr165 w164 e166 hF167 hD168
     have E169 := below_ext E106 E106.size e166
     have hv170 : fr165 22 = .tuple #[.agg #[.int .u64 (wv3 (mdX x y u p q r)), .int .u64 (wv2 (mdX x y u p q r)), .int .u64 (wv1 (mdX x y u p q r)), .int .u64 (wv0 (mdX x y u p q r)), .int .u64 (wv3 (mdY x y u p q r)), .int .u64 (wv2 (mdY x y u p q r)), .int .u64 (wv1 (mdY x y u p q r)), .int .u64 (wv0 (mdY x y u p q r)), .int .u64 (wv3 (mdW x y u p q r)), .int .u64 (wv2 (mdW x y u p q r)), .int .u64 (wv1 (mdW x y u p q r)), .int .u64 (wv0 (mdW x y u p q r))], .bool (decide (mdS x y u p q r))] := hD168 4 _ (by kernel_rfl) rfl (by kernel_rfl)
     exact DV.oe (dv_move (T rfl hv170)) ⟨Below.refl _ _, rfl⟩
   · refine .inr ⟨by kernel_rfl, ?_⟩
     intro fr172 w171 e173 hF174 hD175
     have E176 := below_ext E106 E106.size e173
     have hv177 : fr172 17 = .tuple #[.agg #[.int .u64 (wv3 (mdX x y u p q r)), .int .u64 (wv2 (mdX x y u p q r)), .int .u64 (wv1 (mdX x y u p q r)), .int .u64 (wv0 (mdX x y u p q r)), .int .u64 (wv3 (mdY x y u p q r)), .int .u64 (wv2 (mdY x y u p q r)), .int .u64 (wv1 (mdY x y u p q r)), .int .u64 (wv0 (mdY x y u p q r)), .int .u64 (wv3 (mdW x y u p q r)), .int .u64 (wv2 (mdW x y u p q r)), .int .u64 (wv1 (mdW x y u p q r)), .int .u64 (wv0 (mdW x y u p q r))], .bool (decide (mdS x y u p q r))] := hD175 5 _ (by kernel_rfl) rfl (by kernel_rfl)
     exact DV.oe (dv_extract (vs := #[.agg #[.int .u64 (wv3 (mdX x y u p q r)), .int .u64 (wv2 (mdX x y u p q r)), .int .u64 (wv1 (mdX x y u p q r)), .int .u64 (wv0 (mdX x y u p q r)), .int .u64 (wv3 (mdY x y u p q r)), .int .u64 (wv2 (mdY x y u p q r)), .int .u64 (wv1 (mdY x y u p q r)), .int .u64 (wv0 (mdY x y u p q r)), .int .u64 (wv3 (mdW x y u p q r)), .int .u64 (wv2 (mdW x y u p q r)), .int .u64 (wv1 (mdW x y u p q r)), .int .u64 (wv0 (mdW x y u p q r))], .bool (decide (mdS x y u p q r))]) (T rfl hv177) rfl) ⟨Below.refl _ _, rfl⟩
   · refine .inr ⟨by kernel_rfl, ?_⟩
     intro fr179 w178 e180 hF181 hD182
     have E183 := below_ext E106 E106.size e180
     have hv184 : fr179 17 = .tuple #[.agg #[.int .u64 (wv3 (mdX x y u p q r)), .int .u64 (wv2 (mdX x y u p q r)), .int .u64 (wv1 (mdX x y u p q r)), .int .u64 (wv0 (mdX x y u p q r)), .int .u64 (wv3 (mdY x y u p q r)), .int .u64 (wv2 (mdY x y u p q r)), .int .u64 (wv1 (mdY x y u p q r)), .int .u64 (wv0 (mdY x y u p q r)), .int .u64 (wv3 (mdW x y u p q r)), .int .u64 (wv2 (mdW x y u p q r)), .int .u64 (wv1 (mdW x y u p q r)), .int .u64 (wv0 (mdW x y u p q r))], .bool (decide (mdS x y u p q r))] := hD182 5 _ (by kernel_rfl) rfl (by kernel_rfl)
     exact DV.oe (dv_extract (vs := #[.agg #[.int .u64 (wv3 (mdX x y u p q r)), .int .u64 (wv2 (mdX x y u p q r)), .int .u64 (wv1 (mdX x y u p q r)), .int .u64 (wv0 (mdX x y u p q r)), .int .u64 (wv3 (mdY x y u p q r)), .int .u64 (wv2 (mdY x y u p q r)), .int .u64 (wv1 (mdY x y u p q r)), .int .u64 (wv0 (mdY x y u p q r)), .int .u64 (wv3 (mdW x y u p q r)), .int .u64 (wv2 (mdW x y u p q r)), .int .u64 (wv1 (mdW x y u p q r)), .int .u64 (wv0 (mdW x y u p q r))], .bool (decide (mdS x y u p q r))]) (T rfl hv184) rfl) ⟨Below.refl _ _, rfl⟩
   · exact .inl (.inr ⟨by kernel_rfl, fun _ _ => trivial⟩)
   · exact .inl (.inl (by kernel_rfl))
   · refine .inr ⟨by kernel_rfl, ?_⟩
     intro fr200 w199 e201 hF202 hD203
     have E204 := below_ext E106 E106.size e201
     have hv205 : fr200 24 = .bool (decide (mdS x y u p q r)) := hD203 7 _ (by kernel_rfl) rfl (by kernel_rfl)
     exact DV.oe (dv_assign (T rfl hv205)) ⟨Below.refl _ _, rfl⟩
 · refine ⟨⟨⟨_, rfl, fun _ _ => oe_alloc ze37 fun b w hn => ⟨b, rfl, hn⟩⟩, ⟨_, rfl, ?_⟩⟩, trivial⟩
   · intro fr186 w185 b190 e187 hF188 hD189 hA191 hB192
     have E193 := below_ext E106 E106.size e187
     have hv194 : fr186 23 = .agg #[.int .u64 (wv3 (mdX x y u p q r)), .int .u64 (wv2 (mdX x y u p q r)), .int .u64 (wv1 (mdX x y u p q r)), .int .u64 (wv0 (mdX x y u p q r)), .int .u64 (wv3 (mdY x y u p q r)), .int .u64 (wv2 (mdY x y u p q r)), .int .u64 (wv1 (mdY x y u p q r)), .int .u64 (wv0 (mdY x y u p q r)), .int .u64 (wv3 (mdW x y u p q r)), .int .u64 (wv2 (mdW x y u p q r)), .int .u64 (wv1 (mdW x y u p q r)), .int .u64 (wv0 (mdW x y u p q r))] := hD189 6 _ (by kernel_rfl) rfl (by kernel_rfl)
     refine id (oe_store (v := .agg #[.int .u64 (wv3 (mdX x y u p q r)), .int .u64 (wv2 (mdX x y u p q r)), .int .u64 (wv1 (mdX x y u p q r)), .int .u64 (wv0 (mdX x y u p q r)), .int .u64 (wv3 (mdY x y u p q r)), .int .u64 (wv2 (mdY x y u p q r)), .int .u64 (wv1 (mdY x y u p q r)), .int .u64 (wv0 (mdY x y u p q r)), .int .u64 (wv3 (mdW x y u p q r)), .int .u64 (wv2 (mdW x y u p q r)), .int .u64 (wv1 (mdW x y u p q r)), .int .u64 (wv0 (mdW x y u p q r))]) (vs := [.int .u64 (wv3 (mdX x y u p q r)), .int .u64 (wv2 (mdX x y u p q r)), .int .u64 (wv1 (mdX x y u p q r)), .int .u64 (wv0 (mdX x y u p q r)), .int .u64 (wv3 (mdY x y u p q r)), .int .u64 (wv2 (mdY x y u p q r)), .int .u64 (wv1 (mdY x y u p q r)), .int .u64 (wv0 (mdY x y u p q r)), .int .u64 (wv3 (mdW x y u p q r)), .int .u64 (wv2 (mdW x y u p q r)), .int .u64 (wv1 (mdW x y u p q r)), .int .u64 (wv0 (mdW x y u p q r))]) (l := [.int .u64 (wv3 (mdX x y u p q r)), .int .u64 (wv2 (mdX x y u p q r)), .int .u64 (wv1 (mdX x y u p q r)), .int .u64 (wv0 (mdX x y u p q r)), .int .u64 (wv3 (mdY x y u p q r)), .int .u64 (wv2 (mdY x y u p q r)), .int .u64 (wv1 (mdY x y u p q r)), .int .u64 (wv0 (mdY x y u p q r)), .int .u64 (wv3 (mdW x y u p q r)), .int .u64 (wv2 (mdW x y u p q r)), .int .u64 (wv1 (mdW x y u p q r)), .int .u64 (wv0 (mdW x y u p q r))]) (T rfl hA191) (T rfl hv194) sz37 rfl rfl rfl hB192 rfl ?_)
     intro w195 s196 H197
     exact ⟨s196, H197.trans (congrArg (fun v : Value => some (Obj.cells v.cells 37)) (show fr186 23 = _ from hv194).symm)⟩
 intro fr207 w206 e208 hF209 hP210 hM211 hN212
 have E213 := below_ext E106 E106.size e208
 obtain ⟨_, _, _, _, _, _, p214, _, _, _, p215, _⟩ := hP210
 have hv216 : fr207 23 = .agg #[.int .u64 (wv3 (mdX x y u p q r)), .int .u64 (wv2 (mdX x y u p q r)), .int .u64 (wv1 (mdX x y u p q r)), .int .u64 (wv0 (mdX x y u p q r)), .int .u64 (wv3 (mdY x y u p q r)), .int .u64 (wv2 (mdY x y u p q r)), .int .u64 (wv1 (mdY x y u p q r)), .int .u64 (wv0 (mdY x y u p q r)), .int .u64 (wv3 (mdW x y u p q r)), .int .u64 (wv2 (mdW x y u p q r)), .int .u64 (wv1 (mdW x y u p q r)), .int .u64 (wv0 (mdW x y u p q r))] := p214.resolve_left (nst (by kernel_rfl))
 have hv217 : fr207 8 = .bool (decide (mdS x y u p q r)) := p215.resolve_left (nst (by kernel_rfl))
 obtain ⟨⟨b218, hA219, hB220, hC221⟩, _⟩ := hM211
 have H222 : w206.heap[b218]? = some (.cells #[.int .u64 (wv3 (mdX x y u p q r)), .int .u64 (wv2 (mdX x y u p q r)), .int .u64 (wv1 (mdX x y u p q r)), .int .u64 (wv0 (mdX x y u p q r)), .int .u64 (wv3 (mdY x y u p q r)), .int .u64 (wv2 (mdY x y u p q r)), .int .u64 (wv1 (mdY x y u p q r)), .int .u64 (wv0 (mdY x y u p q r)), .int .u64 (wv3 (mdW x y u p q r)), .int .u64 (wv2 (mdW x y u p q r)), .int .u64 (wv1 (mdW x y u p q r)), .int .u64 (wv0 (mdW x y u p q r))] 37) := hC221.trans (congrArg (fun v : Value => some (Obj.cells v.cells 37)) hv216)
 have N223 : w.heap.size ≤ b218 := by omega
 refine rk_seq ?_
 refine rk_seq ?_
 refine rk_reg ?_
 refine lw_v (.agg #[.int .u64 (wv3 (mdX x y u p q r)), .int .u64 (wv2 (mdX x y u p q r)), .int .u64 (wv1 (mdX x y u p q r)), .int .u64 (wv0 (mdX x y u p q r)), .int .u64 (wv3 (mdY x y u p q r)), .int .u64 (wv2 (mdY x y u p q r)), .int .u64 (wv1 (mdY x y u p q r)), .int .u64 (wv0 (mdY x y u p q r)), .int .u64 (wv3 (mdW x y u p q r)), .int .u64 (wv2 (mdW x y u p q r)), .int .u64 (wv1 (mdW x y u p q r)), .int .u64 (wv0 (mdW x y u p q r))]) (dv_loads (l := [.int .u64 (wv3 (mdX x y u p q r)), .int .u64 (wv2 (mdX x y u p q r)), .int .u64 (wv1 (mdX x y u p q r)), .int .u64 (wv0 (mdX x y u p q r)), .int .u64 (wv3 (mdY x y u p q r)), .int .u64 (wv2 (mdY x y u p q r)), .int .u64 (wv1 (mdY x y u p q r)), .int .u64 (wv0 (mdY x y u p q r)), .int .u64 (wv3 (mdW x y u p q r)), .int .u64 (wv2 (mdW x y u p q r)), .int .u64 (wv1 (mdW x y u p q r)), .int .u64 (wv0 (mdW x y u p q r))]) agt37 sz37 (T rfl hA219) H222 rfl) ?_
 have H224 := (e208.blk H115)
 refine lw_v (.agg #[.int .u64 (wv3 (mdX x y u p q r)), .int .u64 (wv2 (mdX x y u p q r)), .int .u64 (wv1 (mdX x y u p q r)), .int .u64 (wv0 (mdX x y u p q r)), .int .u64 (wv3 (mdY x y u p q r)), .int .u64 (wv2 (mdY x y u p q r)), .int .u64 (wv1 (mdY x y u p q r)), .int .u64 (wv0 (mdY x y u p q r)), .int .u64 (wv3 (mdW x y u p q r)), .int .u64 (wv2 (mdW x y u p q r)), .int .u64 (wv1 (mdW x y u p q r)), .int .u64 (wv0 (mdW x y u p q r))]) (dv_loads (l := [.int .u64 (wv3 (mdX x y u p q r)), .int .u64 (wv2 (mdX x y u p q r)), .int .u64 (wv1 (mdX x y u p q r)), .int .u64 (wv0 (mdX x y u p q r)), .int .u64 (wv3 (mdY x y u p q r)), .int .u64 (wv2 (mdY x y u p q r)), .int .u64 (wv1 (mdY x y u p q r)), .int .u64 (wv0 (mdY x y u p q r)), .int .u64 (wv3 (mdW x y u p q r)), .int .u64 (wv2 (mdW x y u p q r)), .int .u64 (wv1 (mdW x y u p q r)), .int .u64 (wv0 (mdW x y u p q r))]) agt37 sz37 (T rfl ((hF209 5 rfl).trans hA112)) H224 rfl) ?_
 refine lw_e (oe_callf (vs := [.agg #[.int .u64 (wv3 (mdX x y u p q r)), .int .u64 (wv2 (mdX x y u p q r)), .int .u64 (wv1 (mdX x y u p q r)), .int .u64 (wv0 (mdX x y u p q r)), .int .u64 (wv3 (mdY x y u p q r)), .int .u64 (wv2 (mdY x y u p q r)), .int .u64 (wv1 (mdY x y u p q r)), .int .u64 (wv0 (mdY x y u p q r)), .int .u64 (wv3 (mdW x y u p q r)), .int .u64 (wv2 (mdW x y u p q r)), .int .u64 (wv1 (mdW x y u p q r)), .int .u64 (wv0 (mdW x y u p q r))], .agg #[.int .u64 (wv3 (mdX x y u p q r)), .int .u64 (wv2 (mdX x y u p q r)), .int .u64 (wv1 (mdX x y u p q r)), .int .u64 (wv0 (mdX x y u p q r)), .int .u64 (wv3 (mdY x y u p q r)), .int .u64 (wv2 (mdY x y u p q r)), .int .u64 (wv1 (mdY x y u p q r)), .int .u64 (wv0 (mdY x y u p q r)), .int .u64 (wv3 (mdW x y u p q r)), .int .u64 (wv2 (mdW x y u p q r)), .int .u64 (wv1 (mdW x y u p q r)), .int .u64 (wv0 (mdW x y u p q r))]]) co40 (ar2 (T rfl rfl) (T rfl rfl)) (eqPoint_ok (x := mdX x y u p q r) (y := mdY x y u p q r) (u := mdW x y u p q r) (p := mdX x y u p q r) (q := mdY x y u p q r) (r := mdW x y u p q r) (mdX_f ..) (mdY_f ..) (mdW_f ..) (mdX_f ..) (mdY_f ..) (mdW_f ..) ) ?_)
 rintro _ w225 ⟨rfl, e226⟩
 have E227 := below_ext E213 E213.size e226
 refine lw_v (.bool (decide (¬ ((mdX x y u p q r) = (mdX x y u p q r) ∧ (mdY x y u p q r) = (mdY x y u p q r) ∧ (mdW x y u p q r) = (mdW x y u p q r))))) (dv_notd (p := (mdX x y u p q r) = (mdX x y u p q r) ∧ (mdY x y u p q r) = (mdY x y u p q r) ∧ (mdW x y u p q r) = (mdW x y u p q r)) (T rfl rfl)) ?_
 refine lw_v (.bool (decide (¬ ((mdX x y u p q r) = (mdX x y u p q r) ∧ (mdY x y u p q r) = (mdY x y u p q r) ∧ (mdW x y u p q r) = (mdW x y u p q r))))) (dv_move (T rfl rfl)) ?_
 by_cases hb228 : (mdX x y u p q r) = (mdX x y u p q r) ∧ (mdY x y u p q r) = (mdY x y u p q r) ∧ (mdW x y u p q r) = (mdW x y u p q r)
 · refine lw_vy (.bool (decide (mdS x y u p q r))) (d := 29) rfl rfl (congrArg Value.bool (decide_eq_false (not_not_intro hb228))) (dv_move (T rfl hv217)) ?_
   refine lw_vy (.bool (decide (mdS x y u p q r))) (d := 29) rfl rfl (congrArg Value.bool (decide_eq_false (not_not_intro hb228))) (dv_move (T rfl ((hF209 6 rfl).trans hv110))) ?_
   refine lw_vy (.bool ((decide (mdS x y u p q r)) != (decide (mdS x y u p q r)))) (d := 29) rfl rfl (congrArg Value.bool (decide_eq_false (not_not_intro hb228))) (dv_neqb (a := decide (mdS x y u p q r)) (b := decide (mdS x y u p q r)) ub4 (T rfl rfl) (T rfl rfl)) ?_
   refine lw_v (.bool ((decide (mdS x y u p q r)) != (decide (mdS x y u p q r)))) (dv_pick_f (T rfl (congrArg Value.bool (decide_eq_false (not_not_intro hb228)))) (T rfl rfl)) ?_
   refine lw_nil ?_
   rcases Bool.eq_false_or_eq_true ((decide (mdS x y u p q r)) != (decide (mdS x y u p q r))) with hb229 | hb229
   · refine rk_ct (T rfl (congrArg Value.bool hb229)) ?_
     refine rk_seq ?_
     refine rk_reg ?_
     refine lw_v (.bool false) (dv_assign C) ?_
     refine lw_nil ?_
     refine rk_ret Try.func9 (v := .bool false) (res1 Try.results9 (rv_tmp rfl rfl)) ⟨_, rfl, ?_⟩
     exact ⟨(by exfalso; grind), E227⟩
   · refine rk_cf (T rfl (congrArg Value.bool hb229)) ?_
     refine rk_skip ?_
     refine rk_seq ?_
     refine rk_reg ?_
     refine lw_v (.bool true) (dv_assign C) ?_
     refine lw_nil ?_
     refine rk_ret Try.func9 (v := .bool true) (res1 Try.results9 (rv_tmp rfl rfl)) ⟨_, rfl, ?_⟩
     exact ⟨rfl, E227⟩
 · refine lw_no (d := 29) rfl rfl (congrArg Value.bool (decide_eq_true hb228)) ?_
   refine lw_no (d := 29) rfl rfl (congrArg Value.bool (decide_eq_true hb228)) ?_
   refine lw_no (d := 29) rfl rfl (congrArg Value.bool (decide_eq_true hb228)) ?_
   refine lw_v (.bool true) (dv_pick_t (T rfl (congrArg Value.bool (decide_eq_true hb228))) C) ?_
   refine lw_nil ?_
   refine rk_ct (T rfl rfl) ?_
   refine rk_seq ?_
   refine rk_reg ?_
   refine lw_v (.bool false) (dv_assign C) ?_
   refine lw_nil ?_
   refine rk_ret Try.func9 (v := .bool false) (res1 Try.results9 (rv_tmp rfl rfl)) ⟨_, rfl, ?_⟩
   exact ⟨(by exfalso; grind), E227⟩
theorem lawMiddle_w {w : World} {x3 x2 x1 x0 y3 y2 y1 y0 u3 u2 u1 u0 p3 p2 p1 p0 q3 q2 q1 q0 r3 r2 r1 r0 : Int} (hx3 : 0 ≤ x3 ∧ x3 < 18446744073709551616) (hx2 : 0 ≤ x2 ∧ x2 < 18446744073709551616) (hx1 : 0 ≤ x1 ∧ x1 < 18446744073709551616) (hx0 : 0 ≤ x0 ∧ x0 < 18446744073709551616) (hy3 : 0 ≤ y3 ∧ y3 < 18446744073709551616) (hy2 : 0 ≤ y2 ∧ y2 < 18446744073709551616) (hy1 : 0 ≤ y1 ∧ y1 < 18446744073709551616) (hy0 : 0 ≤ y0 ∧ y0 < 18446744073709551616) (hu3 : 0 ≤ u3 ∧ u3 < 18446744073709551616) (hu2 : 0 ≤ u2 ∧ u2 < 18446744073709551616) (hu1 : 0 ≤ u1 ∧ u1 < 18446744073709551616) (hu0 : 0 ≤ u0 ∧ u0 < 18446744073709551616) (hp3 : 0 ≤ p3 ∧ p3 < 18446744073709551616) (hp2 : 0 ≤ p2 ∧ p2 < 18446744073709551616) (hp1 : 0 ≤ p1 ∧ p1 < 18446744073709551616) (hp0 : 0 ≤ p0 ∧ p0 < 18446744073709551616) (hq3 : 0 ≤ q3 ∧ q3 < 18446744073709551616) (hq2 : 0 ≤ q2 ∧ q2 < 18446744073709551616) (hq1 : 0 ≤ q1 ∧ q1 < 18446744073709551616) (hq0 : 0 ≤ q0 ∧ q0 < 18446744073709551616) (hr3 : 0 ≤ r3 ∧ r3 < 18446744073709551616) (hr2 : 0 ≤ r2 ∧ r2 < 18446744073709551616) (hr1 : 0 ≤ r1 ∧ r1 < 18446744073709551616) (hr0 : 0 ≤ r0 ∧ r0 < 18446744073709551616) : Ct Try.prog 9 [.agg #[.int .u64 x3, .int .u64 x2, .int .u64 x1, .int .u64 x0, .int .u64 y3, .int .u64 y2, .int .u64 y1, .int .u64 y0, .int .u64 u3, .int .u64 u2, .int .u64 u1, .int .u64 u0], .agg #[.int .u64 p3, .int .u64 p2, .int .u64 p1, .int .u64 p0, .int .u64 q3, .int .u64 q2, .int .u64 q1, .int .u64 q0, .int .u64 r3, .int .u64 r2, .int .u64 r1, .int .u64 r0]] w fun v w1 => v = .bool true ∧ Ext w w1 := by
 obtain ⟨x, fx, rfl, rfl, rfl, rfl⟩ := words_z hx3 hx2 hx1 hx0
 obtain ⟨y, fy, rfl, rfl, rfl, rfl⟩ := words_z hy3 hy2 hy1 hy0
 obtain ⟨u, fu, rfl, rfl, rfl, rfl⟩ := words_z hu3 hu2 hu1 hu0
 obtain ⟨p, fp, rfl, rfl, rfl, rfl⟩ := words_z hp3 hp2 hp1 hp0
 obtain ⟨q, fq, rfl, rfl, rfl, rfl⟩ := words_z hq3 hq2 hq1 hq0
 obtain ⟨r, fr, rfl, rfl, rfl, rfl⟩ := words_z hr3 hr2 hr1 hr0
 exact lawMiddle_ok fx fy fu fp fq fr
end Go.Proofs.Ytdanhdbanfpghaa.W
